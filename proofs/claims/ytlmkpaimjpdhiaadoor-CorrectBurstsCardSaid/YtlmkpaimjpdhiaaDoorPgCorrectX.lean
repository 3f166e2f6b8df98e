/- A part of the proof. -/
import Derived.Test.YtlmkpaimjpdhiaaDoorPgCorrectS
set_option linter.all false
section
open Go Go.Pw Go.Proofs
namespace Go.Pw
set_option linter.unusedSimpArgs false
set_option linter.unusedVariables false
set_option maxRecDepth 100000
set_option maxHeartbeats 3200000
def fB (o:Option (List F)):D:=match o with
 |some r=>.tup [.list false (AY (iv r)),.bool true]
 |none=>.tup [.list true [],.bool false]
theorem OB (v:List F):fB (some v)=.tup [.list false (AY (iv v)),.bool true]:=rfl
theorem Lk:fB none=.tup [.list true [],.bool false]:=rfl
theorem Ot {α:Type} (f:List Nat→Option α):∀(l:List (List Nat)),(∀k,k < l.length→f (l[k]?.getD [])=none)→l.findSome? f=none:=fun l h=>by
 rw [List.findSome?_eq_none_iff]
 intro x hx
 obtain⟨i,hi,rfl⟩:=List.getElem_of_mem hx
 have:=h i hi
 rwa [List.getElem?_eq_getElem hi] at this
theorem Mo {α:Type} (f:List Nat→Option α) (r:α):∀(l:List (List Nat)) (i:Nat),i < l.length→(∀k,k < i→f (l[k]?.getD [])=none)→f (l[i]?.getD [])=some r→l.findSome? f=some r
 |x :: l,0,_,_,h=>by
  have h':f x=some r:=h
  rw [List.findSome?_cons,h']
 |x :: l,i+1,hi,hn,h=>by
  have h0:f x=none:=hn 0 (by omega)
  rw [List.findSome?_cons,h0]
  exact Mo f r l i (by simpa using hi) (fun k hk=>hn (k+1) (by omega)) h
theorem Dm:ni []=[]:=rfl
theorem Mj {l:List Nat} (h:l≠[]):¬ni l=[]:=by cases l<;>simp_all [ni]
theorem Kl {α:Type} (l:List α):l=[]∨l≠[]:=by cases l<;>simp
attribute [local congr] Ch BI BJ A0 Ci A5 A7 A6 Az Ar Am Ai A2 An A3 BR BV BT BU BS BW BO Ap A4 Aq BM Bm Ao BP BQ BN BK BL
attribute [local irreducible] IntKind.wrap A_ Option.getD and or
theorem HU (L P:Nat) (n1 n2:Bool) (w:List F) (mk:List Nat) (hL:L≤15) (hL1:1≤L) (hP:1≤P) (hP2:P≤8) (hw:w.length=L) (hm:UR L mk) :
  B7 E0 Gg [MR L P,.list n1 (AY (iv w)),.list n2 (AY (ni mk))] (fB (Cq L P w mk)):=by
 have hml:=Nv hm
 refine AQ ML Af (by simp) fun hwf=>?_
 rw [AR];unfold IU
 by_cases hov:P < mk.length
 ·have hov':(P:Int) < (mk.length:Int):=by omega
  rw [Y' hov,Lk,Aj]
  (try (simp -implicitDefEqProofs only [go_sem,hov']));repeat' first|(with_reducible first|exact True.intro|refine And.intro ?_ ?_|intro _)|(((with_reducible refine AM ?_ ?_)<;>intro _)<;>try (simp -implicitDefEqProofs only [go_sem,hov']))|simp (disch:=omega) only [AC,AH,AK,AJ,AD,AL,AI,AA]|((with_reducible refine AW ?_);refine⟨_,rfl,?_,?_⟩)
  all_goals first|rfl|(simp;done)|skip
 ·have hov':¬(P:Int) < (mk.length:Int):=by omega
  have hw1:IntKind.i64.wrap ((P:Int) - (mk.length:Int))=((P - mk.length:Nat):Int):=by rw [AC _ (by omega)];omega
  have hd:Int.tdiv ((P - mk.length:Nat):Int) 2=(((P - mk.length) / 2:Nat):Int):=EL _ 2
  have hw2:IntKind.i64.wrap (((P - mk.length) / 2:Nat):Int)=(((P - mk.length) / 2:Nat):Int):=AC _ (by omega)
  obtain⟨M,hM⟩:∃M,(P - mk.length) / 2=M:=⟨_,rfl⟩
  have hM4:M≤4:=by omega
  rw [hM] at hd hw2
  rw [Aj]
  (try (simp -implicitDefEqProofs only [go_sem,hov',hw1,hd,hw2]));repeat' first|(with_reducible first|exact True.intro|refine And.intro ?_ ?_|intro _)|(((with_reducible refine AM ?_ ?_)<;>intro _)<;>try (simp -implicitDefEqProofs only [go_sem,hov',hw1,hd,hw2]))|simp (disch:=omega) only [AC,AH,AK,AJ,AD,AL,AI,AA]|((with_reducible refine AW ?_);refine⟨_,rfl,?_,?_⟩)
  all_goals first|omega|(simp;done)|(simp;omega)|skip
  refine AS (α:=Nat) (l0:=?l1) (m0:=?m1) (fun x=>[(9,.d (.int .i64 (x:Int)))]) (fun x=>[]) (fun x=>x≤M+1∧∀k,k < x→Qv L P w mk k=none) (fun x=>M+1 - x) 0 ?h01 ?he1 ?he21 ?hI1 ?step1
  case h01=>(simp -implicitDefEqProofs only [go_sem];rfl)
  case he1=>rfl
  case he21=>rfl
  case' step1=>(rintro e hI;try dsimp only at hI)
  case' hI1=>try dsimp only
  ·exact⟨Nat.zero_le _,fun k hk=>absurd hk (by omega)⟩
  ·obtain⟨h1,h2⟩:=hI
   by_cases h:e≤M
   ·have h':(e:Int)≤(M:Int):=by omega
    have hwe:IntKind.i64.wrap ((e:Int)+1)=((e+1:Nat):Int):=by rw [AC _ (by omega)];omega
    have c1:=I4 L P n2 mk hL e 0 (by omega) (by omega)
    rw [Aj,show (((0:Nat)):Int)=0 from rfl] at c1
    have hRl:=LB L mk hL (show e≤6 by omega) 0
    have hsp:=fun l hl=>F3 L mk e 0 l hl
    have hE:Qv L P w mk e=(A' L mk e 0).findSome? (hit L P w mk):=rfl
    obtain⟨R,hR⟩:∃R,A' L mk e 0=R:=⟨_,rfl⟩
    rw [hR] at c1 hRl hsp hE
    (try (simp -implicitDefEqProofs only [go_sem,h']));repeat' first|(with_reducible first|exact True.intro|refine And.intro ?_ ?_|intro _)|(((with_reducible refine isCall ?_);first|refine AG (c1) rfl ?_ ?_|refine AE (c1) rfl ?_|refine AB (c1) rfl ?_ ?_|refine AF (c1) rfl rfl ?_)<;>try (simp -implicitDefEqProofs only [go_sem,h']))|(((with_reducible refine AM ?_ ?_)<;>intro _)<;>try (simp -implicitDefEqProofs only [go_sem,h']))|simp (disch:=omega) only [AC,AH,AK,AJ,AD,AL,AI,AA]|((with_reducible refine AW ?_);refine⟨_,rfl,?_,?_⟩)
    all_goals first|omega|(simp;done)|(simp;omega)|skip
    refine AS (α:=Nat) (l0:=?l2) (m0:=?m2) (fun x=>[(11,.d (.int .i64 (x:Int)))]) (fun x=>[]) (fun x=>x≤R.length∧∀k,k < x→hit L P w mk (R[k]?.getD [])=none) (fun x=>R.length - x) 0 ?h02 ?he2 ?he22 ?hI2 ?step2
    case h02=>(simp -implicitDefEqProofs only [go_sem];rfl)
    case he2=>rfl
    case he22=>rfl
    case' step2=>(rintro i hI2;try dsimp only at hI2)
    case' hI2=>try dsimp only
    ·exact⟨Nat.zero_le _,fun k hk=>absurd hk (by omega)⟩
    ·obtain⟨i1,i2⟩:=hI2
     by_cases hi:i < R.length
     ·have hi':(i:Int) < (R.length:Int):=by omega
      have hwi:IntKind.i64.wrap ((i:Int)+1)=((i+1:Nat):Int):=by rw [AC _ (by omega)];omega
      have hmem:(R[i]?.getD [])∈R:=by rw [List.getElem?_eq_getElem hi,Option.getD_some];exact List.getElem_mem hi
      obtain⟨s1,s2⟩:=hsp _ hmem
      have hnow:=fun r=>Mo (hit L P w mk) r R i
      obtain⟨l,hl⟩:∃l,R[i]?.getD []=l:=⟨_,rfl⟩
      rw [hl] at s1 s2
      have hpos:=LC hm s2
      have hAl:(mk++l).length≤P:=by rw [List.length_append];omega
      have hz:=ae hL hw hpos hAl
      have hzl:=Pu w (mk++l)
      have hwl:1≤w.length:=by omega
      obtain⟨A,hA⟩:∃A,mk++l=A:=⟨_,rfl⟩
      rw [hA] at hpos hAl hz hzl
      have c2:=fun b=>GA n1 b false w A (List.replicate A.length 0) (by omega) (by omega) (by simp) (fun j hj=>by rw [hw];exact hpos.lt j hj)
      have hZ:Bh w A (List.replicate A.length 0)=Wz w A:=rfl
      rw [hZ] at c2
      have c3:=fun b=>IQ L P false b (Wz w A) A hL hL1 hP (by omega) (by omega) hpos hAl
      rw [Aj] at c3
      have c4:=fun b v hv=>GA n1 b v.isEmpty w A v (by omega) (by omega) hv (fun j hj=>by rw [hw];exact hpos.lt j hj)
      rw [←DU] at c2
      rw [hl] at hnow
      obtain⟨O,hO⟩:∃O,F0 L P A (Ej L P (Wz w A))=O:=⟨_,rfl⟩
      rw [hO] at c3 hz
      cases O with
      |none =>
       rw [L4] at c3
       rw [Option.map_none] at hz
       have hnx:∀k,k < i+1→hit L P w mk (R[k]?.getD [])=none:=fun k hk=>by
        rcases Nat.lt_succ_iff_lt_or_eq.1 hk with hk|rfl
        ·exact i2 k hk
        ·rw [hl];exact hz
       rcases Kl mk with rfl|e1
       ·rcases Kl l with rfl|e2
        ·have hA':[]=A:=hA
         subst hA'
         (try (simp -implicitDefEqProofs only [go_sem,hi',hwi,hl,hwl,hzl,Dm]));repeat' first|(with_reducible first|exact True.intro|refine And.intro ?_ ?_|intro _)|(((with_reducible refine isCall ?_);first|refine AG (c2 _) rfl ?_ ?_|refine AE (c2 _) rfl ?_|refine AB (c2 _) rfl ?_ ?_|refine AF (c2 _) rfl rfl ?_|refine AG (c3 _) rfl ?_ ?_|refine AE (c3 _) rfl ?_|refine AB (c3 _) rfl ?_ ?_|refine AF (c3 _) rfl rfl ?_)<;>try (simp -implicitDefEqProofs only [go_sem,hi',hwi,hl,hwl,hzl,Dm]))|(((with_reducible refine AM ?_ ?_)<;>intro _)<;>try (simp -implicitDefEqProofs only [go_sem,hi',hwi,hl,hwl,hzl,Dm]))|simp (disch:=omega) only [AC,AH,AK,AJ,AD,AL,AI,AA]|((with_reducible refine AW ?_);refine⟨_,rfl,?_,?_⟩)
         all_goals first|omega|(simp;done)|(simp;omega)|skip
         all_goals first|exact hnx|exact hnx _ (by assumption)|skip
        ·have e2:=Mj e2
         have hA':l=A:=hA
         subst hA'
         (try (simp -implicitDefEqProofs only [go_sem,hi',hwi,hl,hwl,hzl,Dm,e2]));repeat' first|(with_reducible first|exact True.intro|refine And.intro ?_ ?_|intro _)|(((with_reducible refine isCall ?_);first|refine AG (c2 _) rfl ?_ ?_|refine AE (c2 _) rfl ?_|refine AB (c2 _) rfl ?_ ?_|refine AF (c2 _) rfl rfl ?_|refine AG (c3 _) rfl ?_ ?_|refine AE (c3 _) rfl ?_|refine AB (c3 _) rfl ?_ ?_|refine AF (c3 _) rfl rfl ?_)<;>try (simp -implicitDefEqProofs only [go_sem,hi',hwi,hl,hwl,hzl,Dm,e2]))|(((with_reducible refine AM ?_ ?_)<;>intro _)<;>try (simp -implicitDefEqProofs only [go_sem,hi',hwi,hl,hwl,hzl,Dm,e2]))|simp (disch:=omega) only [AC,AH,AK,AJ,AD,AL,AI,AA]|((with_reducible refine AW ?_);refine⟨_,rfl,?_,?_⟩)
         all_goals first|omega|(simp;done)|(simp;omega)|skip
         all_goals first|exact hnx|exact hnx _ (by assumption)|skip
       ·rcases Kl l with rfl|e2
        ·have e1:=Mj e1
         rw [List.append_nil] at hA
         subst hA
         (try (simp -implicitDefEqProofs only [go_sem,hi',hwi,hl,hwl,hzl,Dm,e1]));repeat' first|(with_reducible first|exact True.intro|refine And.intro ?_ ?_|intro _)|(((with_reducible refine isCall ?_);first|refine AG (c2 _) rfl ?_ ?_|refine AE (c2 _) rfl ?_|refine AB (c2 _) rfl ?_ ?_|refine AF (c2 _) rfl rfl ?_|refine AG (c3 _) rfl ?_ ?_|refine AE (c3 _) rfl ?_|refine AB (c3 _) rfl ?_ ?_|refine AF (c3 _) rfl rfl ?_)<;>try (simp -implicitDefEqProofs only [go_sem,hi',hwi,hl,hwl,hzl,Dm,e1]))|(((with_reducible refine AM ?_ ?_)<;>intro _)<;>try (simp -implicitDefEqProofs only [go_sem,hi',hwi,hl,hwl,hzl,Dm,e1]))|simp (disch:=omega) only [AC,AH,AK,AJ,AD,AL,AI,AA]|((with_reducible refine AW ?_);refine⟨_,rfl,?_,?_⟩)
         all_goals first|omega|(simp;done)|(simp;omega)|skip
         all_goals first|exact hnx|exact hnx _ (by assumption)|skip
        ·have e2:=Mj e2
         have e1:=Mj e1
         (try (simp -implicitDefEqProofs only [go_sem,hi',hwi,hl,hwl,hzl,e1,e2,hA]));repeat' first|(with_reducible first|exact True.intro|refine And.intro ?_ ?_|intro _)|(((with_reducible refine isCall ?_);first|refine AG (c2 _) rfl ?_ ?_|refine AE (c2 _) rfl ?_|refine AB (c2 _) rfl ?_ ?_|refine AF (c2 _) rfl rfl ?_|refine AG (c3 _) rfl ?_ ?_|refine AE (c3 _) rfl ?_|refine AB (c3 _) rfl ?_ ?_|refine AF (c3 _) rfl rfl ?_)<;>try (simp -implicitDefEqProofs only [go_sem,hi',hwi,hl,hwl,hzl,e1,e2,hA]))|(((with_reducible refine AM ?_ ?_)<;>intro _)<;>try (simp -implicitDefEqProofs only [go_sem,hi',hwi,hl,hwl,hzl,e1,e2,hA]))|simp (disch:=omega) only [AC,AH,AK,AJ,AD,AL,AI,AA]|((with_reducible refine AW ?_);refine⟨_,rfl,?_,?_⟩)
         all_goals first|omega|(simp;done)|(simp;omega)|skip
         all_goals first|exact hnx|exact hnx _ (by assumption)|skip
      |some v =>
       rw [Jl] at c3
       rw [Option.map_some] at hz
       have hvl:=(FL hO).1
       replace c4:=fun b=>c4 b v hvl.symm
       have hfin:Cq L P w mk=some (Bh w A v):=U8 h2 (by rw [hE];exact hnow _ hi i2 hz) (by omega)
       rw [hfin,OB]
       rcases Kl mk with rfl|e1
       ·rcases Kl l with rfl|e2
        ·have hA':[]=A:=hA
         subst hA'
         (try (simp -implicitDefEqProofs only [go_sem,hi',hwi,hl,hwl,hzl,Dm]));repeat' first|(with_reducible first|exact True.intro|refine And.intro ?_ ?_|intro _)|(((with_reducible refine isCall ?_);first|refine AG (c2 _) rfl ?_ ?_|refine AE (c2 _) rfl ?_|refine AB (c2 _) rfl ?_ ?_|refine AF (c2 _) rfl rfl ?_|refine AG (c3 _) rfl ?_ ?_|refine AE (c3 _) rfl ?_|refine AB (c3 _) rfl ?_ ?_|refine AF (c3 _) rfl rfl ?_|refine AG (c4 _) rfl ?_ ?_|refine AE (c4 _) rfl ?_|refine AB (c4 _) rfl ?_ ?_|refine AF (c4 _) rfl rfl ?_)<;>try (simp -implicitDefEqProofs only [go_sem,hi',hwi,hl,hwl,hzl,Dm]))|(((with_reducible refine AM ?_ ?_)<;>intro _)<;>try (simp -implicitDefEqProofs only [go_sem,hi',hwi,hl,hwl,hzl,Dm]))|simp (disch:=omega) only [AC,AH,AK,AJ,AD,AL,AI,AA]|((with_reducible refine AW ?_);refine⟨_,rfl,?_,?_⟩)
         all_goals first|omega|(simp;done)|(simp;omega)|skip
         all_goals first|rfl|skip
        ·have e2:=Mj e2
         have hA':l=A:=hA
         subst hA'
         (try (simp -implicitDefEqProofs only [go_sem,hi',hwi,hl,hwl,hzl,Dm,e2]));repeat' first|(with_reducible first|exact True.intro|refine And.intro ?_ ?_|intro _)|(((with_reducible refine isCall ?_);first|refine AG (c2 _) rfl ?_ ?_|refine AE (c2 _) rfl ?_|refine AB (c2 _) rfl ?_ ?_|refine AF (c2 _) rfl rfl ?_|refine AG (c3 _) rfl ?_ ?_|refine AE (c3 _) rfl ?_|refine AB (c3 _) rfl ?_ ?_|refine AF (c3 _) rfl rfl ?_|refine AG (c4 _) rfl ?_ ?_|refine AE (c4 _) rfl ?_|refine AB (c4 _) rfl ?_ ?_|refine AF (c4 _) rfl rfl ?_)<;>try (simp -implicitDefEqProofs only [go_sem,hi',hwi,hl,hwl,hzl,Dm,e2]))|(((with_reducible refine AM ?_ ?_)<;>intro _)<;>try (simp -implicitDefEqProofs only [go_sem,hi',hwi,hl,hwl,hzl,Dm,e2]))|simp (disch:=omega) only [AC,AH,AK,AJ,AD,AL,AI,AA]|((with_reducible refine AW ?_);refine⟨_,rfl,?_,?_⟩)
         all_goals first|omega|(simp;done)|(simp;omega)|skip
         all_goals first|rfl|skip
       ·rcases Kl l with rfl|e2
        ·have e1:=Mj e1
         rw [List.append_nil] at hA
         subst hA
         (try (simp -implicitDefEqProofs only [go_sem,hi',hwi,hl,hwl,hzl,Dm,e1]));repeat' first|(with_reducible first|exact True.intro|refine And.intro ?_ ?_|intro _)|(((with_reducible refine isCall ?_);first|refine AG (c2 _) rfl ?_ ?_|refine AE (c2 _) rfl ?_|refine AB (c2 _) rfl ?_ ?_|refine AF (c2 _) rfl rfl ?_|refine AG (c3 _) rfl ?_ ?_|refine AE (c3 _) rfl ?_|refine AB (c3 _) rfl ?_ ?_|refine AF (c3 _) rfl rfl ?_|refine AG (c4 _) rfl ?_ ?_|refine AE (c4 _) rfl ?_|refine AB (c4 _) rfl ?_ ?_|refine AF (c4 _) rfl rfl ?_)<;>try (simp -implicitDefEqProofs only [go_sem,hi',hwi,hl,hwl,hzl,Dm,e1]))|(((with_reducible refine AM ?_ ?_)<;>intro _)<;>try (simp -implicitDefEqProofs only [go_sem,hi',hwi,hl,hwl,hzl,Dm,e1]))|simp (disch:=omega) only [AC,AH,AK,AJ,AD,AL,AI,AA]|((with_reducible refine AW ?_);refine⟨_,rfl,?_,?_⟩)
         all_goals first|omega|(simp;done)|(simp;omega)|skip
         all_goals first|rfl|skip
        ·have e2:=Mj e2
         have e1:=Mj e1
         (try (simp -implicitDefEqProofs only [go_sem,hi',hwi,hl,hwl,hzl,e1,e2,hA]));repeat' first|(with_reducible first|exact True.intro|refine And.intro ?_ ?_|intro _)|(((with_reducible refine isCall ?_);first|refine AG (c2 _) rfl ?_ ?_|refine AE (c2 _) rfl ?_|refine AB (c2 _) rfl ?_ ?_|refine AF (c2 _) rfl rfl ?_|refine AG (c3 _) rfl ?_ ?_|refine AE (c3 _) rfl ?_|refine AB (c3 _) rfl ?_ ?_|refine AF (c3 _) rfl rfl ?_|refine AG (c4 _) rfl ?_ ?_|refine AE (c4 _) rfl ?_|refine AB (c4 _) rfl ?_ ?_|refine AF (c4 _) rfl rfl ?_)<;>try (simp -implicitDefEqProofs only [go_sem,hi',hwi,hl,hwl,hzl,e1,e2,hA]))|(((with_reducible refine AM ?_ ?_)<;>intro _)<;>try (simp -implicitDefEqProofs only [go_sem,hi',hwi,hl,hwl,hzl,e1,e2,hA]))|simp (disch:=omega) only [AC,AH,AK,AJ,AD,AL,AI,AA]|((with_reducible refine AW ?_);refine⟨_,rfl,?_,?_⟩)
         all_goals first|omega|(simp;done)|(simp;omega)|skip
         all_goals first|rfl|skip
     ·have hi':¬(i:Int) < (R.length:Int):=by omega
      have hno:∀k,k < e+1→Qv L P w mk k=none:=fun k hk=>by
       rcases Nat.lt_succ_iff_lt_or_eq.1 hk with hk|rfl
       ·exact h2 k hk
       ·rw [hE];exact Ot _ _ fun k hk=>i2 k (by omega)
      (try (simp -implicitDefEqProofs only [go_sem,hi',hwe]));repeat' first|(with_reducible first|exact True.intro|refine And.intro ?_ ?_|intro _)|(((with_reducible refine AM ?_ ?_)<;>intro _)<;>try (simp -implicitDefEqProofs only [go_sem,hi',hwe]))|simp (disch:=omega) only [AC,AH,AK,AJ,AD,AL,AI,AA]|((with_reducible refine AW ?_);refine⟨_,rfl,?_,?_⟩)
      all_goals first|omega|(simp;done)|(simp;omega)|skip
      all_goals first|exact hno|exact hno _ (by assumption)|skip
   ·have h':¬(e:Int)≤(M:Int):=by omega
    rw [SN h2 (by omega),Lk]
    (try (simp -implicitDefEqProofs only [go_sem,h']));repeat' first|(with_reducible first|exact True.intro|refine And.intro ?_ ?_|intro _)|(((with_reducible refine AM ?_ ?_)<;>intro _)<;>try (simp -implicitDefEqProofs only [go_sem,h']))|simp (disch:=omega) only [AC,AH,AK,AJ,AD,AL,AI,AA]|((with_reducible refine AW ?_);refine⟨_,rfl,?_,?_⟩)
    all_goals first|omega|(simp;done)|(simp;omega)|skip
    all_goals first|rfl|skip
end Go.Pw
end
section
open Go Go.Pw Go.Proofs
namespace Go.Pw
set_option linter.unusedSimpArgs false
set_option linter.unusedVariables false
set_option maxRecDepth 100000
set_option maxHeartbeats 3200000
theorem TI (a n:Nat):List.range' a n++[a+n]=List.range' a (n+1):=by rw [List.range'_concat];simp
theorem Th {w:List F} (h:0 < w.length):¬iv w=[]:=by cases w<;>simp_all [iv]
attribute [local congr] Ch BI BJ A0 Ci A5 A7 A6 Az Ar Am Ai A2 An A3 BR BV BT BU BS BW BO Ap A4 Aq BM Bm Ao BP BQ BN BK BL
attribute [local irreducible] IntKind.wrap A_ Option.getD and or
theorem HT (L P:Nat) (n1:Bool) (d:List F) (hL:L≤15) (hP:1≤P) (hd:d.length+P=L) (hd1:1≤d.length) :
  B7 E0 Jb [MR L P,.list n1 (AY (iv d))] (.list false (AY (iv (CU P d)))):=by
 obtain⟨v,hv1,hv2⟩:=We hL hd
 have hwl:(d++List.replicate P (0:F)).length=L:=by simp;omega
 have hp:RD L (List.range' d.length P):=⟨List.nodup_range',fun j hj=>by simp at hj;omega⟩
 have hvl:=(FL hv1).1
 have c1:=fun b=>IQ L P false b (d++List.replicate P 0) (List.range' d.length P) hL (by omega) hP (by omega) hwl hp (by simp)
 rw [hv1,Jl] at c1
 have c2:=fun b=>GA false b v.isEmpty (d++List.replicate P 0) (List.range' d.length P) v (by omega) (by omega) hvl.symm (fun j hj=>by rw [hwl];exact hp.lt j hj)
 rw [hv2] at c2
 refine AQ MJ Af (by simp) fun hwf=>?_
 rw [AR];unfold IT
 rw [Aj] at c1 ⊢
 have hne:=Th (w:=d) (by omega)
 (try (simp -implicitDefEqProofs only [go_sem,hne,DU]));repeat' first|(with_reducible first|exact True.intro|refine And.intro ?_ ?_|intro _)|(((with_reducible refine AM ?_ ?_)<;>intro _)<;>try (simp -implicitDefEqProofs only [go_sem,hne,DU]))|simp (disch:=omega) only [AC,AH,AK,AJ,AD,AL,AI,AA]|((with_reducible refine Aa ?_);refine⟨(_,_),rfl,?_,?_⟩)
 all_goals first|omega|(simp;done)|(simp;omega)|skip
 refine AS (α:=Nat×Bool) (l0:=?l1) (m0:=?m1) (fun x=>[(7,.d (.int .i64 ((d.length+x.1:Nat):Int))),(5,.d (.list false (AY (iv (d++List.replicate P 0)))))]) (fun x=>[(27,.row 3 1 x.2 (AY (ni (List.range' d.length x.1))))]) (fun x=>x.1≤P∧x.2=decide (x.1=0)) (fun x=>P - x.1) (0,true) ?h01 ?he1 ?he21 ?hI1 ?step1
 case h01=>(simp -implicitDefEqProofs only [go_sem];rfl)
 case he1=>rfl
 case he21=>rfl
 case' step1=>(rintro⟨j,b⟩ hI;try dsimp only at hI)
 case' hI1=>try dsimp only
 ·exact⟨Nat.zero_le _,rfl⟩
 ·obtain⟨j1,j2⟩:=hI
  change b=decide (j=0) at j2
  subst j2
  by_cases h:j < P
  ·have h':((d.length+j:Nat):Int) < (L:Int):=by omega
   have hwj:IntKind.i64.wrap (((d.length+j:Nat):Int)+1)=((d.length+(j+1):Nat):Int):=by rw [AC _ (by omega)];omega
   have hk:=TI d.length j
   (try (simp -implicitDefEqProofs only [go_sem,h',hwj,hk]));repeat' first|(with_reducible first|exact True.intro|refine And.intro ?_ ?_|intro _)|(((with_reducible refine AM ?_ ?_)<;>intro _)<;>try (simp -implicitDefEqProofs only [go_sem,h',hwj,hk]))|simp (disch:=omega) only [AC,AH,AK,AJ,AD,AL,AI,AA]|((with_reducible refine Aa ?_);refine⟨(_,_),rfl,?_,?_⟩)
   all_goals first|omega|(simp;done)|(simp;omega)|skip
   all_goals first|rfl|skip
  ·have h':¬((d.length+j:Nat):Int) < (L:Int):=by omega
   have hje:j=P:=by omega
   subst hje
   have hj0:decide (j=0)=false:=decide_eq_false (by omega)
   rw [hj0]
   (try (simp -implicitDefEqProofs only [go_sem,h']));repeat' first|(with_reducible first|exact True.intro|refine And.intro ?_ ?_|intro _)|(((with_reducible refine isCall ?_);first|refine AG (c1 _) rfl ?_ ?_|refine AE (c1 _) rfl ?_|refine AB (c1 _) rfl ?_ ?_|refine AF (c1 _) rfl rfl ?_|refine AG (c2 _) rfl ?_ ?_|refine AE (c2 _) rfl ?_|refine AB (c2 _) rfl ?_ ?_|refine AF (c2 _) rfl rfl ?_)<;>try (simp -implicitDefEqProofs only [go_sem,h']))|(((with_reducible refine AM ?_ ?_)<;>intro _)<;>try (simp -implicitDefEqProofs only [go_sem,h']))|simp (disch:=omega) only [AC,AH,AK,AJ,AD,AL,AI,AA]|((with_reducible refine Aa ?_);refine⟨(_,_),rfl,?_,?_⟩)
   all_goals first|omega|(simp;done)|(simp;omega)|skip
   all_goals first|rfl|skip
theorem J1 (L P:Int) (n1:Bool) (xs:List Int):B7 E0 G8 [.agg [.int .i64 L,.int .i64 P],.list n1 (AY xs)] (.int .i64 (Qj L P xs)):=by
 have c1:=DX L P
 refine AQ J3 Af (by simp) fun hwf=>?_
 rw [AR];unfold GC Qj
 cases hc:BG L P with
 |false =>
  rw [hc] at c1
  simp only [Bool.false_eq_true,if_false] at c1 ⊢
  (try (simp -implicitDefEqProofs only [go_sem]));repeat' first|(with_reducible first|exact True.intro|refine And.intro ?_ ?_|intro _)|(((with_reducible refine isCall ?_);first|refine AG (c1) rfl ?_ ?_|refine AE (c1) rfl ?_|refine AB (c1) rfl ?_ ?_|refine AF (c1) rfl rfl ?_)<;>try (simp -implicitDefEqProofs only [go_sem]))|(((with_reducible refine AM ?_ ?_)<;>intro _)<;>try (simp -implicitDefEqProofs only [go_sem]))|simp (disch:=omega) only [AC,AH,AK,AJ,AD,AL,AI,AA]
  all_goals first|rfl|(simp;done)|skip
 |true =>
  rw [hc] at c1
  have hb:=C3 hc
  simp only [if_true] at c1 ⊢
  have hw:IntKind.i64.wrap (L - P)=L - P:=AC _ (by omega)
  have c2:=Al n1 xs (L - P)
  cases hs:Au xs (L - P) with
  |false =>
   rw [hs] at c2
   simp only [Bool.false_eq_true,if_false]
   (try (simp -implicitDefEqProofs only [go_sem,hw]));repeat' first|(with_reducible first|exact True.intro|refine And.intro ?_ ?_|intro _)|(((with_reducible refine isCall ?_);first|refine AG (c1) rfl ?_ ?_|refine AE (c1) rfl ?_|refine AB (c1) rfl ?_ ?_|refine AF (c1) rfl rfl ?_|refine AG (c2) rfl ?_ ?_|refine AE (c2) rfl ?_|refine AB (c2) rfl ?_ ?_|refine AF (c2) rfl rfl ?_)<;>try (simp -implicitDefEqProofs only [go_sem,hw]))|(((with_reducible refine AM ?_ ?_)<;>intro _)<;>try (simp -implicitDefEqProofs only [go_sem,hw]))|simp (disch:=omega) only [AC,AH,AK,AJ,AD,AL,AI,AA]
   all_goals first|rfl|(simp;done)|skip
  |true =>
   rw [hs] at c2
   simp only [if_true]
   (try (simp -implicitDefEqProofs only [go_sem,hw]));repeat' first|(with_reducible first|exact True.intro|refine And.intro ?_ ?_|intro _)|(((with_reducible refine isCall ?_);first|refine AG (c1) rfl ?_ ?_|refine AE (c1) rfl ?_|refine AB (c1) rfl ?_ ?_|refine AF (c1) rfl rfl ?_|refine AG (c2) rfl ?_ ?_|refine AE (c2) rfl ?_|refine AB (c2) rfl ?_ ?_|refine AF (c2) rfl rfl ?_)<;>try (simp -implicitDefEqProofs only [go_sem,hw]))|(((with_reducible refine AM ?_ ?_)<;>intro _)<;>try (simp -implicitDefEqProofs only [go_sem,hw]))|simp (disch:=omega) only [AC,AH,AK,AJ,AD,AL,AI,AA]
   all_goals first|rfl|(simp;done)|skip
theorem MA (L P:Int) (n1:Bool) (xs:List Int):B7 E0 Gi [.agg [.int .i64 L,.int .i64 P],.list n1 (AY xs)] (.tup [.list (Qi L P xs).isEmpty (AY (Qi L P xs)),.int .i64 (Qj L P xs)]):=by
 have c1:=J1 L P n1 xs
 refine AQ MN Af (by simp) fun hwf=>?_
 rw [AR];unfold IW
 unfold Qi Qj at *
 cases hc:BG L P with
 |false =>
  rw [hc] at c1
  simp only [Bool.false_eq_true,if_false] at c1 ⊢
  (try (simp -implicitDefEqProofs only [go_sem]));repeat' first|(with_reducible first|exact True.intro|refine And.intro ?_ ?_|intro _)|(((with_reducible refine isCall ?_);first|refine AG (c1) rfl ?_ ?_|refine AE (c1) rfl ?_|refine AB (c1) rfl ?_ ?_|refine AF (c1) rfl rfl ?_)<;>try (simp -implicitDefEqProofs only [go_sem]))|(((with_reducible refine AM ?_ ?_)<;>intro _)<;>try (simp -implicitDefEqProofs only [go_sem]))|simp (disch:=omega) only [AC,AH,AK,AJ,AD,AL,AI,AA]
  all_goals first|rfl|(simp;done)|skip
 |true =>
  rw [hc] at c1
  simp only [if_true] at c1 ⊢
  cases hs:Au xs (L - P) with
  |false =>
   rw [hs] at c1
   simp only [Bool.false_eq_true,if_false] at c1 ⊢
   (try (simp -implicitDefEqProofs only [go_sem]));repeat' first|(with_reducible first|exact True.intro|refine And.intro ?_ ?_|intro _)|(((with_reducible refine isCall ?_);first|refine AG (c1) rfl ?_ ?_|refine AE (c1) rfl ?_|refine AB (c1) rfl ?_ ?_|refine AF (c1) rfl rfl ?_)<;>try (simp -implicitDefEqProofs only [go_sem]))|(((with_reducible refine AM ?_ ?_)<;>intro _)<;>try (simp -implicitDefEqProofs only [go_sem]))|simp (disch:=omega) only [AC,AH,AK,AJ,AD,AL,AI,AA]
   all_goals first|rfl|(simp;done)|skip
  |true =>
   rw [hs] at c1
   simp only [if_true] at c1 ⊢
   obtain⟨hl,hf⟩:=DC hs
   obtain⟨w,hW⟩:∃w,fs xs=w:=⟨_,rfl⟩
   rw [hW] at hf ⊢
   subst hf
   rw [DI] at hl
   obtain⟨l,p,rfl,rfl,b1,b2,b3,b4,b5⟩:=Dj hc
   have hwl:w.length+p=l:=by omega
   have c2:=HT l p n1 w b2 b3 hwl (by omega)
   rw [Aj] at c2
   rw [Int.toNat_natCast,Bs (show 0 < (CU p w).length by rw [CF];omega)]
   (try (simp -implicitDefEqProofs only [go_sem]));repeat' first|(with_reducible first|exact True.intro|refine And.intro ?_ ?_|intro _)|(((with_reducible refine isCall ?_);first|refine AG (c1) rfl ?_ ?_|refine AE (c1) rfl ?_|refine AB (c1) rfl ?_ ?_|refine AF (c1) rfl rfl ?_|refine AG (c2) rfl ?_ ?_|refine AE (c2) rfl ?_|refine AB (c2) rfl ?_ ?_|refine AF (c2) rfl rfl ?_)<;>try (simp -implicitDefEqProofs only [go_sem]))|(((with_reducible refine AM ?_ ?_)<;>intro _)<;>try (simp -implicitDefEqProofs only [go_sem]))|simp (disch:=omega) only [AC,AH,AK,AJ,AD,AL,AI,AA]
   all_goals first|rfl|(simp;done)|skip
def f_ (L P:Int) (ws ms:List Int):Int:=if BG L P=true then if Au ws L=true then if Ca ms L=true then 0 else 1 else 51 else 50
end Go.Pw
end
section
open Go Go.Pw Go.Proofs
namespace Go.Pw
set_option linter.unusedSimpArgs false
set_option linter.unusedVariables false
set_option maxRecDepth 100000
set_option maxHeartbeats 3200000
attribute [local congr] Ch BI BJ A0 Ci A5 A7 A6 Az Ar Am Ai A2 An A3 BR BV BT BU BS BW BO Ap A4 Aq BM Bm Ao BP BQ BN BK BL
attribute [local irreducible] IntKind.wrap A_ Option.getD and or
end Go.Pw
end
section
namespace Go.Pw
set_option linter.unusedSimpArgs false
set_option linter.unusedVariables false
theorem Qp {q k j:Nat} (h:k < q):(j * q+k) / q=j:=by
 rw [Nat.mul_comm,Nat.mul_add_div (by omega),Nat.div_eq_of_lt h,Nat.add_zero]
theorem Qo {q k j:Nat} (h:k < q):(j * q+k) % q=k:=by
 rw [Nat.mul_comm,Nat.mul_add_mod,Nat.mod_eq_of_lt h]
theorem N6 {q k j m:Nat} (h:k < q) (hj:j < m):j * q+k < m * q:=by
 have:=Nat.mul_le_mul_right q (show j+1≤m by omega)
 rw [Nat.add_mul,Nat.one_mul] at this
 omega
theorem Pa (q i:Nat):i / q * q+i % q=i:=Nat.div_add_mod' i q
def Bf (m q k:Nat) (b:List F):List F:=(List.range m).map fun j=>b[j * q+k]?.getD 0
theorem Bk (m q k:Nat) (b:List F):(Bf m q k b).length=m:=by simp [Bf]
theorem MD {m q k:Nat} {b:List F} (j:Nat) (h:j < m):(Bf m q k b)[j]?.getD 0=b[j * q+k]?.getD 0:=by simp [Bf,h]
def FN (m q:Nat) (W:Nat→List F):List F:=(List.range (m * q)).map fun i=>(W (i % q))[i / q]?.getD 0
theorem E5 (m q:Nat) (W:Nat→List F):(FN m q W).length=m * q:=by simp [FN]
theorem OL {m q:Nat} {W:Nat→List F} (i:Nat) (h:i < m * q):(FN m q W)[i]?.getD 0=(W (i % q))[i / q]?.getD 0:=by simp [FN,h]
theorem UO {m q:Nat} (hq:0 < q) {W V:Nat→List F} (h:∀k,k < q→W k=V k):FN m q W=FN m q V:=by
 unfold FN
 apply List.map_congr_left
 intro i hi
 rw [h _ (Nat.mod_lt _ hq)]
theorem ZH {m q:Nat} (hq:0 < q) {b:List F} (hb:b.length=m * q):FN m q (fun k=>Bf m q k b)=b:=by
 apply Kn
 ·rw [E5,hb]
 ·intro i hi
  rw [E5] at hi
  show (FN m q fun k=>Bf m q k b)[i]?.getD 0=b[i]?.getD 0
  rw [OL i hi,MD _ (Nat.div_lt_of_lt_mul (by rw [Nat.mul_comm];exact hi)),Pa]
def L0 (q k:Nat) (ms:List Nat):List Nat:=(ms.filter fun i=>i % q == k).map (· / q)
theorem NN {m q k:Nat} (hq:0 < q) {ms:List Nat} (h:UR (m * q) ms):UR m (L0 q k ms):=by
 refine⟨?_,fun j hj=>?_⟩
 ·unfold L0
  rw [List.pairwise_map]
  refine List.Pairwise.imp_of_mem (fun {a b} ha hb hab=>?_) (h.asc.filter _)
  simp only [List.mem_filter,beq_iff_eq] at ha hb
  have e1:=Pa q a
  have e2:=Pa q b
  rcases Nat.lt_or_ge (a / q) (b / q) with h1|h1
  ·exact h1
  ·have:=Nat.mul_le_mul_right q h1
   omega
 ·simp only [L0,List.mem_map,List.mem_filter,beq_iff_eq] at hj
  obtain⟨i,⟨hi,_⟩,rfl⟩:=hj
  exact Nat.div_lt_of_lt_mul (by rw [Nat.mul_comm];exact h.lt i hi)
theorem Uv {q k j:Nat} (hk:k < q) {ms:List Nat}:j∈L0 q k ms↔j * q+k∈ms:=by
 simp only [L0,List.mem_map,List.mem_filter,beq_iff_eq]
 constructor
 ·rintro⟨i,⟨h1,h2⟩,rfl⟩
  have:=Pa q i
  rw [h2] at this
  rwa [this]
 ·intro h
  exact⟨j * q+k,⟨h,Qo hk⟩,Qp hk⟩
theorem X9 (q k x:Nat) (ms:List Nat):L0 q k (ms++[x])=if x % q=k then L0 q k ms++[x / q] else L0 q k ms:=by
 unfold L0
 rw [List.filter_append,List.map_append]
 by_cases h:x % q=k
 ·rw [if_pos h];simp [h]
 ·rw [if_neg h];simp [h]
def S4 (L P q:Nat) (d:List F):List F:=FN L q fun k=>CU P (Bf (L - P) q k d)
theorem NJ (L P q:Nat) (d:List F):(S4 L P q d).length=L * q:=E5 ..
noncomputable def Tv (L P q:Nat) (b:List F) (ms:List Nat) (k:Nat):Option (List F):=Cq L P (Bf L q k b) (L0 q k ms)
noncomputable def WB (L P q:Nat) (b:List F) (ms:List Nat) (k:Nat):List F:=match Tv L P q b ms k with
 |some r=>r.take (L - P)
 |none=>[]
theorem LV {L P q:Nat} {b:List F} {ms:List Nat} {k:Nat} {r:List F} (h:Tv L P q b ms k=some r):WB L P q b ms k=r.take (L - P):=by
 unfold WB;rw [h]
noncomputable def Yd (L P q:Nat) (b:List F) (ms:List Nat):Option (List F):=if ∀k,k < q→(Tv L P q b ms k).isSome=true then some (FN (L - P) q (WB L P q b ms)) else none
theorem Tu {L P q:Nat} {b:List F} {ms:List Nat} (h:∀k,k < q→(Tv L P q b ms k).isSome=true):Yd L P q b ms=some (FN (L - P) q (WB L P q b ms)):=by unfold Yd;rw [if_pos h]
theorem Yc {L P q:Nat} {b:List F} {ms:List Nat} {k:Nat} (hk:k < q) (h:Tv L P q b ms k=none):Yd L P q b ms=none:=by
 unfold Yd;rw [if_neg fun h2=>by have:=h2 k hk;rw [h] at this;cases this]
theorem Pj {q k a n t:Nat} (hk:k < q) (hn:n≤q * t) {l:List Nat} (hnd:l.Nodup) (h:∀j,j∈l→a≤j * q+k∧j * q+k < a+n):l.length≤t:=by
 have h0:∃j0,a≤j0 * q+k∧∀j,a≤j * q+k→j0≤j:=by
  have hs:=Nat.mod_lt (a+q - 1 - k) (show 0 < q by omega)
  have he:=Pa q (a+q - 1 - k)
  refine⟨(a+q - 1 - k) / q,by omega,fun j hj=>?_⟩
  rcases Nat.lt_or_ge j ((a+q - 1 - k) / q) with h1|h1
  ·have:=Nat.mul_le_mul_right q (show j+1≤(a+q - 1 - k) / q by omega)
   rw [Nat.add_mul,Nat.one_mul] at this
   omega
  ·exact h1
 obtain⟨j0,h1,h2⟩:=h0
 have:=JH l (List.range' j0 t) hnd fun j hj=>by
  obtain⟨h3,h4⟩:=h j hj
  have h5:=h2 j h3
  simp only [List.mem_range'_1]
  refine⟨h5,?_⟩
  rcases Nat.lt_or_ge j (j0+t) with h6|h6
  ·exact h6
  ·have h7:=Nat.mul_le_mul_right q h6
   rw [Nat.add_mul,Nat.mul_comm t q] at h7
   omega
 simpa using this
theorem KE {L P q:Nat} (hL:L≤15) (hPL:P < L) (hq:0 < q) {d R:List F} {ms:List Nat} (hd:d.length=(L - P) * q) (hR:R.length=L * q) (hm:UR (L * q) ms)
  (h:∀k,k < q→2 * (Em L (CU P (Bf (L - P) q k d)) (Bf L q k R) (L0 q k ms)).length+(L0 q k ms).length≤P):Yd L P q R ms=some d:=by
 have hO:∀k,k < q→Tv L P q R ms k=some (CU P (Bf (L - P) q k d)):=fun k hk=>by
  have hl:=Bk (L - P) q k d
  have hc:=JQ P (Bf (L - P) q k d)
  rw [hl,show L - P+P=L by omega] at hc
  exact N_ hL (Bk ..) (by rw [CF,hl];omega) (NN hq hm) hc (h k hk)
 rw [Tu fun k hk=>by rw [hO k hk];rfl]
 congr 1
 rw [UO hq (V:=fun k=>Bf (L - P) q k d) fun k hk=>by
  rw [LV (hO k hk)]
  unfold CU
  rw [List.take_append_of_le_length (by rw [Bk];omega),List.take_of_length_le (by rw [Bk];omega)]]
 exact ZH hq hd
theorem Wh {L:Nat} {a b:List F} {mk:List Nat} {j:Nat} (h:j∈Em L a b mk):j < L∧a[j]?.getD 0≠b[j]?.getD 0∧j∉mk:=by
 unfold Em at h
 simp only [List.mem_filter,List.mem_range,Bool.and_eq_true,decide_eq_true_eq,Bool.not_eq_true',List.contains_eq_mem,decide_eq_false_iff_not] at h
 exact⟨h.1,h.2.1,h.2.2⟩
end Go.Pw
end
