/- A part of the proof. -/
import Derived.Test.YtlmkpaimjpdhiaaDoorPgCorrectS
set_option linter.all false
section
open Go Go.Pw Go.Proofs
namespace Go.Pw
set_option linter.unusedSimpArgs false
set_option linter.unusedVariables false
set_option maxRecDepth 100000
set_option maxHeartbeats 3200000
def ez (o:Option (List F)):D:=match o with
 |some r=>.tup [.list false (AY (iv r)),.bool true]
 |none=>.tup [.list true [],.bool false]
theorem N7 (v:List F):ez (some v)=.tup [.list false (AY (iv v)),.bool true]:=rfl
theorem Lh:ez none=.tup [.list true [],.bool false]:=rfl
theorem Ok {α:Type} (f:List Nat→Option α):∀(l:List (List Nat)),(∀k,k < l.length→f (l[k]?.getD [])=none)→l.findSome? f=none:=fun l h=>by
 rw [List.findSome?_eq_none_iff]
 intro x hx
 obtain⟨i,hi,rfl⟩:=List.getElem_of_mem hx
 have:=h i hi
 rwa [List.getElem?_eq_getElem hi] at this
theorem Mk {α:Type} (f:List Nat→Option α) (r:α):∀(l:List (List Nat)) (i:Nat),i < l.length→(∀k,k < i→f (l[k]?.getD [])=none)→f (l[i]?.getD [])=some r→l.findSome? f=some r
 |x :: l,0,_,_,h=>by
  have h':f x=some r:=h
  rw [List.findSome?_cons,h']
 |x :: l,i+1,hi,hn,h=>by
  have h0:f x=none:=hn 0 (by omega)
  rw [List.findSome?_cons,h0]
  exact Mk f r l i (by simpa using hi) (fun k hk=>hn (k+1) (by omega)) h
theorem Dl:ni []=[]:=rfl
theorem Mf {l:List Nat} (h:l≠[]):¬ni l=[]:=by cases l<;>simp_all [ni]
theorem Ki {α:Type} (l:List α):l=[]∨l≠[]:=by cases l<;>simp
attribute [local congr] Ch BG BH A0 Ci A5 A7 A6 Az Ar Am Ai A2 An A3 BP BT BR BS BQ BU BM Ap A4 Aq BK Bk Ao BN BO BL BI BJ
attribute [local irreducible] IntKind.wrap A_ Option.getD and or
theorem HU (L P:Nat) (n1 n2:Bool) (w:List F) (mk:List Nat) (hL:L≤15) (hL1:1≤L) (hP:1≤P) (hP2:P≤8) (hw:w.length=L) (hm:UN L mk) :
  B7 E0 Gg [MN L P,.list n1 (AY (iv w)),.list n2 (AY (ni mk))] (ez (Cp L P w mk)):=by
 have hml:=Nq hm
 refine AP MG Af (by simp) fun hwf=>?_
 rw [AR];unfold IU
 by_cases hov:P < mk.length
 ·have hov':(P:Int) < (mk.length:Int):=by omega
  rw [Y7 hov,Lh,Aj]
  (try (simp -implicitDefEqProofs only [go_sem,hov']));repeat' first|(with_reducible first|exact True.intro|refine And.intro ?_ ?_|intro _)|(((with_reducible refine AM ?_ ?_)<;>intro _)<;>try (simp -implicitDefEqProofs only [go_sem,hov']))|simp (disch:=omega) only [AC,AH,AK,AJ,AD,AL,AI,AA]|((with_reducible refine AW ?_);refine⟨_,rfl,?_,?_⟩)
  all_goals first|rfl|(simp;done)|skip
 ·have hov':¬(P:Int) < (mk.length:Int):=by omega
  have hw1:IntKind.i64.wrap ((P:Int) - (mk.length:Int))=((P - mk.length:Nat):Int):=by rw [AC _ (by omega)];omega
  have hd:Int.tdiv ((P - mk.length:Nat):Int) 2=(((P - mk.length) / 2:Nat):Int):=EL _ 2
  have hw2:IntKind.i64.wrap (((P - mk.length) / 2:Nat):Int)=(((P - mk.length) / 2:Nat):Int):=AC _ (by omega)
  obtain⟨M,hM⟩:∃M,(P - mk.length) / 2=M:=⟨_,rfl⟩
  have hM4:M≤4:=by omega
  rw [hM] at hd hw2
  rw [Aj]
  (try (simp -implicitDefEqProofs only [go_sem,hov',hw1,hd,hw2]));repeat' first|(with_reducible first|exact True.intro|refine And.intro ?_ ?_|intro _)|(((with_reducible refine AM ?_ ?_)<;>intro _)<;>try (simp -implicitDefEqProofs only [go_sem,hov',hw1,hd,hw2]))|simp (disch:=omega) only [AC,AH,AK,AJ,AD,AL,AI,AA]|((with_reducible refine AW ?_);refine⟨_,rfl,?_,?_⟩)
  all_goals first|omega|(simp;done)|(simp;omega)|skip
  refine AS (α:=Nat) (l0:=?l1) (m0:=?m1) (fun x=>[(9,.d (.int .i64 (x:Int)))]) (fun x=>[]) (fun x=>x≤M+1∧∀k,k < x→Qq L P w mk k=none) (fun x=>M+1 - x) 0 ?h01 ?he1 ?he21 ?hI1 ?step1
  case h01=>(simp -implicitDefEqProofs only [go_sem];rfl)
  case he1=>rfl
  case he21=>rfl
  case' step1=>(rintro e hI;try dsimp only at hI)
  case' hI1=>try dsimp only
  ·exact⟨Nat.zero_le _,fun k hk=>absurd hk (by omega)⟩
  ·obtain⟨h1,h2⟩:=hI
   by_cases h:e≤M
   ·have h':(e:Int)≤(M:Int):=by omega
    have hwe:IntKind.i64.wrap ((e:Int)+1)=((e+1:Nat):Int):=by rw [AC _ (by omega)];omega
    have c1:=I3 L P n2 mk hL e 0 (by omega) (by omega)
    rw [Aj,show (((0:Nat)):Int)=0 from rfl] at c1
    have hRl:=K9 L mk hL (show e≤6 by omega) 0
    have hsp:=fun l hl=>F3 L mk e 0 l hl
    have hE:Qq L P w mk e=(A' L mk e 0).findSome? (hit L P w mk):=rfl
    obtain⟨R,hR⟩:∃R,A' L mk e 0=R:=⟨_,rfl⟩
    rw [hR] at c1 hRl hsp hE
    (try (simp -implicitDefEqProofs only [go_sem,h']));repeat' first|(with_reducible first|exact True.intro|refine And.intro ?_ ?_|intro _)|(((with_reducible refine isCall ?_);first|refine AG (c1) rfl ?_ ?_|refine AE (c1) rfl ?_|refine AB (c1) rfl ?_ ?_|refine AF (c1) rfl rfl ?_)<;>try (simp -implicitDefEqProofs only [go_sem,h']))|(((with_reducible refine AM ?_ ?_)<;>intro _)<;>try (simp -implicitDefEqProofs only [go_sem,h']))|simp (disch:=omega) only [AC,AH,AK,AJ,AD,AL,AI,AA]|((with_reducible refine AW ?_);refine⟨_,rfl,?_,?_⟩)
    all_goals first|omega|(simp;done)|(simp;omega)|skip
    refine AS (α:=Nat) (l0:=?l2) (m0:=?m2) (fun x=>[(11,.d (.int .i64 (x:Int)))]) (fun x=>[]) (fun x=>x≤R.length∧∀k,k < x→hit L P w mk (R[k]?.getD [])=none) (fun x=>R.length - x) 0 ?h02 ?he2 ?he22 ?hI2 ?step2
    case h02=>(simp -implicitDefEqProofs only [go_sem];rfl)
    case he2=>rfl
    case he22=>rfl
    case' step2=>(rintro i hI2;try dsimp only at hI2)
    case' hI2=>try dsimp only
    ·exact⟨Nat.zero_le _,fun k hk=>absurd hk (by omega)⟩
    ·obtain⟨i1,i2⟩:=hI2
     by_cases hi:i < R.length
     ·have hi':(i:Int) < (R.length:Int):=by omega
      have hwi:IntKind.i64.wrap ((i:Int)+1)=((i+1:Nat):Int):=by rw [AC _ (by omega)];omega
      have hmem:(R[i]?.getD [])∈R:=by rw [List.getElem?_eq_getElem hi,Option.getD_some];exact List.getElem_mem hi
      obtain⟨s1,s2⟩:=hsp _ hmem
      have hnow:=fun r=>Mk (hit L P w mk) r R i
      obtain⟨l,hl⟩:∃l,R[i]?.getD []=l:=⟨_,rfl⟩
      rw [hl] at s1 s2
      have hpos:=K_ hm s2
      have hAl:(mk++l).length≤P:=by rw [List.length_append];omega
      have hz:=aZ hL hw hpos hAl
      have hzl:=Pp w (mk++l)
      have hwl:1≤w.length:=by omega
      obtain⟨A,hA⟩:∃A,mk++l=A:=⟨_,rfl⟩
      rw [hA] at hpos hAl hz hzl
      have c2:=fun b=>GA n1 b false w A (List.replicate A.length 0) (by omega) (by omega) (by simp) (fun j hj=>by rw [hw];exact hpos.lt j hj)
      have hZ:Bf w A (List.replicate A.length 0)=Wv w A:=rfl
      rw [hZ] at c2
      have c3:=fun b=>IQ L P false b (Wv w A) A hL hL1 hP (by omega) (by omega) hpos hAl
      rw [Aj] at c3
      have c4:=fun b v hv=>GA n1 b v.isEmpty w A v (by omega) (by omega) hv (fun j hj=>by rw [hw];exact hpos.lt j hj)
      rw [←DS] at c2
      rw [hl] at hnow
      obtain⟨O,hO⟩:∃O,F0 L P A (Ej L P (Wv w A))=O:=⟨_,rfl⟩
      rw [hO] at c3 hz
      cases O with
      |none =>
       rw [L0] at c3
       rw [Option.map_none] at hz
       have hnx:∀k,k < i+1→hit L P w mk (R[k]?.getD [])=none:=fun k hk=>by
        rcases Nat.lt_succ_iff_lt_or_eq.1 hk with hk|rfl
        ·exact i2 k hk
        ·rw [hl];exact hz
       rcases Ki mk with rfl|e1
       ·rcases Ki l with rfl|e2
        ·have hA':[]=A:=hA
         subst hA'
         (try (simp -implicitDefEqProofs only [go_sem,hi',hwi,hl,hwl,hzl,Dl]));repeat' first|(with_reducible first|exact True.intro|refine And.intro ?_ ?_|intro _)|(((with_reducible refine isCall ?_);first|refine AG (c2 _) rfl ?_ ?_|refine AE (c2 _) rfl ?_|refine AB (c2 _) rfl ?_ ?_|refine AF (c2 _) rfl rfl ?_|refine AG (c3 _) rfl ?_ ?_|refine AE (c3 _) rfl ?_|refine AB (c3 _) rfl ?_ ?_|refine AF (c3 _) rfl rfl ?_)<;>try (simp -implicitDefEqProofs only [go_sem,hi',hwi,hl,hwl,hzl,Dl]))|(((with_reducible refine AM ?_ ?_)<;>intro _)<;>try (simp -implicitDefEqProofs only [go_sem,hi',hwi,hl,hwl,hzl,Dl]))|simp (disch:=omega) only [AC,AH,AK,AJ,AD,AL,AI,AA]|((with_reducible refine AW ?_);refine⟨_,rfl,?_,?_⟩)
         all_goals first|omega|(simp;done)|(simp;omega)|skip
         all_goals first|exact hnx|exact hnx _ (by assumption)|skip
        ·have e2:=Mf e2
         have hA':l=A:=hA
         subst hA'
         (try (simp -implicitDefEqProofs only [go_sem,hi',hwi,hl,hwl,hzl,Dl,e2]));repeat' first|(with_reducible first|exact True.intro|refine And.intro ?_ ?_|intro _)|(((with_reducible refine isCall ?_);first|refine AG (c2 _) rfl ?_ ?_|refine AE (c2 _) rfl ?_|refine AB (c2 _) rfl ?_ ?_|refine AF (c2 _) rfl rfl ?_|refine AG (c3 _) rfl ?_ ?_|refine AE (c3 _) rfl ?_|refine AB (c3 _) rfl ?_ ?_|refine AF (c3 _) rfl rfl ?_)<;>try (simp -implicitDefEqProofs only [go_sem,hi',hwi,hl,hwl,hzl,Dl,e2]))|(((with_reducible refine AM ?_ ?_)<;>intro _)<;>try (simp -implicitDefEqProofs only [go_sem,hi',hwi,hl,hwl,hzl,Dl,e2]))|simp (disch:=omega) only [AC,AH,AK,AJ,AD,AL,AI,AA]|((with_reducible refine AW ?_);refine⟨_,rfl,?_,?_⟩)
         all_goals first|omega|(simp;done)|(simp;omega)|skip
         all_goals first|exact hnx|exact hnx _ (by assumption)|skip
       ·rcases Ki l with rfl|e2
        ·have e1:=Mf e1
         rw [List.append_nil] at hA
         subst hA
         (try (simp -implicitDefEqProofs only [go_sem,hi',hwi,hl,hwl,hzl,Dl,e1]));repeat' first|(with_reducible first|exact True.intro|refine And.intro ?_ ?_|intro _)|(((with_reducible refine isCall ?_);first|refine AG (c2 _) rfl ?_ ?_|refine AE (c2 _) rfl ?_|refine AB (c2 _) rfl ?_ ?_|refine AF (c2 _) rfl rfl ?_|refine AG (c3 _) rfl ?_ ?_|refine AE (c3 _) rfl ?_|refine AB (c3 _) rfl ?_ ?_|refine AF (c3 _) rfl rfl ?_)<;>try (simp -implicitDefEqProofs only [go_sem,hi',hwi,hl,hwl,hzl,Dl,e1]))|(((with_reducible refine AM ?_ ?_)<;>intro _)<;>try (simp -implicitDefEqProofs only [go_sem,hi',hwi,hl,hwl,hzl,Dl,e1]))|simp (disch:=omega) only [AC,AH,AK,AJ,AD,AL,AI,AA]|((with_reducible refine AW ?_);refine⟨_,rfl,?_,?_⟩)
         all_goals first|omega|(simp;done)|(simp;omega)|skip
         all_goals first|exact hnx|exact hnx _ (by assumption)|skip
        ·have e2:=Mf e2
         have e1:=Mf e1
         (try (simp -implicitDefEqProofs only [go_sem,hi',hwi,hl,hwl,hzl,e1,e2,hA]));repeat' first|(with_reducible first|exact True.intro|refine And.intro ?_ ?_|intro _)|(((with_reducible refine isCall ?_);first|refine AG (c2 _) rfl ?_ ?_|refine AE (c2 _) rfl ?_|refine AB (c2 _) rfl ?_ ?_|refine AF (c2 _) rfl rfl ?_|refine AG (c3 _) rfl ?_ ?_|refine AE (c3 _) rfl ?_|refine AB (c3 _) rfl ?_ ?_|refine AF (c3 _) rfl rfl ?_)<;>try (simp -implicitDefEqProofs only [go_sem,hi',hwi,hl,hwl,hzl,e1,e2,hA]))|(((with_reducible refine AM ?_ ?_)<;>intro _)<;>try (simp -implicitDefEqProofs only [go_sem,hi',hwi,hl,hwl,hzl,e1,e2,hA]))|simp (disch:=omega) only [AC,AH,AK,AJ,AD,AL,AI,AA]|((with_reducible refine AW ?_);refine⟨_,rfl,?_,?_⟩)
         all_goals first|omega|(simp;done)|(simp;omega)|skip
         all_goals first|exact hnx|exact hnx _ (by assumption)|skip
      |some v =>
       rw [Jk] at c3
       rw [Option.map_some] at hz
       have hvl:=(FM hO).1
       replace c4:=fun b=>c4 b v hvl.symm
       have hfin:Cp L P w mk=some (Bf w A v):=U4 h2 (by rw [hE];exact hnow _ hi i2 hz) (by omega)
       rw [hfin,N7]
       rcases Ki mk with rfl|e1
       ·rcases Ki l with rfl|e2
        ·have hA':[]=A:=hA
         subst hA'
         (try (simp -implicitDefEqProofs only [go_sem,hi',hwi,hl,hwl,hzl,Dl]));repeat' first|(with_reducible first|exact True.intro|refine And.intro ?_ ?_|intro _)|(((with_reducible refine isCall ?_);first|refine AG (c2 _) rfl ?_ ?_|refine AE (c2 _) rfl ?_|refine AB (c2 _) rfl ?_ ?_|refine AF (c2 _) rfl rfl ?_|refine AG (c3 _) rfl ?_ ?_|refine AE (c3 _) rfl ?_|refine AB (c3 _) rfl ?_ ?_|refine AF (c3 _) rfl rfl ?_|refine AG (c4 _) rfl ?_ ?_|refine AE (c4 _) rfl ?_|refine AB (c4 _) rfl ?_ ?_|refine AF (c4 _) rfl rfl ?_)<;>try (simp -implicitDefEqProofs only [go_sem,hi',hwi,hl,hwl,hzl,Dl]))|(((with_reducible refine AM ?_ ?_)<;>intro _)<;>try (simp -implicitDefEqProofs only [go_sem,hi',hwi,hl,hwl,hzl,Dl]))|simp (disch:=omega) only [AC,AH,AK,AJ,AD,AL,AI,AA]|((with_reducible refine AW ?_);refine⟨_,rfl,?_,?_⟩)
         all_goals first|omega|(simp;done)|(simp;omega)|skip
         all_goals first|rfl|skip
        ·have e2:=Mf e2
         have hA':l=A:=hA
         subst hA'
         (try (simp -implicitDefEqProofs only [go_sem,hi',hwi,hl,hwl,hzl,Dl,e2]));repeat' first|(with_reducible first|exact True.intro|refine And.intro ?_ ?_|intro _)|(((with_reducible refine isCall ?_);first|refine AG (c2 _) rfl ?_ ?_|refine AE (c2 _) rfl ?_|refine AB (c2 _) rfl ?_ ?_|refine AF (c2 _) rfl rfl ?_|refine AG (c3 _) rfl ?_ ?_|refine AE (c3 _) rfl ?_|refine AB (c3 _) rfl ?_ ?_|refine AF (c3 _) rfl rfl ?_|refine AG (c4 _) rfl ?_ ?_|refine AE (c4 _) rfl ?_|refine AB (c4 _) rfl ?_ ?_|refine AF (c4 _) rfl rfl ?_)<;>try (simp -implicitDefEqProofs only [go_sem,hi',hwi,hl,hwl,hzl,Dl,e2]))|(((with_reducible refine AM ?_ ?_)<;>intro _)<;>try (simp -implicitDefEqProofs only [go_sem,hi',hwi,hl,hwl,hzl,Dl,e2]))|simp (disch:=omega) only [AC,AH,AK,AJ,AD,AL,AI,AA]|((with_reducible refine AW ?_);refine⟨_,rfl,?_,?_⟩)
         all_goals first|omega|(simp;done)|(simp;omega)|skip
         all_goals first|rfl|skip
       ·rcases Ki l with rfl|e2
        ·have e1:=Mf e1
         rw [List.append_nil] at hA
         subst hA
         (try (simp -implicitDefEqProofs only [go_sem,hi',hwi,hl,hwl,hzl,Dl,e1]));repeat' first|(with_reducible first|exact True.intro|refine And.intro ?_ ?_|intro _)|(((with_reducible refine isCall ?_);first|refine AG (c2 _) rfl ?_ ?_|refine AE (c2 _) rfl ?_|refine AB (c2 _) rfl ?_ ?_|refine AF (c2 _) rfl rfl ?_|refine AG (c3 _) rfl ?_ ?_|refine AE (c3 _) rfl ?_|refine AB (c3 _) rfl ?_ ?_|refine AF (c3 _) rfl rfl ?_|refine AG (c4 _) rfl ?_ ?_|refine AE (c4 _) rfl ?_|refine AB (c4 _) rfl ?_ ?_|refine AF (c4 _) rfl rfl ?_)<;>try (simp -implicitDefEqProofs only [go_sem,hi',hwi,hl,hwl,hzl,Dl,e1]))|(((with_reducible refine AM ?_ ?_)<;>intro _)<;>try (simp -implicitDefEqProofs only [go_sem,hi',hwi,hl,hwl,hzl,Dl,e1]))|simp (disch:=omega) only [AC,AH,AK,AJ,AD,AL,AI,AA]|((with_reducible refine AW ?_);refine⟨_,rfl,?_,?_⟩)
         all_goals first|omega|(simp;done)|(simp;omega)|skip
         all_goals first|rfl|skip
        ·have e2:=Mf e2
         have e1:=Mf e1
         (try (simp -implicitDefEqProofs only [go_sem,hi',hwi,hl,hwl,hzl,e1,e2,hA]));repeat' first|(with_reducible first|exact True.intro|refine And.intro ?_ ?_|intro _)|(((with_reducible refine isCall ?_);first|refine AG (c2 _) rfl ?_ ?_|refine AE (c2 _) rfl ?_|refine AB (c2 _) rfl ?_ ?_|refine AF (c2 _) rfl rfl ?_|refine AG (c3 _) rfl ?_ ?_|refine AE (c3 _) rfl ?_|refine AB (c3 _) rfl ?_ ?_|refine AF (c3 _) rfl rfl ?_|refine AG (c4 _) rfl ?_ ?_|refine AE (c4 _) rfl ?_|refine AB (c4 _) rfl ?_ ?_|refine AF (c4 _) rfl rfl ?_)<;>try (simp -implicitDefEqProofs only [go_sem,hi',hwi,hl,hwl,hzl,e1,e2,hA]))|(((with_reducible refine AM ?_ ?_)<;>intro _)<;>try (simp -implicitDefEqProofs only [go_sem,hi',hwi,hl,hwl,hzl,e1,e2,hA]))|simp (disch:=omega) only [AC,AH,AK,AJ,AD,AL,AI,AA]|((with_reducible refine AW ?_);refine⟨_,rfl,?_,?_⟩)
         all_goals first|omega|(simp;done)|(simp;omega)|skip
         all_goals first|rfl|skip
     ·have hi':¬(i:Int) < (R.length:Int):=by omega
      have hno:∀k,k < e+1→Qq L P w mk k=none:=fun k hk=>by
       rcases Nat.lt_succ_iff_lt_or_eq.1 hk with hk|rfl
       ·exact h2 k hk
       ·rw [hE];exact Ok _ _ fun k hk=>i2 k (by omega)
      (try (simp -implicitDefEqProofs only [go_sem,hi',hwe]));repeat' first|(with_reducible first|exact True.intro|refine And.intro ?_ ?_|intro _)|(((with_reducible refine AM ?_ ?_)<;>intro _)<;>try (simp -implicitDefEqProofs only [go_sem,hi',hwe]))|simp (disch:=omega) only [AC,AH,AK,AJ,AD,AL,AI,AA]|((with_reducible refine AW ?_);refine⟨_,rfl,?_,?_⟩)
      all_goals first|omega|(simp;done)|(simp;omega)|skip
      all_goals first|exact hno|exact hno _ (by assumption)|skip
   ·have h':¬(e:Int)≤(M:Int):=by omega
    rw [SJ h2 (by omega),Lh]
    (try (simp -implicitDefEqProofs only [go_sem,h']));repeat' first|(with_reducible first|exact True.intro|refine And.intro ?_ ?_|intro _)|(((with_reducible refine AM ?_ ?_)<;>intro _)<;>try (simp -implicitDefEqProofs only [go_sem,h']))|simp (disch:=omega) only [AC,AH,AK,AJ,AD,AL,AI,AA]|((with_reducible refine AW ?_);refine⟨_,rfl,?_,?_⟩)
    all_goals first|omega|(simp;done)|(simp;omega)|skip
    all_goals first|rfl|skip
end Go.Pw
end
section
open Go Go.Pw Go.Proofs
namespace Go.Pw
set_option linter.unusedSimpArgs false
set_option linter.unusedVariables false
set_option maxRecDepth 100000
set_option maxHeartbeats 3200000
theorem TE (a n:Nat):List.range' a n++[a+n]=List.range' a (n+1):=by rw [List.range'_concat];simp
theorem Tc {w:List F} (h:0 < w.length):¬iv w=[]:=by cases w<;>simp_all [iv]
attribute [local congr] Ch BG BH A0 Ci A5 A7 A6 Az Ar Am Ai A2 An A3 BP BT BR BS BQ BU BM Ap A4 Aq BK Bk Ao BN BO BL BI BJ
attribute [local irreducible] IntKind.wrap A_ Option.getD and or
theorem HT (L P:Nat) (n1:Bool) (d:List F) (hL:L≤15) (hP:1≤P) (hd:d.length+P=L) (hd1:1≤d.length) :
  B7 E0 JZ [MN L P,.list n1 (AY (iv d))] (.list false (AY (iv (CU P d)))):=by
 obtain⟨v,hv1,hv2⟩:=Wa hL hd
 have hwl:(d++List.replicate P (0:F)).length=L:=by simp;omega
 have hp:Q_ L (List.range' d.length P):=⟨List.nodup_range',fun j hj=>by simp at hj;omega⟩
 have hvl:=(FM hv1).1
 have c1:=fun b=>IQ L P false b (d++List.replicate P 0) (List.range' d.length P) hL (by omega) hP (by omega) hwl hp (by simp)
 rw [hv1,Jk] at c1
 have c2:=fun b=>GA false b v.isEmpty (d++List.replicate P 0) (List.range' d.length P) v (by omega) (by omega) hvl.symm (fun j hj=>by rw [hwl];exact hp.lt j hj)
 rw [hv2] at c2
 refine AP MF Af (by simp) fun hwf=>?_
 rw [AR];unfold IT
 rw [Aj] at c1 ⊢
 have hne:=Tc (w:=d) (by omega)
 (try (simp -implicitDefEqProofs only [go_sem,hne,DS]));repeat' first|(with_reducible first|exact True.intro|refine And.intro ?_ ?_|intro _)|(((with_reducible refine AM ?_ ?_)<;>intro _)<;>try (simp -implicitDefEqProofs only [go_sem,hne,DS]))|simp (disch:=omega) only [AC,AH,AK,AJ,AD,AL,AI,AA]|((with_reducible refine Aa ?_);refine⟨(_,_),rfl,?_,?_⟩)
 all_goals first|omega|(simp;done)|(simp;omega)|skip
 refine AS (α:=Nat×Bool) (l0:=?l1) (m0:=?m1) (fun x=>[(7,.d (.int .i64 ((d.length+x.1:Nat):Int))),(5,.d (.list false (AY (iv (d++List.replicate P 0)))))]) (fun x=>[(27,.row 3 1 x.2 (AY (ni (List.range' d.length x.1))))]) (fun x=>x.1≤P∧x.2=decide (x.1=0)) (fun x=>P - x.1) (0,true) ?h01 ?he1 ?he21 ?hI1 ?step1
 case h01=>(simp -implicitDefEqProofs only [go_sem];rfl)
 case he1=>rfl
 case he21=>rfl
 case' step1=>(rintro⟨j,b⟩ hI;try dsimp only at hI)
 case' hI1=>try dsimp only
 ·exact⟨Nat.zero_le _,rfl⟩
 ·obtain⟨j1,j2⟩:=hI
  change b=decide (j=0) at j2
  subst j2
  by_cases h:j < P
  ·have h':((d.length+j:Nat):Int) < (L:Int):=by omega
   have hwj:IntKind.i64.wrap (((d.length+j:Nat):Int)+1)=((d.length+(j+1):Nat):Int):=by rw [AC _ (by omega)];omega
   have hk:=TE d.length j
   (try (simp -implicitDefEqProofs only [go_sem,h',hwj,hk]));repeat' first|(with_reducible first|exact True.intro|refine And.intro ?_ ?_|intro _)|(((with_reducible refine AM ?_ ?_)<;>intro _)<;>try (simp -implicitDefEqProofs only [go_sem,h',hwj,hk]))|simp (disch:=omega) only [AC,AH,AK,AJ,AD,AL,AI,AA]|((with_reducible refine Aa ?_);refine⟨(_,_),rfl,?_,?_⟩)
   all_goals first|omega|(simp;done)|(simp;omega)|skip
   all_goals first|rfl|skip
  ·have h':¬((d.length+j:Nat):Int) < (L:Int):=by omega
   have hje:j=P:=by omega
   subst hje
   have hj0:decide (j=0)=false:=decide_eq_false (by omega)
   rw [hj0]
   (try (simp -implicitDefEqProofs only [go_sem,h']));repeat' first|(with_reducible first|exact True.intro|refine And.intro ?_ ?_|intro _)|(((with_reducible refine isCall ?_);first|refine AG (c1 _) rfl ?_ ?_|refine AE (c1 _) rfl ?_|refine AB (c1 _) rfl ?_ ?_|refine AF (c1 _) rfl rfl ?_|refine AG (c2 _) rfl ?_ ?_|refine AE (c2 _) rfl ?_|refine AB (c2 _) rfl ?_ ?_|refine AF (c2 _) rfl rfl ?_)<;>try (simp -implicitDefEqProofs only [go_sem,h']))|(((with_reducible refine AM ?_ ?_)<;>intro _)<;>try (simp -implicitDefEqProofs only [go_sem,h']))|simp (disch:=omega) only [AC,AH,AK,AJ,AD,AL,AI,AA]|((with_reducible refine Aa ?_);refine⟨(_,_),rfl,?_,?_⟩)
   all_goals first|omega|(simp;done)|(simp;omega)|skip
   all_goals first|rfl|skip
theorem J0 (L P:Int) (n1:Bool) (xs:List Int):B7 E0 G8 [.agg [.int .i64 L,.int .i64 P],.list n1 (AY xs)] (.int .i64 (Qe L P xs)):=by
 have c1:=DW L P
 refine AP J2 Af (by simp) fun hwf=>?_
 rw [AR];unfold GC Qe
 cases hc:BE L P with
 |false =>
  rw [hc] at c1
  simp only [Bool.false_eq_true,if_false] at c1 ⊢
  (try (simp -implicitDefEqProofs only [go_sem]));repeat' first|(with_reducible first|exact True.intro|refine And.intro ?_ ?_|intro _)|(((with_reducible refine isCall ?_);first|refine AG (c1) rfl ?_ ?_|refine AE (c1) rfl ?_|refine AB (c1) rfl ?_ ?_|refine AF (c1) rfl rfl ?_)<;>try (simp -implicitDefEqProofs only [go_sem]))|(((with_reducible refine AM ?_ ?_)<;>intro _)<;>try (simp -implicitDefEqProofs only [go_sem]))|simp (disch:=omega) only [AC,AH,AK,AJ,AD,AL,AI,AA]
  all_goals first|rfl|(simp;done)|skip
 |true =>
  rw [hc] at c1
  have hb:=C2 hc
  simp only [if_true] at c1 ⊢
  have hw:IntKind.i64.wrap (L - P)=L - P:=AC _ (by omega)
  have c2:=Al n1 xs (L - P)
  cases hs:Au xs (L - P) with
  |false =>
   rw [hs] at c2
   simp only [Bool.false_eq_true,if_false]
   (try (simp -implicitDefEqProofs only [go_sem,hw]));repeat' first|(with_reducible first|exact True.intro|refine And.intro ?_ ?_|intro _)|(((with_reducible refine isCall ?_);first|refine AG (c1) rfl ?_ ?_|refine AE (c1) rfl ?_|refine AB (c1) rfl ?_ ?_|refine AF (c1) rfl rfl ?_|refine AG (c2) rfl ?_ ?_|refine AE (c2) rfl ?_|refine AB (c2) rfl ?_ ?_|refine AF (c2) rfl rfl ?_)<;>try (simp -implicitDefEqProofs only [go_sem,hw]))|(((with_reducible refine AM ?_ ?_)<;>intro _)<;>try (simp -implicitDefEqProofs only [go_sem,hw]))|simp (disch:=omega) only [AC,AH,AK,AJ,AD,AL,AI,AA]
   all_goals first|rfl|(simp;done)|skip
  |true =>
   rw [hs] at c2
   simp only [if_true]
   (try (simp -implicitDefEqProofs only [go_sem,hw]));repeat' first|(with_reducible first|exact True.intro|refine And.intro ?_ ?_|intro _)|(((with_reducible refine isCall ?_);first|refine AG (c1) rfl ?_ ?_|refine AE (c1) rfl ?_|refine AB (c1) rfl ?_ ?_|refine AF (c1) rfl rfl ?_|refine AG (c2) rfl ?_ ?_|refine AE (c2) rfl ?_|refine AB (c2) rfl ?_ ?_|refine AF (c2) rfl rfl ?_)<;>try (simp -implicitDefEqProofs only [go_sem,hw]))|(((with_reducible refine AM ?_ ?_)<;>intro _)<;>try (simp -implicitDefEqProofs only [go_sem,hw]))|simp (disch:=omega) only [AC,AH,AK,AJ,AD,AL,AI,AA]
   all_goals first|rfl|(simp;done)|skip
theorem L7 (L P:Int) (n1:Bool) (xs:List Int):B7 E0 Gi [.agg [.int .i64 L,.int .i64 P],.list n1 (AY xs)] (.tup [.list (Qd L P xs).isEmpty (AY (Qd L P xs)),.int .i64 (Qe L P xs)]):=by
 have c1:=J0 L P n1 xs
 refine AP MI Af (by simp) fun hwf=>?_
 rw [AR];unfold IW
 unfold Qd Qe at *
 cases hc:BE L P with
 |false =>
  rw [hc] at c1
  simp only [Bool.false_eq_true,if_false] at c1 ⊢
  (try (simp -implicitDefEqProofs only [go_sem]));repeat' first|(with_reducible first|exact True.intro|refine And.intro ?_ ?_|intro _)|(((with_reducible refine isCall ?_);first|refine AG (c1) rfl ?_ ?_|refine AE (c1) rfl ?_|refine AB (c1) rfl ?_ ?_|refine AF (c1) rfl rfl ?_)<;>try (simp -implicitDefEqProofs only [go_sem]))|(((with_reducible refine AM ?_ ?_)<;>intro _)<;>try (simp -implicitDefEqProofs only [go_sem]))|simp (disch:=omega) only [AC,AH,AK,AJ,AD,AL,AI,AA]
  all_goals first|rfl|(simp;done)|skip
 |true =>
  rw [hc] at c1
  simp only [if_true] at c1 ⊢
  cases hs:Au xs (L - P) with
  |false =>
   rw [hs] at c1
   simp only [Bool.false_eq_true,if_false] at c1 ⊢
   (try (simp -implicitDefEqProofs only [go_sem]));repeat' first|(with_reducible first|exact True.intro|refine And.intro ?_ ?_|intro _)|(((with_reducible refine isCall ?_);first|refine AG (c1) rfl ?_ ?_|refine AE (c1) rfl ?_|refine AB (c1) rfl ?_ ?_|refine AF (c1) rfl rfl ?_)<;>try (simp -implicitDefEqProofs only [go_sem]))|(((with_reducible refine AM ?_ ?_)<;>intro _)<;>try (simp -implicitDefEqProofs only [go_sem]))|simp (disch:=omega) only [AC,AH,AK,AJ,AD,AL,AI,AA]
   all_goals first|rfl|(simp;done)|skip
  |true =>
   rw [hs] at c1
   simp only [if_true] at c1 ⊢
   obtain⟨hl,hf⟩:=DC hs
   obtain⟨w,hW⟩:∃w,fs xs=w:=⟨_,rfl⟩
   rw [hW] at hf ⊢
   subst hf
   rw [DI] at hl
   obtain⟨l,p,rfl,rfl,b1,b2,b3,b4,b5⟩:=Di hc
   have hwl:w.length+p=l:=by omega
   have c2:=HT l p n1 w b2 b3 hwl (by omega)
   rw [Aj] at c2
   rw [Int.toNat_natCast,Br (show 0 < (CU p w).length by rw [CF];omega)]
   (try (simp -implicitDefEqProofs only [go_sem]));repeat' first|(with_reducible first|exact True.intro|refine And.intro ?_ ?_|intro _)|(((with_reducible refine isCall ?_);first|refine AG (c1) rfl ?_ ?_|refine AE (c1) rfl ?_|refine AB (c1) rfl ?_ ?_|refine AF (c1) rfl rfl ?_|refine AG (c2) rfl ?_ ?_|refine AE (c2) rfl ?_|refine AB (c2) rfl ?_ ?_|refine AF (c2) rfl rfl ?_)<;>try (simp -implicitDefEqProofs only [go_sem]))|(((with_reducible refine AM ?_ ?_)<;>intro _)<;>try (simp -implicitDefEqProofs only [go_sem]))|simp (disch:=omega) only [AC,AH,AK,AJ,AD,AL,AI,AA]
   all_goals first|rfl|(simp;done)|skip
def fz (L P:Int) (ws ms:List Int):Int:=if BE L P=true then if Au ws L=true then if Ca ms L=true then 0 else 1 else 51 else 50
end Go.Pw
end
section
open Go Go.Pw Go.Proofs
namespace Go.Pw
set_option linter.unusedSimpArgs false
set_option linter.unusedVariables false
set_option maxRecDepth 100000
set_option maxHeartbeats 3200000
attribute [local congr] Ch BG BH A0 Ci A5 A7 A6 Az Ar Am Ai A2 An A3 BP BT BR BS BQ BU BM Ap A4 Aq BK Bk Ao BN BO BL BI BJ
attribute [local irreducible] IntKind.wrap A_ Option.getD and or
end Go.Pw
end
