/- A part of the proof. -/
import Derived.Test.YtlmkpaimjpdhiaaDoorPgCorrectS
import Derived.Test.YtlmkpaimjpdhiaaDoorCorrectPC
set_option linter.all false
section
open Go Go.Pw Go.Proofs
namespace Go.Pw
set_option linter.unusedSimpArgs false
set_option linter.unusedVariables false
set_option maxRecDepth 100000
set_option maxHeartbeats 3200000
def ej (o:Option (List F)):D:=match o with
 |some r=>.tup [.list false (AY (iv r)),.bool true]
 |none=>.tup [.list true [],.bool false]
theorem Nw (v:List F):ej (some v)=.tup [.list false (AY (iv v)),.bool true]:=rfl
theorem LX:ej none=.tup [.list true [],.bool false]:=rfl
theorem OZ {α:Type} (f:List Nat→Option α):∀(l:List (List Nat)),(∀k,k < l.length→f (l[k]?.getD [])=none)→l.findSome? f=none:=fun l h=>by
 rw [List.findSome?_eq_none_iff]
 intro x hx
 obtain⟨i,hi,rfl⟩:=List.getElem_of_mem hx
 have:=h i hi
 rwa [List.getElem?_eq_getElem hi] at this
theorem MZ {α:Type} (f:List Nat→Option α) (r:α):∀(l:List (List Nat)) (i:Nat),i < l.length→(∀k,k < i→f (l[k]?.getD [])=none)→f (l[i]?.getD [])=some r→l.findSome? f=some r
 |x :: l,0,_,_,h=>by
  have h':f x=some r:=h
  rw [List.findSome?_cons,h']
 |x :: l,i+1,hi,hn,h=>by
  have h0:f x=none:=hn 0 (by omega)
  rw [List.findSome?_cons,h0]
  exact MZ f r l i (by simpa using hi) (fun k hk=>hn (k+1) (by omega)) h
theorem Di:ni []=[]:=rfl
theorem MU {l:List Nat} (h:l≠[]):¬ni l=[]:=by cases l<;>simp_all [ni]
theorem KX {α:Type} (l:List α):l=[]∨l≠[]:=by cases l<;>simp
attribute [local congr] Cf BG BH A0 Cg A5 A7 A6 Az Ar Am Ai A2 An A3 BP BT BR BS BQ BU BM Ap A4 Aq BK Bk Ao BN BO BL BI BJ
attribute [local irreducible] IntKind.wrap A_ Option.getD and or
theorem HM (L P:Nat) (n1 n2:Bool) (w:List F) (mk:List Nat) (hL:L≤15) (hL1:1≤L) (hP:1≤P) (hP2:P≤8) (hw:w.length=L) (hm:UD L mk) :
  B5 E0 Ga [MB L P,.list n1 (AY (iv w)),.list n2 (AY (ni mk))] (ej (Cn L P w mk)):=by
 have hml:=Nf hm
 refine AP L7 Af (by simp) fun hwf=>?_
 rw [AR];unfold IK
 by_cases hov:P < mk.length
 ·have hov':(P:Int) < (mk.length:Int):=by omega
  rw [Yv hov,LX,Aj]
  (try (simp -implicitDefEqProofs only [go_sem,hov']));repeat' first|(with_reducible first|exact True.intro|refine And.intro ?_ ?_|intro _)|(((with_reducible refine AM ?_ ?_)<;>intro _)<;>try (simp -implicitDefEqProofs only [go_sem,hov']))|simp (disch:=omega) only [AC,AH,AK,AJ,AD,AL,AI,AA]|((with_reducible refine AW ?_);refine⟨_,rfl,?_,?_⟩)
  all_goals first|rfl|(simp;done)|skip
 ·have hov':¬(P:Int) < (mk.length:Int):=by omega
  have hw1:IntKind.i64.wrap ((P:Int) - (mk.length:Int))=((P - mk.length:Nat):Int):=by rw [AC _ (by omega)];omega
  have hd:Int.tdiv ((P - mk.length:Nat):Int) 2=(((P - mk.length) / 2:Nat):Int):=EJ _ 2
  have hw2:IntKind.i64.wrap (((P - mk.length) / 2:Nat):Int)=(((P - mk.length) / 2:Nat):Int):=AC _ (by omega)
  obtain⟨M,hM⟩:∃M,(P - mk.length) / 2=M:=⟨_,rfl⟩
  have hM4:M≤4:=by omega
  rw [hM] at hd hw2
  rw [Aj]
  (try (simp -implicitDefEqProofs only [go_sem,hov',hw1,hd,hw2]));repeat' first|(with_reducible first|exact True.intro|refine And.intro ?_ ?_|intro _)|(((with_reducible refine AM ?_ ?_)<;>intro _)<;>try (simp -implicitDefEqProofs only [go_sem,hov',hw1,hd,hw2]))|simp (disch:=omega) only [AC,AH,AK,AJ,AD,AL,AI,AA]|((with_reducible refine AW ?_);refine⟨_,rfl,?_,?_⟩)
  all_goals first|omega|(simp;done)|(simp;omega)|skip
  refine AS (α:=Nat) (l0:=?l1) (m0:=?m1) (fun x=>[(9,.d (.int .i64 (x:Int)))]) (fun x=>[]) (fun x=>x≤M+1∧∀k,k < x→Qg L P w mk k=none) (fun x=>M+1 - x) 0 ?h01 ?he1 ?he21 ?hI1 ?step1
  case h01=>(simp -implicitDefEqProofs only [go_sem];rfl)
  case he1=>rfl
  case he21=>rfl
  case' step1=>(rintro e hI;try dsimp only at hI)
  case' hI1=>try dsimp only
  ·exact⟨Nat.zero_le _,fun k hk=>absurd hk (by omega)⟩
  ·obtain⟨h1,h2⟩:=hI
   by_cases h:e≤M
   ·have h':(e:Int)≤(M:Int):=by omega
    have hwe:IntKind.i64.wrap ((e:Int)+1)=((e+1:Nat):Int):=by rw [AC _ (by omega)];omega
    have c1:=Iu L P n2 mk hL e 0 (by omega) (by omega)
    rw [Aj,show (((0:Nat)):Int)=0 from rfl] at c1
    have hRl:=Kz L mk hL (show e≤6 by omega) 0
    have hsp:=fun l hl=>Fx L mk e 0 l hl
    have hE:Qg L P w mk e=(A' L mk e 0).findSome? (hit L P w mk):=rfl
    obtain⟨R,hR⟩:∃R,A' L mk e 0=R:=⟨_,rfl⟩
    rw [hR] at c1 hRl hsp hE
    (try (simp -implicitDefEqProofs only [go_sem,h']));repeat' first|(with_reducible first|exact True.intro|refine And.intro ?_ ?_|intro _)|(((with_reducible refine isCall ?_);first|refine AG (c1) rfl ?_ ?_|refine AE (c1) rfl ?_|refine AB (c1) rfl ?_ ?_|refine AF (c1) rfl rfl ?_)<;>try (simp -implicitDefEqProofs only [go_sem,h']))|(((with_reducible refine AM ?_ ?_)<;>intro _)<;>try (simp -implicitDefEqProofs only [go_sem,h']))|simp (disch:=omega) only [AC,AH,AK,AJ,AD,AL,AI,AA]|((with_reducible refine AW ?_);refine⟨_,rfl,?_,?_⟩)
    all_goals first|omega|(simp;done)|(simp;omega)|skip
    refine AS (α:=Nat) (l0:=?l2) (m0:=?m2) (fun x=>[(11,.d (.int .i64 (x:Int)))]) (fun x=>[]) (fun x=>x≤R.length∧∀k,k < x→hit L P w mk (R[k]?.getD [])=none) (fun x=>R.length - x) 0 ?h02 ?he2 ?he22 ?hI2 ?step2
    case h02=>(simp -implicitDefEqProofs only [go_sem];rfl)
    case he2=>rfl
    case he22=>rfl
    case' step2=>(rintro i hI2;try dsimp only at hI2)
    case' hI2=>try dsimp only
    ·exact⟨Nat.zero_le _,fun k hk=>absurd hk (by omega)⟩
    ·obtain⟨i1,i2⟩:=hI2
     by_cases hi:i < R.length
     ·have hi':(i:Int) < (R.length:Int):=by omega
      have hwi:IntKind.i64.wrap ((i:Int)+1)=((i+1:Nat):Int):=by rw [AC _ (by omega)];omega
      have hmem:(R[i]?.getD [])∈R:=by rw [List.getElem?_eq_getElem hi,Option.getD_some];exact List.getElem_mem hi
      obtain⟨s1,s2⟩:=hsp _ hmem
      have hnow:=fun r=>MZ (hit L P w mk) r R i
      obtain⟨l,hl⟩:∃l,R[i]?.getD []=l:=⟨_,rfl⟩
      rw [hl] at s1 s2
      have hpos:=K0 hm s2
      have hAl:(mk++l).length≤P:=by rw [List.length_append];omega
      have hz:=aO hL hw hpos hAl
      have hzl:=Pf w (mk++l)
      have hwl:1≤w.length:=by omega
      obtain⟨A,hA⟩:∃A,mk++l=A:=⟨_,rfl⟩
      rw [hA] at hpos hAl hz hzl
      have c2:=fun b=>F5 n1 b false w A (List.replicate A.length 0) (by omega) (by omega) (by simp) (fun j hj=>by rw [hw];exact hpos.lt j hj)
      have hZ:Bf w A (List.replicate A.length 0)=Wl w A:=rfl
      rw [hZ] at c2
      have c3:=fun b=>IG L P false b (Wl w A) A hL hL1 hP (by omega) (by omega) hpos hAl
      rw [Aj] at c3
      have c4:=fun b v hv=>F5 n1 b v.isEmpty w A v (by omega) (by omega) hv (fun j hj=>by rw [hw];exact hpos.lt j hj)
      rw [←DQ] at c2
      rw [hl] at hnow
      obtain⟨O,hO⟩:∃O,Fu L P A (Eh L P (Wl w A))=O:=⟨_,rfl⟩
      rw [hO] at c3 hz
      cases O with
      |none =>
       rw [Lq] at c3
       rw [Option.map_none] at hz
       have hnx:∀k,k < i+1→hit L P w mk (R[k]?.getD [])=none:=fun k hk=>by
        rcases Nat.lt_succ_iff_lt_or_eq.1 hk with hk|rfl
        ·exact i2 k hk
        ·rw [hl];exact hz
       rcases KX mk with rfl|e1
       ·rcases KX l with rfl|e2
        ·have hA':[]=A:=hA
         subst hA'
         (try (simp -implicitDefEqProofs only [go_sem,hi',hwi,hl,hwl,hzl,Di]));repeat' first|(with_reducible first|exact True.intro|refine And.intro ?_ ?_|intro _)|(((with_reducible refine isCall ?_);first|refine AG (c2 _) rfl ?_ ?_|refine AE (c2 _) rfl ?_|refine AB (c2 _) rfl ?_ ?_|refine AF (c2 _) rfl rfl ?_|refine AG (c3 _) rfl ?_ ?_|refine AE (c3 _) rfl ?_|refine AB (c3 _) rfl ?_ ?_|refine AF (c3 _) rfl rfl ?_)<;>try (simp -implicitDefEqProofs only [go_sem,hi',hwi,hl,hwl,hzl,Di]))|(((with_reducible refine AM ?_ ?_)<;>intro _)<;>try (simp -implicitDefEqProofs only [go_sem,hi',hwi,hl,hwl,hzl,Di]))|simp (disch:=omega) only [AC,AH,AK,AJ,AD,AL,AI,AA]|((with_reducible refine AW ?_);refine⟨_,rfl,?_,?_⟩)
         all_goals first|omega|(simp;done)|(simp;omega)|skip
         all_goals first|exact hnx|exact hnx _ (by assumption)|skip
        ·have e2:=MU e2
         have hA':l=A:=hA
         subst hA'
         (try (simp -implicitDefEqProofs only [go_sem,hi',hwi,hl,hwl,hzl,Di,e2]));repeat' first|(with_reducible first|exact True.intro|refine And.intro ?_ ?_|intro _)|(((with_reducible refine isCall ?_);first|refine AG (c2 _) rfl ?_ ?_|refine AE (c2 _) rfl ?_|refine AB (c2 _) rfl ?_ ?_|refine AF (c2 _) rfl rfl ?_|refine AG (c3 _) rfl ?_ ?_|refine AE (c3 _) rfl ?_|refine AB (c3 _) rfl ?_ ?_|refine AF (c3 _) rfl rfl ?_)<;>try (simp -implicitDefEqProofs only [go_sem,hi',hwi,hl,hwl,hzl,Di,e2]))|(((with_reducible refine AM ?_ ?_)<;>intro _)<;>try (simp -implicitDefEqProofs only [go_sem,hi',hwi,hl,hwl,hzl,Di,e2]))|simp (disch:=omega) only [AC,AH,AK,AJ,AD,AL,AI,AA]|((with_reducible refine AW ?_);refine⟨_,rfl,?_,?_⟩)
         all_goals first|omega|(simp;done)|(simp;omega)|skip
         all_goals first|exact hnx|exact hnx _ (by assumption)|skip
       ·rcases KX l with rfl|e2
        ·have e1:=MU e1
         rw [List.append_nil] at hA
         subst hA
         (try (simp -implicitDefEqProofs only [go_sem,hi',hwi,hl,hwl,hzl,Di,e1]));repeat' first|(with_reducible first|exact True.intro|refine And.intro ?_ ?_|intro _)|(((with_reducible refine isCall ?_);first|refine AG (c2 _) rfl ?_ ?_|refine AE (c2 _) rfl ?_|refine AB (c2 _) rfl ?_ ?_|refine AF (c2 _) rfl rfl ?_|refine AG (c3 _) rfl ?_ ?_|refine AE (c3 _) rfl ?_|refine AB (c3 _) rfl ?_ ?_|refine AF (c3 _) rfl rfl ?_)<;>try (simp -implicitDefEqProofs only [go_sem,hi',hwi,hl,hwl,hzl,Di,e1]))|(((with_reducible refine AM ?_ ?_)<;>intro _)<;>try (simp -implicitDefEqProofs only [go_sem,hi',hwi,hl,hwl,hzl,Di,e1]))|simp (disch:=omega) only [AC,AH,AK,AJ,AD,AL,AI,AA]|((with_reducible refine AW ?_);refine⟨_,rfl,?_,?_⟩)
         all_goals first|omega|(simp;done)|(simp;omega)|skip
         all_goals first|exact hnx|exact hnx _ (by assumption)|skip
        ·have e2:=MU e2
         have e1:=MU e1
         (try (simp -implicitDefEqProofs only [go_sem,hi',hwi,hl,hwl,hzl,e1,e2,hA]));repeat' first|(with_reducible first|exact True.intro|refine And.intro ?_ ?_|intro _)|(((with_reducible refine isCall ?_);first|refine AG (c2 _) rfl ?_ ?_|refine AE (c2 _) rfl ?_|refine AB (c2 _) rfl ?_ ?_|refine AF (c2 _) rfl rfl ?_|refine AG (c3 _) rfl ?_ ?_|refine AE (c3 _) rfl ?_|refine AB (c3 _) rfl ?_ ?_|refine AF (c3 _) rfl rfl ?_)<;>try (simp -implicitDefEqProofs only [go_sem,hi',hwi,hl,hwl,hzl,e1,e2,hA]))|(((with_reducible refine AM ?_ ?_)<;>intro _)<;>try (simp -implicitDefEqProofs only [go_sem,hi',hwi,hl,hwl,hzl,e1,e2,hA]))|simp (disch:=omega) only [AC,AH,AK,AJ,AD,AL,AI,AA]|((with_reducible refine AW ?_);refine⟨_,rfl,?_,?_⟩)
         all_goals first|omega|(simp;done)|(simp;omega)|skip
         all_goals first|exact hnx|exact hnx _ (by assumption)|skip
      |some v =>
       rw [Ja] at c3
       rw [Option.map_some] at hz
       have hvl:=(FJ hO).1
       replace c4:=fun b=>c4 b v hvl.symm
       have hfin:Cn L P w mk=some (Bf w A v):=Uu h2 (by rw [hE];exact hnow _ hi i2 hz) (by omega)
       rw [hfin,Nw]
       rcases KX mk with rfl|e1
       ·rcases KX l with rfl|e2
        ·have hA':[]=A:=hA
         subst hA'
         (try (simp -implicitDefEqProofs only [go_sem,hi',hwi,hl,hwl,hzl,Di]));repeat' first|(with_reducible first|exact True.intro|refine And.intro ?_ ?_|intro _)|(((with_reducible refine isCall ?_);first|refine AG (c2 _) rfl ?_ ?_|refine AE (c2 _) rfl ?_|refine AB (c2 _) rfl ?_ ?_|refine AF (c2 _) rfl rfl ?_|refine AG (c3 _) rfl ?_ ?_|refine AE (c3 _) rfl ?_|refine AB (c3 _) rfl ?_ ?_|refine AF (c3 _) rfl rfl ?_|refine AG (c4 _) rfl ?_ ?_|refine AE (c4 _) rfl ?_|refine AB (c4 _) rfl ?_ ?_|refine AF (c4 _) rfl rfl ?_)<;>try (simp -implicitDefEqProofs only [go_sem,hi',hwi,hl,hwl,hzl,Di]))|(((with_reducible refine AM ?_ ?_)<;>intro _)<;>try (simp -implicitDefEqProofs only [go_sem,hi',hwi,hl,hwl,hzl,Di]))|simp (disch:=omega) only [AC,AH,AK,AJ,AD,AL,AI,AA]|((with_reducible refine AW ?_);refine⟨_,rfl,?_,?_⟩)
         all_goals first|omega|(simp;done)|(simp;omega)|skip
         all_goals first|rfl|skip
        ·have e2:=MU e2
         have hA':l=A:=hA
         subst hA'
         (try (simp -implicitDefEqProofs only [go_sem,hi',hwi,hl,hwl,hzl,Di,e2]));repeat' first|(with_reducible first|exact True.intro|refine And.intro ?_ ?_|intro _)|(((with_reducible refine isCall ?_);first|refine AG (c2 _) rfl ?_ ?_|refine AE (c2 _) rfl ?_|refine AB (c2 _) rfl ?_ ?_|refine AF (c2 _) rfl rfl ?_|refine AG (c3 _) rfl ?_ ?_|refine AE (c3 _) rfl ?_|refine AB (c3 _) rfl ?_ ?_|refine AF (c3 _) rfl rfl ?_|refine AG (c4 _) rfl ?_ ?_|refine AE (c4 _) rfl ?_|refine AB (c4 _) rfl ?_ ?_|refine AF (c4 _) rfl rfl ?_)<;>try (simp -implicitDefEqProofs only [go_sem,hi',hwi,hl,hwl,hzl,Di,e2]))|(((with_reducible refine AM ?_ ?_)<;>intro _)<;>try (simp -implicitDefEqProofs only [go_sem,hi',hwi,hl,hwl,hzl,Di,e2]))|simp (disch:=omega) only [AC,AH,AK,AJ,AD,AL,AI,AA]|((with_reducible refine AW ?_);refine⟨_,rfl,?_,?_⟩)
         all_goals first|omega|(simp;done)|(simp;omega)|skip
         all_goals first|rfl|skip
       ·rcases KX l with rfl|e2
        ·have e1:=MU e1
         rw [List.append_nil] at hA
         subst hA
         (try (simp -implicitDefEqProofs only [go_sem,hi',hwi,hl,hwl,hzl,Di,e1]));repeat' first|(with_reducible first|exact True.intro|refine And.intro ?_ ?_|intro _)|(((with_reducible refine isCall ?_);first|refine AG (c2 _) rfl ?_ ?_|refine AE (c2 _) rfl ?_|refine AB (c2 _) rfl ?_ ?_|refine AF (c2 _) rfl rfl ?_|refine AG (c3 _) rfl ?_ ?_|refine AE (c3 _) rfl ?_|refine AB (c3 _) rfl ?_ ?_|refine AF (c3 _) rfl rfl ?_|refine AG (c4 _) rfl ?_ ?_|refine AE (c4 _) rfl ?_|refine AB (c4 _) rfl ?_ ?_|refine AF (c4 _) rfl rfl ?_)<;>try (simp -implicitDefEqProofs only [go_sem,hi',hwi,hl,hwl,hzl,Di,e1]))|(((with_reducible refine AM ?_ ?_)<;>intro _)<;>try (simp -implicitDefEqProofs only [go_sem,hi',hwi,hl,hwl,hzl,Di,e1]))|simp (disch:=omega) only [AC,AH,AK,AJ,AD,AL,AI,AA]|((with_reducible refine AW ?_);refine⟨_,rfl,?_,?_⟩)
         all_goals first|omega|(simp;done)|(simp;omega)|skip
         all_goals first|rfl|skip
        ·have e2:=MU e2
         have e1:=MU e1
         (try (simp -implicitDefEqProofs only [go_sem,hi',hwi,hl,hwl,hzl,e1,e2,hA]));repeat' first|(with_reducible first|exact True.intro|refine And.intro ?_ ?_|intro _)|(((with_reducible refine isCall ?_);first|refine AG (c2 _) rfl ?_ ?_|refine AE (c2 _) rfl ?_|refine AB (c2 _) rfl ?_ ?_|refine AF (c2 _) rfl rfl ?_|refine AG (c3 _) rfl ?_ ?_|refine AE (c3 _) rfl ?_|refine AB (c3 _) rfl ?_ ?_|refine AF (c3 _) rfl rfl ?_|refine AG (c4 _) rfl ?_ ?_|refine AE (c4 _) rfl ?_|refine AB (c4 _) rfl ?_ ?_|refine AF (c4 _) rfl rfl ?_)<;>try (simp -implicitDefEqProofs only [go_sem,hi',hwi,hl,hwl,hzl,e1,e2,hA]))|(((with_reducible refine AM ?_ ?_)<;>intro _)<;>try (simp -implicitDefEqProofs only [go_sem,hi',hwi,hl,hwl,hzl,e1,e2,hA]))|simp (disch:=omega) only [AC,AH,AK,AJ,AD,AL,AI,AA]|((with_reducible refine AW ?_);refine⟨_,rfl,?_,?_⟩)
         all_goals first|omega|(simp;done)|(simp;omega)|skip
         all_goals first|rfl|skip
     ·have hi':¬(i:Int) < (R.length:Int):=by omega
      have hno:∀k,k < e+1→Qg L P w mk k=none:=fun k hk=>by
       rcases Nat.lt_succ_iff_lt_or_eq.1 hk with hk|rfl
       ·exact h2 k hk
       ·rw [hE];exact OZ _ _ fun k hk=>i2 k (by omega)
      (try (simp -implicitDefEqProofs only [go_sem,hi',hwe]));repeat' first|(with_reducible first|exact True.intro|refine And.intro ?_ ?_|intro _)|(((with_reducible refine AM ?_ ?_)<;>intro _)<;>try (simp -implicitDefEqProofs only [go_sem,hi',hwe]))|simp (disch:=omega) only [AC,AH,AK,AJ,AD,AL,AI,AA]|((with_reducible refine AW ?_);refine⟨_,rfl,?_,?_⟩)
      all_goals first|omega|(simp;done)|(simp;omega)|skip
      all_goals first|exact hno|exact hno _ (by assumption)|skip
   ·have h':¬(e:Int)≤(M:Int):=by omega
    rw [R_ h2 (by omega),LX]
    (try (simp -implicitDefEqProofs only [go_sem,h']));repeat' first|(with_reducible first|exact True.intro|refine And.intro ?_ ?_|intro _)|(((with_reducible refine AM ?_ ?_)<;>intro _)<;>try (simp -implicitDefEqProofs only [go_sem,h']))|simp (disch:=omega) only [AC,AH,AK,AJ,AD,AL,AI,AA]|((with_reducible refine AW ?_);refine⟨_,rfl,?_,?_⟩)
    all_goals first|omega|(simp;done)|(simp;omega)|skip
    all_goals first|rfl|skip
end Go.Pw
end
section
open Go Go.Pw Go.Proofs
namespace Go.Pw
set_option linter.unusedSimpArgs false
set_option linter.unusedVariables false
set_option maxRecDepth 100000
set_option maxHeartbeats 3200000
theorem S6 (a n:Nat):List.range' a n++[a+n]=List.range' a (n+1):=by rw [List.range'_concat];simp
theorem TS {w:List F} (h:0 < w.length):¬iv w=[]:=by cases w<;>simp_all [iv]
attribute [local congr] Cf BG BH A0 Cg A5 A7 A6 Az Ar Am Ai A2 An A3 BP BT BR BS BQ BU BM Ap A4 Aq BK Bk Ao BN BO BL BI BJ
attribute [local irreducible] IntKind.wrap A_ Option.getD and or
theorem HL (L P:Nat) (n1:Bool) (d:List F) (hL:L≤15) (hP:1≤P) (hd:d.length+P=L) (hd1:1≤d.length) :
  B5 E0 JP [MB L P,.list n1 (AY (iv d))] (.list false (AY (iv (CS P d)))):=by
 obtain⟨v,hv1,hv2⟩:=WQ hL hd
 have hwl:(d++List.replicate P (0:F)).length=L:=by simp;omega
 have hp:Qz L (List.range' d.length P):=⟨List.nodup_range',fun j hj=>by simp at hj;omega⟩
 have hvl:=(FJ hv1).1
 have c1:=fun b=>IG L P false b (d++List.replicate P 0) (List.range' d.length P) hL (by omega) hP (by omega) hwl hp (by simp)
 rw [hv1,Ja] at c1
 have c2:=fun b=>F5 false b v.isEmpty (d++List.replicate P 0) (List.range' d.length P) v (by omega) (by omega) hvl.symm (fun j hj=>by rw [hwl];exact hp.lt j hj)
 rw [hv2] at c2
 refine AP L6 Af (by simp) fun hwf=>?_
 rw [AR];unfold IJ
 rw [Aj] at c1 ⊢
 have hne:=TS (w:=d) (by omega)
 (try (simp -implicitDefEqProofs only [go_sem,hne,DQ]));repeat' first|(with_reducible first|exact True.intro|refine And.intro ?_ ?_|intro _)|(((with_reducible refine AM ?_ ?_)<;>intro _)<;>try (simp -implicitDefEqProofs only [go_sem,hne,DQ]))|simp (disch:=omega) only [AC,AH,AK,AJ,AD,AL,AI,AA]|((with_reducible refine Aa ?_);refine⟨(_,_),rfl,?_,?_⟩)
 all_goals first|omega|(simp;done)|(simp;omega)|skip
 refine AS (α:=Nat×Bool) (l0:=?l1) (m0:=?m1) (fun x=>[(7,.d (.int .i64 ((d.length+x.1:Nat):Int))),(5,.d (.list false (AY (iv (d++List.replicate P 0)))))]) (fun x=>[(27,.row 3 1 x.2 (AY (ni (List.range' d.length x.1))))]) (fun x=>x.1≤P∧x.2=decide (x.1=0)) (fun x=>P - x.1) (0,true) ?h01 ?he1 ?he21 ?hI1 ?step1
 case h01=>(simp -implicitDefEqProofs only [go_sem];rfl)
 case he1=>rfl
 case he21=>rfl
 case' step1=>(rintro⟨j,b⟩ hI;try dsimp only at hI)
 case' hI1=>try dsimp only
 ·exact⟨Nat.zero_le _,rfl⟩
 ·obtain⟨j1,j2⟩:=hI
  change b=decide (j=0) at j2
  subst j2
  by_cases h:j < P
  ·have h':((d.length+j:Nat):Int) < (L:Int):=by omega
   have hwj:IntKind.i64.wrap (((d.length+j:Nat):Int)+1)=((d.length+(j+1):Nat):Int):=by rw [AC _ (by omega)];omega
   have hk:=S6 d.length j
   (try (simp -implicitDefEqProofs only [go_sem,h',hwj,hk]));repeat' first|(with_reducible first|exact True.intro|refine And.intro ?_ ?_|intro _)|(((with_reducible refine AM ?_ ?_)<;>intro _)<;>try (simp -implicitDefEqProofs only [go_sem,h',hwj,hk]))|simp (disch:=omega) only [AC,AH,AK,AJ,AD,AL,AI,AA]|((with_reducible refine Aa ?_);refine⟨(_,_),rfl,?_,?_⟩)
   all_goals first|omega|(simp;done)|(simp;omega)|skip
   all_goals first|rfl|skip
  ·have h':¬((d.length+j:Nat):Int) < (L:Int):=by omega
   have hje:j=P:=by omega
   subst hje
   have hj0:decide (j=0)=false:=decide_eq_false (by omega)
   rw [hj0]
   (try (simp -implicitDefEqProofs only [go_sem,h']));repeat' first|(with_reducible first|exact True.intro|refine And.intro ?_ ?_|intro _)|(((with_reducible refine isCall ?_);first|refine AG (c1 _) rfl ?_ ?_|refine AE (c1 _) rfl ?_|refine AB (c1 _) rfl ?_ ?_|refine AF (c1 _) rfl rfl ?_|refine AG (c2 _) rfl ?_ ?_|refine AE (c2 _) rfl ?_|refine AB (c2 _) rfl ?_ ?_|refine AF (c2 _) rfl rfl ?_)<;>try (simp -implicitDefEqProofs only [go_sem,h']))|(((with_reducible refine AM ?_ ?_)<;>intro _)<;>try (simp -implicitDefEqProofs only [go_sem,h']))|simp (disch:=omega) only [AC,AH,AK,AJ,AD,AL,AI,AA]|((with_reducible refine Aa ?_);refine⟨(_,_),rfl,?_,?_⟩)
   all_goals first|omega|(simp;done)|(simp;omega)|skip
   all_goals first|rfl|skip
theorem Jq (L P:Int) (n1:Bool) (xs:List Int):B5 E0 Gz [.agg [.int .i64 L,.int .i64 P],.list n1 (AY xs)] (.int .i64 (QU L P xs)):=by
 have c1:=DT L P
 refine AP Js Af (by simp) fun hwf=>?_
 rw [AR];unfold F7 QU
 cases hc:BE L P with
 |false =>
  rw [hc] at c1
  simp only [Bool.false_eq_true,if_false] at c1 ⊢
  (try (simp -implicitDefEqProofs only [go_sem]));repeat' first|(with_reducible first|exact True.intro|refine And.intro ?_ ?_|intro _)|(((with_reducible refine isCall ?_);first|refine AG (c1) rfl ?_ ?_|refine AE (c1) rfl ?_|refine AB (c1) rfl ?_ ?_|refine AF (c1) rfl rfl ?_)<;>try (simp -implicitDefEqProofs only [go_sem]))|(((with_reducible refine AM ?_ ?_)<;>intro _)<;>try (simp -implicitDefEqProofs only [go_sem]))|simp (disch:=omega) only [AC,AH,AK,AJ,AD,AL,AI,AA]
  all_goals first|rfl|(simp;done)|skip
 |true =>
  rw [hc] at c1
  have hb:=C0 hc
  simp only [if_true] at c1 ⊢
  have hw:IntKind.i64.wrap (L - P)=L - P:=AC _ (by omega)
  have c2:=Al n1 xs (L - P)
  cases hs:Au xs (L - P) with
  |false =>
   rw [hs] at c2
   simp only [Bool.false_eq_true,if_false]
   (try (simp -implicitDefEqProofs only [go_sem,hw]));repeat' first|(with_reducible first|exact True.intro|refine And.intro ?_ ?_|intro _)|(((with_reducible refine isCall ?_);first|refine AG (c1) rfl ?_ ?_|refine AE (c1) rfl ?_|refine AB (c1) rfl ?_ ?_|refine AF (c1) rfl rfl ?_|refine AG (c2) rfl ?_ ?_|refine AE (c2) rfl ?_|refine AB (c2) rfl ?_ ?_|refine AF (c2) rfl rfl ?_)<;>try (simp -implicitDefEqProofs only [go_sem,hw]))|(((with_reducible refine AM ?_ ?_)<;>intro _)<;>try (simp -implicitDefEqProofs only [go_sem,hw]))|simp (disch:=omega) only [AC,AH,AK,AJ,AD,AL,AI,AA]
   all_goals first|rfl|(simp;done)|skip
  |true =>
   rw [hs] at c2
   simp only [if_true]
   (try (simp -implicitDefEqProofs only [go_sem,hw]));repeat' first|(with_reducible first|exact True.intro|refine And.intro ?_ ?_|intro _)|(((with_reducible refine isCall ?_);first|refine AG (c1) rfl ?_ ?_|refine AE (c1) rfl ?_|refine AB (c1) rfl ?_ ?_|refine AF (c1) rfl rfl ?_|refine AG (c2) rfl ?_ ?_|refine AE (c2) rfl ?_|refine AB (c2) rfl ?_ ?_|refine AF (c2) rfl rfl ?_)<;>try (simp -implicitDefEqProofs only [go_sem,hw]))|(((with_reducible refine AM ?_ ?_)<;>intro _)<;>try (simp -implicitDefEqProofs only [go_sem,hw]))|simp (disch:=omega) only [AC,AH,AK,AJ,AD,AL,AI,AA]
   all_goals first|rfl|(simp;done)|skip
theorem Lx (L P:Int) (n1:Bool) (xs:List Int):B5 E0 Gc [.agg [.int .i64 L,.int .i64 P],.list n1 (AY xs)] (.tup [.list (QT L P xs).isEmpty (AY (QT L P xs)),.int .i64 (QU L P xs)]):=by
 have c1:=Jq L P n1 xs
 refine AP L8 Af (by simp) fun hwf=>?_
 rw [AR];unfold IL
 unfold QT QU at *
 cases hc:BE L P with
 |false =>
  rw [hc] at c1
  simp only [Bool.false_eq_true,if_false] at c1 ⊢
  (try (simp -implicitDefEqProofs only [go_sem]));repeat' first|(with_reducible first|exact True.intro|refine And.intro ?_ ?_|intro _)|(((with_reducible refine isCall ?_);first|refine AG (c1) rfl ?_ ?_|refine AE (c1) rfl ?_|refine AB (c1) rfl ?_ ?_|refine AF (c1) rfl rfl ?_)<;>try (simp -implicitDefEqProofs only [go_sem]))|(((with_reducible refine AM ?_ ?_)<;>intro _)<;>try (simp -implicitDefEqProofs only [go_sem]))|simp (disch:=omega) only [AC,AH,AK,AJ,AD,AL,AI,AA]
  all_goals first|rfl|(simp;done)|skip
 |true =>
  rw [hc] at c1
  simp only [if_true] at c1 ⊢
  cases hs:Au xs (L - P) with
  |false =>
   rw [hs] at c1
   simp only [Bool.false_eq_true,if_false] at c1 ⊢
   (try (simp -implicitDefEqProofs only [go_sem]));repeat' first|(with_reducible first|exact True.intro|refine And.intro ?_ ?_|intro _)|(((with_reducible refine isCall ?_);first|refine AG (c1) rfl ?_ ?_|refine AE (c1) rfl ?_|refine AB (c1) rfl ?_ ?_|refine AF (c1) rfl rfl ?_)<;>try (simp -implicitDefEqProofs only [go_sem]))|(((with_reducible refine AM ?_ ?_)<;>intro _)<;>try (simp -implicitDefEqProofs only [go_sem]))|simp (disch:=omega) only [AC,AH,AK,AJ,AD,AL,AI,AA]
   all_goals first|rfl|(simp;done)|skip
  |true =>
   rw [hs] at c1
   simp only [if_true] at c1 ⊢
   obtain⟨hl,hf⟩:=C_ hs
   obtain⟨w,hW⟩:∃w,fs xs=w:=⟨_,rfl⟩
   rw [hW] at hf ⊢
   subst hf
   rw [DF] at hl
   obtain⟨l,p,rfl,rfl,b1,b2,b3,b4,b5⟩:=Df hc
   have hwl:w.length+p=l:=by omega
   have c2:=HL l p n1 w b2 b3 hwl (by omega)
   rw [Aj] at c2
   rw [Int.toNat_natCast,Bq (show 0 < (CS p w).length by rw [CD];omega)]
   (try (simp -implicitDefEqProofs only [go_sem]));repeat' first|(with_reducible first|exact True.intro|refine And.intro ?_ ?_|intro _)|(((with_reducible refine isCall ?_);first|refine AG (c1) rfl ?_ ?_|refine AE (c1) rfl ?_|refine AB (c1) rfl ?_ ?_|refine AF (c1) rfl rfl ?_|refine AG (c2) rfl ?_ ?_|refine AE (c2) rfl ?_|refine AB (c2) rfl ?_ ?_|refine AF (c2) rfl rfl ?_)<;>try (simp -implicitDefEqProofs only [go_sem]))|(((with_reducible refine AM ?_ ?_)<;>intro _)<;>try (simp -implicitDefEqProofs only [go_sem]))|simp (disch:=omega) only [AC,AH,AK,AJ,AD,AL,AI,AA]
   all_goals first|rfl|(simp;done)|skip
def fj (L P:Int) (ws ms:List Int):Int:=if BE L P=true then if Au ws L=true then if CY ms L=true then 0 else 1 else 51 else 50
end Go.Pw
end
section
open Go Go.Pw Go.Proofs
namespace Go.Pw
set_option maxRecDepth 100000
def IM:PC :=
 .seq (.reg [] (
  ⟨some 2,none,.box,[.t 0]⟩ ::
  ⟨some 4,none,.mov,[.k (.d (.list true []))]⟩ ::
  []) [1,2])
 (.seq (.reg [] (
  ⟨some 11,none,.faddr 0,[.t 2]⟩ ::
  ⟨some 12,none,.load false 1,[.t 11]⟩ ::
  ⟨some 13,none,.faddr 1,[.t 2]⟩ ::
  ⟨some 14,none,.load false 1,[.t 13]⟩ ::
  ⟨some 15,none,.bin .sub,[.t 12,.t 14]⟩ ::
  ⟨some 5,none,.mov,[.t 15]⟩ ::
  []) [1,2,5])
 (.seq (.seq (.reg [] (
  ⟨some 6,none,.mov,[.k (.d (.int .i64 0))]⟩ ::
  []) [1,2,5,6])
 (.block 0
  (.loop [] [1,2,5,6] [2,900000,900001,901000,901001]
   (.seq (.seq (.reg [] (
    ⟨some 16,none,.mov,[.t 6]⟩ ::
    ⟨some 17,none,.mov,[.t 5]⟩ ::
    ⟨some 18,none,.bin .mul,[.k (.d (.int .i64 64)),.t 17]⟩ ::
    ⟨some 19,none,.bin .lss,[.t 16,.t 18]⟩ ::
    []) [1,2,5,6,19])
   (.cond (.t 19)
    (.skip)
    (.exit 0)))
   (.seq (.block 1
    (.seq (.reg [] (
     ⟨some 22,none,.mov,[.t 5]⟩ ::
     ⟨some 23,none,.mksl 3 1 (.int .i64 0) true,[.t 22,.t 22]⟩ ::
     ⟨some 7,none,.mov,[.t 23]⟩ ::
     []) [1,2,5,6,7])
    (.seq (.seq (.reg [] (
     ⟨some 8,none,.mov,[.k (.d (.int .i64 0))]⟩ ::
     []) [1,2,5,6,7,8])
    (.block 2
     (.loop [] [1,2,5,6,7,8] [2,23,900000,900001,901000,901001]
      (.seq (.seq (.reg [] (
       ⟨some 24,none,.mov,[.t 8]⟩ ::
       ⟨some 25,none,.mov,[.t 5]⟩ ::
       ⟨some 26,none,.bin .lss,[.t 24,.t 25]⟩ ::
       []) [1,2,5,6,7,8,26])
      (.cond (.t 26)
       (.skip)
       (.exit 2)))
      (.seq (.block 3
       (.seq (.reg [] (
        ⟨some 29,none,.mov,[.t 8]⟩ ::
        ⟨some 30,none,.mov,[.t 6]⟩ ::
        ⟨some 31,none,.bin .quo,[.t 30,.k (.d (.int .i64 64))]⟩ ::
        ⟨some 32,none,.bin .leq,[.t 29,.t 31]⟩ ::
        []) [1,2,5,6,7,8,32])
       (.cond (.t 32)
        (.reg [] (
         ⟨some 33,none,.mov,[.t 7]⟩ ::
         ⟨some 34,none,.mov,[.t 8]⟩ ::
         ⟨some 35,none,.mov,[.t 6]⟩ ::
         ⟨some 36,none,.bin .rem,[.t 35,.k (.d (.int .i64 16))]⟩ ::
         ⟨some 37,none,.iaddrS 1,[.t 33,.t 34]⟩ ::
         ⟨none,none,.store 1,[.t 37,.t 36]⟩ ::
         []) [1,2,5,6,7,8])
        (.skip))))
      (.reg [] (
       ⟨some 27,none,.mov,[.t 8]⟩ ::
       ⟨some 28,none,.bin .add,[.t 27,.k (.d (.int .i64 1))]⟩ ::
       ⟨some 8,none,.mov,[.t 28]⟩ ::
       []) [1,2,5,6,7,8]))))))
    (.seq (.reg [] (
     ⟨some 38,none,.mov,[.t 7]⟩ ::
     ⟨some 39,none,.mov,[.t 6]⟩ ::
     ⟨some 40,none,.bin .quo,[.t 39,.k (.d (.int .i64 64))]⟩ ::
     ⟨some 41,none,.mov,[.t 6]⟩ ::
     ⟨some 42,none,.bin .quo,[.t 41,.k (.d (.int .i64 16))]⟩ ::
     ⟨some 43,none,.bin .rem,[.t 42,.k (.d (.int .i64 4))]⟩ ::
     ⟨some 44,none,.bin .add,[.k (.d (.int .i64 1)),.t 43]⟩ ::
     ⟨some 45,none,.iaddrS 1,[.t 38,.t 40]⟩ ::
     ⟨none,none,.store 1,[.t 45,.t 44]⟩ ::
     []) [1,2,5,6,7])
    (.seq (.reg [.freeze 7] (
     ⟨some 47,none,.load true 2,[.t 2]⟩ ::
     ⟨some 48,none,.mov,[.t 7]⟩ ::
     ⟨some 49,none,.call 19,[.t 47,.t 48]⟩ ::
     ⟨some 46,none,.mov,[.t 49]⟩ ::
     ⟨some 50,none,.extract 0,[.t 46]⟩ ::
     ⟨some 51,none,.extract 1,[.t 46]⟩ ::
     ⟨some 9,none,.mov,[.t 50]⟩ ::
     ⟨some 10,none,.mov,[.t 51]⟩ ::
     []) [1,2,5,6,9,10])
    (.seq (.reg [] (
     ⟨some 52,none,.mov,[.t 10]⟩ ::
     ⟨some 53,none,.bin .eql,[.t 52,.k (.d (.int .i64 0))]⟩ ::
     ⟨some 54,none,.mov,[.t 53]⟩ ::
     ⟨some 55,some (54,true),.mov,[.t 9]⟩ ::
     ⟨some 56,some (54,true),.faddr 0,[.t 2]⟩ ::
     ⟨some 57,some (54,true),.load false 1,[.t 56]⟩ ::
     ⟨some 58,some (54,true),.mksl 3 1 (.int .i64 0) true,[.t 57,.t 57]⟩ ::
     ⟨some 59,some (54,true),.call 28,[.t 55,.t 58,.k (.d (.list true []))]⟩ ::
     ⟨some 60,some (54,true),.mov,[.t 1]⟩ ::
     ⟨some 61,some (54,true),.bin .eql,[.t 59,.t 60]⟩ ::
     ⟨some 62,none,.pick,[.t 54,.t 61,.k (.d (.bool false))]⟩ ::
     []) [1,2,5,6,9,62])
    (.cond (.t 62)
     (.seq (.reg [] (
      ⟨some 63,none,.mov,[.t 9]⟩ ::
      ⟨some 4,none,.mov,[.t 63]⟩ ::
      []) [4])
     (.ret))
     (.skip))))))))
   (.reg [] (
    ⟨some 20,none,.mov,[.t 6]⟩ ::
    ⟨some 21,none,.bin .add,[.t 20,.k (.d (.int .i64 1))]⟩ ::
    ⟨some 6,none,.mov,[.t 21]⟩ ::
    []) [1,2,5,6]))))))
 (.seq (.reg [] (
  ⟨some 4,none,.mov,[.k (.d (.list true []))]⟩ ::
  []) [4])
 (.ret))))
theorem L9:Dv E0 KJ IM [.t 4] 64:=AQ (fl:=[]) (by kernel_rfl)
end Go.Pw
end
