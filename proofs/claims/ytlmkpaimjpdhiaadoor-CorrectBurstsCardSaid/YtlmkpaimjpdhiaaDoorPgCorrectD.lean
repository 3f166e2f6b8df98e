/- A part of the proof. -/
import Derived.Test.YtlmkpaimjpdhiaaDoorPgCorrectA
set_option linter.all false
section
open Go Go.Pw Go.Proofs
namespace Go.Pw
set_option linter.unusedSimpArgs false
set_option linter.unusedVariables false
set_option maxRecDepth 100000
set_option maxHeartbeats 3200000
def ni (l:List Nat):List Int:=l.map fun n:Nat=>(n:Int)
theorem Fo (l:List Nat):(ni l).length=l.length:=by simp [ni]
theorem TV (l:List Nat) (i:Nat):(ni l)[i]?.getD 0=((l[i]?.getD 0:Nat):Int):=by
 unfold ni;rw [List.getElem?_map];cases l[i]?<;>rfl
theorem aN (l:List Nat) (n:Nat):ni l++[(n:Int)]=ni (l++[n]):=by simp [ni]
theorem X7 (l k:List Nat):ni l++ni k=ni (l++k):=by simp [ni]
theorem X6 (l:List Nat):(ni l).isEmpty=l.isEmpty:=by cases l<;>rfl
attribute [go_sem] Fo TV aN X7 X6
attribute [local congr] Ch BI BJ A0 Ci A5 A7 A6 Az Ar Am Ai A2 An A3 BR BV BT BU BS BW BO Ap A4 Aq BM Bm Ao BP BQ BN BK BL
attribute [local irreducible] IntKind.wrap A_ Option.getD and or
theorem Ki (nl:Bool) (xs:List Int) (m:Int) (hm:-1000000≤m∧m≤1000000):B7 E0 Hq [.list nl (AY xs),.int .i64 m] (.bool (Ca xs m)):=by
 refine AQ Kq Af (by simp) fun hwf=>?_
 simp only [F8,FR,FQ,En,HD,HC,KD,HB,Cg,C4,C5,FT,Dh,List.length_map,Da,true_and,and_true] at hwf
 rw [AR];unfold Gu
 (try (simp -implicitDefEqProofs only [go_sem]));repeat' first|(with_reducible first|exact True.intro|refine And.intro ?_ ?_|intro _)|(((with_reducible refine AM ?_ ?_)<;>intro _)<;>try (simp -implicitDefEqProofs only [go_sem]))|simp (disch:=omega) only [AC,AH,AK,AJ,AD,AL,AI,AA]|((with_reducible refine AW ?_);refine⟨_,rfl,?_,?_⟩)
 refine AS (α:=Nat) (l0:=?l1) (m0:=?m1) (fun x=>[(5,.d (.int .i64 (x:Int)))]) (fun x=>[]) (fun x=>x≤xs.length∧∀j,j < x→Vy xs m j=true) (fun x=>xs.length - x) 0 ?h01 ?he1 ?he21 ?hI1 ?step1
 case h01=>(simp -implicitDefEqProofs only [go_sem];rfl)
 case he1=>rfl
 case he21=>rfl
 case' step1=>(rintro i hI;try dsimp only at hI)
 case' hI1=>try dsimp only
 ·exact⟨by omega,fun j hj=>absurd hj (by omega)⟩
 ·obtain⟨h1,h2⟩:=hI
  have hwm:IntKind.i64.wrap (m - 1)=m - 1:=AC _ (by omega)
  by_cases h:i < xs.length
  ·have h':(i:Int) < (xs.length:Int):=by omega
   have hw:IntKind.i64.wrap ((i:Int)+1)=((i+1:Nat):Int):=by rw [AC _ (by omega)];omega
   have c1:=DD (xs[i]?.getD 0) 0 (m - 1)
   cases hb:Vy xs m i with
   |true =>
    have hb2:=hb
    unfold Vy at hb2
    simp only [decide_eq_true_eq] at hb2
    obtain⟨k1,k2,k3⟩:=hb2
    rw [decide_eq_true (by omega)] at c1
    by_cases h0:0 < i
    ·have h0':(0:Int) < (i:Int):=by omega
     have k4:=k3 h0
     have q3:¬xs[i]?.getD 0≤xs[i - 1]?.getD 0:=by omega
     have hw2:IntKind.i64.wrap ((i:Int) - 1)=((i - 1:Nat):Int):=by rw [AC _ (by omega)];omega
     (try (simp -implicitDefEqProofs only [go_sem,h',hw,hw2,hwm,h0',q3]));repeat' first|(with_reducible first|exact True.intro|refine And.intro ?_ ?_|intro _)|(((with_reducible refine isCall ?_);first|refine AG (c1) rfl ?_ ?_|refine AE (c1) rfl ?_|refine AB (c1) rfl ?_ ?_|refine AF (c1) rfl rfl ?_)<;>try (simp -implicitDefEqProofs only [go_sem,h',hw,hw2,hwm,h0',q3]))|(((with_reducible refine AM ?_ ?_)<;>intro _)<;>try (simp -implicitDefEqProofs only [go_sem,h',hw,hw2,hwm,h0',q3]))|simp (disch:=omega) only [AC,AH,AK,AJ,AD,AL,AI,AA]|((with_reducible refine AW ?_);refine⟨_,rfl,?_,?_⟩)
     all_goals first|omega|(simp;done)|(simp;omega)|skip
     all_goals first
      |(
        rename_i j hj
        rcases Nat.lt_succ_iff_lt_or_eq.1 hj with hj|rfl
        ·exact h2 j hj
        ·exact hb)
      |(simp at *;done)|(simp at *;omega)|skip
    ·have h0':¬(0:Int) < (i:Int):=by omega
     (try (simp -implicitDefEqProofs only [go_sem,h',hw,hwm,h0']));repeat' first|(with_reducible first|exact True.intro|refine And.intro ?_ ?_|intro _)|(((with_reducible refine isCall ?_);first|refine AG (c1) rfl ?_ ?_|refine AE (c1) rfl ?_|refine AB (c1) rfl ?_ ?_|refine AF (c1) rfl rfl ?_)<;>try (simp -implicitDefEqProofs only [go_sem,h',hw,hwm,h0']))|(((with_reducible refine AM ?_ ?_)<;>intro _)<;>try (simp -implicitDefEqProofs only [go_sem,h',hw,hwm,h0']))|simp (disch:=omega) only [AC,AH,AK,AJ,AD,AL,AI,AA]|((with_reducible refine AW ?_);refine⟨_,rfl,?_,?_⟩)
     all_goals first|omega|(simp;done)|(simp;omega)|skip
     all_goals first
      |(
        rename_i j hj
        rcases Nat.lt_succ_iff_lt_or_eq.1 hj with hj|rfl
        ·exact h2 j hj
        ·exact hb)
      |(simp at *;done)|(simp at *;omega)|skip
   |false =>
    have hs:=Ry h hb
    unfold Vy at hb
    simp only [decide_eq_false_iff_not] at hb
    by_cases q1:0≤xs[i]?.getD 0∧xs[i]?.getD 0≤m - 1
    ·rw [decide_eq_true q1] at c1
     have h0:0 < i:=by
      by_cases h0:0 < i
      ·exact h0
      ·exact absurd ⟨by omega,by omega,fun h=>absurd h h0⟩ hb
     have hw2:IntKind.i64.wrap ((i:Int) - 1)=((i - 1:Nat):Int):=by rw [AC _ (by omega)];omega
     have h0':(0:Int) < (i:Int):=by omega
     have q3:xs[i]?.getD 0≤xs[i - 1]?.getD 0:=by
      by_cases q3:xs[i]?.getD 0≤xs[i - 1]?.getD 0
      ·exact q3
      ·exact absurd ⟨by omega,by omega,fun h=>by omega⟩ hb
     (try (simp -implicitDefEqProofs only [go_sem,h',hw,hw2,hwm,h0',q3,hs]));repeat' first|(with_reducible first|exact True.intro|refine And.intro ?_ ?_|intro _)|(((with_reducible refine isCall ?_);first|refine AG (c1) rfl ?_ ?_|refine AE (c1) rfl ?_|refine AB (c1) rfl ?_ ?_|refine AF (c1) rfl rfl ?_)<;>try (simp -implicitDefEqProofs only [go_sem,h',hw,hw2,hwm,h0',q3,hs]))|(((with_reducible refine AM ?_ ?_)<;>intro _)<;>try (simp -implicitDefEqProofs only [go_sem,h',hw,hw2,hwm,h0',q3,hs]))|simp (disch:=omega) only [AC,AH,AK,AJ,AD,AL,AI,AA]|((with_reducible refine AW ?_);refine⟨_,rfl,?_,?_⟩)
     all_goals first|omega|(simp;done)|(simp;omega)|skip
     all_goals first|(simp at *;done)|(simp at *;omega)|skip
    ·rw [decide_eq_false q1] at c1
     (try (simp -implicitDefEqProofs only [go_sem,h',hw,hwm,hs]));repeat' first|(with_reducible first|exact True.intro|refine And.intro ?_ ?_|intro _)|(((with_reducible refine isCall ?_);first|refine AG (c1) rfl ?_ ?_|refine AE (c1) rfl ?_|refine AB (c1) rfl ?_ ?_|refine AF (c1) rfl rfl ?_)<;>try (simp -implicitDefEqProofs only [go_sem,h',hw,hwm,hs]))|(((with_reducible refine AM ?_ ?_)<;>intro _)<;>try (simp -implicitDefEqProofs only [go_sem,h',hw,hwm,hs]))|simp (disch:=omega) only [AC,AH,AK,AJ,AD,AL,AI,AA]|((with_reducible refine AW ?_);refine⟨_,rfl,?_,?_⟩)
     all_goals first|omega|(simp;done)|(simp;omega)|skip
  ·have h':¬(i:Int) < (xs.length:Int):=by omega
   have hs:Ca xs m=true:=ME fun j hj=>h2 j (by omega)
   (try (simp -implicitDefEqProofs only [go_sem,h',hs]));repeat' first|(with_reducible first|exact True.intro|refine And.intro ?_ ?_|intro _)|(((with_reducible refine AM ?_ ?_)<;>intro _)<;>try (simp -implicitDefEqProofs only [go_sem,h',hs]))|simp (disch:=omega) only [AC,AH,AK,AJ,AD,AL,AI,AA]|((with_reducible refine AW ?_);refine⟨_,rfl,?_,?_⟩)
   all_goals first|omega|(simp;done)|(simp;omega)|skip
theorem LM (nl:Bool) (xs:List Int) (n:Int):B7 E0 OZ [.list nl (AY xs),.int .i64 n] (.bool (Tp xs n)):=by
 refine AQ Qs Af (by simp) fun hwf=>?_
 simp only [F8,FR,FQ,En,HD,HC,KD,HB,Cg,C4,C5,FT,Dh,List.length_map,Da,true_and,and_true] at hwf
 rw [AR];unfold Mh
 (try (simp -implicitDefEqProofs only [go_sem]));repeat' first|(with_reducible first|exact True.intro|refine And.intro ?_ ?_|intro _)|(((with_reducible refine AM ?_ ?_)<;>intro _)<;>try (simp -implicitDefEqProofs only [go_sem]))|simp (disch:=omega) only [AC,AH,AK,AJ,AD,AL,AI,AA]|((with_reducible refine AW ?_);refine⟨_,rfl,?_,?_⟩)
 refine AS (α:=Nat) (l0:=?l2) (m0:=?m2) (fun x=>[(5,.d (.int .i64 (x:Int)))]) (fun x=>[]) (fun x=>x≤xs.length∧∀j,j < x→xs[j]?.getD 0≠n) (fun x=>xs.length - x) 0 ?h02 ?he2 ?he22 ?hI2 ?step2
 case h02=>(simp -implicitDefEqProofs only [go_sem];rfl)
 case he2=>rfl
 case he22=>rfl
 case' step2=>(rintro i hI;try dsimp only at hI)
 case' hI2=>try dsimp only
 ·exact⟨by omega,fun j hj=>absurd hj (by omega)⟩
 ·obtain⟨h1,h2⟩:=hI
  by_cases h:i < xs.length
  ·have h':(i:Int) < (xs.length:Int):=by omega
   have hw:IntKind.i64.wrap ((i:Int)+1)=((i+1:Nat):Int):=by rw [AC _ (by omega)];omega
   by_cases hb:xs[i]?.getD 0=n
   ·have hs:=U0 h hb
    (try (simp -implicitDefEqProofs only [go_sem,h',hw,hb,hs]));repeat' first|(with_reducible first|exact True.intro|refine And.intro ?_ ?_|intro _)|(((with_reducible refine AM ?_ ?_)<;>intro _)<;>try (simp -implicitDefEqProofs only [go_sem,h',hw,hb,hs]))|simp (disch:=omega) only [AC,AH,AK,AJ,AD,AL,AI,AA]|((with_reducible refine AW ?_);refine⟨_,rfl,?_,?_⟩)
    all_goals first|omega|(simp;done)|(simp;omega)|skip
   ·(try (simp -implicitDefEqProofs only [go_sem,h',hw,hb]));repeat' first|(with_reducible first|exact True.intro|refine And.intro ?_ ?_|intro _)|(((with_reducible refine AM ?_ ?_)<;>intro _)<;>try (simp -implicitDefEqProofs only [go_sem,h',hw,hb]))|simp (disch:=omega) only [AC,AH,AK,AJ,AD,AL,AI,AA]|((with_reducible refine AW ?_);refine⟨_,rfl,?_,?_⟩)
    all_goals first|omega|(simp;done)|(simp;omega)|skip
    all_goals first
     |(
      rename_i j hj
      rcases Nat.lt_succ_iff_lt_or_eq.1 hj with hj|rfl
      ·exact h2 j hj
      ·exact hb)
     |skip
  ·have h':¬(i:Int) < (xs.length:Int):=by omega
   have hs:Tp xs n=false:=YN fun j hj=>h2 j (by omega)
   (try (simp -implicitDefEqProofs only [go_sem,h',hs]));repeat' first|(with_reducible first|exact True.intro|refine And.intro ?_ ?_|intro _)|(((with_reducible refine AM ?_ ?_)<;>intro _)<;>try (simp -implicitDefEqProofs only [go_sem,h',hs]))|simp (disch:=omega) only [AC,AH,AK,AJ,AD,AL,AI,AA]|((with_reducible refine AW ?_);refine⟨_,rfl,?_,?_⟩)
   all_goals first|omega|(simp;done)|(simp;omega)|skip
theorem O2 (nl:Bool) (xs:List Int) (n:Int):∃r:Int,(decide (0≤r)=Tp xs n)∧B7 E0 E6 [.list nl (AY xs),.int .i64 n] (.int .i64 r):=by
  obtain⟨r,hr⟩:∃r:Int,r=match xs.findIdx? (fun x=>decide (n=x)) with|some i=>(i:Int)|none=>-1:=⟨_,rfl⟩
  refine⟨r,?_,?_⟩
  · rw [hr]
    cases hf:xs.findIdx? (fun x=>decide (n=x)) with
    |none =>
      rw [List.findIdx?_eq_none_iff] at hf
      rw [YN fun i hi h=>?_]
      · rfl
      · have:=hf (xs[i]?.getD 0) (by rw [List.getElem?_eq_getElem hi];simp)
        simp [h] at this
    |some i =>
      rw [List.findIdx?_eq_some_iff_getElem] at hf
      have:=hf.2.1
      have hx:n=xs[i]'hf.1:=by simpa using this
      rw [U0 hf.1 (by rw [List.getElem?_eq_getElem hf.1,Option.getD_some];exact hx.symm)]
      simp
  · refine AQ HI Af (by simp) fun hwf=>?_
    simp only [F8,FR,FQ,En,HD,HC,KD,HB,Cg,C4,C5,FT,Dh,List.length_map,Da,true_and,and_true] at hwf
    rw [AR];unfold Ea
    (try (simp -implicitDefEqProofs only [go_sem]));repeat' first|(with_reducible first|exact True.intro|refine And.intro ?_ ?_|intro _)|(((with_reducible refine AM ?_ ?_)<;>intro _)<;>try (simp -implicitDefEqProofs only [go_sem]))|simp (disch:=omega) only [AC,AH,AK,AJ,AD,AL,AI,AA]|((with_reducible refine AW ?_);refine⟨_,rfl,?_,?_⟩)
    refine AS (α:=Nat) (l0:=?l3) (m0:=?m3) (fun x=>[(8,.d (.int .i64 (x:Int)))]) (fun x=>[]) (fun x=>x≤xs.length∧∀j,j < x→xs[j]?.getD 0≠n) (fun x=>xs.length - x) 0 ?h03 ?he3 ?he23 ?hI3 ?step3
    case h03=>(simp -implicitDefEqProofs only [go_sem];rfl)
    case he3=>rfl
    case he23=>rfl
    case' step3=>(rintro i hI;try dsimp only at hI)
    case' hI3=>try dsimp only
    · exact⟨by omega,fun j hj=>absurd hj (by omega)⟩
    · obtain⟨h1,h2⟩:=hI
      by_cases h:i < xs.length
      · have h':(i:Int) < (xs.length:Int):=by omega
        have hw:IntKind.i64.wrap ((i:Int)+1)=((i+1:Nat):Int):=by rw [AC _ (by omega)];omega
        by_cases hb:n=xs[i]?.getD 0
        · have hi:r=(i:Int):=by
            rw [hr]
            have:xs.findIdx? (fun x=>decide (n=x))=some i:=by
              rw [List.findIdx?_eq_some_iff_getElem]
              refine⟨h,?_,fun j hj=>?_⟩
              · rw [List.getElem?_eq_getElem h] at hb;simpa using hb
              · have:=h2 j hj
                rw [List.getElem?_eq_getElem (by omega),Option.getD_some] at this
                simpa using fun e=>this e.symm
            rw [this]
          rw [hi]
          have hb1:=hb
          (try (simp -implicitDefEqProofs only [go_sem,h',hw,←hb]));repeat' first|(with_reducible first|exact True.intro|refine And.intro ?_ ?_|intro _)|(((with_reducible refine AM ?_ ?_)<;>intro _)<;>try (simp -implicitDefEqProofs only [go_sem,h',hw,←hb]))|simp (disch:=omega) only [AC,AH,AK,AJ,AD,AL,AI,AA]|((with_reducible refine AW ?_);refine⟨_,rfl,?_,?_⟩)
          all_goals first|omega|(simp;done)|(simp;omega)|skip
        · (try (simp -implicitDefEqProofs only [go_sem,h',hw,hb]));repeat' first|(with_reducible first|exact True.intro|refine And.intro ?_ ?_|intro _)|(((with_reducible refine AM ?_ ?_)<;>intro _)<;>try (simp -implicitDefEqProofs only [go_sem,h',hw,hb]))|simp (disch:=omega) only [AC,AH,AK,AJ,AD,AL,AI,AA]|((with_reducible refine AW ?_);refine⟨_,rfl,?_,?_⟩)
          all_goals first|omega|(simp;done)|(simp;omega)|skip
          all_goals first
            |(
               rename_i j hj
               rcases Nat.lt_succ_iff_lt_or_eq.1 hj with hj|rfl
               · exact h2 j hj
               · exact fun e=>hb e.symm)
            |skip
      · have h':¬(i:Int) < (xs.length:Int):=by omega
        have hi:r=-1:=by
          rw [hr]
          have:xs.findIdx? (fun x=>decide (n=x))=none:=by
            rw [List.findIdx?_eq_none_iff]
            intro x hx
            obtain⟨j,hj,rfl⟩:=List.getElem_of_mem hx
            have:=h2 j (by omega)
            rw [List.getElem?_eq_getElem hj,Option.getD_some] at this
            simpa using fun e=>this e.symm
          rw [this]
        rw [hi]
        (try (simp -implicitDefEqProofs only [go_sem,h']));repeat' first|(with_reducible first|exact True.intro|refine And.intro ?_ ?_|intro _)|(((with_reducible refine AM ?_ ?_)<;>intro _)<;>try (simp -implicitDefEqProofs only [go_sem,h']))|simp (disch:=omega) only [AC,AH,AK,AJ,AD,AL,AI,AA]|((with_reducible refine AW ?_);refine⟨_,rfl,?_,?_⟩)
        all_goals first|omega|(simp;done)|(simp;omega)|skip
theorem MU (nl:Bool) (xs:List Int) (n:Int):B7 E0 EJ [.list nl (AY xs),.int .i64 n] (.bool (Tp xs n)):=by
 refine AQ F2 Af (by simp) fun hwf=>?_
 obtain⟨r,hr,c1⟩:=O2 nl xs n
 rw [AR];unfold D2
 rw [←hr]
 by_cases h:0≤r
 ·(try (simp -implicitDefEqProofs only [go_sem,h]));repeat' first|(with_reducible first|exact True.intro|refine And.intro ?_ ?_|intro _)|(((with_reducible refine isCall ?_);first|refine AG (c1) rfl ?_ ?_|refine AE (c1) rfl ?_|refine AB (c1) rfl ?_ ?_|refine AF (c1) rfl rfl ?_)<;>try (simp -implicitDefEqProofs only [go_sem,h]))|(((with_reducible refine AM ?_ ?_)<;>intro _)<;>try (simp -implicitDefEqProofs only [go_sem,h]))|simp (disch:=omega) only [AC,AH,AK,AJ,AD,AL,AI,AA]
  all_goals first|rfl|(simp at *;done)|(simp [h])
 ·(try (simp -implicitDefEqProofs only [go_sem,h]));repeat' first|(with_reducible first|exact True.intro|refine And.intro ?_ ?_|intro _)|(((with_reducible refine isCall ?_);first|refine AG (c1) rfl ?_ ?_|refine AE (c1) rfl ?_|refine AB (c1) rfl ?_ ?_|refine AF (c1) rfl rfl ?_)<;>try (simp -implicitDefEqProofs only [go_sem,h]))|(((with_reducible refine AM ?_ ?_)<;>intro _)<;>try (simp -implicitDefEqProofs only [go_sem,h]))|simp (disch:=omega) only [AC,AH,AK,AJ,AD,AL,AI,AA]
  all_goals first|rfl|(simp at *;done)|(simp [h])
end Go.Pw
end
section
open Go Go.Pw Go.Proofs
namespace Go.Pw
set_option linter.unusedSimpArgs false
set_option linter.unusedVariables false
set_option maxRecDepth 100000
set_option maxHeartbeats 3200000
theorem LA (w:List F) (i:Nat) (h:i < w.length):w.take i++[w[i]?.getD 0]=w.take (i+1):=by
 rw [List.take_succ,List.getElem?_eq_getElem h];rfl
theorem LZ {α:Type} (w:List α):(w.take w.length).isEmpty=w.isEmpty:=by rw [List.take_length]
theorem Fg {α:Type} (w:List α) (x:α):(w++[x]).isEmpty=false:=by cases w<;>rfl
attribute [local congr] Ch BI BJ A0 Ci A5 A7 A6 Az Ar Am Ai A2 An A3 BR BV BT BU BS BW BO Ap A4 Aq BM Bm Ao BP BQ BN BK BL
attribute [local irreducible] IntKind.wrap A_ Option.getD and or
theorem HP (nl:Bool) (xs:List F) (hl:xs.length≤1000) (hne:0 < xs.length) (hnl:nl=false):Hw E0 Bx [] [.d (.list nl (us xs))] [(7,1,.row 89 1 false (us xs))] (.own 7 1):=by
 subst hnl
 refine DQ C6 Af (by simp) (by simp [Nr,CD,D5]) (by simp [Ek]) fun hwf hwo=>?_
 rw [Ee];unfold Bo
 have hn:¬xs=[]:=by intro h;rw [h] at hne;simp at hne
 (try (simp -implicitDefEqProofs only [go_sem,hn]));repeat' first|(with_reducible first|exact True.intro|refine And.intro ?_ ?_|intro _)|(((with_reducible refine AM ?_ ?_)<;>intro _)<;>try (simp -implicitDefEqProofs only [go_sem,hn]))|simp (disch:=omega) only [AC,AH,AK,AJ,AD,AL,AI,AA]
 all_goals first|omega|rfl
theorem Oj (a:F):B7 E0 DA [.int .i64 (a.val:Int)] (.int .u8 (a.val:Int)):=by
 refine AQ Il Af (by simp) fun hwf=>?_
 rw [AR];unfold FZ
 (try (simp -implicitDefEqProofs only [go_sem,UX]));repeat' first|(with_reducible first|exact True.intro|refine And.intro ?_ ?_|intro _)|(((with_reducible refine AM ?_ ?_)<;>intro _)<;>try (simp -implicitDefEqProofs only [go_sem,UX]))|simp (disch:=omega) only [AC,AH,AK,AJ,AD,AL,AI,AA]
 all_goals rfl
theorem On (a:F):B7 E0 DB [.int .u8 (a.val:Int)] (.int .i64 (a.val:Int)):=by
 refine AQ Im Af (by simp) fun hwf=>?_
 rw [AR];unfold Fa
 (try (simp -implicitDefEqProofs only [go_sem,Py]));repeat' first|(with_reducible first|exact True.intro|refine And.intro ?_ ?_|intro _)|(((with_reducible refine AM ?_ ?_)<;>intro _)<;>try (simp -implicitDefEqProofs only [go_sem,Py]))|simp (disch:=omega) only [AC,AH,AK,AJ,AD,AL,AI,AA]
 all_goals rfl
theorem OG (nl:Bool) (w:List F) (hl:w.length≤1000000):B7 E0 CW [.list nl (AY (iv w)),.fn DA []] (.list w.isEmpty (us w)):=by
 refine AQ D7 Af (by simp) fun hwf=>?_
 rw [AR];unfold CK
 (try (simp -implicitDefEqProofs only [go_sem]));repeat' first|(with_reducible first|exact True.intro|refine And.intro ?_ ?_|intro _)|(((with_reducible refine AM ?_ ?_)<;>intro _)<;>try (simp -implicitDefEqProofs only [go_sem]))|simp (disch:=omega) only [AC,AH,AK,AJ,AD,AL,AI,AA]|((with_reducible refine AU ?_);refine⟨(_,_,_),rfl,?_,?_⟩)
 refine AS (α:=Nat×Bool×(List F)) (l0:=?l1) (m0:=?m1) (fun x=>[(10,.d (.int .i64 (x.1:Int)))]) (fun x=>[(19,.row 89 1 x.2.1 (us x.2.2))]) (fun x=>x.1≤w.length∧x.2.2=w.take x.1∧x.2.1=x.2.2.isEmpty) (fun x=>w.length - x.1) (0,true,[]) ?h01 ?he1 ?he21 ?hI1 ?step1
 case h01=>(simp -implicitDefEqProofs only [go_sem];rfl)
 case he1=>rfl
 case he21=>rfl
 case' step1=>(rintro⟨i,b,l⟩ hI;try dsimp only at hI)
 case' hI1=>try dsimp only
 ·exact⟨by omega,rfl,rfl⟩
 ·obtain⟨h1,h2,h3⟩:=hI
  subst h2 h3
  by_cases h:i < w.length
  ·have h':(i:Int) < (w.length:Int):=by omega
   have hw:IntKind.i64.wrap ((i:Int)+1)=((i+1:Nat):Int):=by rw [AC _ (by omega)];omega
   have c1:=Oj (w[i]?.getD 0)
   have hs:=LA w i h
   (try (simp -implicitDefEqProofs only [go_sem,h',hw,Gb,hs]));repeat' first|(with_reducible first|exact True.intro|refine And.intro ?_ ?_|intro _)|(((with_reducible refine isCall ?_);first|refine AG (c1) rfl ?_ ?_|refine AE (c1) rfl ?_|refine AB (c1) rfl ?_ ?_|refine AF (c1) rfl rfl ?_)<;>try (simp -implicitDefEqProofs only [go_sem,h',hw,Gb,hs]))|(((with_reducible refine AM ?_ ?_)<;>intro _)<;>try (simp -implicitDefEqProofs only [go_sem,h',hw,Gb,hs]))|simp (disch:=omega) only [AC,AH,AK,AJ,AD,AL,AI,AA]|((with_reducible refine AU ?_);refine⟨(_,_,_),rfl,?_,?_⟩)
   all_goals first|omega|(simp;done)|(simp;omega)|skip
   all_goals first|omega|(rw [←hs];exact(Fg _ _).symm)|(simp at *;done)|(simp at *;omega)|skip
  ·have h':¬(i:Int) < (w.length:Int):=by omega
   have hk:i=w.length:=by omega
   subst hk
   (try (simp -implicitDefEqProofs only [go_sem,h',LZ]));repeat' first|(with_reducible first|exact True.intro|refine And.intro ?_ ?_|intro _)|(((with_reducible refine AM ?_ ?_)<;>intro _)<;>try (simp -implicitDefEqProofs only [go_sem,h',LZ]))|simp (disch:=omega) only [AC,AH,AK,AJ,AD,AL,AI,AA]|((with_reducible refine AU ?_);refine⟨(_,_,_),rfl,?_,?_⟩)
   all_goals first|omega|(simp;done)|(simp;omega)|skip
   all_goals first|rfl|skip
theorem OE (nl:Bool) (w:List F) (hl:w.length≤1000000):B7 E0 CX [.list nl (us w),.fn DB []] (.list w.isEmpty (AY (iv w))):=by
 refine AQ D8 Af (by simp) fun hwf=>?_
 rw [AR];unfold CL
 (try (simp -implicitDefEqProofs only [go_sem]));repeat' first|(with_reducible first|exact True.intro|refine And.intro ?_ ?_|intro _)|(((with_reducible refine AM ?_ ?_)<;>intro _)<;>try (simp -implicitDefEqProofs only [go_sem]))|simp (disch:=omega) only [AC,AH,AK,AJ,AD,AL,AI,AA]|((with_reducible refine AU ?_);refine⟨(_,_,_),rfl,?_,?_⟩)
 refine AS (α:=Nat×Bool×(List F)) (l0:=?l2) (m0:=?m2) (fun x=>[(10,.d (.int .i64 (x.1:Int)))]) (fun x=>[(19,.row 3 1 x.2.1 (AY (iv x.2.2)))]) (fun x=>x.1≤w.length∧x.2.2=w.take x.1∧x.2.1=x.2.2.isEmpty) (fun x=>w.length - x.1) (0,true,[]) ?h02 ?he2 ?he22 ?hI2 ?step2
 case h02=>(simp -implicitDefEqProofs only [go_sem];rfl)
 case he2=>rfl
 case he22=>rfl
 case' step2=>(rintro⟨i,b,l⟩ hI;try dsimp only at hI)
 case' hI2=>try dsimp only
 ·exact⟨by omega,rfl,rfl⟩
 ·obtain⟨h1,h2,h3⟩:=hI
  subst h2 h3
  by_cases h:i < w.length
  ·have h':(i:Int) < (w.length:Int):=by omega
   have hw:IntKind.i64.wrap ((i:Int)+1)=((i+1:Nat):Int):=by rw [AC _ (by omega)];omega
   have c1:=On (w[i]?.getD 0)
   have hs:=LA w i h
   (try (simp -implicitDefEqProofs only [go_sem,h',hw,Gc,hs]));repeat' first|(with_reducible first|exact True.intro|refine And.intro ?_ ?_|intro _)|(((with_reducible refine isCall ?_);first|refine AG (c1) rfl ?_ ?_|refine AE (c1) rfl ?_|refine AB (c1) rfl ?_ ?_|refine AF (c1) rfl rfl ?_)<;>try (simp -implicitDefEqProofs only [go_sem,h',hw,Gc,hs]))|(((with_reducible refine AM ?_ ?_)<;>intro _)<;>try (simp -implicitDefEqProofs only [go_sem,h',hw,Gc,hs]))|simp (disch:=omega) only [AC,AH,AK,AJ,AD,AL,AI,AA]|((with_reducible refine AU ?_);refine⟨(_,_,_),rfl,?_,?_⟩)
   all_goals first|omega|(simp;done)|(simp;omega)|skip
   all_goals first|omega|(rw [←hs];exact(Fg _ _).symm)|(simp at *;done)|(simp at *;omega)|skip
  ·have h':¬(i:Int) < (w.length:Int):=by omega
   have hk:i=w.length:=by omega
   subst hk
   (try (simp -implicitDefEqProofs only [go_sem,h',LZ]));repeat' first|(with_reducible first|exact True.intro|refine And.intro ?_ ?_|intro _)|(((with_reducible refine AM ?_ ?_)<;>intro _)<;>try (simp -implicitDefEqProofs only [go_sem,h',LZ]))|simp (disch:=omega) only [AC,AH,AK,AJ,AD,AL,AI,AA]|((with_reducible refine AU ?_);refine⟨(_,_,_),rfl,?_,?_⟩)
   all_goals first|omega|(simp;done)|(simp;omega)|skip
   all_goals first|rfl|skip
theorem Iz (nl:Bool) (w:List F) (hl:w.length≤1000000):B7 E0 G9 [.list nl (AY (iv w))] (.list w.isEmpty (us w)):=by
 refine AQ J4 Af (by simp) fun hwf=>?_
 rw [AR];unfold GD
 have c1:=OG nl w hl
 (try (simp -implicitDefEqProofs only [go_sem]));repeat' first|(with_reducible first|exact True.intro|refine And.intro ?_ ?_|intro _)|(((with_reducible refine isCall ?_);first|refine AG (c1) rfl ?_ ?_|refine AE (c1) rfl ?_|refine AB (c1) rfl ?_ ?_|refine AF (c1) rfl rfl ?_)<;>try (simp -implicitDefEqProofs only [go_sem]))|(((with_reducible refine AM ?_ ?_)<;>intro _)<;>try (simp -implicitDefEqProofs only [go_sem]))|simp (disch:=omega) only [AC,AH,AK,AJ,AD,AL,AI,AA]
 all_goals rfl
theorem JG (nl:Bool) (w:List F) (hl:w.length≤1000000):B7 E0 HA [.list nl (us w)] (.list w.isEmpty (AY (iv w))):=by
 refine AQ J7 Af (by simp) fun hwf=>?_
 rw [AR];unfold GG
 have c1:=OE nl w hl
 (try (simp -implicitDefEqProofs only [go_sem]));repeat' first|(with_reducible first|exact True.intro|refine And.intro ?_ ?_|intro _)|(((with_reducible refine isCall ?_);first|refine AG (c1) rfl ?_ ?_|refine AE (c1) rfl ?_|refine AB (c1) rfl ?_ ?_|refine AF (c1) rfl rfl ?_)<;>try (simp -implicitDefEqProofs only [go_sem]))|(((with_reducible refine AM ?_ ?_)<;>intro _)<;>try (simp -implicitDefEqProofs only [go_sem]))|simp (disch:=omega) only [AC,AH,AK,AJ,AD,AL,AI,AA]
 all_goals rfl
end Go.Pw
end
