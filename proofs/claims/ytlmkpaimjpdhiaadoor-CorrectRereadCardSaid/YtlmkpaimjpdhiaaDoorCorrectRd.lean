/- A part of the proof. -/
import Derived.Test.YtlmkpaimjpdhiaaDoorPgCorrectX
import Derived.Test.YtlmkpaimjpdhiaaDoorCorrectTy
set_option linter.all false
open Go Go.Pw Go.Proofs
namespace Go.Pw
set_option linter.unusedSimpArgs false
set_option linter.unusedVariables false
set_option maxRecDepth 100000
set_option maxHeartbeats 3200000
theorem aQ (l:List (Bool×List Int)):(TW l).length=l.length:=by simp [TW]
theorem X7 (l:List (Bool×List Int)) (r:List Int):TW l++[.list false (AY r)]=TW (l++[(false,r)]):=by simp [TW]
theorem Vm {ls:List (Bool×List Int)} {i:Nat} {A:D→Prop}:Ag (TW ls)[i]? A=(i < ls.length∧A (.list (ls[i]?.getD (true,[])).1 (AY (ls[i]?.getD (true,[])).2))):=by
 unfold TW
 rw [List.getElem?_map]
 by_cases h:i < ls.length
 ·simp [h,Ag]
 ·have:ls[i]?=none:=List.getElem?_eq_none (by omega)
  simp [this,h,Ag]
attribute [go_sem] aQ X7 Vm
noncomputable def Mb (l p:Nat):List (List F)→Option (List F)→Int×List F
 |[],none=>(52,[])
 |[],some w=>(0,w)
 |r :: rs,o=>match Cp l p r [],o with
  |none,o=>Mb l p rs o
  |some w,none=>Mb l p rs (some w)
  |some w,some v=>if v=w then Mb l p rs (some v) else (53,[])
theorem Nc {l p:Nat} {r:List F} {rs:List (List F)} {o:Option (List F)} (h:Cp l p r []=none):Mb l p (r :: rs) o=Mb l p rs o:=by
 conv=>lhs;unfold Mb
 rw [h]
theorem L2 {l p:Nat} {r w:List F} {rs:List (List F)} (h:Cp l p r []=some w):Mb l p (r :: rs) none=Mb l p rs (some w):=by
 conv=>lhs;unfold Mb
 rw [h]
theorem Nb {l p:Nat} {r w:List F} {rs:List (List F)} (h:Cp l p r []=some w):Mb l p (r :: rs) (some w)=Mb l p rs (some w):=by
 conv=>lhs;unfold Mb
 rw [h];simp
theorem PA {l p:Nat} {r w v:List F} {rs:List (List F)} (h:Cp l p r []=some w) (hv:v≠w):Mb l p (r :: rs) (some v)=(53,[]):=by
 conv=>lhs;unfold Mb
 rw [h];simp [hv]
def Q7 (rs:List (Bool×List Int)):List (List F):=rs.map fun r=>fs r.2
theorem Pr (rs:List (Bool×List Int)):(Q7 rs).length=rs.length:=by simp [Q7]
theorem RC (rs:List (Bool×List Int)) (i:Nat) (h:i < rs.length):(Q7 rs).drop i=fs (rs[i]?.getD (true,[])).2 :: (Q7 rs).drop (i+1):=by
 rw [List.drop_eq_getElem_cons (by rw [Pr];exact h)]
 congr 1
 simp [Q7,h]
noncomputable def ZZ (L P:Int) (rs:List (Bool×List Int)):Int :=
 if BE L P=true then if 1≤rs.length∧rs.length≤6 then if (rs.all fun r=>Au r.2 L)=true then (Mb L.toNat P.toNat (Q7 rs) none).1 else 51 else 1 else 50
noncomputable def Ws (L P:Int) (rs:List (Bool×List Int)):List Int :=
 if BE L P=true then if 1≤rs.length∧rs.length≤6 then if (rs.all fun r=>Au r.2 L)=true then iv (Mb L.toNat P.toNat (Q7 rs) none).2 else [] else [] else []
theorem Nj {rs:List (Bool×List Int)} {p:List Int→Bool} (h:(rs.all fun r=>p r.2)=true) {i:Nat} (hi:i < rs.length):p (rs[i]?.getD (true,[])).2=true:=by
 rw [List.getElem?_eq_getElem hi]
 exact(List.all_eq_true.1 h) _ (List.getElem_mem hi)
theorem Uh {rs:List (Bool×List Int)} {p:List Int→Bool} {i:Nat} (hi:i < rs.length) (h:p (rs[i]?.getD (true,[])).2=false):(rs.all fun r=>p r.2)=false:=by
 cases hc:rs.all fun r=>p r.2 with
 |false=>rfl
 |true=>rw [Nj hc hi] at h;cases h
theorem Ug {rs:List (Bool×List Int)} {p:List Int→Bool} (h:∀i,i < rs.length→p (rs[i]?.getD (true,[])).2=true):(rs.all fun r=>p r.2)=true:=by
 rw [List.all_eq_true]
 intro r hr
 obtain⟨i,hi,rfl⟩:=List.getElem_of_mem hr
 have:=h i hi
 rwa [List.getElem?_eq_getElem hi] at this
def eu (b:Bool) (v:List F):Option (List F):=if b then none else some v
theorem Ul (v:List F):eu true v=none:=rfl
theorem Um (v:List F):eu false v=some v:=rfl
theorem dif_pos {L:Nat} {a b:List F} (ha:a.length=L) (hb:b.length=L) (h:a≠b):0 < (Em L a b []).length:=by
 rcases Nat.eq_zero_or_pos (Em L a b []).length with h0|h0
 ·exact absurd (Kk (by omega) fun j hj=>Jt (mk:=[]) ha hb (by rw [List.eq_nil_of_length_eq_zero h0];simp)) h
 ·exact h0
attribute [local congr] Ch BG BH A0 Ci A5 A7 A6 Az Ar Am Ai A2 An A3 BP BT BR BS BQ BU BM Ap A4 Aq BK Bk Ao BN BO BL BI BJ
attribute [local irreducible] IntKind.wrap A_ Option.getD and or
theorem Oy (n1 n2:Bool) (a b:List F) (hl:a.length≤1000000):B7 E0 Bw [.list n1 (us a),.list n2 (us b)] (.bool (decide (a=b))):=by
 refine AP C5 Af (by simp) fun hwf=>?_
 rw [AR];unfold Bm
 by_cases hl2:(a.length:Int)=(b.length:Int)
 ·(try (simp -implicitDefEqProofs only [go_sem,eq_true hl2]));repeat' first|(with_reducible first|exact True.intro|refine And.intro ?_ ?_|intro _)|(((with_reducible refine AM ?_ ?_)<;>intro _)<;>try (simp -implicitDefEqProofs only [go_sem,eq_true hl2]))|simp (disch:=omega) only [AC,AH,AK,AJ,AD,AL,AI,AA]|((with_reducible refine AW ?_);refine⟨_,rfl,?_,?_⟩)
  all_goals first|omega|(simp;done)|(simp;omega)|skip
  refine AS (α:=Nat) (l0:=?l1) (m0:=?m1) (fun x=>[(13,.d (.int .i64 (x:Int)))]) (fun x=>[]) (fun x=>x≤a.length∧∀j,j < x→a[j]?.getD 0=b[j]?.getD 0) (fun x=>a.length - x) 0 ?h01 ?he1 ?he21 ?hI1 ?step1
  case h01=>(simp -implicitDefEqProofs only [go_sem];rfl)
  case he1=>rfl
  case he21=>rfl
  case' step1=>(rintro i hI;try dsimp only at hI)
  case' hI1=>try dsimp only
  ·exact⟨Nat.zero_le _,fun j hj=>absurd hj (by omega)⟩
  ·obtain⟨q1,q2⟩:=hI
   by_cases hi:i < a.length
   ·have hi':(i:Int) < (b.length:Int):=by omega
    have hib:i < b.length:=by omega
    have w1:IntKind.i64.wrap ((i:Int)+1)=((i+1:Nat):Int):=by rw [AC _ (by omega)];omega
    by_cases he:a[i]?.getD 0=b[i]?.getD 0
    ·have hn:∀j,j < i+1→a[j]?.getD 0=b[j]?.getD 0:=fun j hj=>by
      rcases Nat.lt_succ_iff_lt_or_eq.1 hj with h1|rfl
      ·exact q2 j h1
      ·exact he
     (try (simp -implicitDefEqProofs only [go_sem,hi,hi',hib,w1,he,hl2]));repeat' first|(with_reducible first|exact True.intro|refine And.intro ?_ ?_|intro _)|(((with_reducible refine AM ?_ ?_)<;>intro _)<;>try (simp -implicitDefEqProofs only [go_sem,hi,hi',hib,w1,he,hl2]))|simp (disch:=omega) only [AC,AH,AK,AJ,AD,AL,AI,AA]|((with_reducible refine AW ?_);refine⟨_,rfl,?_,?_⟩)
     all_goals first|omega|(simp;done)|(simp;omega)|skip
     all_goals first|exact hn|exact hn _ (by assumption)|skip
    ·have hne:¬a=b:=fun h=>he (by rw [h])
     have hv:¬(((a[i]?.getD 0).val:Nat):Int)=(((b[i]?.getD 0).val:Nat):Int):=by rw [Sr];exact he
     rw [decide_eq_false hne]
     (try (simp -implicitDefEqProofs only [go_sem,hi,hi',hib,w1,hv,hl2]));repeat' first|(with_reducible first|exact True.intro|refine And.intro ?_ ?_|intro _)|(((with_reducible refine AM ?_ ?_)<;>intro _)<;>try (simp -implicitDefEqProofs only [go_sem,hi,hi',hib,w1,hv,hl2]))|simp (disch:=omega) only [AC,AH,AK,AJ,AD,AL,AI,AA]|((with_reducible refine AW ?_);refine⟨_,rfl,?_,?_⟩)
     all_goals first|omega|(simp;done)|(simp;omega)|skip
   ·have hi':¬(i:Int) < (b.length:Int):=by omega
    have he:a=b:=Kk (by omega) fun j hj=>q2 j (by omega)
    rw [decide_eq_true he]
    (try (simp -implicitDefEqProofs only [go_sem,hi',hl2]));repeat' first|(with_reducible first|exact True.intro|refine And.intro ?_ ?_|intro _)|(((with_reducible refine AM ?_ ?_)<;>intro _)<;>try (simp -implicitDefEqProofs only [go_sem,hi',hl2]))|simp (disch:=omega) only [AC,AH,AK,AJ,AD,AL,AI,AA]|((with_reducible refine AW ?_);refine⟨_,rfl,?_,?_⟩)
    all_goals first|omega|(simp;done)|(simp;omega)|skip
 ·have hne:¬a=b:=fun h=>hl2 (by rw [h])
  rw [decide_eq_false hne]
  (try (simp -implicitDefEqProofs only [go_sem,hl2]));repeat' first|(with_reducible first|exact True.intro|refine And.intro ?_ ?_|intro _)|(((with_reducible refine AM ?_ ?_)<;>intro _)<;>try (simp -implicitDefEqProofs only [go_sem,hl2]))|simp (disch:=omega) only [AC,AH,AK,AJ,AD,AL,AI,AA]|((with_reducible refine AW ?_);refine⟨_,rfl,?_,?_⟩)
  all_goals first|omega|(simp;done)|(simp;omega)|skip
theorem GV (L P:Int) (nl:Bool) (rs:List (Bool×List Int)):B7 E0 FP [.agg [.int .i64 L,.int .i64 P],.list nl (TW rs)] (.tup [.list (Ws L P rs).isEmpty (AY (Ws L P rs)),.int .i64 (ZZ L P rs)]):=by
 have c1:=CN L P
 refine AP Kq Af (by simp) fun hwf=>?_
 rw [AR];unfold Gx Ws ZZ
 cases hc:BE L P with
 |false =>
  rw [hc] at c1
  simp only [Bool.false_eq_true,if_false] at c1 ⊢
  (try (simp -implicitDefEqProofs only [go_sem]));repeat' first|(with_reducible first|exact True.intro|refine And.intro ?_ ?_|intro _)|(((with_reducible refine isCall ?_);first|refine AG (c1) rfl ?_ ?_|refine AE (c1) rfl ?_|refine AB (c1) rfl ?_ ?_|refine AF (c1) rfl rfl ?_)<;>try (simp -implicitDefEqProofs only [go_sem]))|(((with_reducible refine AM ?_ ?_)<;>intro _)<;>try (simp -implicitDefEqProofs only [go_sem]))|simp (disch:=omega) only [AC,AH,AK,AJ,AD,AL,AI,AA]|((with_reducible refine AU ?_);refine⟨(_,_,_),rfl,?_,?_⟩)|((with_reducible refine AW ?_);refine⟨_,rfl,?_,?_⟩)
  all_goals first|rfl|(simp;done)|skip
 |true =>
  rw [hc] at c1
  simp only [if_true] at c1 ⊢
  by_cases hn:1≤rs.length∧rs.length≤6
  ·have n1:¬(rs.length:Int) < 1:=by omega
   have n2:¬6 < (rs.length:Int):=by omega
   rw [if_pos hn,if_pos hn]
   obtain⟨l,p,rfl,rfl,b1,b2,b3,b4,b5⟩:=Di hc
   simp only [Int.toNat_natCast]
   (try (simp -implicitDefEqProofs only [go_sem,n1,n2]));repeat' first|(with_reducible first|exact True.intro|refine And.intro ?_ ?_|intro _)|(((with_reducible refine isCall ?_);first|refine AG (c1) rfl ?_ ?_|refine AE (c1) rfl ?_|refine AB (c1) rfl ?_ ?_|refine AF (c1) rfl rfl ?_)<;>try (simp -implicitDefEqProofs only [go_sem,n1,n2]))|(((with_reducible refine AM ?_ ?_)<;>intro _)<;>try (simp -implicitDefEqProofs only [go_sem,n1,n2]))|simp (disch:=omega) only [AC,AH,AK,AJ,AD,AL,AI,AA]|((with_reducible refine AU ?_);refine⟨(_,_,_),rfl,?_,?_⟩)|((with_reducible refine AW ?_);refine⟨_,rfl,?_,?_⟩)
   all_goals first|omega|(simp;done)|(simp;omega)|skip
   refine AS (α:=Nat) (l0:=?l2) (m0:=?m2) (fun x=>[(29,.d (.int .i64 (x:Int)))]) (fun x=>[]) (fun x=>x≤rs.length∧∀k,k < x→Au (rs[k]?.getD (true,[])).2 l=true) (fun x=>rs.length - x) 0 ?h02 ?he2 ?he22 ?hI2 ?step2
   case h02=>(simp -implicitDefEqProofs only [go_sem];rfl)
   case he2=>rfl
   case he22=>rfl
   case' step2=>(rintro i hI;try dsimp only at hI)
   case' hI2=>try dsimp only
   ·exact⟨Nat.zero_le _,fun k hk=>absurd hk (by omega)⟩
   ·obtain⟨q1,q2⟩:=hI
    by_cases hi:i < rs.length
    ·have hi':(i:Int) < (rs.length:Int):=by omega
     have w1:IntKind.i64.wrap ((i:Int)+1)=((i+1:Nat):Int):=by rw [AC _ (by omega)];omega
     have c2:=EU (rs[i]?.getD (true,[])).1 (rs[i]?.getD (true,[])).2 l
     have hall:=@Uh rs (fun x=>Au x l) i hi
     cases hs:Au (rs[i]?.getD (true,[])).2 l with
     |false =>
      rw [hs] at c2
      rw [hall hs]
      simp only [Bool.false_eq_true,if_false]
      (try (simp -implicitDefEqProofs only [go_sem,hi',w1,hi]));repeat' first|(with_reducible first|exact True.intro|refine And.intro ?_ ?_|intro _)|(((with_reducible refine isCall ?_);first|refine AG (c2) rfl ?_ ?_|refine AE (c2) rfl ?_|refine AB (c2) rfl ?_ ?_|refine AF (c2) rfl rfl ?_)<;>try (simp -implicitDefEqProofs only [go_sem,hi',w1,hi]))|(((with_reducible refine AM ?_ ?_)<;>intro _)<;>try (simp -implicitDefEqProofs only [go_sem,hi',w1,hi]))|simp (disch:=omega) only [AC,AH,AK,AJ,AD,AL,AI,AA]|((with_reducible refine AU ?_);refine⟨(_,_,_),rfl,?_,?_⟩)|((with_reducible refine AW ?_);refine⟨_,rfl,?_,?_⟩)
      all_goals first|omega|(simp;done)|(simp;omega)|skip
      all_goals first|rfl|(simp;done)|skip
     |true =>
      rw [hs] at c2
      have hn2:∀k,k < i+1→Au (rs[k]?.getD (true,[])).2 l=true:=fun j hj=>by
       rcases Nat.lt_succ_iff_lt_or_eq.1 hj with h1|rfl
       ·exact q2 j h1
       ·exact hs
      (try (simp -implicitDefEqProofs only [go_sem,hi',w1,hi]));repeat' first|(with_reducible first|exact True.intro|refine And.intro ?_ ?_|intro _)|(((with_reducible refine isCall ?_);first|refine AG (c2) rfl ?_ ?_|refine AE (c2) rfl ?_|refine AB (c2) rfl ?_ ?_|refine AF (c2) rfl rfl ?_)<;>try (simp -implicitDefEqProofs only [go_sem,hi',w1,hi]))|(((with_reducible refine AM ?_ ?_)<;>intro _)<;>try (simp -implicitDefEqProofs only [go_sem,hi',w1,hi]))|simp (disch:=omega) only [AC,AH,AK,AJ,AD,AL,AI,AA]|((with_reducible refine AU ?_);refine⟨(_,_,_),rfl,?_,?_⟩)|((with_reducible refine AW ?_);refine⟨_,rfl,?_,?_⟩)
      all_goals first|omega|(simp;done)|(simp;omega)|skip
      all_goals first|exact hn2|exact hn2 _ (by assumption)|skip
    ·have hi':¬(i:Int) < (rs.length:Int):=by omega
     have hall:(rs.all fun r=>Au r.2 l)=true:=Ug (p:=fun x=>Au x l) fun k hk=>q2 k (by omega)
     rw [hall]
     simp only [if_true]
     obtain⟨Z,hZ⟩:∃Z,Mb l p (Q7 rs) none=Z:=⟨_,rfl⟩
     rw [hZ]
     (try (simp -implicitDefEqProofs only [go_sem,hi']));repeat' first|(with_reducible first|exact True.intro|refine And.intro ?_ ?_|intro _)|(((with_reducible refine AM ?_ ?_)<;>intro _)<;>try (simp -implicitDefEqProofs only [go_sem,hi']))|simp (disch:=omega) only [AC,AH,AK,AJ,AD,AL,AI,AA]|((with_reducible refine AU ?_);refine⟨(_,_,_),rfl,?_,?_⟩)|((with_reducible refine AW ?_);refine⟨_,rfl,?_,?_⟩)
     all_goals first|omega|(simp;done)|(simp;omega)|skip
     refine AS (α:=Nat×Bool×(List F)) (l0:=?l3) (m0:=?m3) (fun x=>[(41,.d (.int .i64 (x.1:Int))),(9,.d (.list x.2.1 (us x.2.2)))]) (fun x=>[]) (fun x=>x.1≤rs.length∧(x.2.1=false→x.2.2.length=l)∧Mb l p ((Q7 rs).drop x.1) (eu x.2.1 x.2.2)=Z) (fun x=>rs.length - x.1) (0,true,[]) ?h03 ?he3 ?he23 ?hI3 ?step3
     case h03=>(simp -implicitDefEqProofs only [go_sem];rfl)
     case he3=>rfl
     case he23=>rfl
     case' step3=>(rintro⟨i,b,v⟩ hI2;try dsimp only at hI2)
     case' hI3=>try dsimp only
     ·exact⟨Nat.zero_le _,(fun h=>by cases h),hZ⟩
     ·obtain⟨r1,r2,r3⟩:=hI2
      by_cases hi2:i < rs.length
      ·have hi2':(i:Int) < (rs.length:Int):=by omega
       have w1:IntKind.i64.wrap ((i:Int)+1)=((i+1:Nat):Int):=by rw [AC _ (by omega)];omega
       have hdr:=RC rs i hi2
       obtain⟨hl,hf⟩:=DC (Nj (p:=fun x=>Au x l) hall hi2)
       obtain⟨r,hr⟩:∃r,rs[i]?.getD (true,[])=r:=⟨_,rfl⟩
       rw [hr] at hl hf hdr
       obtain⟨w,hW⟩:∃w,fs r.2=w:=⟨_,rfl⟩
       rw [hW] at hf hdr
       rw [hdr] at r3
       have hwl:w.length=l:=by rw [←hf,DI] at hl;omega
       have c3:=Iy r.1 w (by omega)
       rw [Gt (show 0 < w.length by omega),hf] at c3
       have c4:=EX l p false true w [] b2 (by omega) b3 (by omega) hwl (Ez l) (by simp) rfl
       rw [Aj] at c4
       replace c4:B7 E0 Dp [.agg [.int .i64 (l:Int),.int .i64 (p:Int)],.list false (us w),.list true []] (bE (Cp l p w [])):=c4
       obtain⟨O,hO⟩:∃O,Cp l p w []=O:=⟨_,rfl⟩
       rw [hO] at c4
       cases O with
       |none =>
        rw [Jv] at c4
        rw [Nc hO] at r3
        (try (simp -implicitDefEqProofs only [go_sem,hi2',hi2,w1,hr]));repeat' first|(with_reducible first|exact True.intro|refine And.intro ?_ ?_|intro _)|(((with_reducible refine isCall ?_);first|refine AG (c3) rfl ?_ ?_|refine AE (c3) rfl ?_|refine AB (c3) rfl ?_ ?_|refine AF (c3) rfl rfl ?_|refine AG (c4) rfl ?_ ?_|refine AE (c4) rfl ?_|refine AB (c4) rfl ?_ ?_|refine AF (c4) rfl rfl ?_)<;>try (simp -implicitDefEqProofs only [go_sem,hi2',hi2,w1,hr]))|(((with_reducible refine AM ?_ ?_)<;>intro _)<;>try (simp -implicitDefEqProofs only [go_sem,hi2',hi2,w1,hr]))|simp (disch:=omega) only [AC,AH,AK,AJ,AD,AL,AI,AA]|((with_reducible refine AU ?_);refine⟨(_,_,_),rfl,?_,?_⟩)|((with_reducible refine AW ?_);refine⟨_,rfl,?_,?_⟩)
        all_goals first|omega|(simp;done)|(simp;omega)|skip
        all_goals first|exact⟨r2,r3⟩|exact r3|exact r2|(apply r2;assumption)|skip
       |some z =>
        rw [Ju] at c4
        have hzl:=(E4 hwl (Ez l) hO).2.1
        cases b with
        |true =>
         rw [Ul,L2 hO] at r3
         (try (simp -implicitDefEqProofs only [go_sem,hi2',hi2,w1,hr]));repeat' first|(with_reducible first|exact True.intro|refine And.intro ?_ ?_|intro _)|(((with_reducible refine isCall ?_);first|refine AG (c3) rfl ?_ ?_|refine AE (c3) rfl ?_|refine AB (c3) rfl ?_ ?_|refine AF (c3) rfl rfl ?_|refine AG (c4) rfl ?_ ?_|refine AE (c4) rfl ?_|refine AB (c4) rfl ?_ ?_|refine AF (c4) rfl rfl ?_)<;>try (simp -implicitDefEqProofs only [go_sem,hi2',hi2,w1,hr]))|(((with_reducible refine AM ?_ ?_)<;>intro _)<;>try (simp -implicitDefEqProofs only [go_sem,hi2',hi2,w1,hr]))|simp (disch:=omega) only [AC,AH,AK,AJ,AD,AL,AI,AA]|((with_reducible refine AU ?_);refine⟨(_,_,_),rfl,?_,?_⟩)|((with_reducible refine AW ?_);refine⟨_,rfl,?_,?_⟩)
         all_goals first|omega|(simp;done)|(simp;omega)|skip
         all_goals first|exact⟨fun _=>hzl,r3⟩|exact⟨hzl,r3⟩|exact r3|skip
        |false =>
         have hvl:=r2 rfl
         have c5:=Oy false false v z (by omega)
         rw [Um] at r3
         by_cases hvz:v=z
         ·subst hvz
          rw [Nb hO] at r3
          rw [decide_eq_true rfl] at c5
          (try (simp -implicitDefEqProofs only [go_sem,hi2',hi2,w1,hr]));repeat' first|(with_reducible first|exact True.intro|refine And.intro ?_ ?_|intro _)|(((with_reducible refine isCall ?_);first|refine AG (c3) rfl ?_ ?_|refine AE (c3) rfl ?_|refine AB (c3) rfl ?_ ?_|refine AF (c3) rfl rfl ?_|refine AG (c4) rfl ?_ ?_|refine AE (c4) rfl ?_|refine AB (c4) rfl ?_ ?_|refine AF (c4) rfl rfl ?_|refine AG (c5) rfl ?_ ?_|refine AE (c5) rfl ?_|refine AB (c5) rfl ?_ ?_|refine AF (c5) rfl rfl ?_)<;>try (simp -implicitDefEqProofs only [go_sem,hi2',hi2,w1,hr]))|(((with_reducible refine AM ?_ ?_)<;>intro _)<;>try (simp -implicitDefEqProofs only [go_sem,hi2',hi2,w1,hr]))|simp (disch:=omega) only [AC,AH,AK,AJ,AD,AL,AI,AA]|((with_reducible refine AU ?_);refine⟨(_,_,_),rfl,?_,?_⟩)|((with_reducible refine AW ?_);refine⟨_,rfl,?_,?_⟩)
          all_goals first|omega|(simp;done)|(simp;omega)|skip
          all_goals first|exact⟨fun _=>hzl,r3⟩|exact⟨hzl,r3⟩|exact r3|skip
         ·rw [PA hO hvz] at r3
          rw [decide_eq_false hvz] at c5
          rw [←r3]
          (try (simp -implicitDefEqProofs only [go_sem,hi2',hi2,w1,hr]));repeat' first|(with_reducible first|exact True.intro|refine And.intro ?_ ?_|intro _)|(((with_reducible refine isCall ?_);first|refine AG (c3) rfl ?_ ?_|refine AE (c3) rfl ?_|refine AB (c3) rfl ?_ ?_|refine AF (c3) rfl rfl ?_|refine AG (c4) rfl ?_ ?_|refine AE (c4) rfl ?_|refine AB (c4) rfl ?_ ?_|refine AF (c4) rfl rfl ?_|refine AG (c5) rfl ?_ ?_|refine AE (c5) rfl ?_|refine AB (c5) rfl ?_ ?_|refine AF (c5) rfl rfl ?_)<;>try (simp -implicitDefEqProofs only [go_sem,hi2',hi2,w1,hr]))|(((with_reducible refine AM ?_ ?_)<;>intro _)<;>try (simp -implicitDefEqProofs only [go_sem,hi2',hi2,w1,hr]))|simp (disch:=omega) only [AC,AH,AK,AJ,AD,AL,AI,AA]|((with_reducible refine AU ?_);refine⟨(_,_,_),rfl,?_,?_⟩)|((with_reducible refine AW ?_);refine⟨_,rfl,?_,?_⟩)
          all_goals first|omega|(simp;done)|(simp;omega)|skip
          all_goals first|rfl|skip
      ·have hi2':¬(i:Int) < (rs.length:Int):=by omega
       have hde:(Q7 rs).drop i=[]:=List.drop_eq_nil_of_le (by rw [Pr];omega)
       rw [hde] at r3
       cases b with
       |true =>
        rw [Ul] at r3
        rw [←r3]
        (try (simp -implicitDefEqProofs only [go_sem,hi2']));repeat' first|(with_reducible first|exact True.intro|refine And.intro ?_ ?_|intro _)|(((with_reducible refine AM ?_ ?_)<;>intro _)<;>try (simp -implicitDefEqProofs only [go_sem,hi2']))|simp (disch:=omega) only [AC,AH,AK,AJ,AD,AL,AI,AA]|((with_reducible refine AU ?_);refine⟨(_,_,_),rfl,?_,?_⟩)|((with_reducible refine AW ?_);refine⟨_,rfl,?_,?_⟩)
        all_goals first|omega|(simp;done)|(simp;omega)|skip
        all_goals first|rfl|skip
       |false =>
        have hvl:=r2 rfl
        rw [Um] at r3
        rw [←r3]
        have c6:=JE false v (by omega)
        rw [Gt (show 0 < v.length by omega)] at c6
        have hemp:=Br (show 0 < v.length by omega)
        have hrr:Mb l p [] (some v)=(0,v):=rfl
        rw [hrr]
        dsimp only
        rw [hemp]
        (try (simp -implicitDefEqProofs only [go_sem,hi2']));repeat' first|(with_reducible first|exact True.intro|refine And.intro ?_ ?_|intro _)|(((with_reducible refine isCall ?_);first|refine AG (c6) rfl ?_ ?_|refine AE (c6) rfl ?_|refine AB (c6) rfl ?_ ?_|refine AF (c6) rfl rfl ?_)<;>try (simp -implicitDefEqProofs only [go_sem,hi2']))|(((with_reducible refine AM ?_ ?_)<;>intro _)<;>try (simp -implicitDefEqProofs only [go_sem,hi2']))|simp (disch:=omega) only [AC,AH,AK,AJ,AD,AL,AI,AA]|((with_reducible refine AU ?_);refine⟨(_,_,_),rfl,?_,?_⟩)|((with_reducible refine AW ?_);refine⟨_,rfl,?_,?_⟩)
        all_goals first|omega|(simp;done)|(simp;omega)|skip
        all_goals first|rfl|skip
  ·rw [if_neg hn,if_neg hn]
   by_cases n1:(rs.length:Int) < 1
   ·(try (simp -implicitDefEqProofs only [go_sem,n1]));repeat' first|(with_reducible first|exact True.intro|refine And.intro ?_ ?_|intro _)|(((with_reducible refine isCall ?_);first|refine AG (c1) rfl ?_ ?_|refine AE (c1) rfl ?_|refine AB (c1) rfl ?_ ?_|refine AF (c1) rfl rfl ?_)<;>try (simp -implicitDefEqProofs only [go_sem,n1]))|(((with_reducible refine AM ?_ ?_)<;>intro _)<;>try (simp -implicitDefEqProofs only [go_sem,n1]))|simp (disch:=omega) only [AC,AH,AK,AJ,AD,AL,AI,AA]|((with_reducible refine AU ?_);refine⟨(_,_,_),rfl,?_,?_⟩)|((with_reducible refine AW ?_);refine⟨_,rfl,?_,?_⟩)
    all_goals first|rfl|(simp;done)|skip
   ·have n2:6 < (rs.length:Int):=by omega
    (try (simp -implicitDefEqProofs only [go_sem,n1,n2]));repeat' first|(with_reducible first|exact True.intro|refine And.intro ?_ ?_|intro _)|(((with_reducible refine isCall ?_);first|refine AG (c1) rfl ?_ ?_|refine AE (c1) rfl ?_|refine AB (c1) rfl ?_ ?_|refine AF (c1) rfl rfl ?_)<;>try (simp -implicitDefEqProofs only [go_sem,n1,n2]))|(((with_reducible refine AM ?_ ?_)<;>intro _)<;>try (simp -implicitDefEqProofs only [go_sem,n1,n2]))|simp (disch:=omega) only [AC,AH,AK,AJ,AD,AL,AI,AA]|((with_reducible refine AU ?_);refine⟨(_,_,_),rfl,?_,?_⟩)|((with_reducible refine AW ?_);refine⟨_,rfl,?_,?_⟩)
    all_goals first|rfl|(simp;done)|skip
def fM (L P:Int) (rs:List (Bool×List Int)):Int:=if BE L P=true then if 1≤rs.length∧rs.length≤6 then if (rs.all fun r=>Au r.2 L)=true then 0 else 51 else 1 else 50
theorem I5 (L P:Int) (nl:Bool) (rs:List (Bool×List Int)):B7 E0 Gj [.agg [.int .i64 L,.int .i64 P],.list nl (TW rs)] (.int .i64 (fM L P rs)):=by
 have c1:=DW L P
 have c2:=DD rs.length 1 6
 refine AP JR Af (by simp) fun hwf=>?_
 rw [AR];unfold Fu fM
 cases hc:BE L P with
 |false =>
  rw [hc] at c1
  simp only [Bool.false_eq_true,if_false] at c1 ⊢
  (try (simp -implicitDefEqProofs only [go_sem]));repeat' first|(with_reducible first|exact True.intro|refine And.intro ?_ ?_|intro _)|(((with_reducible refine isCall ?_);first|refine AG (c1) rfl ?_ ?_|refine AE (c1) rfl ?_|refine AB (c1) rfl ?_ ?_|refine AF (c1) rfl rfl ?_)<;>try (simp -implicitDefEqProofs only [go_sem]))|(((with_reducible refine AM ?_ ?_)<;>intro _)<;>try (simp -implicitDefEqProofs only [go_sem]))|simp (disch:=omega) only [AC,AH,AK,AJ,AD,AL,AI,AA]|((with_reducible refine AW ?_);refine⟨_,rfl,?_,?_⟩)
  all_goals first|rfl|(simp;done)|skip
 |true =>
  rw [hc] at c1
  simp only [if_true] at c1 ⊢
  by_cases hn:1≤rs.length∧rs.length≤6
  ·rw [decide_eq_true (show 1≤(rs.length:Int)∧(rs.length:Int)≤6 by omega)] at c2
   rw [if_pos hn]
   (try (simp -implicitDefEqProofs only [go_sem]));repeat' first|(with_reducible first|exact True.intro|refine And.intro ?_ ?_|intro _)|(((with_reducible refine isCall ?_);first|refine AG (c1) rfl ?_ ?_|refine AE (c1) rfl ?_|refine AB (c1) rfl ?_ ?_|refine AF (c1) rfl rfl ?_|refine AG (c2) rfl ?_ ?_|refine AE (c2) rfl ?_|refine AB (c2) rfl ?_ ?_|refine AF (c2) rfl rfl ?_)<;>try (simp -implicitDefEqProofs only [go_sem]))|(((with_reducible refine AM ?_ ?_)<;>intro _)<;>try (simp -implicitDefEqProofs only [go_sem]))|simp (disch:=omega) only [AC,AH,AK,AJ,AD,AL,AI,AA]|((with_reducible refine AW ?_);refine⟨_,rfl,?_,?_⟩)
   all_goals first|omega|(simp;done)|(simp;omega)|skip
   refine AS (α:=Nat) (l0:=?l4) (m0:=?m4) (fun x=>[(5,.d (.int .i64 (x:Int)))]) (fun x=>[]) (fun x=>x≤rs.length∧∀k,k < x→Au (rs[k]?.getD (true,[])).2 L=true) (fun x=>rs.length - x) 0 ?h04 ?he4 ?he24 ?hI4 ?step4
   case h04=>(simp -implicitDefEqProofs only [go_sem];rfl)
   case he4=>rfl
   case he24=>rfl
   case' step4=>(rintro i hI;try dsimp only at hI)
   case' hI4=>try dsimp only
   ·exact⟨Nat.zero_le _,fun k hk=>absurd hk (by omega)⟩
   ·obtain⟨q1,q2⟩:=hI
    by_cases hi:i < rs.length
    ·have hi':(i:Int) < (rs.length:Int):=by omega
     have w1:IntKind.i64.wrap ((i:Int)+1)=((i+1:Nat):Int):=by rw [AC _ (by omega)];omega
     have c2:=Al (rs[i]?.getD (true,[])).1 (rs[i]?.getD (true,[])).2 L
     have hall:=@Uh rs (fun x=>Au x L) i hi
     cases hs:Au (rs[i]?.getD (true,[])).2 L with
     |false =>
      rw [hs] at c2
      rw [hall hs]
      simp only [Bool.false_eq_true,if_false]
      (try (simp -implicitDefEqProofs only [go_sem,hi',w1,hi]));repeat' first|(with_reducible first|exact True.intro|refine And.intro ?_ ?_|intro _)|(((with_reducible refine isCall ?_);first|refine AG (c2) rfl ?_ ?_|refine AE (c2) rfl ?_|refine AB (c2) rfl ?_ ?_|refine AF (c2) rfl rfl ?_)<;>try (simp -implicitDefEqProofs only [go_sem,hi',w1,hi]))|(((with_reducible refine AM ?_ ?_)<;>intro _)<;>try (simp -implicitDefEqProofs only [go_sem,hi',w1,hi]))|simp (disch:=omega) only [AC,AH,AK,AJ,AD,AL,AI,AA]|((with_reducible refine AW ?_);refine⟨_,rfl,?_,?_⟩)
      all_goals first|omega|(simp;done)|(simp;omega)|skip
      all_goals first|rfl|(simp;done)|skip
     |true =>
      rw [hs] at c2
      have hn2:∀k,k < i+1→Au (rs[k]?.getD (true,[])).2 L=true:=fun j hj=>by
       rcases Nat.lt_succ_iff_lt_or_eq.1 hj with h1|rfl
       ·exact q2 j h1
       ·exact hs
      (try (simp -implicitDefEqProofs only [go_sem,hi',w1,hi]));repeat' first|(with_reducible first|exact True.intro|refine And.intro ?_ ?_|intro _)|(((with_reducible refine isCall ?_);first|refine AG (c2) rfl ?_ ?_|refine AE (c2) rfl ?_|refine AB (c2) rfl ?_ ?_|refine AF (c2) rfl rfl ?_)<;>try (simp -implicitDefEqProofs only [go_sem,hi',w1,hi]))|(((with_reducible refine AM ?_ ?_)<;>intro _)<;>try (simp -implicitDefEqProofs only [go_sem,hi',w1,hi]))|simp (disch:=omega) only [AC,AH,AK,AJ,AD,AL,AI,AA]|((with_reducible refine AW ?_);refine⟨_,rfl,?_,?_⟩)
      all_goals first|omega|(simp;done)|(simp;omega)|skip
      all_goals first|exact hn2|exact hn2 _ (by assumption)|skip
    ·have hi':¬(i:Int) < (rs.length:Int):=by omega
     have hall:(rs.all fun r=>Au r.2 L)=true:=Ug (p:=fun x=>Au x L) fun k hk=>q2 k (by omega)
     rw [hall]
     simp only [if_true]
     (try (simp -implicitDefEqProofs only [go_sem,hi']));repeat' first|(with_reducible first|exact True.intro|refine And.intro ?_ ?_|intro _)|(((with_reducible refine AM ?_ ?_)<;>intro _)<;>try (simp -implicitDefEqProofs only [go_sem,hi']))|simp (disch:=omega) only [AC,AH,AK,AJ,AD,AL,AI,AA]|((with_reducible refine AW ?_);refine⟨_,rfl,?_,?_⟩)
     all_goals first|omega|(simp;done)|(simp;omega)|skip
     all_goals first|rfl|skip
  ·rw [decide_eq_false (show ¬(1≤(rs.length:Int)∧(rs.length:Int)≤6) by omega)] at c2
   rw [if_neg hn]
   (try (simp -implicitDefEqProofs only [go_sem]));repeat' first|(with_reducible first|exact True.intro|refine And.intro ?_ ?_|intro _)|(((with_reducible refine isCall ?_);first|refine AG (c1) rfl ?_ ?_|refine AE (c1) rfl ?_|refine AB (c1) rfl ?_ ?_|refine AF (c1) rfl rfl ?_|refine AG (c2) rfl ?_ ?_|refine AE (c2) rfl ?_|refine AB (c2) rfl ?_ ?_|refine AF (c2) rfl rfl ?_)<;>try (simp -implicitDefEqProofs only [go_sem]))|(((with_reducible refine AM ?_ ?_)<;>intro _)<;>try (simp -implicitDefEqProofs only [go_sem]))|simp (disch:=omega) only [AC,AH,AK,AJ,AD,AL,AI,AA]|((with_reducible refine AW ?_);refine⟨_,rfl,?_,?_⟩)
   all_goals first|rfl|(simp;done)|skip
theorem L5 (L P:Int) (nl:Bool) (rs:List (Bool×List Int)):B7 E0 Ja [.agg [.int .i64 L,.int .i64 P],.list nl (TW rs)] (.tup [.list (Ws L P rs).isEmpty (AY (Ws L P rs)),.int .i64 (ZZ L P rs)]):=by
 have c1:=I5 L P nl rs
 refine AP MH Af (by simp) fun hwf=>?_
 rw [AR];unfold IV Ws ZZ
 unfold fM at c1
 cases hc:BE L P with
 |false =>
  rw [hc] at c1
  simp only [Bool.false_eq_true,if_false] at c1 ⊢
  (try (simp -implicitDefEqProofs only [go_sem]));repeat' first|(with_reducible first|exact True.intro|refine And.intro ?_ ?_|intro _)|(((with_reducible refine isCall ?_);first|refine AG (c1) rfl ?_ ?_|refine AE (c1) rfl ?_|refine AB (c1) rfl ?_ ?_|refine AF (c1) rfl rfl ?_)<;>try (simp -implicitDefEqProofs only [go_sem]))|(((with_reducible refine AM ?_ ?_)<;>intro _)<;>try (simp -implicitDefEqProofs only [go_sem]))|simp (disch:=omega) only [AC,AH,AK,AJ,AD,AL,AI,AA]|((with_reducible refine AU ?_);refine⟨(_,_,_),rfl,?_,?_⟩)
  all_goals first|rfl|(simp;done)|skip
 |true =>
  rw [hc] at c1
  simp only [if_true] at c1 ⊢
  by_cases hn:1≤rs.length∧rs.length≤6
  ·rw [if_pos hn] at c1
   rw [if_pos hn,if_pos hn]
   obtain⟨l,p,rfl,rfl,b1,b2,b3,b4,b5⟩:=Di hc
   simp only [Int.toNat_natCast]
   cases hall:rs.all fun r=>Au r.2 (l:Int) with
   |false =>
    rw [hall] at c1
    simp only [Bool.false_eq_true,if_false] at c1 ⊢
    (try (simp -implicitDefEqProofs only [go_sem]));repeat' first|(with_reducible first|exact True.intro|refine And.intro ?_ ?_|intro _)|(((with_reducible refine isCall ?_);first|refine AG (c1) rfl ?_ ?_|refine AE (c1) rfl ?_|refine AB (c1) rfl ?_ ?_|refine AF (c1) rfl rfl ?_)<;>try (simp -implicitDefEqProofs only [go_sem]))|(((with_reducible refine AM ?_ ?_)<;>intro _)<;>try (simp -implicitDefEqProofs only [go_sem]))|simp (disch:=omega) only [AC,AH,AK,AJ,AD,AL,AI,AA]|((with_reducible refine AU ?_);refine⟨(_,_,_),rfl,?_,?_⟩)
    all_goals first|rfl|(simp;done)|skip
   |true =>
    rw [hall] at c1
    simp only [if_true] at c1 ⊢
    obtain⟨Z,hZ⟩:∃Z,Mb l p (Q7 rs) none=Z:=⟨_,rfl⟩
    rw [hZ]
    (try (simp -implicitDefEqProofs only [go_sem]));repeat' first|(with_reducible first|exact True.intro|refine And.intro ?_ ?_|intro _)|(((with_reducible refine isCall ?_);first|refine AG (c1) rfl ?_ ?_|refine AE (c1) rfl ?_|refine AB (c1) rfl ?_ ?_|refine AF (c1) rfl rfl ?_)<;>try (simp -implicitDefEqProofs only [go_sem]))|(((with_reducible refine AM ?_ ?_)<;>intro _)<;>try (simp -implicitDefEqProofs only [go_sem]))|simp (disch:=omega) only [AC,AH,AK,AJ,AD,AL,AI,AA]|((with_reducible refine AU ?_);refine⟨(_,_,_),rfl,?_,?_⟩)
    all_goals first|omega|(simp;done)|(simp;omega)|skip
    refine AS (α:=Nat×Bool×(List F)) (l0:=?l5) (m0:=?m5) (fun x=>[(8,.d (.int .i64 (x.1:Int))),(7,.d (.list x.2.1 (AY (iv x.2.2))))]) (fun x=>[]) (fun x=>x.1≤rs.length∧(x.2.1=false→x.2.2.length=l)∧(x.2.1=true→x.2.2=[])∧Mb l p ((Q7 rs).drop x.1) (eu x.2.1 x.2.2)=Z) (fun x=>rs.length - x.1) (0,true,[]) ?h05 ?he5 ?he25 ?hI5 ?step5
    case h05=>(simp -implicitDefEqProofs only [go_sem];rfl)
    case he5=>rfl
    case he25=>rfl
    case' step5=>(rintro⟨i,b,v⟩ hI;try dsimp only at hI)
    case' hI5=>try dsimp only
    ·exact⟨Nat.zero_le _,(fun h=>by cases h),(fun _=>rfl),hZ⟩
    ·obtain⟨r1,r2,r4,r3⟩:=hI
     by_cases hi2:i < rs.length
     ·have hi2':(i:Int) < (rs.length:Int):=by omega
      have w1:IntKind.i64.wrap ((i:Int)+1)=((i+1:Nat):Int):=by rw [AC _ (by omega)];omega
      have hdr:=RC rs i hi2
      obtain⟨hl,hf⟩:=DC (Nj (p:=fun x=>Au x l) hall hi2)
      obtain⟨r,hr⟩:∃r,rs[i]?.getD (true,[])=r:=⟨_,rfl⟩
      rw [hr] at hl hf hdr
      obtain⟨w,hW⟩:∃w,fs r.2=w:=⟨_,rfl⟩
      rw [hW] at hf hdr
      rw [hdr] at r3
      have hwl:w.length=l:=by rw [←hf,DI] at hl;omega
      have c4:=HU l p r.1 true w [] b2 (by omega) b3 (by omega) hwl (Ez l)
      rw [Aj,hf] at c4
      replace c4:B7 E0 Gg [.agg [.int .i64 (l:Int),.int .i64 (p:Int)],.list r.1 (AY r.2),.list true []] (ez (Cp l p w [])):=c4
      obtain⟨O,hO⟩:∃O,Cp l p w []=O:=⟨_,rfl⟩
      rw [hO] at c4
      cases O with
      |none =>
       rw [Lh] at c4
       rw [Nc hO] at r3
       (try (simp -implicitDefEqProofs only [go_sem,hi2',hi2,w1,hr]));repeat' first|(with_reducible first|exact True.intro|refine And.intro ?_ ?_|intro _)|(((with_reducible refine isCall ?_);first|refine AG (c4) rfl ?_ ?_|refine AE (c4) rfl ?_|refine AB (c4) rfl ?_ ?_|refine AF (c4) rfl rfl ?_)<;>try (simp -implicitDefEqProofs only [go_sem,hi2',hi2,w1,hr]))|(((with_reducible refine AM ?_ ?_)<;>intro _)<;>try (simp -implicitDefEqProofs only [go_sem,hi2',hi2,w1,hr]))|simp (disch:=omega) only [AC,AH,AK,AJ,AD,AL,AI,AA]|((with_reducible refine AU ?_);refine⟨(_,_,_),rfl,?_,?_⟩)
       all_goals first|omega|(simp;done)|(simp;omega)|skip
       all_goals first|exact⟨r2,r4,r3⟩|exact r3|exact r2|exact r4|(apply r2;assumption)|(apply r4;assumption)|skip
      |some z =>
       rw [N7] at c4
       have hzl:=(E4 hwl (Ez l) hO).2.1
       cases b with
       |true =>
        have hv0:=r4 rfl
        subst hv0
        rw [Ul,L2 hO] at r3
        have hlt:¬(0:Int) < (((iv []).length:Nat):Int):=by simp [iv]
        (try (simp -implicitDefEqProofs only [go_sem,hi2',hi2,w1,hr,hlt]));repeat' first|(with_reducible first|exact True.intro|refine And.intro ?_ ?_|intro _)|(((with_reducible refine isCall ?_);first|refine AG (c4) rfl ?_ ?_|refine AE (c4) rfl ?_|refine AB (c4) rfl ?_ ?_|refine AF (c4) rfl rfl ?_)<;>try (simp -implicitDefEqProofs only [go_sem,hi2',hi2,w1,hr,hlt]))|(((with_reducible refine AM ?_ ?_)<;>intro _)<;>try (simp -implicitDefEqProofs only [go_sem,hi2',hi2,w1,hr,hlt]))|simp (disch:=omega) only [AC,AH,AK,AJ,AD,AL,AI,AA]|((with_reducible refine AU ?_);refine⟨(_,_,_),rfl,?_,?_⟩)
        all_goals first|omega|(simp;done)|(simp;omega)|skip
        all_goals first|exact⟨fun _=>hzl,(fun h=>by cases h),r3⟩|exact hzl|exact r3|(rename_i h;cases h)|skip
       |false =>
        have hvl:=r2 rfl
        have hv1:(0:Int) < (v.length:Int):=by omega
        have c5:=MR (l:=l) false false hzl hvl (by omega)
        rw [Um] at r3
        by_cases hvz:v=z
        ·subst hvz
         rw [Nb hO] at r3
         have hd0:(Em l v v []).length=0:=by simp [Em]
         rw [hd0] at c5
         (try (simp -implicitDefEqProofs only [go_sem,hi2',hi2,w1,hr,hv1]));repeat' first|(with_reducible first|exact True.intro|refine And.intro ?_ ?_|intro _)|(((with_reducible refine isCall ?_);first|refine AG (c4) rfl ?_ ?_|refine AE (c4) rfl ?_|refine AB (c4) rfl ?_ ?_|refine AF (c4) rfl rfl ?_|refine AG (c5) rfl ?_ ?_|refine AE (c5) rfl ?_|refine AB (c5) rfl ?_ ?_|refine AF (c5) rfl rfl ?_)<;>try (simp -implicitDefEqProofs only [go_sem,hi2',hi2,w1,hr,hv1]))|(((with_reducible refine AM ?_ ?_)<;>intro _)<;>try (simp -implicitDefEqProofs only [go_sem,hi2',hi2,w1,hr,hv1]))|simp (disch:=omega) only [AC,AH,AK,AJ,AD,AL,AI,AA]|((with_reducible refine AU ?_);refine⟨(_,_,_),rfl,?_,?_⟩)
         all_goals first|omega|(simp;done)|(simp;omega)|skip
         all_goals first|exact⟨fun _=>hzl,(fun h=>by cases h),r3⟩|exact hzl|exact r3|(rename_i h;cases h)|skip
        ·rw [PA hO hvz] at r3
         have hd1:(0:Int) < ((Em l z v []).length:Int):=by
          have:=dif_pos hzl hvl (fun e=>hvz e.symm)
          omega
         rw [←r3]
         (try (simp -implicitDefEqProofs only [go_sem,hi2',hi2,w1,hr,hv1,hd1]));repeat' first|(with_reducible first|exact True.intro|refine And.intro ?_ ?_|intro _)|(((with_reducible refine isCall ?_);first|refine AG (c4) rfl ?_ ?_|refine AE (c4) rfl ?_|refine AB (c4) rfl ?_ ?_|refine AF (c4) rfl rfl ?_|refine AG (c5) rfl ?_ ?_|refine AE (c5) rfl ?_|refine AB (c5) rfl ?_ ?_|refine AF (c5) rfl rfl ?_)<;>try (simp -implicitDefEqProofs only [go_sem,hi2',hi2,w1,hr,hv1,hd1]))|(((with_reducible refine AM ?_ ?_)<;>intro _)<;>try (simp -implicitDefEqProofs only [go_sem,hi2',hi2,w1,hr,hv1,hd1]))|simp (disch:=omega) only [AC,AH,AK,AJ,AD,AL,AI,AA]|((with_reducible refine AU ?_);refine⟨(_,_,_),rfl,?_,?_⟩)
         all_goals first|omega|(simp;done)|(simp;omega)|skip
         all_goals first|rfl|skip
     ·have hi2':¬(i:Int) < (rs.length:Int):=by omega
      have hde:(Q7 rs).drop i=[]:=List.drop_eq_nil_of_le (by rw [Pr];omega)
      rw [hde] at r3
      cases b with
      |true =>
       have hv0:=r4 rfl
       subst hv0
       rw [Ul] at r3
       rw [←r3]
       (try (simp -implicitDefEqProofs only [go_sem,hi2']));repeat' first|(with_reducible first|exact True.intro|refine And.intro ?_ ?_|intro _)|(((with_reducible refine AM ?_ ?_)<;>intro _)<;>try (simp -implicitDefEqProofs only [go_sem,hi2']))|simp (disch:=omega) only [AC,AH,AK,AJ,AD,AL,AI,AA]|((with_reducible refine AU ?_);refine⟨(_,_,_),rfl,?_,?_⟩)
       all_goals first|omega|(simp;done)|(simp;omega)|skip
       all_goals first|rfl|skip
      |false =>
       have hvl:=r2 rfl
       have hv1:¬(v.length:Int)=0:=by omega
       rw [Um] at r3
       rw [←r3]
       have hemp:=Br (show 0 < v.length by omega)
       have hrr:Mb l p [] (some v)=(0,v):=rfl
       rw [hrr]
       dsimp only
       rw [hemp]
       (try (simp -implicitDefEqProofs only [go_sem,hi2',hv1]));repeat' first|(with_reducible first|exact True.intro|refine And.intro ?_ ?_|intro _)|(((with_reducible refine AM ?_ ?_)<;>intro _)<;>try (simp -implicitDefEqProofs only [go_sem,hi2',hv1]))|simp (disch:=omega) only [AC,AH,AK,AJ,AD,AL,AI,AA]|((with_reducible refine AU ?_);refine⟨(_,_,_),rfl,?_,?_⟩)
       all_goals first|omega|(simp;done)|(simp;omega)|skip
       all_goals first|rfl|skip
  ·rw [if_neg hn] at c1
   rw [if_neg hn,if_neg hn]
   (try (simp -implicitDefEqProofs only [go_sem]));repeat' first|(with_reducible first|exact True.intro|refine And.intro ?_ ?_|intro _)|(((with_reducible refine isCall ?_);first|refine AG (c1) rfl ?_ ?_|refine AE (c1) rfl ?_|refine AB (c1) rfl ?_ ?_|refine AF (c1) rfl rfl ?_)<;>try (simp -implicitDefEqProofs only [go_sem]))|(((with_reducible refine AM ?_ ?_)<;>intro _)<;>try (simp -implicitDefEqProofs only [go_sem]))|simp (disch:=omega) only [AC,AH,AK,AJ,AD,AL,AI,AA]|((with_reducible refine AU ?_);refine⟨(_,_,_),rfl,?_,?_⟩)
   all_goals first|rfl|(simp;done)|skip
end Go.Pw
