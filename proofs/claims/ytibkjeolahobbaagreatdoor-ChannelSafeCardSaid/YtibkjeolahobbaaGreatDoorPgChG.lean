/- A part of the proof. -/
import Derived.Test.YtibkjeolahobbaaGreatDoorPgChE
set_option linter.all false
section
open Go Go.Pw Go.Proofs
namespace Go.Pw
set_option linter.unusedSimpArgs false
set_option linter.unusedVariables false
set_option maxRecDepth 100000
set_option maxHeartbeats 3200000
theorem Up {α:Type} {f:α→List Int} {m:Nat} (hf:∀x,(f x).length=m):∀(l:List α) (i k:Nat) (h:i < l.length),k < m→(l.flatMap f)[m * i+k]?=(f l[i])[k]?
 |[],_,_,h,_=>by cases h
 |x :: l,0,k,_,hk=>by
  rw [Nat.mul_zero,Nat.zero_add,List.flatMap_cons,List.getElem?_append_left (by rw [hf];exact hk)];rfl
 |x :: l,i+1,k,h,hk=>by
  rw [List.flatMap_cons,Nat.mul_succ,List.getElem?_append_right (by rw [hf];omega),hf,show m * i+m+k - m=m * i+k by omega]
  exact Up hf l i k (by simpa using h) hk
theorem bp (xs:List Int) {i k:Nat} (hi:i < xs.length) (hk:k < 4):(HP xs).take (4 * i+k)++[(xs[i]?.getD 0) / 2 ^ (3 - k) % 2]=(HP xs).take (4 * i+(k+1)):=by
 have h1:=Pu xs
 have h2:4 * i+k < (HP xs).length:=by omega
 rw [show 4 * i+(k+1)=4 * i+k+1 by omega,List.take_add_one]
 congr 1
 have h3:=Up (f:=J1 1) (m:=4) (fun x=>HU 1 x) xs i k hi hk
 unfold HP
 rw [h3,List.getElem?_eq_getElem hi]
 simp only [Option.getD_some]
 match k,hk with
 |0,_=>rfl|1,_=>rfl|2,_=>rfl|3,_=>rfl
theorem RG:∀(l:List Int) (a:Int),Ak l=true→0≤a→0≤l.foldl (fun a w=>a * 2 ^ 1+w) a∧l.foldl (fun a w=>a * 2 ^ 1+w) a+1≤(a+1) * 2 ^ l.length
 |[],a,_,h=>by simp;omega
 |x :: l,a,hb,h=>by
  have hx:0≤x∧x≤1:=by
   simp only [Ak,List.all_cons,Bool.and_eq_true,Cj,decide_eq_true_eq] at hb;exact hb.1
  have hl:Ak l=true:=by
   simp only [Ak,List.all_cons,Bool.and_eq_true] at hb;exact hb.2
  have ih:=RG l (a * 2 ^ 1+x) hl (by omega)
  refine⟨ih.1,Int.le_trans ih.2 ?_⟩
  have e:(a+1) * (2:Int) ^ (x :: l).length=((a+1) * 2) * 2 ^ l.length:=by rw [List.length_cons,Int.pow_succ,Int.mul_comm (2 ^ l.length) 2,Int.mul_assoc]
  rw [e]
  exact Int.mul_le_mul_of_nonneg_right (by omega) (Int.le_of_lt (Int.pow_pos (by omega)))
theorem XQ {l:List Int} (h:Ak l=true) (hl:l.length≤4):0≤Gd 1 l∧Gd 1 l≤15:=by
 have h1:=RG l 0 h (Int.le_refl 0)
 have h2:(2:Int) ^ l.length≤16:=by
  have:l.length=0∨l.length=1∨l.length=2∨l.length=3∨l.length=4:=by omega
  rcases this with e|e|e|e|e<;>rw [e]<;>omega
 unfold Gd
 omega
theorem RF:∀(l:List Int) (m n:Nat),l.length=m * 4→n < m→(Th l)[n]?.getD 0=Gd 1 ((l.drop (n * 4)).take 4)
 |l,0,n,_,h=>by cases h
 |a :: b :: c :: d :: l,m+1,0,hl,_=>rfl
 |a :: b :: c :: d :: l,m+1,n+1,hl,h=>by
  have:=RF l m n (by simp at hl;omega) (by omega)
  show (Th l)[n]?.getD 0=_
  rw [this,show (n+1) * 4=n * 4+4 by omega]
  rfl
 |[],m+1,n,hl,_=>by simp at hl
 |[_],m+1,n,hl,_=>by simp at hl;omega
 |[_,_],m+1,n,hl,_=>by simp at hl;omega
 |[_,_,_],m+1,n,hl,_=>by simp at hl;omega
theorem bE (s:Int) (xs:List Int) {n:Nat} (h:n < xs.length):(Ck s xs).take n++[Gd 1 (((CR s (HP xs)).drop (n * 4)).take 4)]=(Ck s xs).take (n+1):=by
 have h1:(CR s (HP xs)).length=xs.length * 4:=by rw [Fz,Pu];omega
 have h2:=RF _ _ n h1 h
 rw [RE] at h2
 rw [←h2,List.take_add_one,List.getElem?_eq_getElem (by rw [Db];exact h)]
 rfl
theorem YH {p:List Int} {j:Nat} (h:j < p.length):2 * Gd 1 (p.take j)+(p[j]?.getD 0)=Gd 1 (p.take (j+1)):=by
 rw [List.take_add_one,List.getElem?_eq_getElem h,Option.toList_some,YI]
 simp only [Option.getD_some];omega
def mG (X:List Int):Nat→List (Nat×Nat×Aa)
 |0=>[(5000009,0,.cells [.d (.list true [])])]
 |k+1=>[(59,0,.row 3 1 false (Ai (X.take (k+1)))),(5000009,0,.cells [.own 59 0])]
theorem bH (X:List Int):mG X 0=[(5000009,0,.cells [.d (.list true [])])]:=rfl
theorem T_ (X:List Int) (k:Nat):mG X (k+1)=[(59,0,.row 3 1 false (Ai (X.take (k+1)))),(5000009,0,.cells [.own 59 0])]:=rfl
attribute [local congr] Bh A_ A' Ap Bi Av Ax Aw Ao Ah Ab AZ Ar Ac As BI BM BK BL BJ BN BF Af Au Ag BD BQ Ae BG BH BE BB BC A9 BA Aq Ad
attribute [local irreducible] IntKind.wrap A5 Option.getD and or
theorem GG (c:AX) (r:List D) (nb:Bool) (xs:List Int) (hs:Cj c.seed 1 127=true) (hl:xs.length≤32) (h0:0 < xs.length) :
  CF E0 EV [.ptr (Q8 c r),.list nb (Ai xs)] (.list false (Ai (Ck c.seed xs))):=by
 have hnl:=Pu xs
 refine AO GE Am (by simp) fun hwf=>?_
 rw [AW];unfold Dq
 (try (simp -implicitDefEqProofs only [go_sem,A3]));repeat' first|(with_reducible first|exact True.intro|refine And.intro ?_ ?_|intro _)|(((with_reducible refine AS ?_ ?_)<;>intro _)<;>try (simp -implicitDefEqProofs only [go_sem,A3]))|simp (disch:=omega) only [AC,AH,AP,AJ,AD,AQ,AI,AA]|((with_reducible refine BW ?_);refine⟨(_,_,_),rfl,?_,?_⟩)|((with_reducible refine An ?_);refine⟨(_,_),rfl,?_,?_⟩)
 all_goals first|omega|(simp;done)|(simp;omega)|skip
 refine AY (α:=Nat×Bool) (l0:=?l1) (m0:=?m1) (fun x=>[(16,.d (.int .i64 (x.1:Int)))]) (fun x=>[(30,.row 3 1 x.2 (Ai ((HP xs).take (4 * x.1))))]) (fun x=>x.1≤xs.length∧x.2=decide (x.1=0)) (fun x=>xs.length - x.1) (0,true) ?h01 ?he1 ?he21 ?hI1 ?step1
 case h01=>(simp -implicitDefEqProofs only [go_sem];rfl)
 case he1=>rfl
 case he21=>rfl
 case' step1=>(rintro⟨i,nl⟩ hI;try dsimp only at hI)
 case' hI1=>try dsimp only
 ·exact⟨Nat.zero_le _,rfl⟩
 ·obtain⟨i1,i2⟩:=hI
  change nl=decide (i=0) at i2
  subst i2
  by_cases hi:i < xs.length
  ·have hi':(i:Int) < (xs.length:Int):=by omega
   have hwi:IntKind.i64.wrap ((i:Int)+1)=((i+1:Nat):Int):=by rw [AC _ (by omega)];omega
   obtain⟨x,hx⟩:∃x,xs[i]?.getD 0=x:=⟨_,rfl⟩
   have hst:=fun k hk=>@bp xs i k hi hk
   simp only [hx] at hst
   (try (simp -implicitDefEqProofs only [go_sem,A3,hi',hi,hx]));repeat' first|(with_reducible first|exact True.intro|refine And.intro ?_ ?_|intro _)|(((with_reducible refine AS ?_ ?_)<;>intro _)<;>try (simp -implicitDefEqProofs only [go_sem,A3,hi',hi,hx]))|simp (disch:=omega) only [AC,AH,AP,AJ,AD,AQ,AI,AA]|((with_reducible refine BW ?_);refine⟨(_,_,_),rfl,?_,?_⟩)|((with_reducible refine An ?_);refine⟨(_,_),rfl,?_,?_⟩)
   all_goals first|omega|(simp;done)|(simp;omega)|skip
   refine AY (α:=Nat×Int×Bool) (l0:=?l2) (m0:=?m2) (fun x=>[(8,.d (.int .i64 x.2.1))]) (fun x=>[(30,.row 3 1 x.2.2 (Ai ((HP xs).take (4 * i+x.1))))]) (fun x=>x.1≤4∧x.2.1=3 - (x.1:Int)∧x.2.2=(decide (i=0) && decide (x.1=0))) (fun x=>4 - x.1) (0,3,(decide (i=0))) ?h02 ?he2 ?he22 ?hI2 ?step2
   case h02=>(simp -implicitDefEqProofs only [go_sem];rfl)
   case he2=>rfl
   case he22=>rfl
   case' step2=>(rintro⟨k,a,e⟩ hI2;try dsimp only at hI2)
   case' hI2=>try dsimp only
   ·exact⟨Nat.zero_le _,rfl,by cases i<;>simp⟩
   ·obtain⟨k1,k2,k3⟩:=hI2
    change a=3 - (k:Int) at k2
    change e=(decide (i=0) && decide (k=0)) at k3
    by_cases hk:k < 4
    ·have ha:0≤a:=by omega
     have hat:a.toNat=3 - k:=by omega
     have hst:=hst k hk
     have hwa:IntKind.i64.wrap (a - 1)=a - 1:=AC _ (by omega)
     have hl4:((HP xs).take (4 * i+k)).length≤128:=by rw [List.length_take];omega
     have hfe:false=(decide (i=0) && decide (k+1=0)):=by simp
     (try (simp -implicitDefEqProofs only [go_sem,ha,hwa]));repeat' first|(with_reducible first|exact True.intro|refine And.intro ?_ ?_|intro _)|(((with_reducible refine AS ?_ ?_)<;>intro _)<;>try (simp -implicitDefEqProofs only [go_sem,ha,hwa]))|simp (disch:=omega) only [AC,AH,AP,AJ,AD,AQ,AI,AA]|((with_reducible refine BW ?_);refine⟨(_,_,_),rfl,?_,?_⟩)|((with_reducible refine An ?_);refine⟨(_,_),rfl,?_,?_⟩)
     all_goals first|omega|(simp;done)|(simp;omega)|skip
     rw [hat,hst]
     exact⟨(k+1,a - 1,false),rfl,⟨by show k+1≤4;omega,by show a - 1=3 - ((k+1:Nat):Int);omega,hfe⟩,by show 4 - (k+1) < 4 - k;omega⟩
    ·have ha:¬0≤a:=by omega
     have hk4:4 * i+k=4 * (i+1):=by omega
     have hfe:e=decide (i+1=0):=by rw [k3];simp;omega
     (try (simp -implicitDefEqProofs only [go_sem,ha,hwi,hk4]));repeat' first|(with_reducible first|exact True.intro|refine And.intro ?_ ?_|intro _)|(((with_reducible refine AS ?_ ?_)<;>intro _)<;>try (simp -implicitDefEqProofs only [go_sem,ha,hwi,hk4]))|simp (disch:=omega) only [AC,AH,AP,AJ,AD,AQ,AI,AA]|((with_reducible refine BW ?_);refine⟨(_,_,_),rfl,?_,?_⟩)|((with_reducible refine An ?_);refine⟨(_,_),rfl,?_,?_⟩)
     all_goals first|omega|(simp;done)|(simp;omega)|skip
     all_goals skip
  ·have hi':¬(i:Int) < (xs.length:Int):=by omega
   have htk:(HP xs).take (4 * i)=HP xs:=List.take_of_length_le (by omega)
   have hi0:decide (i=0)=false:=decide_eq_false (by omega)
   rw [htk,hi0]
   have hso:J' c.seed (HP xs)=(CR c.seed (HP xs),0):=T8 (by unfold E1;rw [hs,Y4,decide_eq_true (by omega)];simp only [Bool.and_self])
   have c1:=HB c.seed false (HP xs)
   rw [hso] at c1
   have hr1:=Fz c.seed (HP xs)
   have hrb:=J_ c.seed (HP xs)
   obtain⟨R,hR⟩:∃R,CR c.seed (HP xs)=R:=⟨_,rfl⟩
   have hsc:=fun n hn=>@bE c.seed xs n hn
   rw [hR] at c1 hr1 hrb
   simp only [hR] at hsc
   have hRe:R.isEmpty=false:=Gn (fun e=>by rw [e] at hr1;simp at hr1;omega)
   rw [hRe] at c1
   have c2:=R9 false R 4 (by omega)
   have c3:=R8 false R 4 xs.length (by omega) (by omega) (by omega) rfl
   (try (simp -implicitDefEqProofs only [go_sem,A3,hi']));repeat' first|(with_reducible first|exact True.intro|refine And.intro ?_ ?_|intro _)|(((with_reducible refine isCall ?_);first|refine AF (c1) rfl ?_ ?_|refine AE (c1) rfl ?_|refine AB (c1) rfl ?_ ?_|refine AG (c1) rfl rfl ?_|refine AF (c2) rfl ?_ ?_|refine AE (c2) rfl ?_|refine AB (c2) rfl ?_ ?_|refine AG (c2) rfl rfl ?_)<;>try (simp -implicitDefEqProofs only [go_sem,A3,hi']))|(((with_reducible refine AS ?_ ?_)<;>intro _)<;>try (simp -implicitDefEqProofs only [go_sem,A3,hi']))|simp (disch:=omega) only [AC,AH,AP,AJ,AD,AQ,AI,AA]|((with_reducible refine BW ?_);refine⟨(_,_,_),rfl,?_,?_⟩)|((with_reducible refine An ?_);refine⟨(_,_),rfl,?_,?_⟩)
   all_goals first|omega|(simp;done)|(simp;omega)|skip
   refine Xf (α:=Nat) (fun k=>⟨BS (mG (Ck c.seed xs) k),fun _=>1⟩) (fun n k=>k=n) (fun e x=>False) 0 (sl1:=Eg ?l7) ?h07 (fun _=>rfl) EH (by simp [PC.noR]) c3 ?hw7 rfl ?step7 ?hend7 (fun e x h=>h.elim)
   case h07 =>
    simp -implicitDefEqProofs only [go_sem]
    simp only [or_true,true_or,true_and]
    rfl
   case hw7=>simp -implicitDefEqProofs only [go_sem,bH]
   case step7 =>
    intro n k ds hds hk
    subst hk
    have hkl:k < xs.length:=by have:=(List.getElem?_eq_some_iff.1 hds).1;rw [Km] at this;exact this
    rw [QO R hkl] at hds
    obtain rfl:=Option.some.inj hds
    refine⟨rfl,?_⟩
    have hsk:=hsc k hkl
    obtain⟨p,hp⟩:∃p,(R.drop (k * 4)).take 4=p:=⟨_,rfl⟩
    have hpl:p.length=4:=by rw [←hp,List.length_take,List.length_drop,hr1,hnl];omega
    have hpb:Ak p=true:=by rw [←hp];exact FV (EY hrb _) _
    rw [hp] at hsk ⊢
    have hl32:((Ck c.seed xs).take k).length≤32:=by rw [List.length_take];omega
    obtain⟨O,hO⟩:∃O,mG (Ck c.seed xs) k=O:=⟨_,rfl⟩
    have hround:∀(a:Int) (j:Nat),a=Gd 1 (p.take j)→j < 4→IntKind.i64.wrap (2 * a)=2 * a∧IntKind.i64.wrap (2 * a+p[j]?.getD 0)=Gd 1 (p.take (j+1)):=fun a j h2 hj=>by
     have hbd:=XQ (FV hpb j) (by rw [List.length_take];omega)
     have hbd2:=XQ (FV hpb (j+1)) (by rw [List.length_take];omega)
     have hst:=YH (show j < p.length by omega)
     refine⟨AC _ (by omega),?_⟩
     rw [h2,hst];exact AC _ (by omega)
    rcases Nat.eq_zero_or_pos k with h0k|h0k
    ·subst h0k
     (try (simp -implicitDefEqProofs only [go_sem,bH]));repeat' first|(with_reducible first|exact True.intro|refine And.intro ?_ ?_|intro _)|(((with_reducible refine AS ?_ ?_)<;>intro _)<;>try (simp -implicitDefEqProofs only [go_sem,bH]))|simp (disch:=omega) only [AC,AH,AP,AJ,AD,AQ,AI,AA]|((with_reducible refine BW ?_);refine⟨(_,_,_),rfl,?_,?_⟩)|((with_reducible refine An ?_);refine⟨(_,_),rfl,?_,?_⟩)
     all_goals first|omega|(simp;done)|(simp;omega)|skip
     refine AY (α:=Nat×Int) (l0:=?l3) (m0:=?m3) (fun x=>[(47,.d (.int .i64 (x.1:Int))),(11,.d (.int .i64 x.2))]) (fun x=>[]) (fun x=>x.1≤4∧x.2=Gd 1 (p.take x.1)) (fun x=>4 - x.1) (0,0) ?h03 ?he3 ?he23 ?hI3 ?step3
     case h03=>(simp -implicitDefEqProofs only [go_sem];rfl)
     case he3=>rfl
     case he23=>rfl
     case' step3=>(rintro⟨j,a⟩ hI3;try dsimp only at hI3)
     case' hI3=>try dsimp only
     ·exact⟨Nat.zero_le _,rfl⟩
     ·obtain⟨j1,j2⟩:=hI3
      change a=Gd 1 (p.take j) at j2
      by_cases hj:j < 4
      ·have hj':(j:Int) < (p.length:Int):=by omega
       have hjl:j < p.length:=by omega
       obtain⟨hw2,hw3⟩:=hround a j j2 hj
       have hwj:IntKind.i64.wrap ((j:Int)+1)=((j+1:Nat):Int):=by rw [AC _ (by omega)];omega
       (try (simp -implicitDefEqProofs only [go_sem,hj',hjl,hwj,hw2,hw3]));repeat' first|(with_reducible first|exact True.intro|refine And.intro ?_ ?_|intro _)|(((with_reducible refine AS ?_ ?_)<;>intro _)<;>try (simp -implicitDefEqProofs only [go_sem,hj',hjl,hwj,hw2,hw3]))|simp (disch:=omega) only [AC,AH,AP,AJ,AD,AQ,AI,AA]|((with_reducible refine BW ?_);refine⟨(_,_,_),rfl,?_,?_⟩)|((with_reducible refine An ?_);refine⟨(_,_),rfl,?_,?_⟩)
       all_goals first|omega|(simp;done)|(simp;omega)|skip
       rfl
      ·have hj':¬(j:Int) < (p.length:Int):=by omega
       have hpt:p.take j=p:=List.take_of_length_le (by omega)
       rw [hpt] at j2
       subst j2
       (try (simp -implicitDefEqProofs only [go_sem,hj']));repeat' first|(with_reducible first|exact True.intro|refine And.intro ?_ ?_|intro _)|(((with_reducible refine AS ?_ ?_)<;>intro _)<;>try (simp -implicitDefEqProofs only [go_sem,hj']))|simp (disch:=omega) only [AC,AH,AP,AJ,AD,AQ,AI,AA]|((with_reducible refine BW ?_);refine⟨(_,_,_),rfl,?_,?_⟩)|((with_reducible refine An ?_);refine⟨(_,_),rfl,?_,?_⟩)
       refine⟨1,?_,rfl⟩
       rw [T_,←hsk];rfl
    ·obtain⟨m,rfl⟩:∃m,k=m+1:=⟨k - 1,by omega⟩
     (try (simp -implicitDefEqProofs only [go_sem,T_]));repeat' first|(with_reducible first|exact True.intro|refine And.intro ?_ ?_|intro _)|(((with_reducible refine AS ?_ ?_)<;>intro _)<;>try (simp -implicitDefEqProofs only [go_sem,T_]))|simp (disch:=omega) only [AC,AH,AP,AJ,AD,AQ,AI,AA]|((with_reducible refine BW ?_);refine⟨(_,_,_),rfl,?_,?_⟩)|((with_reducible refine An ?_);refine⟨(_,_),rfl,?_,?_⟩)
     all_goals first|omega|(simp;done)|(simp;omega)|skip
     refine AY (α:=Nat×Int) (l0:=?l4) (m0:=?m4) (fun x=>[(47,.d (.int .i64 (x.1:Int))),(11,.d (.int .i64 x.2))]) (fun x=>[]) (fun x=>x.1≤4∧x.2=Gd 1 (p.take x.1)) (fun x=>4 - x.1) (0,0) ?h04 ?he4 ?he24 ?hI4 ?step4
     case h04=>(simp -implicitDefEqProofs only [go_sem];rfl)
     case he4=>rfl
     case he24=>rfl
     case' step4=>(rintro⟨j,a⟩ hI4;try dsimp only at hI4)
     case' hI4=>try dsimp only
     ·exact⟨Nat.zero_le _,rfl⟩
     ·obtain⟨j1,j2⟩:=hI4
      change a=Gd 1 (p.take j) at j2
      by_cases hj:j < 4
      ·have hj':(j:Int) < (p.length:Int):=by omega
       have hjl:j < p.length:=by omega
       obtain⟨hw2,hw3⟩:=hround a j j2 hj
       have hwj:IntKind.i64.wrap ((j:Int)+1)=((j+1:Nat):Int):=by rw [AC _ (by omega)];omega
       (try (simp -implicitDefEqProofs only [go_sem,hj',hjl,hwj,hw2,hw3]));repeat' first|(with_reducible first|exact True.intro|refine And.intro ?_ ?_|intro _)|(((with_reducible refine AS ?_ ?_)<;>intro _)<;>try (simp -implicitDefEqProofs only [go_sem,hj',hjl,hwj,hw2,hw3]))|simp (disch:=omega) only [AC,AH,AP,AJ,AD,AQ,AI,AA]|((with_reducible refine BW ?_);refine⟨(_,_,_),rfl,?_,?_⟩)|((with_reducible refine An ?_);refine⟨(_,_),rfl,?_,?_⟩)
       all_goals first|omega|(simp;done)|(simp;omega)|skip
       rfl
      ·have hj':¬(j:Int) < (p.length:Int):=by omega
       have hpt:p.take j=p:=List.take_of_length_le (by omega)
       rw [hpt] at j2
       subst j2
       (try (simp -implicitDefEqProofs only [go_sem,hj',hsk]));repeat' first|(with_reducible first|exact True.intro|refine And.intro ?_ ?_|intro _)|(((with_reducible refine AS ?_ ?_)<;>intro _)<;>try (simp -implicitDefEqProofs only [go_sem,hj',hsk]))|simp (disch:=omega) only [AC,AH,AP,AJ,AD,AQ,AI,AA]|((with_reducible refine BW ?_);refine⟨(_,_,_),rfl,?_,?_⟩)|((with_reducible refine An ?_);refine⟨(_,_),rfl,?_,?_⟩)
       ·omega
       ·exact⟨m+1+1,rfl,rfl⟩
   case hend7 =>
    intro k hk
    rw [Km] at hk
    change k=xs.length at hk
    obtain⟨m,rfl⟩:∃m,k=m+1:=⟨k - 1,by omega⟩
    have hte:(Ck c.seed xs).take (m+1)=Ck c.seed xs:=List.take_of_length_le (by rw [Db];omega)
    (try (simp -implicitDefEqProofs only [go_sem,T_,hte]));repeat' first|(with_reducible first|exact True.intro|refine And.intro ?_ ?_|intro _)|(((with_reducible refine AS ?_ ?_)<;>intro _)<;>try (simp -implicitDefEqProofs only [go_sem,T_,hte]))|simp (disch:=omega) only [AC,AH,AP,AJ,AD,AQ,AI,AA]|((with_reducible refine BW ?_);refine⟨(_,_,_),rfl,?_,?_⟩)|((with_reducible refine An ?_);refine⟨(_,_),rfl,?_,?_⟩)
    all_goals first|rfl|skip
end Go.Pw
end
section
open Go Go.Pw Go.Proofs
namespace Go.Pw
set_option linter.unusedSimpArgs false
set_option linter.unusedVariables false
set_option maxRecDepth 100000
set_option maxHeartbeats 3200000
def mn (p:List Int):D:=.list false (Ai p)
def fT (rs:List (List Int)):List D:=rs.map mn
theorem fS (rs:List (List Int)):(fT rs).length=rs.length:=by simp [fT]
theorem Yw {rs:List (List Int)} {i:Nat} {A:D→Prop}:BO (fT rs)[i]? A=(i < rs.length∧A (.list false (Ai (rs[i]?.getD [])))):=by
 unfold fT
 rw [List.getElem?_map]
 by_cases h:i < rs.length
 ·simp [h,BO,mn]
 ·have:rs[i]?=none:=List.getElem?_eq_none (by omega)
  simp [this,h,BO]
theorem bK (rs:List (List Int)):Cl 1 (fT rs)=True:=by
 refine eq_true fun x hx=>?_
 simp only [fT,List.mem_map] at hx
 obtain⟨p,_,rfl⟩:=hx;rfl
attribute [go_sem] fS Yw bK
def SI (c:AU):List (List Int):=(List.range 16).map c.stm
theorem Tk (c:AU):(SI c).length=16:=by simp [SI]
theorem XR (c:AU):Fr c=fT (SI c):=by
 unfold Fr fT SI;rw [List.map_map];rfl
def ap:Option Nat→Int
 |some s=>(s:Int)
 |none=>-1
def SV (l:List (Option Nat)):List Int:=l.map ap
theorem MW (l:List (Option Nat)):(SV l).length=l.length:=by simp [SV]
theorem gd {c:AU} (h:Kd c 16=true) (p:List Int):(match (SI c).findIdx? (fun q=>decide (q=p)) with|some i=>(i:Int)|none=>-1)=ap (SH c p):=by
 cases hf:(SI c).findIdx? (fun q=>decide (q=p)) with
 |some i =>
  rw [List.findIdx?_eq_some_iff_getElem] at hf
  obtain⟨hi,he,_⟩:=hf
  have hi16:i < 16:=by rw [Tk] at hi;exact hi
  simp only [SI,List.getElem_map,List.getElem_range,decide_eq_true_eq] at he
  rw [←he,Ti h hi16];rfl
 |none =>
  rw [List.findIdx?_eq_none_iff] at hf
  cases hs:SH c p with
  |none=>rfl
  |some s =>
   obtain⟨h1,h2⟩:=RH hs
   have:=hf (c.stm s) (by simp only [SI,List.mem_map,List.mem_range];exact⟨s,h1,rfl⟩)
   simp [h2] at this
theorem ai (c:AX) (bits:List Int) (a:Nat) {i:Nat} (h:i < c.syms):(SV (c.syL bits a)).take i++[ap (SH c.code (c.part bits a i))]=(SV (c.syL bits a)).take (i+1):=by
 rw [List.take_add_one]
 congr 1
 unfold SV AX.syL
 rw [List.map_map,List.getElem?_map,List.getElem?_range h];rfl
theorem dn (c:AX) (bits:List Int) (a i:Nat) (h:i < c.syms):(((bits.drop (a+c.mark.length)).take (c.syms * c.code.sz)).drop (i * c.code.sz)).take c.code.sz=c.part bits a i:=by
 have h1:i * c.code.sz+c.code.sz≤c.syms * c.code.sz:=by have:=Nat.mul_le_mul_right c.code.sz (show i+1≤c.syms from h);rw [Nat.add_mul,Nat.one_mul] at this;exact this
 unfold AX.part
 rw [List.drop_take,List.take_take,List.drop_drop,Nat.min_eq_left (by omega)]
def LD (c:AX) (bits:List Int):D:=match c.find bits with
 |some a=>.tup [.int .i64 (a:Int),.list false (Ai (SV (c.syL bits a))),.bool true]
 |none=>.tup [.int .i64 0,.list true [],.bool false]
theorem Um {c:AX} {bits:List Int} {a:Nat} (h:∀j,j < a→c.errs < CX c.mark (bits.drop j)) (ha:a+c.tot≤bits.length):(CX c.mark (bits.drop a)≤c.errs→c.find bits=some a) :=
 fun hd=>Nx.2 ⟨ha,hd,h⟩
theorem Ul {c:AX} {bits:List Int} {a:Nat} (h:∀j,j < a→c.errs < CX c.mark (bits.drop j)) (ha:¬a+c.tot≤bits.length):c.find bits=none:=by
 cases hf:c.find bits with
 |none=>rfl
 |some r =>
  obtain⟨h1,h2,h3⟩:=Nx.1 hf
  have:=h r (by omega)
  omega
theorem VD:Bl E0.P Cb=true:=by kernel_rfl
def ZO (c:AX):Nat×Nat×Aa:=(5000002,0,.cells [.d (.ptr (Q8 c (Fr c.code)))])
def mZ (c:AX) (X:List Int):Nat→List (Nat×Nat×Aa)
 |0=>[ZO c,(5000005,0,.cells [.d (.list true [])])]
 |k+1=>[(68,0,.row 3 1 false (Ai (X.take (k+1)))),ZO c,(5000005,0,.cells [.own 68 0])]
theorem Xt (c:AX) (X:List Int):mZ c X 0=[ZO c,(5000005,0,.cells [.d (.list true [])])]:=rfl
theorem Rp (c:AX) (X:List Int) (k:Nat):mZ c X (k+1)=[(68,0,.row 3 1 false (Ai (X.take (k+1)))),ZO c,(5000005,0,.cells [.own 68 0])]:=rfl
attribute [local congr] Bh A_ A' Ap Bi Av Ax Aw Ao Ah Ab AZ Ar Ac As BI BM BK BL BJ BN BF Af Au Ag BD BQ Ae BG BH BE BB BC A9 BA Aq Ad
attribute [local irreducible] IntKind.wrap A5 Option.getD and or
theorem MO (rs:List (List Int)) (hlen:rs.length≤1000) (f:FuncId) (cs:List D) (p:List Int→Bool) (hb:Bl E0.P f=true) (hcs:A7 AV.toD1 (cs.map .d)=some cs) (h:∀x,x∈rs→CF E0 f (.list false (Ai x) :: cs) (.bool (p x))) :
  CF E0 DW [.list false (fT rs),.fn f cs] (.int .i64 (match rs.findIdx? p with|some i=>i|none=>-1)):=by
 refine AO FH Am (by simp) fun hwf=>?_
 simp only [Dl,DB,DA,Cw,D7,D6,Fi,D5,Bd,Bo,Bp,DC,B1,List.length_map,Bx,true_and,and_true] at hwf
 rw [AW];unfold DJ
 simp -implicitDefEqProofs only [go_sem]
 refine AY (α:=Int) (l0:=?l1) (m0:=?m1) (fun x=>[(8,.d (.int .i64 x))]) (fun x=>[]) (fun x=>0≤x∧x≤rs.length∧∀(j:Nat) (hj:j < rs.length),(j:Int) < x→p rs[j]=false) (fun x=>(rs.length - x).toNat) ?a1_0 ?h01 ?he1 ?he21 ?hI1 ?step1
 case h01=>(simp -implicitDefEqProofs only [go_sem];rfl)
 case he1=>rfl
 case he21=>rfl
 case' step1=>(rintro i hI;try dsimp only at hI)
 case' hI1=>try dsimp only
 ·simp
  omega
 ·have hwi:i < rs.length→IntKind.i64.wrap (i+1)=i+1:=fun h=>AC _ (by omega)
  (try (simp -implicitDefEqProofs only [go_sem]));repeat' first|(with_reducible first|exact True.intro|refine And.intro ?_ ?_|intro _)|(((with_reducible refine AS ?_ ?_)<;>intro _)<;>try (simp -implicitDefEqProofs only [go_sem]))|simp (disch:=omega) only [AC,AH,AP,AJ,AD,AQ,AI,AA]|((with_reducible refine A4 ?_);refine⟨_,rfl,?_,?_⟩)
  all_goals first|omega|(simp;done)|(simp;omega)|skip
  ·have hx:rs[i.toNat]?.getD []=rs[i.toNat]'(by omega):=by rw [List.getElem?_eq_getElem (by omega),Option.getD_some]
   rw [hx]
   refine AF (h _ (List.getElem_mem _)) (Kn rfl hcs) (fun hp=>?_) (fun hp=>?_)
   ·simp -implicitDefEqProofs only [go_sem]
    have:rs.findIdx? p=some i.toNat:=by rw [List.findIdx?_eq_some_iff_getElem];exact⟨by omega,hp,fun j hj=>by simp [hI.2.2 j (by omega) (by omega)]⟩
    rw [this];simp;omega
   ·have hwi:=hwi (by omega)
    (try (simp -implicitDefEqProofs only [go_sem,hwi]));repeat' first|(with_reducible first|exact True.intro|refine And.intro ?_ ?_|intro _)|(((with_reducible refine AS ?_ ?_)<;>intro _)<;>try (simp -implicitDefEqProofs only [go_sem,hwi]))|simp (disch:=omega) only [AC,AH,AP,AJ,AD,AQ,AI,AA]|((with_reducible refine A4 ?_);refine⟨_,rfl,?_,?_⟩)
    all_goals first|omega|(simp;done)|(simp;omega)|skip
    rename_i j hj hlt
    by_cases hjk:j=i.toNat
    ·subst hjk;exact hp
    ·exact hI.2.2 j hj (by omega)
  ·have:rs.findIdx? p=none:=by
    rw [List.findIdx?_eq_none_iff];intro x hx;obtain⟨j,hj,rfl⟩:=List.getElem_of_mem hx;exact hI.2.2 j hj (by omega)
   rw [this]
theorem OC (c:AX) (hk:GL c) (nb:Bool) (bits:List Int) (hb:Nq bits=true) (hnb:nb=true→bits=[]) :
  CF E0 Ff [.ptr (Q8 c (Fr c.code)),.list nb (Ai bits)] (LD c bits):=by
 have hm:=hk.markl
 have hs:=hk.syms
 have ht:=hk.tot
 have hz:=Gt hk.code
 have hbl:bits.length≤1000∧Ak bits=true:=by simp only [Nq,Bool.and_eq_true,decide_eq_true_eq] at hb;exact hb
 have htt:c.tot=c.mark.length+c.syms * c.code.sz:=rfl
 have cB:=Fw c hk.wev hk.code
 have cL:=Fv c
 obtain⟨B,hB⟩:∃B,c.syms * c.code.sz=B:=⟨_,rfl⟩
 rw [hB] at cB ht htt
 refine AO H0 Am (by simp) fun hwf=>?_
 rw [AW];unfold FA
 (try (simp -implicitDefEqProofs only [go_sem,A3]));repeat' first|(with_reducible first|exact True.intro|refine And.intro ?_ ?_|intro _)|(((with_reducible refine AS ?_ ?_)<;>intro _)<;>try (simp -implicitDefEqProofs only [go_sem,A3]))|simp (disch:=omega) only [AC,AH,AP,AJ,AD,AQ,AI,AA]|((with_reducible refine A4 ?_);refine⟨_,rfl,?_,?_⟩)
 all_goals first|omega|(simp;done)|(simp;omega)|skip
 refine AY (α:=Nat) (l0:=?l2) (m0:=?m2) (fun x=>[(4,.d (.int .i64 (x:Int)))]) (fun x=>[]) (fun x=>x≤bits.length+1∧∀j,j < x→c.errs < CX c.mark (bits.drop j)) (fun x=>bits.length+1 - x) 0 ?h02 ?he2 ?he22 ?hI2 ?step2
 case h02=>(simp -implicitDefEqProofs only [go_sem];rfl)
 case he2=>rfl
 case he22=>rfl
 case' step2=>(rintro a hI;try dsimp only at hI)
 case' hI2=>try dsimp only
 ·exact⟨Nat.zero_le _,fun j hj=>by omega⟩
 ·obtain⟨i1,i2⟩:=hI
  have w1:IntKind.i64.wrap ((a:Int)+(c.mark.length:Int))=((a+c.mark.length:Nat):Int):=by rw [AC _ (by omega)];omega
  have w2:IntKind.i64.wrap (((a+c.mark.length:Nat):Int)+(B:Int))=((a+c.mark.length+B:Nat):Int):=by rw [AC _ (by omega)];omega
  have w3:IntKind.i64.wrap ((a:Int)+1)=((a+1:Nat):Int):=by rw [AC _ (by omega)];omega
  by_cases ha:a+c.tot≤bits.length
  ·have g1:((a+c.mark.length+B:Nat):Int)≤(bits.length:Int):=by omega
   have g2:(a:Int)≤(bits.length:Int):=by omega
   have cD:=ES c.nm nb c.mark (bits.drop a) hm.2.2 (EY hbl.2 a) (by rw [List.length_drop];omega) (by omega)
   by_cases hd:c.errs < CX c.mark (bits.drop a)
   ·(try (simp -implicitDefEqProofs only [go_sem,A3,w1,w2,g1,g2,hd,w3]));repeat' first|(with_reducible first|exact True.intro|refine And.intro ?_ ?_|intro _)|(((with_reducible refine isCall ?_);first|refine AF (cB) rfl ?_ ?_|refine AE (cB) rfl ?_|refine AB (cB) rfl ?_ ?_|refine AG (cB) rfl rfl ?_|refine AF (cD) rfl ?_ ?_|refine AE (cD) rfl ?_|refine AB (cD) rfl ?_ ?_|refine AG (cD) rfl rfl ?_)<;>try (simp -implicitDefEqProofs only [go_sem,A3,w1,w2,g1,g2,hd,w3]))|(((with_reducible refine AS ?_ ?_)<;>intro _)<;>try (simp -implicitDefEqProofs only [go_sem,A3,w1,w2,g1,g2,hd,w3]))|simp (disch:=omega) only [AC,AH,AP,AJ,AD,AQ,AI,AA]|((with_reducible refine A4 ?_);refine⟨_,rfl,?_,?_⟩)
    all_goals first|omega|(simp;done)|(simp;omega)|skip
    rename_i j hj
    by_cases e:j=a
    ·rw [e];exact hd
    ·exact i2 j (by omega)
   ·have hf:=Um i2 ha (by omega)
    have hnf:nb=false:=by
     cases nb with
     |false=>rfl
     |true=>have:=hnb rfl;rw [this] at ha;simp at ha;omega
    subst hnf
    obtain⟨R,hR⟩:∃R,(bits.drop (a+c.mark.length)).take B=R:=⟨_,rfl⟩
    have hRl:R.length=c.syms * c.code.sz:=by rw [←hR,List.length_take,List.length_drop];omega
    have cC:=R9 false R c.code.sz (by omega)
    have cS:=R8 false R c.code.sz c.syms (by omega) hRl (by omega) rfl
    have hpart:=fun i h=>dn c bits a i h
    rw [hB,hR] at hpart
    have g3:((a+c.mark.length:Nat):Int)≤(bits.length:Int):=by omega
    have g4:(B:Int)≤((bits.drop (a+c.mark.length)).length:Int):=by rw [List.length_drop];omega
    have hSt:=(XR c.code).symm
    have hd12:(Q8 c (Fr c.code)).drop 12=Fr c.code:=rfl
    have h16:=RI c.code
    (try (simp -implicitDefEqProofs only [go_sem,A3,w1,w2,g1,g2,hd,w3,g3,g4,hR]));repeat' first|(with_reducible first|exact True.intro|refine And.intro ?_ ?_|intro _)|(((with_reducible refine isCall ?_);first|refine AF (cB) rfl ?_ ?_|refine AE (cB) rfl ?_|refine AB (cB) rfl ?_ ?_|refine AG (cB) rfl rfl ?_|refine AF (cD) rfl ?_ ?_|refine AE (cD) rfl ?_|refine AB (cD) rfl ?_ ?_|refine AG (cD) rfl rfl ?_|refine AF (cL) rfl ?_ ?_|refine AE (cL) rfl ?_|refine AB (cL) rfl ?_ ?_|refine AG (cL) rfl rfl ?_|refine AF (cC) rfl ?_ ?_|refine AE (cC) rfl ?_|refine AB (cC) rfl ?_ ?_|refine AG (cC) rfl rfl ?_)<;>try (simp -implicitDefEqProofs only [go_sem,A3,w1,w2,g1,g2,hd,w3,g3,g4,hR]))|(((with_reducible refine AS ?_ ?_)<;>intro _)<;>try (simp -implicitDefEqProofs only [go_sem,A3,w1,w2,g1,g2,hd,w3,g3,g4,hR]))|simp (disch:=omega) only [AC,AH,AP,AJ,AD,AQ,AI,AA]|((with_reducible refine A4 ?_);refine⟨_,rfl,?_,?_⟩)
    all_goals first|omega|(simp;done)|(simp;omega)|skip
    refine Xf (α:=Nat) (fun k=>⟨BS (mZ c (SV (c.syL bits a)) k),fun _=>1⟩) (fun n k=>k=n) (fun e x=>False) 0 (sl1:=Eg ?l7) ?h07 (fun _=>rfl) EH (by simp [PC.noR]) cS ?hw7 rfl ?step7 ?hend7 (fun e x h=>h.elim)
    case h07 =>
     simp -implicitDefEqProofs only [go_sem]
     simp only [or_true,true_or,true_and]
     rfl
    case hw7=>simp -implicitDefEqProofs only [go_sem,Xt,ZO]
    case step7 =>
     intro n k ds hds hkn
     subst hkn
     have hkl:k < c.syms:=by have:=(List.getElem?_eq_some_iff.1 hds).1;rw [Km] at this;exact this
     rw [QO R hkl,hpart k hkl] at hds
     obtain rfl:=Option.some.inj hds
     refine⟨rfl,?_⟩
     have cI:=MO (SI c.code) (by rw [Tk];omega) Cb [.ptr [.list false (Ai (c.part bits a k))]] (fun q=>decide (q=c.part bits a k)) VD rfl (fun x _=>Wm false false x _)
     rw [gd hk.dst,←XR] at cI
     have hst:=ai c bits a hkl
     have h28:=PS c.code
     have hl32:((SV (c.syL bits a)).take k).length≤32:=by rw [List.length_take];omega
     rcases Nat.eq_zero_or_pos k with h0k|h0k
     ·subst h0k
      (try (simp -implicitDefEqProofs only [go_sem,Xt,ZO,A3,h16,h28]));repeat' first|(with_reducible first|exact True.intro|refine And.intro ?_ ?_|intro _)|(((with_reducible refine isCall ?_);first|refine AF (cI) rfl ?_ ?_|refine AE (cI) rfl ?_|refine AB (cI) rfl ?_ ?_|refine AG (cI) rfl rfl ?_)<;>try (simp -implicitDefEqProofs only [go_sem,Xt,ZO,A3,h16,h28]))|(((with_reducible refine AS ?_ ?_)<;>intro _)<;>try (simp -implicitDefEqProofs only [go_sem,Xt,ZO,A3,h16,h28]))|simp (disch:=omega) only [AC,AH,AP,AJ,AD,AQ,AI,AA]|((with_reducible refine A4 ?_);refine⟨_,rfl,?_,?_⟩)
      all_goals first|omega|(simp;done)|(simp;omega)|skip
      refine⟨1,?_,rfl⟩
      rw [Rp,←hst];rfl
     ·obtain⟨m,rfl⟩:∃m,k=m+1:=⟨k - 1,by omega⟩
      (try (simp -implicitDefEqProofs only [go_sem,Rp,ZO,A3,h16,h28,hst]));repeat' first|(with_reducible first|exact True.intro|refine And.intro ?_ ?_|intro _)|(((with_reducible refine isCall ?_);first|refine AF (cI) rfl ?_ ?_|refine AE (cI) rfl ?_|refine AB (cI) rfl ?_ ?_|refine AG (cI) rfl rfl ?_)<;>try (simp -implicitDefEqProofs only [go_sem,Rp,ZO,A3,h16,h28,hst]))|(((with_reducible refine AS ?_ ?_)<;>intro _)<;>try (simp -implicitDefEqProofs only [go_sem,Rp,ZO,A3,h16,h28,hst]))|simp (disch:=omega) only [AC,AH,AP,AJ,AD,AQ,AI,AA]|((with_reducible refine A4 ?_);refine⟨_,rfl,?_,?_⟩)
      all_goals first|omega|(simp;done)|(simp;omega)|skip
      exact⟨m+1+1,rfl,rfl⟩
    case hend7 =>
     intro k hkk
     rw [Km] at hkk
     change k=c.syms at hkk
     obtain⟨m,rfl⟩:∃m,k=m+1:=⟨k - 1,by omega⟩
     have hte:(SV (c.syL bits a)).take (m+1)=SV (c.syL bits a):=List.take_of_length_le (by rw [MW,K7];omega)
     have hr:LD c bits=.tup [.int .i64 (a:Int),.list false (Ai (SV (c.syL bits a))),.bool true]:=by unfold LD;rw [hf]
     rw [hr]
     (try (simp -implicitDefEqProofs only [go_sem,Rp,ZO,A3,hte]));repeat' first|(with_reducible first|exact True.intro|refine And.intro ?_ ?_|intro _)|(((with_reducible refine AS ?_ ?_)<;>intro _)<;>try (simp -implicitDefEqProofs only [go_sem,Rp,ZO,A3,hte]))|simp (disch:=omega) only [AC,AH,AP,AJ,AD,AQ,AI,AA]|((with_reducible refine A4 ?_);refine⟨_,rfl,?_,?_⟩)
     all_goals first|rfl|skip
  ·have g1:¬((a+c.mark.length+B:Nat):Int)≤(bits.length:Int):=by omega
   have hf:=Ul i2 ha
   have hr:LD c bits=.tup [.int .i64 0,.list true [],.bool false]:=by unfold LD;rw [hf]
   rw [hr]
   (try (simp -implicitDefEqProofs only [go_sem,A3,w1,w2,g1]));repeat' first|(with_reducible first|exact True.intro|refine And.intro ?_ ?_|intro _)|(((with_reducible refine isCall ?_);first|refine AF (cB) rfl ?_ ?_|refine AE (cB) rfl ?_|refine AB (cB) rfl ?_ ?_|refine AG (cB) rfl rfl ?_)<;>try (simp -implicitDefEqProofs only [go_sem,A3,w1,w2,g1]))|(((with_reducible refine AS ?_ ?_)<;>intro _)<;>try (simp -implicitDefEqProofs only [go_sem,A3,w1,w2,g1]))|simp (disch:=omega) only [AC,AH,AP,AJ,AD,AQ,AI,AA]|((with_reducible refine A4 ?_);refine⟨_,rfl,?_,?_⟩)
   all_goals first|omega|(simp;done)|(simp;omega)|skip
   all_goals skip
end Go.Pw
end
