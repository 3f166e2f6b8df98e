/- A part of the proof. -/
import Derived.Test.YtibkjeolahobbaaGreatDoorPgChrA
import Derived.Test.YtibkjeolahobbaaGreatDoorCorrectSpec
set_option linter.all false
section
open Go Go.Pw Go.Proofs
namespace Go.Pw
set_option linter.unusedSimpArgs false
set_option linter.unusedVariables false
set_option maxRecDepth 100000
set_option maxHeartbeats 3200000
theorem gN:(0:Int) < ((2:Nat):Int):=by decide
theorem gM:(1:Int) < ((2:Nat):Int):=by decide
theorem IV:¬(2:Int) < ((2:Nat):Int):=by decide
theorem TW:IntKind.i64.wrap 0=0:=by decide
theorem TV:IntKind.i64.wrap (0 - ((0:Nat):Int))=0:=by decide
theorem O9 {α:Type} (n:Nat) (x:α) (h:0 < n):(List.replicate n x).isEmpty=false:=by cases n with
 |zero=>omega
 |succ n=>rfl
attribute [local congr] Bh A_ A' Ap Bi Av Ax Aw Ao Ah Ab AZ Ar Ac As BI BM BK BL BJ BN BF Af Au Ag BD BQ Ae BG BH BE BB BC A9 BA Aq Ad
attribute [local irreducible] IntKind.wrap A5 Option.getD and or
theorem TI (n:Nat) (hn:0 < n) (hl:n≤1000000):Hq E0 DD [] [.d (.list true []),.d (.int .i64 n)] [(22,2,.row 3 1 false [])] (.own 22 2):=by
 refine DQ FD Am (by simp) (by simp [Ol,CI,EF]) (by simp [Eh]) fun hwf hwo=>?_
 rw [D2];unfold Dm
 have h0:¬(n:Int) < 0:=by omega
 have h1:(0:Int) < (n:Int):=by omega
 have hw:IntKind.i64.wrap (n:Int)=(n:Int):=AC _ (by omega)
 have hw2:IntKind.i64.wrap ((n:Int) - 0)=(n:Int):=by rw [Int.sub_zero];exact hw
 (try (simp -implicitDefEqProofs only [go_sem,h0,h1,hw,O9 n _ hn,List.length_replicate,TW,TV,hw2,Int.sub_zero]));repeat' first|(with_reducible first|exact True.intro|refine And.intro ?_ ?_|intro _)|(((with_reducible refine AS ?_ ?_)<;>intro _)<;>try (simp -implicitDefEqProofs only [go_sem,h0,h1,hw,O9 n _ hn,List.length_replicate,TW,TV,hw2,Int.sub_zero]))|simp (disch:=omega) only [AC,AH,AP,AJ,AD,AQ,AI,AA]
 all_goals first|omega|rfl|(simp at *;done)|skip
theorem TJ:CF E0 DD [.list true [],.int .i64 0] (.list true []):=by
 refine AO FD Am (by simp) fun hwf=>?_
 rw [AW];unfold Dm
 (try (simp -implicitDefEqProofs only [go_sem,TW,TV,Int.sub_zero]));repeat' first|(with_reducible first|exact True.intro|refine And.intro ?_ ?_|intro _)|(((with_reducible refine AS ?_ ?_)<;>intro _)<;>try (simp -implicitDefEqProofs only [go_sem,TW,TV,Int.sub_zero]))|simp (disch:=omega) only [AC,AH,AP,AJ,AD,AQ,AI,AA]
 all_goals first|omega|rfl|(simp at *;done)|skip
theorem TG (n:Nat) (hn:0 < n) (hl:n≤1000000):Hq E0 BU [] [.d (.list true []),.d (.int .i64 n)] [(22,2,.row 135 1 false [])] (.own 22 2):=by
 refine DQ B5 Am (by simp) (by simp [Ol,CI,EF]) (by simp [Eh]) fun hwf hwo=>?_
 rw [D2];unfold Bg
 have h0:¬(n:Int) < 0:=by omega
 have h1:(0:Int) < (n:Int):=by omega
 have hw:IntKind.i64.wrap (n:Int)=(n:Int):=AC _ (by omega)
 have hw2:IntKind.i64.wrap ((n:Int) - 0)=(n:Int):=by rw [Int.sub_zero];exact hw
 (try (simp -implicitDefEqProofs only [go_sem,h0,h1,hw,O9 n _ hn,List.length_replicate,TW,TV,hw2,Int.sub_zero]));repeat' first|(with_reducible first|exact True.intro|refine And.intro ?_ ?_|intro _)|(((with_reducible refine AS ?_ ?_)<;>intro _)<;>try (simp -implicitDefEqProofs only [go_sem,h0,h1,hw,O9 n _ hn,List.length_replicate,TW,TV,hw2,Int.sub_zero]))|simp (disch:=omega) only [AC,AH,AP,AJ,AD,AQ,AI,AA]
 all_goals first|omega|rfl|(simp at *;done)|skip
theorem TH:CF E0 BU [.list true [],.int .i64 0] (.list true []):=by
 refine AO B5 Am (by simp) fun hwf=>?_
 rw [AW];unfold Bg
 (try (simp -implicitDefEqProofs only [go_sem,TW,TV,Int.sub_zero]));repeat' first|(with_reducible first|exact True.intro|refine And.intro ?_ ?_|intro _)|(((with_reducible refine AS ?_ ?_)<;>intro _)<;>try (simp -implicitDefEqProofs only [go_sem,TW,TV,Int.sub_zero]))|simp (disch:=omega) only [AC,AH,AP,AJ,AD,AQ,AI,AA]
 all_goals first|omega|rfl|(simp at *;done)|skip
theorem Qk (n1 n2:Bool) (a b:List Int) (ha:a.length≤100000) (hb:b.length≤100000):CF E0 FE [.list false [.list n1 (Ai a),.list n2 (Ai b)]] (.list (a++b).isEmpty (Ai (a++b))):=by
 refine AO HQ Am (by simp) fun hwf=>?_
 rw [AW];unfold Em
 have w1:IntKind.i64.wrap (0+(a.length:Int))=(a.length:Int):=by rw [Int.zero_add];exact AC _ (by omega)
 have w2:IntKind.i64.wrap ((a.length:Int)+(b.length:Int))=((a.length+b.length:Nat):Int):=by rw [AC _ (by omega)];omega
 have w3:IntKind.i64.wrap (0+1)=1:=by rw [AC _ (by omega)];rfl
 have w4:IntKind.i64.wrap (1+1)=2:=by rw [AC _ (by omega)];rfl
 have q1:¬(a.length:Int) < 0:=by omega
 have q2:¬((a.length+b.length:Nat):Int) < 0:=by omega
 (try (simp -implicitDefEqProofs only [go_sem]));repeat' first|(with_reducible first|exact True.intro|refine And.intro ?_ ?_|intro _)|(((with_reducible refine AS ?_ ?_)<;>intro _)<;>try (simp -implicitDefEqProofs only [go_sem]))|simp (disch:=omega) only [AC,AH,AP,AJ,AD,AQ,AI,AA]|((with_reducible refine An ?_);refine⟨(_,_),rfl,?_,?_⟩)|((with_reducible refine A4 ?_);refine⟨_,rfl,?_,?_⟩)
 refine AY (α:=Int×Int) (l0:=?l1) (m0:=?m1) (fun x=>[(11,.d (.int .i64 x.1)),(3,.d (.int .i64 x.2))]) (fun x=>[]) (fun x=>(x.1=0∧x.2=0)∨(x.1=1∧x.2=a.length)∨(x.1=2∧x.2=((a.length+b.length:Nat):Int))) (fun x=>(2 - x.1).toNat) (0,0) ?h01 ?he1 ?he21 ?hI1 ?step1
 case h01=>(simp -implicitDefEqProofs only [go_sem];rfl)
 case he1=>rfl
 case he21=>rfl
 case' step1=>(rintro⟨i,n⟩ hI;try dsimp only at hI)
 case' hI1=>try dsimp only
 ·exact .inl ⟨rfl,rfl⟩
 rcases hI with⟨rfl,rfl⟩|⟨rfl,rfl⟩|⟨rfl,rfl⟩
 ·(try (simp -implicitDefEqProofs only [go_sem,w1,w3,q1,gN]));repeat' first|(with_reducible first|exact True.intro|refine And.intro ?_ ?_|intro _)|(((with_reducible refine AS ?_ ?_)<;>intro _)<;>try (simp -implicitDefEqProofs only [go_sem,w1,w3,q1,gN]))|simp (disch:=omega) only [AC,AH,AP,AJ,AD,AQ,AI,AA]|((with_reducible refine An ?_);refine⟨(_,_),rfl,?_,?_⟩)|((with_reducible refine A4 ?_);refine⟨_,rfl,?_,?_⟩)
  all_goals first|omega|(simp at *;done)|skip
 ·(try (simp -implicitDefEqProofs only [go_sem,w2,w4,q2,gM]));repeat' first|(with_reducible first|exact True.intro|refine And.intro ?_ ?_|intro _)|(((with_reducible refine AS ?_ ?_)<;>intro _)<;>try (simp -implicitDefEqProofs only [go_sem,w2,w4,q2,gM]))|simp (disch:=omega) only [AC,AH,AP,AJ,AD,AQ,AI,AA]|((with_reducible refine An ?_);refine⟨(_,_),rfl,?_,?_⟩)|((with_reducible refine A4 ?_);refine⟨_,rfl,?_,?_⟩)
  all_goals first|omega|(simp at *;done)|skip
 ·by_cases h0:a.length+b.length=0
  ·have ea:a=[]:=List.eq_nil_of_length_eq_zero (by omega)
   have eb:b=[]:=List.eq_nil_of_length_eq_zero (by omega)
   subst ea eb
   have c1:CF E0 DD [.list true [],.int .i64 (((([]:List Int).length+([]:List Int).length:Nat)):Int)] (.list true []):=TJ
   (try (simp -implicitDefEqProofs only [go_sem,IV]));repeat' first|(with_reducible first|exact True.intro|refine And.intro ?_ ?_|intro _)|(((with_reducible refine isCall ?_);first|refine AF (c1) rfl ?_ ?_|refine AE (c1) rfl ?_|refine AB (c1) rfl ?_ ?_|refine AG (c1) rfl rfl ?_)<;>try (simp -implicitDefEqProofs only [go_sem,IV]))|(((with_reducible refine AS ?_ ?_)<;>intro _)<;>try (simp -implicitDefEqProofs only [go_sem,IV]))|simp (disch:=omega) only [AC,AH,AP,AJ,AD,AQ,AI,AA]|((with_reducible refine An ?_);refine⟨(_,_),rfl,?_,?_⟩)|((with_reducible refine A4 ?_);refine⟨_,rfl,?_,?_⟩)
   refine AY (α:=Int) (l0:=?l2) (m0:=?m2) (fun x=>[(27,.d (.int .i64 x))]) (fun x=>[(33,.row 3 1 true [])]) (fun x=>x=0∨x=1∨x=2) (fun x=>(2 - x).toNat) 0 ?h02 ?he2 ?he22 ?hI2 ?step2
   case h02=>(simp -implicitDefEqProofs only [go_sem];rfl)
   case he2=>rfl
   case he22=>rfl
   case' step2=>(rintro i hI2;try dsimp only at hI2)
   case' hI2=>try dsimp only
   ·exact .inl rfl
   rcases hI2 with rfl|rfl|rfl
   ·(try (simp -implicitDefEqProofs only [go_sem,w3]));repeat' first|(with_reducible first|exact True.intro|refine And.intro ?_ ?_|intro _)|(((with_reducible refine AS ?_ ?_)<;>intro _)<;>try (simp -implicitDefEqProofs only [go_sem,w3]))|simp (disch:=omega) only [AC,AH,AP,AJ,AD,AQ,AI,AA]|((with_reducible refine An ?_);refine⟨(_,_),rfl,?_,?_⟩)|((with_reducible refine A4 ?_);refine⟨_,rfl,?_,?_⟩)
    all_goals first|omega|(simp at *;done)|skip
   ·(try (simp -implicitDefEqProofs only [go_sem,w4]));repeat' first|(with_reducible first|exact True.intro|refine And.intro ?_ ?_|intro _)|(((with_reducible refine AS ?_ ?_)<;>intro _)<;>try (simp -implicitDefEqProofs only [go_sem,w4]))|simp (disch:=omega) only [AC,AH,AP,AJ,AD,AQ,AI,AA]|((with_reducible refine An ?_);refine⟨(_,_),rfl,?_,?_⟩)|((with_reducible refine A4 ?_);refine⟨_,rfl,?_,?_⟩)
    all_goals first|omega|(simp at *;done)|skip
   ·(try (simp -implicitDefEqProofs only [go_sem,IV]));repeat' first|(with_reducible first|exact True.intro|refine And.intro ?_ ?_|intro _)|(((with_reducible refine AS ?_ ?_)<;>intro _)<;>try (simp -implicitDefEqProofs only [go_sem,IV]))|simp (disch:=omega) only [AC,AH,AP,AJ,AD,AQ,AI,AA]|((with_reducible refine An ?_);refine⟨(_,_),rfl,?_,?_⟩)|((with_reducible refine A4 ?_);refine⟨_,rfl,?_,?_⟩)
    all_goals first|omega|(simp at *;done)|rfl|skip
  ·have he:(a++b).isEmpty=false:=by cases a<;>cases b<;>simp_all
   have c1:=TI (a.length+b.length) (by omega) (by omega)
   (try (simp -implicitDefEqProofs only [go_sem,IV]));repeat' first|(with_reducible first|exact True.intro|refine And.intro ?_ ?_|intro _)|(((with_reducible refine isCall ?_);first|(refine Ei ([]) ([((22,2),(24,1))]) (c1) (by repeat' first|exact True.intro|exact rfl|refine And.intro ?_ ?_) (by simp [Handed,DU.get,Aa.ren,AV.ren,AV.ren.renL,AN.get,BS,B6,Dj,AN.reach,AV.sites,AV.sites.sitesL,AN.osites]) (by simp [CD,Eh,CI,DU.get,Dj,EF,B9]) (by rfl) (by simp only [Dk,DU.get,Aa.ren,AV.ren,AV.ren.renL,and_self,and_true,true_and,if_true,reduceIte];rfl) ?_))<;>try (simp -implicitDefEqProofs only [go_sem,IV]))|(((with_reducible refine AS ?_ ?_)<;>intro _)<;>try (simp -implicitDefEqProofs only [go_sem,IV]))|simp (disch:=omega) only [AC,AH,AP,AJ,AD,AQ,AI,AA]|((with_reducible refine An ?_);refine⟨(_,_),rfl,?_,?_⟩)|((with_reducible refine A4 ?_);refine⟨_,rfl,?_,?_⟩)
   refine AY (α:=Int×(List Int)) (l0:=?l3) (m0:=?m3) (fun x=>[(27,.d (.int .i64 x.1))]) (fun x=>[(24,.row 3 1 false (Ai x.2))]) (fun x=>(x.1=0∧x.2=[])∨(x.1=1∧x.2=a)∨(x.1=2∧x.2=a++b)) (fun x=>(2 - x.1).toNat) (0,[]) ?h03 ?he3 ?he23 ?hI3 ?step3
   case h03=>(simp -implicitDefEqProofs only [go_sem];rfl)
   case he3=>rfl
   case he23=>rfl
   case' step3=>(rintro⟨i,l⟩ hI3;try dsimp only at hI3)
   case' hI3=>try dsimp only
   ·exact .inl ⟨rfl,rfl⟩
   rcases hI3 with⟨rfl,rfl⟩|⟨rfl,rfl⟩|⟨rfl,rfl⟩
   ·(try (simp -implicitDefEqProofs only [go_sem,w3,List.nil_append]));repeat' first|(with_reducible first|exact True.intro|refine And.intro ?_ ?_|intro _)|(((with_reducible refine AS ?_ ?_)<;>intro _)<;>try (simp -implicitDefEqProofs only [go_sem,w3,List.nil_append]))|simp (disch:=omega) only [AC,AH,AP,AJ,AD,AQ,AI,AA]|((with_reducible refine An ?_);refine⟨(_,_),rfl,?_,?_⟩)|((with_reducible refine A4 ?_);refine⟨_,rfl,?_,?_⟩)
    all_goals first|omega|(simp at *;done)|skip
   ·(try (simp -implicitDefEqProofs only [go_sem,w4]));repeat' first|(with_reducible first|exact True.intro|refine And.intro ?_ ?_|intro _)|(((with_reducible refine AS ?_ ?_)<;>intro _)<;>try (simp -implicitDefEqProofs only [go_sem,w4]))|simp (disch:=omega) only [AC,AH,AP,AJ,AD,AQ,AI,AA]|((with_reducible refine An ?_);refine⟨(_,_),rfl,?_,?_⟩)|((with_reducible refine A4 ?_);refine⟨_,rfl,?_,?_⟩)
    all_goals first|omega|(simp at *;done)|skip
   ·(try (simp -implicitDefEqProofs only [go_sem,he,IV]));repeat' first|(with_reducible first|exact True.intro|refine And.intro ?_ ?_|intro _)|(((with_reducible refine AS ?_ ?_)<;>intro _)<;>try (simp -implicitDefEqProofs only [go_sem,he,IV]))|simp (disch:=omega) only [AC,AH,AP,AJ,AD,AQ,AI,AA]|((with_reducible refine An ?_);refine⟨(_,_),rfl,?_,?_⟩)|((with_reducible refine A4 ?_);refine⟨_,rfl,?_,?_⟩)
    all_goals first|omega|(simp at *;done)|rfl|skip
theorem Qj (n1 n2:Bool) (a b:List F) (ha:a.length≤100000) (hb:b.length≤100000):CF E0 B7 [.list false [.list n1 (us a),.list n2 (us b)]] (.list (a++b).isEmpty (us (a++b))):=by
 refine AO DM Am (by simp) fun hwf=>?_
 rw [AW];unfold B2
 have w1:IntKind.i64.wrap (0+(a.length:Int))=(a.length:Int):=by rw [Int.zero_add];exact AC _ (by omega)
 have w2:IntKind.i64.wrap ((a.length:Int)+(b.length:Int))=((a.length+b.length:Nat):Int):=by rw [AC _ (by omega)];omega
 have w3:IntKind.i64.wrap (0+1)=1:=by rw [AC _ (by omega)];rfl
 have w4:IntKind.i64.wrap (1+1)=2:=by rw [AC _ (by omega)];rfl
 have q1:¬(a.length:Int) < 0:=by omega
 have q2:¬((a.length+b.length:Nat):Int) < 0:=by omega
 (try (simp -implicitDefEqProofs only [go_sem]));repeat' first|(with_reducible first|exact True.intro|refine And.intro ?_ ?_|intro _)|(((with_reducible refine AS ?_ ?_)<;>intro _)<;>try (simp -implicitDefEqProofs only [go_sem]))|simp (disch:=omega) only [AC,AH,AP,AJ,AD,AQ,AI,AA]|((with_reducible refine An ?_);refine⟨(_,_),rfl,?_,?_⟩)|((with_reducible refine A4 ?_);refine⟨_,rfl,?_,?_⟩)
 refine AY (α:=Int×Int) (l0:=?l4) (m0:=?m4) (fun x=>[(11,.d (.int .i64 x.1)),(3,.d (.int .i64 x.2))]) (fun x=>[]) (fun x=>(x.1=0∧x.2=0)∨(x.1=1∧x.2=a.length)∨(x.1=2∧x.2=((a.length+b.length:Nat):Int))) (fun x=>(2 - x.1).toNat) (0,0) ?h04 ?he4 ?he24 ?hI4 ?step4
 case h04=>(simp -implicitDefEqProofs only [go_sem];rfl)
 case he4=>rfl
 case he24=>rfl
 case' step4=>(rintro⟨i,n⟩ hI;try dsimp only at hI)
 case' hI4=>try dsimp only
 ·exact .inl ⟨rfl,rfl⟩
 rcases hI with⟨rfl,rfl⟩|⟨rfl,rfl⟩|⟨rfl,rfl⟩
 ·(try (simp -implicitDefEqProofs only [go_sem,w1,w3,q1,gN]));repeat' first|(with_reducible first|exact True.intro|refine And.intro ?_ ?_|intro _)|(((with_reducible refine AS ?_ ?_)<;>intro _)<;>try (simp -implicitDefEqProofs only [go_sem,w1,w3,q1,gN]))|simp (disch:=omega) only [AC,AH,AP,AJ,AD,AQ,AI,AA]|((with_reducible refine An ?_);refine⟨(_,_),rfl,?_,?_⟩)|((with_reducible refine A4 ?_);refine⟨_,rfl,?_,?_⟩)
  all_goals first|omega|(simp at *;done)|skip
 ·(try (simp -implicitDefEqProofs only [go_sem,w2,w4,q2,gM]));repeat' first|(with_reducible first|exact True.intro|refine And.intro ?_ ?_|intro _)|(((with_reducible refine AS ?_ ?_)<;>intro _)<;>try (simp -implicitDefEqProofs only [go_sem,w2,w4,q2,gM]))|simp (disch:=omega) only [AC,AH,AP,AJ,AD,AQ,AI,AA]|((with_reducible refine An ?_);refine⟨(_,_),rfl,?_,?_⟩)|((with_reducible refine A4 ?_);refine⟨_,rfl,?_,?_⟩)
  all_goals first|omega|(simp at *;done)|skip
 ·by_cases h0:a.length+b.length=0
  ·have ea:a=[]:=List.eq_nil_of_length_eq_zero (by omega)
   have eb:b=[]:=List.eq_nil_of_length_eq_zero (by omega)
   subst ea eb
   have c1:CF E0 BU [.list true [],.int .i64 (((([]:List F).length+([]:List F).length:Nat)):Int)] (.list true []):=TH
   (try (simp -implicitDefEqProofs only [go_sem,IV]));repeat' first|(with_reducible first|exact True.intro|refine And.intro ?_ ?_|intro _)|(((with_reducible refine isCall ?_);first|refine AF (c1) rfl ?_ ?_|refine AE (c1) rfl ?_|refine AB (c1) rfl ?_ ?_|refine AG (c1) rfl rfl ?_)<;>try (simp -implicitDefEqProofs only [go_sem,IV]))|(((with_reducible refine AS ?_ ?_)<;>intro _)<;>try (simp -implicitDefEqProofs only [go_sem,IV]))|simp (disch:=omega) only [AC,AH,AP,AJ,AD,AQ,AI,AA]|((with_reducible refine An ?_);refine⟨(_,_),rfl,?_,?_⟩)|((with_reducible refine A4 ?_);refine⟨_,rfl,?_,?_⟩)
   refine AY (α:=Int) (l0:=?l5) (m0:=?m5) (fun x=>[(27,.d (.int .i64 x))]) (fun x=>[(33,.row 135 1 true [])]) (fun x=>x=0∨x=1∨x=2) (fun x=>(2 - x).toNat) 0 ?h05 ?he5 ?he25 ?hI5 ?step5
   case h05=>(simp -implicitDefEqProofs only [go_sem];rfl)
   case he5=>rfl
   case he25=>rfl
   case' step5=>(rintro i hI2;try dsimp only at hI2)
   case' hI5=>try dsimp only
   ·exact .inl rfl
   rcases hI2 with rfl|rfl|rfl
   ·(try (simp -implicitDefEqProofs only [go_sem,w3]));repeat' first|(with_reducible first|exact True.intro|refine And.intro ?_ ?_|intro _)|(((with_reducible refine AS ?_ ?_)<;>intro _)<;>try (simp -implicitDefEqProofs only [go_sem,w3]))|simp (disch:=omega) only [AC,AH,AP,AJ,AD,AQ,AI,AA]|((with_reducible refine An ?_);refine⟨(_,_),rfl,?_,?_⟩)|((with_reducible refine A4 ?_);refine⟨_,rfl,?_,?_⟩)
    all_goals first|omega|(simp at *;done)|skip
   ·(try (simp -implicitDefEqProofs only [go_sem,w4]));repeat' first|(with_reducible first|exact True.intro|refine And.intro ?_ ?_|intro _)|(((with_reducible refine AS ?_ ?_)<;>intro _)<;>try (simp -implicitDefEqProofs only [go_sem,w4]))|simp (disch:=omega) only [AC,AH,AP,AJ,AD,AQ,AI,AA]|((with_reducible refine An ?_);refine⟨(_,_),rfl,?_,?_⟩)|((with_reducible refine A4 ?_);refine⟨_,rfl,?_,?_⟩)
    all_goals first|omega|(simp at *;done)|skip
   ·(try (simp -implicitDefEqProofs only [go_sem,IV]));repeat' first|(with_reducible first|exact True.intro|refine And.intro ?_ ?_|intro _)|(((with_reducible refine AS ?_ ?_)<;>intro _)<;>try (simp -implicitDefEqProofs only [go_sem,IV]))|simp (disch:=omega) only [AC,AH,AP,AJ,AD,AQ,AI,AA]|((with_reducible refine An ?_);refine⟨(_,_),rfl,?_,?_⟩)|((with_reducible refine A4 ?_);refine⟨_,rfl,?_,?_⟩)
    all_goals first|omega|(simp at *;done)|rfl|skip
  ·have he:(a++b).isEmpty=false:=by cases a<;>cases b<;>simp_all
   have c1:=TG (a.length+b.length) (by omega) (by omega)
   (try (simp -implicitDefEqProofs only [go_sem,IV]));repeat' first|(with_reducible first|exact True.intro|refine And.intro ?_ ?_|intro _)|(((with_reducible refine isCall ?_);first|(refine Ei ([]) ([((22,2),(24,1))]) (c1) (by repeat' first|exact True.intro|exact rfl|refine And.intro ?_ ?_) (by simp [Handed,DU.get,Aa.ren,AV.ren,AV.ren.renL,AN.get,BS,B6,Dj,AN.reach,AV.sites,AV.sites.sitesL,AN.osites]) (by simp [CD,Eh,CI,DU.get,Dj,EF,B9]) (by rfl) (by simp only [Dk,DU.get,Aa.ren,AV.ren,AV.ren.renL,and_self,and_true,true_and,if_true,reduceIte];rfl) ?_))<;>try (simp -implicitDefEqProofs only [go_sem,IV]))|(((with_reducible refine AS ?_ ?_)<;>intro _)<;>try (simp -implicitDefEqProofs only [go_sem,IV]))|simp (disch:=omega) only [AC,AH,AP,AJ,AD,AQ,AI,AA]|((with_reducible refine An ?_);refine⟨(_,_),rfl,?_,?_⟩)|((with_reducible refine A4 ?_);refine⟨_,rfl,?_,?_⟩)
   refine AY (α:=Int×(List F)) (l0:=?l6) (m0:=?m6) (fun x=>[(27,.d (.int .i64 x.1))]) (fun x=>[(24,.row 135 1 false (us x.2))]) (fun x=>(x.1=0∧x.2=[])∨(x.1=1∧x.2=a)∨(x.1=2∧x.2=a++b)) (fun x=>(2 - x.1).toNat) (0,[]) ?h06 ?he6 ?he26 ?hI6 ?step6
   case h06=>(simp -implicitDefEqProofs only [go_sem];rfl)
   case he6=>rfl
   case he26=>rfl
   case' step6=>(rintro⟨i,l⟩ hI3;try dsimp only at hI3)
   case' hI6=>try dsimp only
   ·exact .inl ⟨rfl,rfl⟩
   rcases hI3 with⟨rfl,rfl⟩|⟨rfl,rfl⟩|⟨rfl,rfl⟩
   ·(try (simp -implicitDefEqProofs only [go_sem,w3,List.nil_append]));repeat' first|(with_reducible first|exact True.intro|refine And.intro ?_ ?_|intro _)|(((with_reducible refine AS ?_ ?_)<;>intro _)<;>try (simp -implicitDefEqProofs only [go_sem,w3,List.nil_append]))|simp (disch:=omega) only [AC,AH,AP,AJ,AD,AQ,AI,AA]|((with_reducible refine An ?_);refine⟨(_,_),rfl,?_,?_⟩)|((with_reducible refine A4 ?_);refine⟨_,rfl,?_,?_⟩)
    all_goals first|omega|(simp at *;done)|skip
   ·(try (simp -implicitDefEqProofs only [go_sem,w4]));repeat' first|(with_reducible first|exact True.intro|refine And.intro ?_ ?_|intro _)|(((with_reducible refine AS ?_ ?_)<;>intro _)<;>try (simp -implicitDefEqProofs only [go_sem,w4]))|simp (disch:=omega) only [AC,AH,AP,AJ,AD,AQ,AI,AA]|((with_reducible refine An ?_);refine⟨(_,_),rfl,?_,?_⟩)|((with_reducible refine A4 ?_);refine⟨_,rfl,?_,?_⟩)
    all_goals first|omega|(simp at *;done)|skip
   ·(try (simp -implicitDefEqProofs only [go_sem,he,IV]));repeat' first|(with_reducible first|exact True.intro|refine And.intro ?_ ?_|intro _)|(((with_reducible refine AS ?_ ?_)<;>intro _)<;>try (simp -implicitDefEqProofs only [go_sem,he,IV]))|simp (disch:=omega) only [AC,AH,AP,AJ,AD,AQ,AI,AA]|((with_reducible refine An ?_);refine⟨(_,_),rfl,?_,?_⟩)|((with_reducible refine A4 ?_);refine⟨_,rfl,?_,?_⟩)
    all_goals first|omega|(simp at *;done)|rfl|skip
end Go.Pw
end
section
namespace Go.Pw
set_option linter.unusedSimpArgs false
set_option linter.unusedVariables false
def FG:List F→List F→F
 |a :: as,b :: bs=>fa (fm a b) (FG as bs)
 |_,_=>0
def GH (r o:List F) (b:F):List F:=List.zipWith (fun x y=>fa x (fm y b)) r o
def HM (r:List F) (b:F):List F:=r.map fun x=>fm x b
def EJ (r:List F) (j:Nat):F:=r[j]?.getD 0
def Ba (M:List (List F)) (i:Nat):List F:=M[i]?.getD []
def DR (M:List (List F)) (i j:Nat):F:=EJ (Ba M i) j
theorem gx (a b c:F):fa a (fa b c)=fa b (fa a c):=by rw [←Dt,Mw a b,Dt]
theorem mb (a b c d:F):fa (fa a b) (fa c d)=fa (fa a c) (fa b d):=by rw [Dt,Dt,gx b c d]
theorem jG (a b c:F):fm (fa a b) c=fa (fm a c) (fm b c):=by rw [Da,Lc,Da c a,Da c b]
theorem Mu (a b c:F):fm a (fm b c)=fm b (fm a c):=by rw [←FQ,Da a b,FQ]
theorem LE (w:List F):FG [] w=0:=rfl
theorem P_ (w:List F):FG w []=0:=by cases w<;>rfl
theorem Dg (a b:F) (as bs:List F):FG (a :: as) (b :: bs)=fa (fm a b) (FG as bs):=rfl
theorem My (b:F):∀(r o w:List F),r.length=o.length→FG (GH r o b) w=fa (FG r w) (fm b (FG o w))
 |[],[],w,_=>by simp [GH,LE,DZ,Cz]
 |x :: r,y :: o,[],_=>by simp [P_,DZ,Cz]
 |x :: r,y :: o,c :: w,h=>by
  have ih:=My b r o w (by simpa using h)
  simp only [GH,List.zipWith_cons_cons,Dg] at ih ⊢
  rw [ih,jG,Lc,FQ,Mu,mb]
theorem P9 (b:F):∀(r w:List F),FG (HM r b) w=fm b (FG r w)
 |[],w=>by simp [HM,LE,DZ]
 |x :: r,[]=>by simp [P_,DZ]
 |x :: r,c :: w=>by
  have ih:=P9 b r w
  simp only [HM,List.map_cons,Dg] at ih ⊢
  rw [ih,Lc,FQ,Mu]
theorem P8 (x y:F):∀(r w:List F),r.length=w.length→FG (r++[x]) (w++[y])=fa (FG r w) (fm x y)
 |[],[],_=>by simp [FG,Cz,Iu]
 |a :: r,b :: w,h=>by
  have ih:=P8 x y r w (by simpa using h)
  simp only [List.cons_append,Dg]
  rw [ih,Dt]
theorem PD:∀(r w:List F) (i:Nat),i < r.length→r.length=w.length→(∀j,j≠i→fm (EJ r j) (EJ w j)=0)→FG r w=fm (EJ r i) (EJ w i)
 |a :: r,b :: w,0,_,hl,h=>by
  have hz:FG r w=0:=by
   have key:∀(r w:List F),(∀j,fm (EJ r j) (EJ w j)=0)→FG r w=0:=by
    intro r
    induction r with
    |nil=>intro w _;rfl
    |cons a r ih =>
     intro w h
     cases w with
     |nil=>rfl
     |cons b w =>
      rw [Dg,ih w fun j=>h (j+1),show fm a b=0 from h 0];rfl
   exact key r w fun j=>h (j+1) (by omega)
  rw [Dg,hz,Cz];rfl
 |a :: r,b :: w,i+1,hi,hl,h=>by
  have ih:=PD r w i (by simpa using hi) (by simpa using hl) fun j hj=>h (j+1) (by omega)
  rw [Dg,ih,show fm a b=0 from h 0 (by omega),Iu];rfl
theorem S1:∀(r w:List F) (i k:Nat),i < k→k < r.length→r.length=w.length→(∀j,j≠i→j≠k→fm (EJ r j) (EJ w j)=0)→FG r w=fa (fm (EJ r i) (EJ w i)) (fm (EJ r k) (EJ w k))
 |a :: r,b :: w,0,k+1,_,hk,hl,h=>by
  rw [Dg,PD r w k (by simpa using hk) (by simpa using hl) fun j hj=>h (j+1) (by omega) (by omega)];rfl
 |a :: r,b :: w,i+1,k+1,hik,hk,hl,h=>by
  have ih:=S1 r w i k (by omega) (by simpa using hk) (by simpa using hl) fun j hj hj2=>h (j+1) (by omega) (by omega)
  rw [Dg,ih,show fm a b=0 from h 0 (by omega) (by omega),Iu];rfl
def Qm (c:F) (M:List (List F)) (v:List F):Prop:=∀i,i < M.length→FG (Ba M i) (v++[c])=0
structure Qi (M:List (List F)) (n m:Nat):Prop where
 len:M.length=n
 row:∀i,i < n→(Ba M i).length=m
def Bb (f:F→F→F) (M:List (List F)) (k:Nat):List (List F):=(List.range M.length).map fun i=>if i=k then Ba M k else GH (Ba M i) (Ba M k) (f (DR M i k) (DR M k k))
def swp (M:List (List F)) (k p:Nat):List (List F):=(M.set k (Ba M p)).set p (Ba M k)
theorem Lu {α:Type} (n i:Nat) (g:Nat→List F) (h:i < n):Ba ((List.range n).map g) i=g i:=by simp [Ba,h]
theorem F5 (M:List (List F)) (k i:Nat) (r:List F) (hk:k < M.length):Ba (M.set k r) i=if i=k then r else Ba M i:=by
 unfold Ba
 by_cases h:i=k
 ·subst h;simp [hk]
 ·rw [List.getElem?_set_ne (fun e=>h e.symm),if_neg h]
theorem DI (f:F→F→F) (M:List (List F)) (k i:Nat) (h:i < M.length):Ba (Bb f M k) i=if i=k then Ba M k else GH (Ba M i) (Ba M k) (f (DR M i k) (DR M k k)) :=
 Lu (α:=F) M.length i _ h
theorem EM (M:List (List F)) (k p i:Nat) (hk:k < M.length) (hp:p < M.length):Ba (swp M k p) i=if i=p then Ba M k else if i=k then Ba M p else Ba M i:=by
 unfold swp
 rw [F5 _ _ _ _ (by simpa using hp),F5 _ _ _ _ hk]
theorem NW (r o:List F) (b:F) (h:r.length=o.length):(GH r o b).length=r.length:=by simp [GH,h]
theorem T9 (r:List F) (b:F):(HM r b).length=r.length:=by simp [HM]
theorem Qi.swp {M:List (List F)} {n m k p:Nat} (h:Qi M n m) (hk:k < n) (hp:p < n):Qi (swp M k p) n m:=by
 have hl:=h.len
 refine⟨by simp [Go.Pw.swp,hl],fun i hi=>?_⟩
 rw [EM _ _ _ _ (by omega) (by omega)]
 split
 ·exact h.row k hk
 ·split
  ·exact h.row p hp
  ·exact h.row i hi
theorem Qi.scl {M:List (List F)} {n m k:Nat} (h:Qi M n m) (hk:k < n) (b:F):Qi (M.set k (HM (Ba M k) b)) n m:=by
 have hl:=h.len
 refine⟨by simp [hl],fun i hi=>?_⟩
 rw [F5 _ _ _ _ (by omega)]
 split
 ·rw [T9];exact h.row k hk
 ·exact h.row i hi
theorem Qi.red {M:List (List F)} {n m k:Nat} (f:F→F→F) (h:Qi M n m) (hk:k < n):Qi (Bb f M k) n m:=by
 have hl:=h.len
 refine⟨by simp [Bb,hl],fun i hi=>?_⟩
 rw [DI _ _ _ _ (by omega)]
 split
 ·exact h.row k hk
 ·rw [NW]
  ·exact h.row i hi
  ·rw [h.row i hi,h.row k hk]
theorem X4 {M:List (List F)} {n m k p:Nat} (h:Qi M n m) (hk:k < n) (hp:p < n) (c:F) (v:List F):Qm c (swp M k p) v↔Qm c M v:=by
 have hl:=h.len
 have hl2:=(h.swp hk hp).len
 constructor
 ·intro hs i hi
  by_cases h1:i=k
  ·subst h1
   have:=hs p (by omega)
   rwa [EM _ _ _ _ (by omega) (by omega),if_pos rfl] at this
  ·by_cases h2:i=p
   ·subst h2
    have:=hs k (by omega)
    rwa [EM _ _ _ _ (by omega) (by omega),if_neg (fun e=>h1 e.symm),if_pos rfl] at this
   ·have:=hs i (by omega)
    rwa [EM _ _ _ _ (by omega) (by omega),if_neg h2,if_neg h1] at this
 ·intro hs i hi
  rw [EM _ _ _ _ (by omega) (by omega)]
  split
  ·exact hs k (by omega)
  ·split
   ·exact hs p (by omega)
   ·exact hs i (by omega)
theorem ij {M:List (List F)} {n m k:Nat} (h:Qi M n m) (hk:k < n) {b:F} (hb:b≠0) (c:F) (v:List F):Qm c (M.set k (HM (Ba M k) b)) v↔Qm c M v:=by
 have hl:=h.len
 constructor
 ·intro hs i hi
  have:=hs i (by simpa using hi)
  rw [F5 _ _ _ _ (by omega)] at this
  split at this
  ·rename_i e;subst e
   rw [P9] at this
   exact(P1 _ _ this).resolve_left hb
  ·exact this
 ·intro hs i hi
  rw [F5 _ _ _ _ (by omega)]
  split
  ·rename_i e;subst e;rw [P9,hs i (by omega),DZ]
  ·exact hs i (by simpa using hi)
theorem X5 {M:List (List F)} {n m k:Nat} (f:F→F→F) (h:Qi M n m) (hk:k < n) (c:F) (v:List F):Qm c (Bb f M k) v↔Qm c M v:=by
 have hl:=h.len
 have hl2:=(h.red f hk).len
 constructor
 ·intro hs i hi
  have h1:=hs k (by omega)
  rw [DI _ _ _ _ (by omega),if_pos rfl] at h1
  by_cases hik:i=k
  ·subst hik;exact h1
  ·have h2:=hs i (by omega)
   rw [DI _ _ _ _ (by omega),if_neg hik,My _ _ _ _ (by rw [h.row i (by omega),h.row k hk]),h1,DZ,Cz] at h2
   exact h2
 ·intro hs i hi
  rw [DI _ _ _ _ (by omega)]
  split
  ·exact hs k (by omega)
  ·rw [My _ _ _ _ (by rw [h.row i (by omega),h.row k hk]),hs i (by omega),hs k (by omega),DZ,Cz]
structure Z8 (M:List (List F)) (k:Nat):Prop where
 off:∀i j,i < M.length→j < k→i≠j→DR M i j=0
 dia:∀j,j < k→DR M j j≠0
theorem NT (r o:List F) (b:F) (j:Nat) (h:r.length=o.length):EJ (GH r o b) j=fa (EJ r j) (fm (EJ o j) b):=by
 unfold EJ GH
 rw [List.getElem?_zipWith]
 by_cases hj:j < r.length
 ·rw [List.getElem?_eq_getElem hj,List.getElem?_eq_getElem (by omega)];rfl
 ·rw [List.getElem?_eq_none (by omega),List.getElem?_eq_none (l:=o) (by omega)]
  show (0:F)=fa 0 (fm 0 b)
  rw [CS];rfl
theorem QX (r:List F) (b:F) (j:Nat):EJ (HM r b) j=fm (EJ r j) b:=by
 unfold EJ HM
 rw [List.getElem?_map]
 cases r[j]? with
 |none=>exact(CS b).symm
 |some x=>rfl
theorem Z8.swp {M:List (List F)} {n m k p:Nat} (hs:Qi M n m) (h:Z8 M k) (hk:k < n) (hkp:k≤p) (hp:p < n):Z8 (swp M k p) k:=by
 have hl:=hs.len
 have hl2:=(hs.swp hk hp).len
 refine⟨fun i j hi hj hij=>?_,fun j hj=>?_⟩
 ·unfold DR
  rw [EM _ _ _ _ (by omega) (by omega)]
  split
  ·exact h.off k j (by omega) hj (by omega)
  ·split
   ·exact h.off p j (by omega) hj (by omega)
   ·exact h.off i j (by omega) hj hij
 ·unfold DR
  rw [EM _ _ _ _ (by omega) (by omega),if_neg (by omega),if_neg (by omega)]
  exact h.dia j hj
theorem Xw {M:List (List F)} {n m k p:Nat} (hs:Qi M n m) (hk:k < n) (hp:p < n) (j:Nat):DR (swp M k p) k j=DR M p j:=by
 have hl:=hs.len
 unfold DR
 rw [EM _ _ _ _ (by omega) (by omega)]
 split
 ·rename_i e;subst e;rfl
 ·rw [if_pos rfl]
theorem Z8.scl {M:List (List F)} {n m k:Nat} (hs:Qi M n m) (h:Z8 M k) (hk:k < n) (b:F):Z8 (M.set k (HM (Ba M k) b)) k:=by
 have hl:=hs.len
 refine⟨fun i j hi hj hij=>?_,fun j hj=>?_⟩
 ·unfold DR
  rw [F5 _ _ _ _ (by omega)]
  split
  ·rw [QX,show EJ (Ba M k) j=0 from h.off k j (by omega) hj (by omega),CS]
  ·exact h.off i j (by simpa using hi) hj hij
 ·unfold DR
  rw [F5 _ _ _ _ (by omega),if_neg (by omega)]
  exact h.dia j hj
theorem Xx {M:List (List F)} {n m k:Nat} (hs:Qi M n m) (hk:k < n) (b:F) (i j:Nat):DR (M.set k (HM (Ba M k) b)) i j=if i=k then fm (DR M k j) b else DR M i j:=by
 have hl:=hs.len
 unfold DR
 rw [F5 _ _ _ _ (by omega)]
 split
 ·rw [QX]
 ·rfl
theorem Z8.red {M:List (List F)} {n m k:Nat} (f:F→F→F) (hs:Qi M n m) (h:Z8 M k) (hk:k < n) (hd:DR M k k≠0) (hf:∀a,fm (DR M k k) (f a (DR M k k))=a):Z8 (Bb f M k) (k+1):=by
 have hl:=hs.len
 have hl2:=(hs.red f hk).len
 have e:∀i j,i < n→DR (Bb f M k) i j=if i=k then DR M k j else fa (DR M i j) (fm (DR M k j) (f (DR M i k) (DR M k k))):=fun i j hi=>by
  show EJ (Ba (Bb f M k) i) j=_
  rw [DI _ _ _ _ (by omega)]
  split
  ·rfl
  ·rw [NT _ _ _ _ (by rw [hs.row i hi,hs.row k hk])];rfl
 refine⟨fun i j hi hj hij=>?_,fun j hj=>?_⟩
 ·rw [e i j (by omega)]
  rcases Nat.lt_succ_iff_lt_or_eq.1 hj with hj|rfl
  ·split
   ·exact h.off k j (by omega) hj (by omega)
   ·rw [h.off i j (by omega) hj hij,h.off k j (by omega) hj (by omega),CS];rfl
  ·rw [if_neg hij,hf,FR]
 ·rcases Nat.lt_succ_iff_lt_or_eq.1 hj with hj|rfl
  ·rw [e j j (by omega),if_neg (by omega),h.off k j (by omega) hj (by omega),CS,Cz];exact h.dia j hj
  ·rw [e j j (by omega),if_pos rfl];exact hd
theorem OZ {M:List (List F)} {n m k:Nat} (f:F→F→F) (hs:Qi M n m) (h:Z8 M k) (hk:k < n) (j:Nat) (hj:j≤k):DR (Bb f M k) j j=DR M j j:=by
 have hl:=hs.len
 show EJ (Ba (Bb f M k) j) j=_
 rw [DI _ _ _ _ (by omega)]
 split
 ·rename_i e;subst e;rfl
 ·rename_i hne
  rw [NT _ _ _ _ (by rw [hs.row j (by omega),hs.row k hk]),show EJ (Ba M k) j=0 from h.off k j (by omega) (by omega) (by omega),CS,Cz];rfl
theorem JK (v:List F) (c:F) (j:Nat) (h:j < v.length):EJ (v++[c]) j=EJ v j:=by unfold EJ;rw [List.getElem?_append_left h]
theorem MN (v:List F) (c:F):EJ (v++[c]) v.length=c:=by unfold EJ;simp
theorem TA (v:List F) (j:Nat) (h:v.length≤j):EJ v j=0:=by unfold EJ;rw [List.getElem?_eq_none h];rfl
theorem Xa {M:List (List F)} {n m:Nat} (hs:Qi M n (m+1)) (h:Z8 M m) (hm:m≤n) (v:List F) (hv:v.length=m) :
  Qm 1 M v↔(∀i,i < m→fm (DR M i i) (EJ v i)=DR M i m)∧∀i,m≤i→i < n→DR M i m=0:=by
 have hl:=hs.len
 have hw:(v++[1]).length=m+1:=by simp [hv]
 have low:∀i,i < m→FG (Ba M i) (v++[1])=fa (fm (DR M i i) (EJ v i)) (DR M i m):=fun i hi=>by
  rw [S1 (Ba M i) (v++[1]) i m hi (by rw [hs.row i (by omega)];omega) (by rw [hs.row i (by omega),hw]) fun j h1 h2=>?_]
  ·rw [JK _ _ _ (by omega),show EJ (v++[1]) m=1 by rw [←hv];exact MN v 1,I_];rfl
  ·by_cases hj:j < m
   ·rw [show EJ (Ba M i) j=0 from h.off i j (by omega) hj (fun e=>h1 e.symm),CS]
   ·rw [TA (Ba M i) j (by rw [hs.row i (by omega)];omega),CS]
 have high:∀i,m≤i→i < n→FG (Ba M i) (v++[1])=DR M i m:=fun i hi hi2=>by
  rw [PD (Ba M i) (v++[1]) m (by rw [hs.row i (by omega)];omega) (by rw [hs.row i (by omega),hw]) fun j h1=>?_]
  ·rw [show EJ (v++[1]) m=1 by rw [←hv];exact MN v 1,I_];rfl
  ·by_cases hj:j < m
   ·rw [show EJ (Ba M i) j=0 from h.off i j (by omega) hj (by omega),CS]
   ·rw [TA (Ba M i) j (by rw [hs.row i (by omega)];omega),CS]
 constructor
 ·intro hsat
  refine⟨fun i hi=>?_,fun i hi hi2=>?_⟩
  ·have:=hsat i (by omega)
   rw [low i hi] at this
   exact G2 _ _ this
  ·have:=hsat i (by omega)
   rwa [high i hi hi2] at this
 ·rintro⟨h1,h2⟩ i hi
  by_cases him:i < m
  ·rw [low i him,h1 i him,FR]
  ·rw [high i (by omega) (by omega)];exact h2 i (by omega) (by omega)
theorem bJ {M:List (List F)} {n m k:Nat} (hs:Qi M n (m+1)) (h:Z8 M k) (hk:k < m) (hm:m≤n) (hz:∀i,k≤i→i < n→DR M i k=0) :
  ∃v:List F,v.length=m∧Qm 0 M v∧EJ v k=1:=by
 have hl:=hs.len
 obtain⟨v,hvd⟩:∃v:List F,v=(List.range m).map fun j=>if j < k then fm (DR M j k) (fi (DR M j j)) else if j=k then 1 else 0:=⟨_,rfl⟩
 have hv:v.length=m:=by simp [hvd]
 have ha:∀j,j < m→EJ v j=if j < k then fm (DR M j k) (fi (DR M j j)) else if j=k then 1 else 0:=fun j hj=>by rw [hvd];simp [EJ,hj]
 have hvk:EJ v k=1:=by rw [ha k hk,if_neg (by omega),if_pos rfl]
 refine⟨v,hv,fun i hi=>?_,hvk⟩
 have hw:(v++[0]).length=m+1:=by simp [hv]
 have hw0:∀j,j≠k→¬j < k→EJ (v++[0]) j=0:=fun j h1 h2=>by
  by_cases hj:j < m
  ·rw [JK _ _ _ (by omega),ha j hj,if_neg h2,if_neg h1]
  ·by_cases hjm:j=m
   ·subst hjm;rw [←hv];exact MN v 0
   ·exact TA _ _ (by omega)
 have hwk:EJ (v++[0]) k=1:=by rw [JK _ _ _ (by omega)];exact hvk
 by_cases hik:i < k
 ·rw [S1 (Ba M i) (v++[0]) i k hik (by rw [hs.row i (by omega)];omega) (by rw [hs.row i (by omega),hw]) fun j h1 h2=>?_]
  ·rw [hwk,I_,JK _ _ _ (by omega),ha i (by omega),if_pos hik]
   show fa (fm (DR M i i) (fm (DR M i k) (fi (DR M i i)))) (DR M i k)=0
   rw [Mu,jE _ (h.dia i hik),I_,FR]
  ·by_cases hj:j < k
   ·rw [show EJ (Ba M i) j=0 from h.off i j (by omega) hj (fun e=>h1 e.symm),CS]
   ·rw [hw0 j h2 hj,DZ]
 ·rw [PD (Ba M i) (v++[0]) k (by rw [hs.row i (by omega)];omega) (by rw [hs.row i (by omega),hw]) fun j h1=>?_]
  ·rw [show EJ (Ba M i) k=0 from hz i (by omega) (by omega),CS]
  ·by_cases hj:j < k
   ·rw [show EJ (Ba M i) j=0 from h.off i j (by omega) hj (by omega),CS]
   ·rw [hw0 j h1 hj,DZ]
end Go.Pw
end
section
namespace Go.Pw
set_option linter.unusedSimpArgs false
set_option linter.unusedVariables false
def Qd (v w:List F):List F:=List.zipWith fa v w
theorem eC (v w:List F) (h:v.length=w.length):(Qd v w).length=v.length:=by simp [Qd,h]
theorem dx (v w:List F) (j:Nat) (h:v.length=w.length):EJ (Qd v w) j=fa (EJ v j) (EJ w j):=by
 unfold EJ Qd
 rw [List.getElem?_zipWith]
 by_cases hj:j < v.length
 ·rw [List.getElem?_eq_getElem hj,List.getElem?_eq_getElem (by omega)];rfl
 ·rw [List.getElem?_eq_none (by omega),List.getElem?_eq_none (l:=w) (by omega)];rfl
theorem U6:∀(r v w:List F),v.length=w.length→FG r (Qd v w)=fa (FG r v) (FG r w)
 |[],v,w,_=>by simp [LE,Cz]
 |x :: r,[],[],_=>by simp [Qd,P_,Cz]
 |x :: r,a :: v,b :: w,h=>by
  have ih:=U6 r v w (by simpa using h)
  simp only [Qd,List.zipWith_cons_cons,Dg] at ih ⊢
  rw [ih,Lc,mb]
theorem dN {v w:List F} (hl:v.length=w.length) (h:∀j,j < v.length→EJ v j=EJ w j):v=w:=by
 apply List.ext_getElem hl
 intro j h1 h2
 have:=h j h1
 unfold EJ at this
 rwa [List.getElem?_eq_getElem h1,List.getElem?_eq_getElem h2] at this
def Sp (x:F):Nat→F
 |0=>1
 |n+1=>fm x (Sp x n)
theorem kR (t i:Nat):gp (i * t)=Sp (gp t) i:=by
 induction i with
 |zero=>rw [Nat.zero_mul];exact Xr
 |succ i ih=>rw [Nat.add_mul,Nat.one_mul,Nat.add_comm,Wa,ih];rfl
theorem lA:∀(xs vs:List F),vs.length=xs.length→xs.Nodup→(∀i,i < xs.length→FG (xs.map fun x=>Sp x i) vs=0)→∀j,EJ vs j=0
 |[],[],_,_,_=>fun j=>rfl
 |x :: xs,v :: vs,hl,hn,h=>by
  have hl':vs.length=xs.length:=by simpa using hl
  rw [List.nodup_cons] at hn
  have key:∀(i:Nat) (ys ws:List F),ws.length=ys.length→FG (ys.map fun y=>Sp y i) (List.zipWith (fun y w=>fm w (fa y x)) ys ws)=fa (FG (ys.map fun y=>Sp y (i+1)) ws) (fm x (FG (ys.map fun y=>Sp y i) ws)):=by
   intro i ys
   induction ys with
   |nil=>intro ws _;rw [List.map_nil,LE,List.map_nil,LE,DZ];rfl
   |cons y ys ih =>
    intro ws hw
    cases ws with
    |nil=>simp at hw
    |cons w ws =>
     have:=ih ws (by simpa using hw)
     simp only [List.map_cons,List.zipWith_cons_cons,Dg]
     rw [this,Lc w,Lc (Sp y i),Lc x,mb]
     congr 1
     ·congr 1
      show fm (Sp y i) (fm w y)=fm (fm y (Sp y i)) w
      rw [Da w y,←FQ,Da (Sp y i) y]
     ·congr 1
      rw [Mu,Da,FQ]
      rw [Mu]
  have hz:∀i,i < xs.length→FG (xs.map fun y=>Sp y i) (List.zipWith (fun y w=>fm w (fa y x)) xs vs)=0:=fun i hi=>by
   rw [key i xs vs hl']
   have h1:=h i (by simp;omega)
   have h2:=h (i+1) (by simpa using hi)
   simp only [List.map_cons,Dg] at h1 h2
   have e1:FG (xs.map fun y=>Sp y i) vs=fm (Sp x i) v:=(G2 _ _ h1).symm
   have e2:FG (xs.map fun y=>Sp y (i+1)) vs=fm (Sp x (i+1)) v:=(G2 _ _ h2).symm
   rw [e1,e2,←FQ]
   exact FR _
  have ih:=lA xs (List.zipWith (fun y w=>fm w (fa y x)) xs vs) (by simp [hl']) hn.2 hz
  have htail:∀j,EJ vs j=0:=fun j=>by
   by_cases hj:j < xs.length
   ·have:=ih j
    unfold EJ at this ⊢
    rw [List.getElem?_zipWith,List.getElem?_eq_getElem hj,List.getElem?_eq_getElem (by omega)] at this
    rw [List.getElem?_eq_getElem (by omega)]
    have hne:fa xs[j] x≠0:=fun e=>hn.1 (by rw [←G2 _ _ e];exact List.getElem_mem hj)
    exact(P1 _ _ this).resolve_right hne
   ·exact TA _ _ (by omega)
  have hhead:v=0:=by
   have h0:=h 0 (by simp)
   simp only [List.map_cons,Dg] at h0
   have:FG (xs.map fun y=>Sp y 0) vs=0:=by
    have hvs:vs=List.replicate vs.length 0:=by
     apply dN (by simp)
     intro j hj
     rw [htail j]
     simp [EJ,hj]
    rw [hvs]
    generalize xs.map (fun y=>Sp y 0)=zs
    generalize vs.length=n
    induction zs generalizing n with
    |nil=>rfl
    |cons z zs ih2 =>
     cases n with
     |zero=>rfl
     |succ n=>rw [List.replicate_succ,Dg,DZ,ih2];rfl
   rw [this,Cz] at h0
   rw [show Sp x 0=1 from rfl,Se] at h0
   exact h0
  intro j
  cases j with
  |zero=>exact hhead
  |succ j=>exact htail j
def Wq (L i j:Nat):F:=gp (i * (L - 1 - j))
def OY (L P:Nat) (at_:List Nat) (s:List F):List (List F):=(List.range P).map fun i=>(at_.map fun j=>Wq L i j)++[EJ s i]
theorem Mx (L P:Nat) (at_:List Nat) (s:List F):Qi (OY L P at_ s) P (at_.length+1):=by
 refine⟨by simp [OY],fun i hi=>?_⟩
 unfold OY
 rw [Lu (α:=F) _ _ _ hi];simp
theorem UB (L P:Nat) (at_:List Nat) (s:List F) (i:Nat) (h:i < P):Ba (OY L P at_ s) i=(at_.map fun j=>Wq L i j)++[EJ s i]:=Lu (α:=F) _ _ _ h
structure aE (L:Nat) (at_:List Nat):Prop where
 nd:at_.Nodup
 lt:∀j,j∈at_→j < L
theorem S3 (L P:Nat) (at_:List Nat) (s v:List F) (c:F) (hv:v.length=at_.length) (i:Nat) (h:i < P):FG (Ba (OY L P at_ s) i) (v++[c])=fa (FG (at_.map fun j=>Wq L i j) v) (fm (EJ s i) c):=by
 rw [UB _ _ _ _ _ h,P8 _ _ _ _ (by simp [hv])]
theorem Ue {L P:Nat} (hL:L≤15) {at_:List Nat} (hp:aE L at_) (hm:at_.length≤P) {s v:List F} (hv:v.length=at_.length) (h:Qm 0 (OY L P at_ s) v):∀j,EJ v j=0:=by
 have hx:(at_.map fun j=>gp (L - 1 - j)).Nodup:=by
  have h1:=hp.nd
  have h2:=hp.lt
  clear h hv hm
  induction at_ with
  |nil=>simp
  |cons a l ih =>
   rw [List.nodup_cons] at h1
   rw [List.map_cons,List.nodup_cons]
   refine⟨fun hmem=>?_,ih ⟨h1.2,fun j hj=>h2 j (by simp [hj])⟩ h1.2 fun j hj=>h2 j (by simp [hj])⟩
   obtain⟨b,hb,he⟩:=List.mem_map.1 hmem
   have ha:=h2 a (by simp)
   have hb2:=h2 b (by simp [hb])
   have:=kS (by omega) (by omega) he
   have:a=b:=by omega
   subst this
   exact h1.1 hb
 refine lA _ v (by simp [hv]) hx fun i hi=>?_
 have hi':i < P:=by simp at hi;omega
 have:=h i (by rw [(Mx L P at_ s).len];exact hi')
 rw [S3 _ _ _ _ _ _ hv i hi',DZ,Cz] at this
 rw [List.map_map]
 have e:(at_.map ((fun x=>Sp x i) ∘ fun j=>gp (L - 1 - j)))=at_.map fun j=>Wq L i j:=List.map_congr_left fun j _=>(kR _ _).symm
 rw [e];exact this
theorem fQ {c d:F} {M:List (List F)} {v w:List F} (hl:v.length=w.length) (h1:Qm c M v) (h2:Qm d M w):Qm (fa c d) M (Qd v w):=by
 intro i hi
 have:Qd v w++[fa c d]=Qd (v++[c]) (w++[d]):=by
  unfold Qd
  rw [List.zipWith_append hl];rfl
 rw [this,U6 _ _ _ (by simp [hl]),h1 i hi,h2 i hi,Cz]
theorem bI {L P:Nat} (hL:L≤15) {at_:List Nat} (hp:aE L at_) (hm:at_.length≤P) {s v w:List F} (hv:v.length=at_.length) (hw:w.length=at_.length) (h1:Qm 1 (OY L P at_ s) v) (h2:Qm 1 (OY L P at_ s) w):v=w:=by
 have h:=fQ (by omega) h1 h2
 rw [FR] at h
 have:=Ue hL hp hm (by rw [eC _ _ (by omega)];exact hv) h
 refine dN (by omega) fun j _=>?_
 have hj:=this j
 rw [dx _ _ _ (by omega)] at hj
 exact G2 _ _ hj
open Classical in
noncomputable def LH (L P:Nat) (at_:List Nat) (s:List F):Option (List F) :=
 if h:∃v:List F,v.length=at_.length∧Qm 1 (OY L P at_ s) v then some h.choose else none
theorem RS {L P:Nat} (hL:L≤15) {at_:List Nat} (hp:aE L at_) (hm:at_.length≤P) {s v:List F} (hv:v.length=at_.length) (h:Qm 1 (OY L P at_ s) v):LH L P at_ s=some v:=by
 have hex:∃v:List F,v.length=at_.length∧Qm 1 (OY L P at_ s) v:=⟨v,hv,h⟩
 unfold LH
 rw [dif_pos hex]
 congr 1
 exact bI hL hp hm hex.choose_spec.1 hv hex.choose_spec.2 h
theorem YP {L P:Nat} {at_:List Nat} {s:List F} (h:∀v:List F,v.length=at_.length→¬Qm 1 (OY L P at_ s) v):LH L P at_ s=none:=by
 unfold LH
 rw [dif_neg fun⟨v,h1,h2⟩=>h v h1 h2]
theorem RR {L P:Nat} {at_:List Nat} {s v:List F} (h:LH L P at_ s=some v):v.length=at_.length∧Qm 1 (OY L P at_ s) v:=by
 unfold LH at h
 split at h
 ·rename_i hex
  simp only [Option.some.injEq] at h
  rw [←h];exact hex.choose_spec
 ·cases h
end Go.Pw
end
