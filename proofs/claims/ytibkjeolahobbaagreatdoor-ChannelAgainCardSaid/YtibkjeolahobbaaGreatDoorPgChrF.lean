/- A part of the proof. -/
import Derived.Test.YtibkjeolahobbaaGreatDoorPgChrA
import Derived.Test.YtibkjeolahobbaaGreatDoorCorrectSpec
set_option linter.all false
section
open Go Go.Pw Go.Proofs
namespace Go.Pw
set_option maxRecDepth 100000
set_option maxHeartbeats 3200000
theorem hC:(0:Int)<((2:Nat):Int):=by decide
theorem g_:(1:Int)<((2:Nat):Int):=by decide
theorem Le:¬(2:Int)<((2:Nat):Int):=by decide
theorem T3:IntKind.i64.wrap 0=0:=by decide
theorem T2:IntKind.i64.wrap (0-((0:Nat):Int))=0:=by decide
theorem Pi {α:Type}(n:Nat) (x:α) (h:0<n):(List.replicate n x).isEmpty=false:=by cases n with
 |zero=>omega
 |succ n=>rfl
attribute [local congr] Bh A7 A8 Au Bi Az A1 A0 Ar Ai Ab AZ Aw Ad Ax BF BJ BH BI BG BK BC Ag Ay Ah BA BS Af BD BE BB A_ A' A6 Bj A9 Av Ae
attribute [local irreducible] IntKind.wrap A5 Option.getD and or
theorem Tq (n:Nat) (hn:0<n) (hl:n<=1000000):H9 E0 DN [] [.d (.list true []),.d (.int .i64 n)] [(22,2,.row 3 1 false [])] (.own 22 2):=by
 refine Da FQ Aq (by simp) (by simp[PM,CO,EL]) (by simp[Eu]) fun hwf hwo=>?_
 rw[ED];unfold Dy
 have h0:¬(n:Int)<0:=by omega
 have h1:(0:Int)<(n:Int):=by omega
 have hw:IntKind.i64.wrap (n:Int)=(n:Int):=Ak _ (by omega)
 have hw2:IntKind.i64.wrap ((n:Int)-0)=(n:Int):=by rw[Int.sub_zero];exact hw
 (try (simp -implicitDefEqProofs only[go_sem,h0,h1,hw,Pi n _ hn,List.length_replicate,T3,T2,hw2,Int.sub_zero]));repeat' first|(with_reducible first|exact tI|refine aI ?_ ?_|intro _)|((first|with_reducible refine AM ?_ ?_<;>intro _)<;>try (simp -implicitDefEqProofs only[go_sem,h0,h1,hw,Pi n _ hn,List.length_replicate,T3,T2,hw2,Int.sub_zero]))|simp (disch:=omega) only[An]
 all_goals first|omega|rfl|(simp at *;done)|skip
theorem Tr:CI E0 DN [.list true [],.int .i64 0] (.list true []):=by
 refine AK FQ Aq (by simp) fun hwf=>?_
 rw[AW];unfold Dy
 (try (simp -implicitDefEqProofs only[go_sem,T3,T2,Int.sub_zero]));repeat' first|(with_reducible first|exact tI|refine aI ?_ ?_|intro _)|((first|with_reducible refine AM ?_ ?_<;>intro _)<;>try (simp -implicitDefEqProofs only[go_sem,T3,T2,Int.sub_zero]))|simp (disch:=omega) only[An]
 all_goals first|omega|rfl|(simp at *;done)|skip
theorem Tn (n:Nat) (hn:0<n) (hl:n<=1000000):H9 E0 Ba [] [.d (.list true []),.d (.int .i64 n)] [(22,2,.row 135 1 false [])] (.own 22 2):=by
 refine Da CD Aq (by simp) (by simp[PM,CO,EL]) (by simp[Eu]) fun hwf hwo=>?_
 rw[ED];unfold Bn
 have h0:¬(n:Int)<0:=by omega
 have h1:(0:Int)<(n:Int):=by omega
 have hw:IntKind.i64.wrap (n:Int)=(n:Int):=Ak _ (by omega)
 have hw2:IntKind.i64.wrap ((n:Int)-0)=(n:Int):=by rw[Int.sub_zero];exact hw
 (try (simp -implicitDefEqProofs only[go_sem,h0,h1,hw,Pi n _ hn,List.length_replicate,T3,T2,hw2,Int.sub_zero]));repeat' first|(with_reducible first|exact tI|refine aI ?_ ?_|intro _)|((first|with_reducible refine AM ?_ ?_<;>intro _)<;>try (simp -implicitDefEqProofs only[go_sem,h0,h1,hw,Pi n _ hn,List.length_replicate,T3,T2,hw2,Int.sub_zero]))|simp (disch:=omega) only[An]
 all_goals first|omega|rfl|(simp at *;done)|skip
theorem Tp:CI E0 Ba [.list true [],.int .i64 0] (.list true []):=by
 refine AK CD Aq (by simp) fun hwf=>?_
 rw[AW];unfold Bn
 (try (simp -implicitDefEqProofs only[go_sem,T3,T2,Int.sub_zero]));repeat' first|(with_reducible first|exact tI|refine aI ?_ ?_|intro _)|((first|with_reducible refine AM ?_ ?_<;>intro _)<;>try (simp -implicitDefEqProofs only[go_sem,T3,T2,Int.sub_zero]))|simp (disch:=omega) only[An]
 all_goals first|omega|rfl|(simp at *;done)|skip
theorem RI (n1 n2:Bool) (a b:List Int) (ha:a.length<=100000) (hb:b.length<=100000):CI E0 FR [.list false [.list n1 (Aj a),.list n2 (Aj b)]] (.list (a++b).isEmpty (Aj (a++b))):=by
 refine AK Hj Aq (by simp) fun hwf=>?_
 rw[AW];unfold E3
 have w1:IntKind.i64.wrap (0+(a.length:Int))=(a.length:Int):=by rw[Int.zero_add];exact Ak _ (by omega)
 have w2:IntKind.i64.wrap ((a.length:Int)+(b.length:Int))=((a.length+b.length:Nat):Int):=by rw[Ak _ (by omega)];omega
 have w3:IntKind.i64.wrap (0+1)=1:=by rw[Ak _ (by omega)];rfl
 have w4:IntKind.i64.wrap (1+1)=2:=by rw[Ak _ (by omega)];rfl
 have q1:¬(a.length:Int)<0:=by omega
 have q2:¬((a.length+b.length:Nat):Int)<0:=by omega
 (try (simp -implicitDefEqProofs only[go_sem]));repeat' first|(with_reducible first|exact tI|refine aI ?_ ?_|intro _)|((first|with_reducible refine AM ?_ ?_<;>intro _)<;>try (simp -implicitDefEqProofs only[go_sem]))|simp (disch:=omega) only[An]|((with_reducible refine Am ?_);refine⟨(_,_),rfl,?_,?_⟩)|((with_reducible refine Ao ?_);refine⟨_,rfl,?_,?_⟩)
 refine AY (α:=Int×Int) (l0:=?l1) (m0:=?m1) (fun x=>[(11,.d (.int .i64 x.1)),(3,.d (.int .i64 x.2))]) (fun x=>[]) (fun x=>(x.1=0/\x.2=0)\/(x.1=1/\x.2=a.length)\/(x.1=2/\x.2=((a.length+b.length:Nat):Int))) (fun x=>(2-x.1).toNat) (0,0) ?h01 ?he1 ?he21 ?hI1 ?step1
 case h01=>(simp -implicitDefEqProofs only[go_sem];rfl)
 case he1=>rfl
 case he21=>rfl
 case' step1=>(rintro⟨i,n⟩ hI;try dsimp only at hI)
 case' hI1=>try dsimp only
 ·exact .inl ⟨rfl,rfl⟩
 rcases hI with⟨rfl,rfl⟩|⟨rfl,rfl⟩|⟨rfl,rfl⟩
 ·(try (simp -implicitDefEqProofs only[go_sem,w1,w3,q1,hC]));repeat' first|(with_reducible first|exact tI|refine aI ?_ ?_|intro _)|((first|with_reducible refine AM ?_ ?_<;>intro _)<;>try (simp -implicitDefEqProofs only[go_sem,w1,w3,q1,hC]))|simp (disch:=omega) only[An]|((with_reducible refine Am ?_);refine⟨(_,_),rfl,?_,?_⟩)|((with_reducible refine Ao ?_);refine⟨_,rfl,?_,?_⟩)
  all_goals first|omega|(simp at *;done)|skip
 ·(try (simp -implicitDefEqProofs only[go_sem,w2,w4,q2,g_]));repeat' first|(with_reducible first|exact tI|refine aI ?_ ?_|intro _)|((first|with_reducible refine AM ?_ ?_<;>intro _)<;>try (simp -implicitDefEqProofs only[go_sem,w2,w4,q2,g_]))|simp (disch:=omega) only[An]|((with_reducible refine Am ?_);refine⟨(_,_),rfl,?_,?_⟩)|((with_reducible refine Ao ?_);refine⟨_,rfl,?_,?_⟩)
  all_goals first|omega|(simp at *;done)|skip
 ·by_cases h0:a.length+b.length=0
  ·have ea:a=[]:=List.eq_nil_of_length_eq_zero (by omega)
   have eb:b=[]:=List.eq_nil_of_length_eq_zero (by omega)
   subst ea eb
   have c1:CI E0 DN [.list true [],.int .i64 (((([]:List Int).length+([]:List Int).length:Nat)):Int)] (.list true []):=Tr
   (try (simp -implicitDefEqProofs only[go_sem,Le]));repeat' first|(with_reducible first|exact tI|refine aI ?_ ?_|intro _)|((first|with_reducible refine AM ?_ ?_<;>intro _|(with_reducible refine isCall ?_);first|refine AE c1 ?_)<;>try (simp -implicitDefEqProofs only[go_sem,Le]))|simp (disch:=omega) only[An]|((with_reducible refine Am ?_);refine⟨(_,_),rfl,?_,?_⟩)|((with_reducible refine Ao ?_);refine⟨_,rfl,?_,?_⟩)
   refine AY (α:=Int) (l0:=?l2) (m0:=?m2) (fun x=>[(27,.d (.int .i64 x))]) (fun x=>[(33,.row 3 1 true [])]) (fun x=>x=0\/x=1\/x=2) (fun x=>(2-x).toNat) 0 ?h02 ?he2 ?he22 ?hI2 ?step2
   case h02=>(simp -implicitDefEqProofs only[go_sem];rfl)
   case he2=>rfl
   case he22=>rfl
   case' step2=>(rintro i hI2;try dsimp only at hI2)
   case' hI2=>try dsimp only
   ·exact .inl rfl
   rcases hI2 with rfl|rfl|rfl
   ·(try (simp -implicitDefEqProofs only[go_sem,w3]));repeat' first|(with_reducible first|exact tI|refine aI ?_ ?_|intro _)|((first|with_reducible refine AM ?_ ?_<;>intro _)<;>try (simp -implicitDefEqProofs only[go_sem,w3]))|simp (disch:=omega) only[An]|((with_reducible refine Am ?_);refine⟨(_,_),rfl,?_,?_⟩)|((with_reducible refine Ao ?_);refine⟨_,rfl,?_,?_⟩)
    all_goals first|omega|(simp at *;done)|skip
   ·(try (simp -implicitDefEqProofs only[go_sem,w4]));repeat' first|(with_reducible first|exact tI|refine aI ?_ ?_|intro _)|((first|with_reducible refine AM ?_ ?_<;>intro _)<;>try (simp -implicitDefEqProofs only[go_sem,w4]))|simp (disch:=omega) only[An]|((with_reducible refine Am ?_);refine⟨(_,_),rfl,?_,?_⟩)|((with_reducible refine Ao ?_);refine⟨_,rfl,?_,?_⟩)
    all_goals first|omega|(simp at *;done)|skip
   ·(try (simp -implicitDefEqProofs only[go_sem,Le]));repeat' first|(with_reducible first|exact tI|refine aI ?_ ?_|intro _)|((first|with_reducible refine AM ?_ ?_<;>intro _)<;>try (simp -implicitDefEqProofs only[go_sem,Le]))|simp (disch:=omega) only[An]|((with_reducible refine Am ?_);refine⟨(_,_),rfl,?_,?_⟩)|((with_reducible refine Ao ?_);refine⟨_,rfl,?_,?_⟩)
    all_goals first|omega|(simp at *;done)|rfl|skip
  ·have he:(a++b).isEmpty=false:=by cases a<;>cases b<;>simp_all
   have c1:=Tq (a.length+b.length) (by omega) (by omega)
   (try (simp -implicitDefEqProofs only[go_sem,Le]));repeat' first|(with_reducible first|exact tI|refine aI ?_ ?_|intro _)|((first|with_reducible refine AM ?_ ?_<;>intro _|(with_reducible refine isCall ?_);first|(refine Ex ([]) ([((22,2),(24,1))]) (c1) (by repeat' first|exact True.intro|exact rfl|refine And.intro ?_ ?_) (by simp[Handed,Df.get,Aa.ren,AV.ren,AV.ren.renL,AJ.get,BW,B6,Dv,AJ.reach,AV.sites,AV.sites.sitesL,AJ.osites]) (by simp[CL,Eu,CO,Df.get,Dv,EL,CF]) (by rfl) (by simp only[Dw,Df.get,Aa.ren,AV.ren,AV.ren.renL,and_self,and_true,true_and,if_true,reduceIte];rfl) ?_))<;>try (simp -implicitDefEqProofs only[go_sem,Le]))|simp (disch:=omega) only[An]|((with_reducible refine Am ?_);refine⟨(_,_),rfl,?_,?_⟩)|((with_reducible refine Ao ?_);refine⟨_,rfl,?_,?_⟩)
   refine AY (α:=Int×(List Int)) (l0:=?l3) (m0:=?m3) (fun x=>[(27,.d (.int .i64 x.1))]) (fun x=>[(24,.row 3 1 false (Aj x.2))]) (fun x=>(x.1=0/\x.2=[])\/(x.1=1/\x.2=a)\/(x.1=2/\x.2=a++b)) (fun x=>(2-x.1).toNat) (0,[]) ?h03 ?he3 ?he23 ?hI3 ?step3
   case h03=>(simp -implicitDefEqProofs only[go_sem];rfl)
   case he3=>rfl
   case he23=>rfl
   case' step3=>(rintro⟨i,l⟩ hI3;try dsimp only at hI3)
   case' hI3=>try dsimp only
   ·exact .inl ⟨rfl,rfl⟩
   rcases hI3 with⟨rfl,rfl⟩|⟨rfl,rfl⟩|⟨rfl,rfl⟩
   ·(try (simp -implicitDefEqProofs only[go_sem,w3,List.nil_append]));repeat' first|(with_reducible first|exact tI|refine aI ?_ ?_|intro _)|((first|with_reducible refine AM ?_ ?_<;>intro _)<;>try (simp -implicitDefEqProofs only[go_sem,w3,List.nil_append]))|simp (disch:=omega) only[An]|((with_reducible refine Am ?_);refine⟨(_,_),rfl,?_,?_⟩)|((with_reducible refine Ao ?_);refine⟨_,rfl,?_,?_⟩)
    all_goals first|omega|(simp at *;done)|skip
   ·(try (simp -implicitDefEqProofs only[go_sem,w4]));repeat' first|(with_reducible first|exact tI|refine aI ?_ ?_|intro _)|((first|with_reducible refine AM ?_ ?_<;>intro _)<;>try (simp -implicitDefEqProofs only[go_sem,w4]))|simp (disch:=omega) only[An]|((with_reducible refine Am ?_);refine⟨(_,_),rfl,?_,?_⟩)|((with_reducible refine Ao ?_);refine⟨_,rfl,?_,?_⟩)
    all_goals first|omega|(simp at *;done)|skip
   ·(try (simp -implicitDefEqProofs only[go_sem,he,Le]));repeat' first|(with_reducible first|exact tI|refine aI ?_ ?_|intro _)|((first|with_reducible refine AM ?_ ?_<;>intro _)<;>try (simp -implicitDefEqProofs only[go_sem,he,Le]))|simp (disch:=omega) only[An]|((with_reducible refine Am ?_);refine⟨(_,_),rfl,?_,?_⟩)|((with_reducible refine Ao ?_);refine⟨_,rfl,?_,?_⟩)
    all_goals first|omega|(simp at *;done)|rfl|skip
theorem RH (n1 n2:Bool) (a b:List F) (ha:a.length<=100000) (hb:b.length<=100000):CI E0 CE [.list false [.list n1 (us a),.list n2 (us b)]] (.list (a++b).isEmpty (us (a++b))):=by
 refine AK DY Aq (by simp) fun hwf=>?_
 rw[AW];unfold B'
 have w1:IntKind.i64.wrap (0+(a.length:Int))=(a.length:Int):=by rw[Int.zero_add];exact Ak _ (by omega)
 have w2:IntKind.i64.wrap ((a.length:Int)+(b.length:Int))=((a.length+b.length:Nat):Int):=by rw[Ak _ (by omega)];omega
 have w3:IntKind.i64.wrap (0+1)=1:=by rw[Ak _ (by omega)];rfl
 have w4:IntKind.i64.wrap (1+1)=2:=by rw[Ak _ (by omega)];rfl
 have q1:¬(a.length:Int)<0:=by omega
 have q2:¬((a.length+b.length:Nat):Int)<0:=by omega
 (try (simp -implicitDefEqProofs only[go_sem]));repeat' first|(with_reducible first|exact tI|refine aI ?_ ?_|intro _)|((first|with_reducible refine AM ?_ ?_<;>intro _)<;>try (simp -implicitDefEqProofs only[go_sem]))|simp (disch:=omega) only[An]|((with_reducible refine Am ?_);refine⟨(_,_),rfl,?_,?_⟩)|((with_reducible refine Ao ?_);refine⟨_,rfl,?_,?_⟩)
 refine AY (α:=Int×Int) (l0:=?l4) (m0:=?m4) (fun x=>[(11,.d (.int .i64 x.1)),(3,.d (.int .i64 x.2))]) (fun x=>[]) (fun x=>(x.1=0/\x.2=0)\/(x.1=1/\x.2=a.length)\/(x.1=2/\x.2=((a.length+b.length:Nat):Int))) (fun x=>(2-x.1).toNat) (0,0) ?h04 ?he4 ?he24 ?hI4 ?step4
 case h04=>(simp -implicitDefEqProofs only[go_sem];rfl)
 case he4=>rfl
 case he24=>rfl
 case' step4=>(rintro⟨i,n⟩ hI;try dsimp only at hI)
 case' hI4=>try dsimp only
 ·exact .inl ⟨rfl,rfl⟩
 rcases hI with⟨rfl,rfl⟩|⟨rfl,rfl⟩|⟨rfl,rfl⟩
 ·(try (simp -implicitDefEqProofs only[go_sem,w1,w3,q1,hC]));repeat' first|(with_reducible first|exact tI|refine aI ?_ ?_|intro _)|((first|with_reducible refine AM ?_ ?_<;>intro _)<;>try (simp -implicitDefEqProofs only[go_sem,w1,w3,q1,hC]))|simp (disch:=omega) only[An]|((with_reducible refine Am ?_);refine⟨(_,_),rfl,?_,?_⟩)|((with_reducible refine Ao ?_);refine⟨_,rfl,?_,?_⟩)
  all_goals first|omega|(simp at *;done)|skip
 ·(try (simp -implicitDefEqProofs only[go_sem,w2,w4,q2,g_]));repeat' first|(with_reducible first|exact tI|refine aI ?_ ?_|intro _)|((first|with_reducible refine AM ?_ ?_<;>intro _)<;>try (simp -implicitDefEqProofs only[go_sem,w2,w4,q2,g_]))|simp (disch:=omega) only[An]|((with_reducible refine Am ?_);refine⟨(_,_),rfl,?_,?_⟩)|((with_reducible refine Ao ?_);refine⟨_,rfl,?_,?_⟩)
  all_goals first|omega|(simp at *;done)|skip
 ·by_cases h0:a.length+b.length=0
  ·have ea:a=[]:=List.eq_nil_of_length_eq_zero (by omega)
   have eb:b=[]:=List.eq_nil_of_length_eq_zero (by omega)
   subst ea eb
   have c1:CI E0 Ba [.list true [],.int .i64 (((([]:List F).length+([]:List F).length:Nat)):Int)] (.list true []):=Tp
   (try (simp -implicitDefEqProofs only[go_sem,Le]));repeat' first|(with_reducible first|exact tI|refine aI ?_ ?_|intro _)|((first|with_reducible refine AM ?_ ?_<;>intro _|(with_reducible refine isCall ?_);first|refine AE c1 ?_)<;>try (simp -implicitDefEqProofs only[go_sem,Le]))|simp (disch:=omega) only[An]|((with_reducible refine Am ?_);refine⟨(_,_),rfl,?_,?_⟩)|((with_reducible refine Ao ?_);refine⟨_,rfl,?_,?_⟩)
   refine AY (α:=Int) (l0:=?l5) (m0:=?m5) (fun x=>[(27,.d (.int .i64 x))]) (fun x=>[(33,.row 135 1 true [])]) (fun x=>x=0\/x=1\/x=2) (fun x=>(2-x).toNat) 0 ?h05 ?he5 ?he25 ?hI5 ?step5
   case h05=>(simp -implicitDefEqProofs only[go_sem];rfl)
   case he5=>rfl
   case he25=>rfl
   case' step5=>(rintro i hI2;try dsimp only at hI2)
   case' hI5=>try dsimp only
   ·exact .inl rfl
   rcases hI2 with rfl|rfl|rfl
   ·(try (simp -implicitDefEqProofs only[go_sem,w3]));repeat' first|(with_reducible first|exact tI|refine aI ?_ ?_|intro _)|((first|with_reducible refine AM ?_ ?_<;>intro _)<;>try (simp -implicitDefEqProofs only[go_sem,w3]))|simp (disch:=omega) only[An]|((with_reducible refine Am ?_);refine⟨(_,_),rfl,?_,?_⟩)|((with_reducible refine Ao ?_);refine⟨_,rfl,?_,?_⟩)
    all_goals first|omega|(simp at *;done)|skip
   ·(try (simp -implicitDefEqProofs only[go_sem,w4]));repeat' first|(with_reducible first|exact tI|refine aI ?_ ?_|intro _)|((first|with_reducible refine AM ?_ ?_<;>intro _)<;>try (simp -implicitDefEqProofs only[go_sem,w4]))|simp (disch:=omega) only[An]|((with_reducible refine Am ?_);refine⟨(_,_),rfl,?_,?_⟩)|((with_reducible refine Ao ?_);refine⟨_,rfl,?_,?_⟩)
    all_goals first|omega|(simp at *;done)|skip
   ·(try (simp -implicitDefEqProofs only[go_sem,Le]));repeat' first|(with_reducible first|exact tI|refine aI ?_ ?_|intro _)|((first|with_reducible refine AM ?_ ?_<;>intro _)<;>try (simp -implicitDefEqProofs only[go_sem,Le]))|simp (disch:=omega) only[An]|((with_reducible refine Am ?_);refine⟨(_,_),rfl,?_,?_⟩)|((with_reducible refine Ao ?_);refine⟨_,rfl,?_,?_⟩)
    all_goals first|omega|(simp at *;done)|rfl|skip
  ·have he:(a++b).isEmpty=false:=by cases a<;>cases b<;>simp_all
   have c1:=Tn (a.length+b.length) (by omega) (by omega)
   (try (simp -implicitDefEqProofs only[go_sem,Le]));repeat' first|(with_reducible first|exact tI|refine aI ?_ ?_|intro _)|((first|with_reducible refine AM ?_ ?_<;>intro _|(with_reducible refine isCall ?_);first|(refine Ex ([]) ([((22,2),(24,1))]) (c1) (by repeat' first|exact True.intro|exact rfl|refine And.intro ?_ ?_) (by simp[Handed,Df.get,Aa.ren,AV.ren,AV.ren.renL,AJ.get,BW,B6,Dv,AJ.reach,AV.sites,AV.sites.sitesL,AJ.osites]) (by simp[CL,Eu,CO,Df.get,Dv,EL,CF]) (by rfl) (by simp only[Dw,Df.get,Aa.ren,AV.ren,AV.ren.renL,and_self,and_true,true_and,if_true,reduceIte];rfl) ?_))<;>try (simp -implicitDefEqProofs only[go_sem,Le]))|simp (disch:=omega) only[An]|((with_reducible refine Am ?_);refine⟨(_,_),rfl,?_,?_⟩)|((with_reducible refine Ao ?_);refine⟨_,rfl,?_,?_⟩)
   refine AY (α:=Int×(List F)) (l0:=?l6) (m0:=?m6) (fun x=>[(27,.d (.int .i64 x.1))]) (fun x=>[(24,.row 135 1 false (us x.2))]) (fun x=>(x.1=0/\x.2=[])\/(x.1=1/\x.2=a)\/(x.1=2/\x.2=a++b)) (fun x=>(2-x.1).toNat) (0,[]) ?h06 ?he6 ?he26 ?hI6 ?step6
   case h06=>(simp -implicitDefEqProofs only[go_sem];rfl)
   case he6=>rfl
   case he26=>rfl
   case' step6=>(rintro⟨i,l⟩ hI3;try dsimp only at hI3)
   case' hI6=>try dsimp only
   ·exact .inl ⟨rfl,rfl⟩
   rcases hI3 with⟨rfl,rfl⟩|⟨rfl,rfl⟩|⟨rfl,rfl⟩
   ·(try (simp -implicitDefEqProofs only[go_sem,w3,List.nil_append]));repeat' first|(with_reducible first|exact tI|refine aI ?_ ?_|intro _)|((first|with_reducible refine AM ?_ ?_<;>intro _)<;>try (simp -implicitDefEqProofs only[go_sem,w3,List.nil_append]))|simp (disch:=omega) only[An]|((with_reducible refine Am ?_);refine⟨(_,_),rfl,?_,?_⟩)|((with_reducible refine Ao ?_);refine⟨_,rfl,?_,?_⟩)
    all_goals first|omega|(simp at *;done)|skip
   ·(try (simp -implicitDefEqProofs only[go_sem,w4]));repeat' first|(with_reducible first|exact tI|refine aI ?_ ?_|intro _)|((first|with_reducible refine AM ?_ ?_<;>intro _)<;>try (simp -implicitDefEqProofs only[go_sem,w4]))|simp (disch:=omega) only[An]|((with_reducible refine Am ?_);refine⟨(_,_),rfl,?_,?_⟩)|((with_reducible refine Ao ?_);refine⟨_,rfl,?_,?_⟩)
    all_goals first|omega|(simp at *;done)|skip
   ·(try (simp -implicitDefEqProofs only[go_sem,he,Le]));repeat' first|(with_reducible first|exact tI|refine aI ?_ ?_|intro _)|((first|with_reducible refine AM ?_ ?_<;>intro _)<;>try (simp -implicitDefEqProofs only[go_sem,he,Le]))|simp (disch:=omega) only[An]|((with_reducible refine Am ?_);refine⟨(_,_),rfl,?_,?_⟩)|((with_reducible refine Ao ?_);refine⟨_,rfl,?_,?_⟩)
    all_goals first|omega|(simp at *;done)|rfl|skip
end Go.Pw
end
section
namespace Go.Pw
def FT:List F->List F->F
 |a::asq,b::bs=>fa (fm a b) (FT asq bs)
 |_,_=>0
def GZ (r o:List F) (b:F):List F:=List.zipWith (fun x y=>fa x (fm y b)) r o
def Hf (r:List F) (b:F):List F:=r.map fun x=>fm x b
def EV (r:List F) (j:Nat):F:=r[j]?.getD 0
def Be (M:List (List F)) (i:Nat):List F:=M[i]?.getD []
def Dc (M:List (List F)) (i j:Nat):F:=EV (Be M i) j
theorem il (a b c:F):fa a (fa b c)=fa b (fa a c):=by rw[←D4,NM a b,D4]
theorem nk (a b c d:F):fa (fa a b) (fa c d)=fa (fa a c) (fa b d):=by rw[D4,D4,il b c d]
theorem jl (a b c:F):fm (fa a b) c=fa (fm a c) (fm b c):=by rw[Dk,Lz,Dk c a,Dk c b]
theorem NK (a b c:F):fm a (fm b c)=fm b (fm a c):=by rw[←Fg,Dk a b,Fg]
theorem La (w:List F):FT [] w=0:=rfl
theorem Qk (w:List F):FT w []=0:=by cases w<;>rfl
theorem Dq (a b:F) (asq bs:List F):FT (a::asq) (b::bs)=fa (fm a b) (FT asq bs):=rfl
theorem NO (b:F):∀(r o w:List F),r.length=o.length->FT (GZ r o b) w=fa (FT r w) (fm b (FT o w))
 |[],[],w,_=>by simp[GZ,La,Dj,C3]
 |x::r,y::o,[],_=>by simp[Qk,Dj,C3]
 |x::r,y::o,c::w,h=>by
  have ih:=NO b r o w (by simpa using h)
  simp only[GZ,List.zipWith_cons_cons,Dq] at ih ⊢
  rw[ih,jl,Lz,Fg,NK,nk]
theorem Qj (b:F):∀(r w:List F),FT (Hf r b) w=fm b (FT r w)
 |[],w=>by simp[Hf,La,Dj]
 |x::r,[]=>by simp[Qk,Dj]
 |x::r,c::w=>by
  have ih:=Qj b r w
  simp only[Hf,List.map_cons,Dq] at ih ⊢
  rw[ih,Lz,Fg,NK]
theorem Qi (x y:F):∀(r w:List F),r.length=w.length->FT (r++[x]) (w++[y])=fa (FT r w) (fm x y)
 |[],[],_=>by simp[FT,C3,JC]
 |a::r,b::w,h=>by
  have ih:=Qi x y r w (by simpa using h)
  simp only[List.cons_append,Dq]
  rw[ih,D4]
theorem Po:∀(r w:List F) (i:Nat),i<r.length->r.length=w.length->(∀j,j≠i->fm (EV r j) (EV w j)=0)->FT r w=fm (EV r i) (EV w i)
 |a::r,b::w,0,_,hl,h=>by
  have hz:FT r w=0:=by
   have key:∀(r w:List F),(∀j,fm (EV r j) (EV w j)=0)->FT r w=0:=by
    intro r
    induction r with
    |nil=>intro w _;rfl
    |cons a r ih =>
     intro w h
     cases w with
     |nil=>rfl
     |cons b w =>
      rw[Dq,ih w fun j=>h (j+1),show fm a b=0 from h 0];rfl
   exact key r w fun j=>h (j+1) (by omega)
  rw[Dq,hz,C3];rfl
 |a::r,b::w,i+1,hi,hl,h=>by
  have ih:=Po r w i (by simpa using hi) (by simpa using hl) fun j hj=>h (j+1) (by omega)
  rw[Dq,ih,show fm a b=0 from h 0 (by omega),JC];rfl
theorem TS:∀(r w:List F) (i k:Nat),i<k->k<r.length->r.length=w.length->(∀j,j≠i->j≠k->fm (EV r j) (EV w j)=0)->FT r w=fa (fm (EV r i) (EV w i)) (fm (EV r k) (EV w k))
 |a::r,b::w,0,k+1,_,hk,hl,h=>by
  rw[Dq,Po r w k (by simpa using hk) (by simpa using hl) fun j hj=>h (j+1) (by omega) (by omega)];rfl
 |a::r,b::w,i+1,k+1,hik,hk,hl,h=>by
  have ih:=TS r w i k (by omega) (by simpa using hk) (by simpa using hl) fun j hj hj2=>h (j+1) (by omega) (by omega)
  rw[Dq,ih,show fm a b=0 from h 0 (by omega) (by omega),JC];rfl
def RK (c:F) (M:List (List F)) (v:List F):Prop:=∀i,i<M.length->FT (Be M i) (v++[c])=0
structure RG (M:List (List F)) (n m:Nat):Prop where
 len:M.length=n
 row:∀i,i<n->(Be M i).length=m
def Bf (f:F->F->F) (M:List (List F)) (k:Nat):List (List F):=(List.range M.length).map fun i=>if i=k then Be M k else GZ (Be M i) (Be M k) (f (Dc M i k) (Dc M k k))
def swp (M:List (List F)) (k p:Nat):List (List F):=(M.set k (Be M p)).set p (Be M k)
theorem MI {α:Type}(n i:Nat) (g:Nat->List F) (h:i<n):Be ((List.range n).map g) i=g i:=by simp[Be,h]
theorem GL (M:List (List F)) (k i:Nat) (r:List F) (hk:k<M.length):Be (M.set k r) i=if i=k then r else Be M i:=by
 unfold Be
 by_cases h:i=k
 ·subst h;simp[hk]
 ·rw[List.getElem?_set_ne (fun e=>h e.symm),if_neg h]
theorem DU (f:F->F->F) (M:List (List F)) (k i:Nat) (h:i<M.length):Be (Bf f M k) i=if i=k then Be M k else GZ (Be M i) (Be M k) (f (Dc M i k) (Dc M k k)) :=
 MI (α:=F) M.length i _ h
theorem EY (M:List (List F)) (k p i:Nat) (hk:k<M.length) (hp:p<M.length):Be (swp M k p) i=if i=p then Be M k else if i=k then Be M p else Be M i:=by
 unfold swp
 rw[GL _ _ _ _ (by simpa using hp),GL _ _ _ _ hk]
theorem Nu (r o:List F) (b:F) (h:r.length=o.length):(GZ r o b).length=r.length:=by simp[GZ,h]
theorem Uf (r:List F) (b:F):(Hf r b).length=r.length:=by simp[Hf]
theorem RG.swp {M:List (List F)}{n m k p:Nat}(h:RG M n m) (hk:k<n) (hp:p<n):RG (swp M k p) n m:=by
 have hl:=h.len
 refine⟨by simp[Go.Pw.swp,hl],fun i hi=>?_⟩
 rw[EY _ _ _ _ (by omega) (by omega)]
 split
 ·exact h.row k hk
 ·split
  ·exact h.row p hp
  ·exact h.row i hi
theorem RG.scl {M:List (List F)}{n m k:Nat}(h:RG M n m) (hk:k<n) (b:F):RG (M.set k (Hf (Be M k) b)) n m:=by
 have hl:=h.len
 refine⟨by simp[hl],fun i hi=>?_⟩
 rw[GL _ _ _ _ (by omega)]
 split
 ·rw[Uf];exact h.row k hk
 ·exact h.row i hi
theorem RG.red {M:List (List F)}{n m k:Nat}(f:F->F->F) (h:RG M n m) (hk:k<n):RG (Bf f M k) n m:=by
 have hl:=h.len
 refine⟨by simp[Bf,hl],fun i hi=>?_⟩
 rw[DU _ _ _ _ (by omega)]
 split
 ·exact h.row k hk
 ·rw[Nu]
  ·exact h.row i hi
  ·rw[h.row i hi,h.row k hk]
theorem YX {M:List (List F)}{n m k p:Nat}(h:RG M n m) (hk:k<n) (hp:p<n) (c:F) (v:List F):RK c (swp M k p) v↔RK c M v:=by
 have hl:=h.len
 have hl2:=(h.swp hk hp).len
 constructor
 ·intro hs i hi
  by_cases h1:i=k
  ·subst h1
   have:=hs p (by omega)
   rwa [EY _ _ _ _ (by omega) (by omega),if_pos rfl] at this
  ·by_cases h2:i=p
   ·subst h2
    have:=hs k (by omega)
    rwa [EY _ _ _ _ (by omega) (by omega),if_neg (fun e=>h1 e.symm),if_pos rfl] at this
   ·have:=hs i (by omega)
    rwa [EY _ _ _ _ (by omega) (by omega),if_neg h2,if_neg h1] at this
 ·intro hs i hi
  rw[EY _ _ _ _ (by omega) (by omega)]
  split
  ·exact hs k (by omega)
  ·split
   ·exact hs p (by omega)
   ·exact hs i (by omega)
theorem jZ {M:List (List F)}{n m k:Nat}(h:RG M n m) (hk:k<n) {b:F}(hb:b≠0) (c:F) (v:List F):RK c (M.set k (Hf (Be M k) b)) v↔RK c M v:=by
 have hl:=h.len
 constructor
 ·intro hs i hi
  have:=hs i (by simpa using hi)
  rw[GL _ _ _ _ (by omega)] at this
  split at this
  ·rename_i e;subst e
   rw[Qj] at this
   exact(Qa _ _ this).resolve_left hb
  ·exact this
 ·intro hs i hi
  rw[GL _ _ _ _ (by omega)]
  split
  ·rename_i e;subst e;rw[Qj,hs i (by omega),Dj]
  ·exact hs i (by simpa using hi)
theorem YY {M:List (List F)}{n m k:Nat}(f:F->F->F) (h:RG M n m) (hk:k<n) (c:F) (v:List F):RK c (Bf f M k) v↔RK c M v:=by
 have hl:=h.len
 have hl2:=(h.red f hk).len
 constructor
 ·intro hs i hi
  have h1:=hs k (by omega)
  rw[DU _ _ _ _ (by omega),if_pos rfl] at h1
  by_cases hik:i=k
  ·subst hik;exact h1
  ·have h2:=hs i (by omega)
   rw[DU _ _ _ _ (by omega),if_neg hik,NO _ _ _ _ (by rw[h.row i (by omega),h.row k hk]),h1,Dj,C3] at h2
   exact h2
 ·intro hs i hi
  rw[DU _ _ _ _ (by omega)]
  split
  ·exact hs k (by omega)
  ·rw[NO _ _ _ _ (by rw[h.row i (by omega),h.row k hk]),hs i (by omega),hs k (by omega),Dj,C3]
structure ae (M:List (List F)) (k:Nat):Prop where
 off:∀i j,i<M.length->j<k->i≠j->Dc M i j=0
 dia:∀j,j<k->Dc M j j≠0
theorem Nr (r o:List F) (b:F) (j:Nat) (h:r.length=o.length):EV (GZ r o b) j=fa (EV r j) (fm (EV o j) b):=by
 unfold EV GZ
 rw[List.getElem?_zipWith]
 by_cases hj:j<r.length
 ·rw[List.getElem?_eq_getElem hj,List.getElem?_eq_getElem (by omega)];rfl
 ·rw[List.getElem?_eq_none (by omega),List.getElem?_eq_none (l:=o) (by omega)]
  show (0:F)=fa 0 (fm 0 b)
  rw[CZ];rfl
theorem Q7 (r:List F) (b:F) (j:Nat):EV (Hf r b) j=fm (EV r j) b:=by
 unfold EV Hf
 rw[List.getElem?_map]
 cases r[j]? with
 |none=>exact(CZ b).symm
 |some x=>rfl
theorem ae.swp {M:List (List F)}{n m k p:Nat}(hs:RG M n m) (h:ae M k) (hk:k<n) (hkp:k<=p) (hp:p<n):ae (swp M k p) k:=by
 have hl:=hs.len
 have hl2:=(hs.swp hk hp).len
 refine⟨fun i j hi hj hij=>?_,fun j hj=>?_⟩
 ·unfold Dc
  rw[EY _ _ _ _ (by omega) (by omega)]
  split
  ·exact h.off k j (by omega) hj (by omega)
  ·split
   ·exact h.off p j (by omega) hj (by omega)
   ·exact h.off i j (by omega) hj hij
 ·unfold Dc
  rw[EY _ _ _ _ (by omega) (by omega),if_neg (by omega),if_neg (by omega)]
  exact h.dia j hj
theorem YR {M:List (List F)}{n m k p:Nat}(hs:RG M n m) (hk:k<n) (hp:p<n) (j:Nat):Dc (swp M k p) k j=Dc M p j:=by
 have hl:=hs.len
 unfold Dc
 rw[EY _ _ _ _ (by omega) (by omega)]
 split
 ·rename_i e;subst e;rfl
 ·rw[if_pos rfl]
theorem ae.scl {M:List (List F)}{n m k:Nat}(hs:RG M n m) (h:ae M k) (hk:k<n) (b:F):ae (M.set k (Hf (Be M k) b)) k:=by
 have hl:=hs.len
 refine⟨fun i j hi hj hij=>?_,fun j hj=>?_⟩
 ·unfold Dc
  rw[GL _ _ _ _ (by omega)]
  split
  ·rw[Q7,show EV (Be M k) j=0 from h.off k j (by omega) hj (by omega),CZ]
  ·exact h.off i j (by simpa using hi) hj hij
 ·unfold Dc
  rw[GL _ _ _ _ (by omega),if_neg (by omega)]
  exact h.dia j hj
theorem YS {M:List (List F)}{n m k:Nat}(hs:RG M n m) (hk:k<n) (b:F) (i j:Nat):Dc (M.set k (Hf (Be M k) b)) i j=if i=k then fm (Dc M k j) b else Dc M i j:=by
 have hl:=hs.len
 unfold Dc
 rw[GL _ _ _ _ (by omega)]
 split
 ·rw[Q7]
 ·rfl
theorem ae.red {M:List (List F)}{n m k:Nat}(f:F->F->F) (hs:RG M n m) (h:ae M k) (hk:k<n) (hd:Dc M k k≠0) (hf:∀a,fm (Dc M k k) (f a (Dc M k k))=a):ae (Bf f M k) (k+1):=by
 have hl:=hs.len
 have hl2:=(hs.red f hk).len
 have e:∀i j,i<n->Dc (Bf f M k) i j=if i=k then Dc M k j else fa (Dc M i j) (fm (Dc M k j) (f (Dc M i k) (Dc M k k))):=fun i j hi=>by
  show EV (Be (Bf f M k) i) j=_
  rw[DU _ _ _ _ (by omega)]
  split
  ·rfl
  ·rw[Nr _ _ _ _ (by rw[hs.row i hi,hs.row k hk])];rfl
 refine⟨fun i j hi hj hij=>?_,fun j hj=>?_⟩
 ·rw[e i j (by omega)]
  rcases Nat.lt_succ_iff_lt_or_eq.1 hj with hj|rfl
  ·split
   ·exact h.off k j (by omega) hj (by omega)
   ·rw[h.off i j (by omega) hj hij,h.off k j (by omega) hj (by omega),CZ];rfl
  ·rw[if_neg hij,hf,Fh]
 ·rcases Nat.lt_succ_iff_lt_or_eq.1 hj with hj|rfl
  ·rw[e j j (by omega),if_neg (by omega),h.off k j (by omega) hj (by omega),CZ,C3];exact h.dia j hj
  ·rw[e j j (by omega),if_pos rfl];exact hd
theorem PA {M:List (List F)}{n m k:Nat}(f:F->F->F) (hs:RG M n m) (h:ae M k) (hk:k<n) (j:Nat) (hj:j<=k):Dc (Bf f M k) j j=Dc M j j:=by
 have hl:=hs.len
 show EV (Be (Bf f M k) j) j=_
 rw[DU _ _ _ _ (by omega)]
 split
 ·rename_i e;subst e;rfl
 ·rename_i hne
  rw[Nr _ _ _ _ (by rw[hs.row j (by omega),hs.row k hk]),show EV (Be M k) j=0 from h.off k j (by omega) (by omega) (by omega),CZ,C3];rfl
theorem Jc (v:List F) (c:F) (j:Nat) (h:j<v.length):EV (v++[c]) j=EV v j:=by unfold EV;rw[List.getElem?_append_left h]
theorem Mm (v:List F) (c:F):EV (v++[c]) v.length=c:=by unfold EV;simp
theorem Th (v:List F) (j:Nat) (h:v.length<=j):EV v j=0:=by unfold EV;rw[List.getElem?_eq_none h];rfl
theorem X3 {M:List (List F)}{n m:Nat}(hs:RG M n (m+1)) (h:ae M m) (hm:m<=n) (v:List F) (hv:v.length=m) :
  RK 1 M v↔(∀i,i<m->fm (Dc M i i) (EV v i)=Dc M i m)/\∀i,m<=i->i<n->Dc M i m=0:=by
 have hl:=hs.len
 have hw:(v++[1]).length=m+1:=by simp[hv]
 have low:∀i,i<m->FT (Be M i) (v++[1])=fa (fm (Dc M i i) (EV v i)) (Dc M i m):=fun i hi=>by
  rw[TS (Be M i) (v++[1]) i m hi (by rw[hs.row i (by omega)];omega) (by rw[hs.row i (by omega),hw]) fun j h1 h2=>?_]
  ·rw[Jc _ _ _ (by omega),show EV (v++[1]) m=1 by rw[←hv];exact Mm v 1,JQ];rfl
  ·by_cases hj:j<m
   ·rw[show EV (Be M i) j=0 from h.off i j (by omega) hj (fun e=>h1 e.symm),CZ]
   ·rw[Th (Be M i) j (by rw[hs.row i (by omega)];omega),CZ]
 have high:∀i,m<=i->i<n->FT (Be M i) (v++[1])=Dc M i m:=fun i hi hi2=>by
  rw[Po (Be M i) (v++[1]) m (by rw[hs.row i (by omega)];omega) (by rw[hs.row i (by omega),hw]) fun j h1=>?_]
  ·rw[show EV (v++[1]) m=1 by rw[←hv];exact Mm v 1,JQ];rfl
  ·by_cases hj:j<m
   ·rw[show EV (Be M i) j=0 from h.off i j (by omega) hj (by omega),CZ]
   ·rw[Th (Be M i) j (by rw[hs.row i (by omega)];omega),CZ]
 constructor
 ·intro hsat
  refine⟨fun i hi=>?_,fun i hi hi2=>?_⟩
  ·have:=hsat i (by omega)
   rw[low i hi] at this
   exact HJ _ _ this
  ·have:=hsat i (by omega)
   rwa [high i hi hi2] at this
 ·rintro⟨h1,h2⟩ i hi
  by_cases him:i<m
  ·rw[low i him,h1 i him,Fh]
  ·rw[high i (by omega) (by omega)];exact h2 i (by omega) (by omega)
theorem bm {M:List (List F)}{n m k:Nat}(hs:RG M n (m+1)) (h:ae M k) (hk:k<m) (hm:m<=n) (hz:∀i,k<=i->i<n->Dc M i k=0) :
  ∃v:List F,v.length=m/\RK 0 M v/\EV v k=1:=by
 have hl:=hs.len
 obtain⟨v,hvd⟩:∃v:List F,v=(List.range m).map fun j=>if j<k then fm (Dc M j k) (fi (Dc M j j)) else if j=k then 1 else 0:=⟨_,rfl⟩
 have hv:v.length=m:=by simp[hvd]
 have ha:∀j,j<m->EV v j=if j<k then fm (Dc M j k) (fi (Dc M j j)) else if j=k then 1 else 0:=fun j hj=>by rw[hvd];simp[EV,hj]
 have hvk:EV v k=1:=by rw[ha k hk,if_neg (by omega),if_pos rfl]
 refine⟨v,hv,fun i hi=>?_,hvk⟩
 have hw:(v++[0]).length=m+1:=by simp[hv]
 have hw0:∀j,j≠k->¬j<k->EV (v++[0]) j=0:=fun j h1 h2=>by
  by_cases hj:j<m
  ·rw[Jc _ _ _ (by omega),ha j hj,if_neg h2,if_neg h1]
  ·by_cases hjm:j=m
   ·subst hjm;rw[←hv];exact Mm v 0
   ·exact Th _ _ (by omega)
 have hwk:EV (v++[0]) k=1:=by rw[Jc _ _ _ (by omega)];exact hvk
 by_cases hik:i<k
 ·rw[TS (Be M i) (v++[0]) i k hik (by rw[hs.row i (by omega)];omega) (by rw[hs.row i (by omega),hw]) fun j h1 h2=>?_]
  ·rw[hwk,JQ,Jc _ _ _ (by omega),ha i (by omega),if_pos hik]
   show fa (fm (Dc M i i) (fm (Dc M i k) (fi (Dc M i i)))) (Dc M i k)=0
   rw[NK,jj _ (h.dia i hik),JQ,Fh]
  ·by_cases hj:j<k
   ·rw[show EV (Be M i) j=0 from h.off i j (by omega) hj (fun e=>h1 e.symm),CZ]
   ·rw[hw0 j h2 hj,Dj]
 ·rw[Po (Be M i) (v++[0]) k (by rw[hs.row i (by omega)];omega) (by rw[hs.row i (by omega),hw]) fun j h1=>?_]
  ·rw[show EV (Be M i) k=0 from hz i (by omega) (by omega),CZ]
  ·by_cases hj:j<k
   ·rw[show EV (Be M i) j=0 from h.off i j (by omega) hj (by omega),CZ]
   ·rw[hw0 j h1 hj,Dj]
end Go.Pw
end
section
namespace Go.Pw
def RC (v w:List F):List F:=List.zipWith fa v w
theorem fI (v w:List F) (h:v.length=w.length):(RC v w).length=v.length:=by simp[RC,h]
theorem et (v w:List F) (j:Nat) (h:v.length=w.length):EV (RC v w) j=fa (EV v j) (EV w j):=by
 unfold EV RC
 rw[List.getElem?_zipWith]
 by_cases hj:j<v.length
 ·rw[List.getElem?_eq_getElem hj,List.getElem?_eq_getElem (by omega)];rfl
 ·rw[List.getElem?_eq_none (by omega),List.getElem?_eq_none (l:=w) (by omega)];rfl
theorem VY:∀(r v w:List F),v.length=w.length->FT r (RC v w)=fa (FT r v) (FT r w)
 |[],v,w,_=>by simp[La,C3]
 |x::r,[],[],_=>by simp[RC,Qk,C3]
 |x::r,a::v,b::w,h=>by
  have ih:=VY r v w (by simpa using h)
  simp only[RC,List.zipWith_cons_cons,Dq] at ih ⊢
  rw[ih,Lz,nk]
theorem eH {v w:List F}(hl:v.length=w.length) (h:∀j,j<v.length->EV v j=EV w j):v=w:=by
 apply List.ext_getElem hl
 intro j h1 h2
 have:=h j h1
 unfold EV at this
 rwa [List.getElem?_eq_getElem h1,List.getElem?_eq_getElem h2] at this
def TG (x:F):Nat->F
 |0=>1
 |n+1=>fm x (TG x n)
theorem lK (t i:Nat):gp (i*t)=TG (gp t) i:=by
 induction i with
 |zero=>rw[Nat.zero_mul];exact YO
 |succ i ih=>rw[Nat.add_mul,Nat.one_mul,Nat.add_comm,W4,ih];rfl
theorem l9:∀(xs vs:List F),vs.length=xs.length->xs.Nodup->(∀i,i<xs.length->FT (xs.map fun x=>TG x i) vs=0)->∀j,EV vs j=0
 |[],[],_,_,_=>fun j=>rfl
 |x::xs,v::vs,hl,hn,h=>by
  have hl':vs.length=xs.length:=by simpa using hl
  rw[List.nodup_cons] at hn
  have key:∀(i:Nat) (ys ws:List F),ws.length=ys.length->FT (ys.map fun y=>TG y i) (List.zipWith (fun y w=>fm w (fa y x)) ys ws)=fa (FT (ys.map fun y=>TG y (i+1)) ws) (fm x (FT (ys.map fun y=>TG y i) ws)):=by
   intro i ys
   induction ys with
   |nil=>intro ws _;rw[List.map_nil,La,List.map_nil,La,Dj];rfl
   |cons y ys ih =>
    intro ws hw
    cases ws with
    |nil=>simp at hw
    |cons w ws =>
     have:=ih ws (by simpa using hw)
     simp only[List.map_cons,List.zipWith_cons_cons,Dq]
     rw[this,Lz w,Lz (TG y i),Lz x,nk]
     congr 1
     ·congr 1
      show fm (TG y i) (fm w y)=fm (fm y (TG y i)) w
      rw[Dk w y,←Fg,Dk (TG y i) y]
     ·congr 1
      rw[NK,Dk,Fg]
      rw[NK]
  have hz:∀i,i<xs.length->FT (xs.map fun y=>TG y i) (List.zipWith (fun y w=>fm w (fa y x)) xs vs)=0:=fun i hi=>by
   rw[key i xs vs hl']
   have h1:=h i (by simp;omega)
   have h2:=h (i+1) (by simpa using hi)
   simp only[List.map_cons,Dq] at h1 h2
   have e1:FT (xs.map fun y=>TG y i) vs=fm (TG x i) v:=(HJ _ _ h1).symm
   have e2:FT (xs.map fun y=>TG y (i+1)) vs=fm (TG x (i+1)) v:=(HJ _ _ h2).symm
   rw[e1,e2,←Fg]
   exact Fh _
  have ih:=l9 xs (List.zipWith (fun y w=>fm w (fa y x)) xs vs) (by simp[hl']) hn.2 hz
  have htail:∀j,EV vs j=0:=fun j=>by
   by_cases hj:j<xs.length
   ·have:=ih j
    unfold EV at this ⊢
    rw[List.getElem?_zipWith,List.getElem?_eq_getElem hj,List.getElem?_eq_getElem (by omega)] at this
    rw[List.getElem?_eq_getElem (by omega)]
    have hne:fa xs[j] x≠0:=fun e=>hn.1 (by rw[←HJ _ _ e];exact List.getElem_mem hj)
    exact(Qa _ _ this).resolve_right hne
   ·exact Th _ _ (by omega)
  have hhead:v=0:=by
   have h0:=h 0 (by simp)
   simp only[List.map_cons,Dq] at h0
   have:FT (xs.map fun y=>TG y 0) vs=0:=by
    have hvs:vs=List.replicate vs.length 0:=by
     apply eH (by simp)
     intro j hj
     rw[htail j]
     simp[EV,hj]
    rw[hvs]
    generalize xs.map (fun y=>TG y 0)=zs
    generalize vs.length=n
    induction zs generalizing n with
    |nil=>rfl
    |cons z zs ih2 =>
     cases n with
     |zero=>rfl
     |succ n=>rw[List.replicate_succ,Dq,Dj,ih2];rfl
   rw[this,C3] at h0
   rw[show TG x 0=1 from rfl,S_] at h0
   exact h0
  intro j
  cases j with
  |zero=>exact hhead
  |succ j=>exact htail j
def XH (L i j:Nat):F:=gp (i*(L-1-j))
def O' (L P:Nat) (at_:List Nat) (s:List F):List (List F):=(List.range P).map fun i=>(at_.map fun j=>XH L i j)++[EV s i]
theorem NN (L P:Nat) (at_:List Nat) (s:List F):RG (O' L P at_ s) P (at_.length+1):=by
 refine⟨by simp[O'],fun i hi=>?_⟩
 unfold O'
 rw[MI (α:=F) _ _ _ hi];simp
theorem Ui (L P:Nat) (at_:List Nat) (s:List F) (i:Nat) (h:i<P):Be (O' L P at_ s) i=(at_.map fun j=>XH L i j)++[EV s i]:=MI (α:=F) _ _ _ h
structure aj (L:Nat) (at_:List Nat):Prop where
 nd:at_.Nodup
 lt:∀j,j∈at_->j<L
theorem TU (L P:Nat) (at_:List Nat) (s v:List F) (c:F) (hv:v.length=at_.length) (i:Nat) (h:i<P):FT (Be (O' L P at_ s) i) (v++[c])=fa (FT (at_.map fun j=>XH L i j) v) (fm (EV s i) c):=by
 rw[Ui _ _ _ _ _ h,Qi _ _ _ _ (by simp[hv])]
theorem U8 {L P:Nat}(hL:L<=15) {at_:List Nat}(hp:aj L at_) (hm:at_.length<=P) {s v:List F}(hv:v.length=at_.length) (h:RK 0 (O' L P at_ s) v):∀j,EV v j=0:=by
 have hx:(at_.map fun j=>gp (L-1-j)).Nodup:=by
  have h1:=hp.nd
  have h2:=hp.lt
  clear h hv hm
  induction at_ with
  |nil=>simp
  |cons a l ih =>
   rw[List.nodup_cons] at h1
   rw[List.map_cons,List.nodup_cons]
   refine⟨fun hmem=>?_,ih ⟨h1.2,fun j hj=>h2 j (by simp[hj])⟩ h1.2 fun j hj=>h2 j (by simp[hj])⟩
   obtain⟨b,hb,he⟩:=List.mem_map.1 hmem
   have ha:=h2 a (by simp)
   have hb2:=h2 b (by simp[hb])
   have:=lL (by omega) (by omega) he
   have:a=b:=by omega
   subst this
   exact h1.1 hb
 refine l9 _ v (by simp[hv]) hx fun i hi=>?_
 have hi':i<P:=by simp at hi;omega
 have:=h i (by rw[(NN L P at_ s).len];exact hi')
 rw[TU _ _ _ _ _ _ hv i hi',Dj,C3] at this
 rw[List.map_map]
 have e:(at_.map ((fun x=>TG x i) ∘ fun j=>gp (L-1-j)))=at_.map fun j=>XH L i j:=List.map_congr_left fun j _=>(lK _ _).symm
 rw[e];exact this
theorem gK {c d:F}{M:List (List F)}{v w:List F}(hl:v.length=w.length) (h1:RK c M v) (h2:RK d M w):RK (fa c d) M (RC v w):=by
 intro i hi
 have:RC v w++[fa c d]=RC (v++[c]) (w++[d]):=by
  unfold RC
  rw[List.zipWith_append hl];rfl
 rw[this,VY _ _ _ (by simp[hl]),h1 i hi,h2 i hi,C3]
theorem bl {L P:Nat}(hL:L<=15) {at_:List Nat}(hp:aj L at_) (hm:at_.length<=P) {s v w:List F}(hv:v.length=at_.length) (hw:w.length=at_.length) (h1:RK 1 (O' L P at_ s) v) (h2:RK 1 (O' L P at_ s) w):v=w:=by
 have h:=gK (by omega) h1 h2
 rw[Fh] at h
 have:=U8 hL hp hm (by rw[fI _ _ (by omega)];exact hv) h
 refine eH (by omega) fun j _=>?_
 have hj:=this j
 rw[et _ _ _ (by omega)] at hj
 exact HJ _ _ hj
open Classical in
noncomputable def Ld (L P:Nat) (at_:List Nat) (s:List F):Option (List F) :=
 if h:∃v:List F,v.length=at_.length/\RK 1 (O' L P at_ s) v then some h.choose else none
theorem R3 {L P:Nat}(hL:L<=15) {at_:List Nat}(hp:aj L at_) (hm:at_.length<=P) {s v:List F}(hv:v.length=at_.length) (h:RK 1 (O' L P at_ s) v):Ld L P at_ s=some v:=by
 have hex:∃v:List F,v.length=at_.length/\RK 1 (O' L P at_ s) v:=⟨v,hv,h⟩
 unfold Ld
 rw[dif_pos hex]
 congr 1
 exact bl hL hp hm hex.choose_spec.1 hv hex.choose_spec.2 h
theorem Yu {L P:Nat}{at_:List Nat}{s:List F}(h:∀v:List F,v.length=at_.length->¬RK 1 (O' L P at_ s) v):Ld L P at_ s=none:=by
 unfold Ld
 rw[dif_neg fun⟨v,h1,h2⟩=>h v h1 h2]
theorem R1 {L P:Nat}{at_:List Nat}{s v:List F}(h:Ld L P at_ s=some v):v.length=at_.length/\RK 1 (O' L P at_ s) v:=by
 unfold Ld at h
 split at h
 ·rename_i hex
  simp only[Option.some.injEq] at h
  rw[←h];exact hex.choose_spec
 ·cases h
end Go.Pw
end
