/- A part of the proof. -/
import Derived.Test.YtibkjeolahobbaaDoorPgCdChrA
import Derived.Test.YtibkjeolahobbaaDoorCorrectSpec
set_option linter.all false
section
open Go Go.Pw Go.Proofs
namespace Go.Pw
set_option maxRecDepth 100000
set_option maxHeartbeats 3200000
theorem gq:(0:Int)<((2:Nat):Int):=by decide
theorem go:(1:Int)<((2:Nat):Int):=by decide
theorem Lf:¬(2:Int)<((2:Nat):Int):=by decide
theorem T_:IntKind.i64.wrap 0=0:=by decide
theorem T9:IntKind.i64.wrap (0-((0:Nat):Int))=0:=by decide
theorem Pl {α:Type}(n:Nat) (x:α) (h:0<n):(List.replicate n x).isEmpty=false:=by cases n with
 |zero=>omega
 |succ n=>rfl
attribute [local congr] Bi A9 A_ Aq Bj Ax Az Ay Ap Aj Ad AY Au Ae Av BH BL BJ BK BI BM BE Ah Aw Ai BC BS Ag BF BG BD BA BB A8 Bl A' Ar Af
attribute [local irreducible] IntKind.wrap A3 Option.getD and or
theorem Tx (n:Nat) (hn:0<n) (hl:n<=1000000):H_ E0 DK [] [.d (.list true []),.d (.int .i64 n)] [(22,2,.row 3 1 false [])] (.own 22 2):=by
 refine De Fa A0 (by simp) (by simp[PR,CT,D6]) (by simp[E5]) fun hwf hwo=>?_
 rw[EJ];unfold D5
 have h0:¬(n:Int)<0:=by omega
 have h1:(0:Int)<(n:Int):=by omega
 have hw:IntKind.i64.wrap (n:Int)=(n:Int):=Ak _ (by omega)
 have hw2:IntKind.i64.wrap ((n:Int)-0)=(n:Int):=by rw[Int.sub_zero];exact hw
 (try (simp -implicitDefEqProofs only[go_sem,h0,h1,hw,Pl n _ hn,List.length_replicate,T_,T9,hw2,Int.sub_zero]));repeat' first|(with_reducible first|exact tI|refine aI ?_ ?_|intro _)|((first|with_reducible refine AO ?_ ?_<;>intro _)<;>try (simp -implicitDefEqProofs only[go_sem,h0,h1,hw,Pl n _ hn,List.length_replicate,T_,T9,hw2,Int.sub_zero]))|simp (disch:=omega) only[An]
 all_goals first|omega|rfl|(simp at *;done)|skip
theorem Tz:CK E0 DK [.list true [],.int .i64 0] (.list true []):=by
 refine AM Fa A0 (by simp) fun hwf=>?_
 rw[AU];unfold D5
 (try (simp -implicitDefEqProofs only[go_sem,T_,T9,Int.sub_zero]));repeat' first|(with_reducible first|exact tI|refine aI ?_ ?_|intro _)|((first|with_reducible refine AO ?_ ?_<;>intro _)<;>try (simp -implicitDefEqProofs only[go_sem,T_,T9,Int.sub_zero]))|simp (disch:=omega) only[An]
 all_goals first|omega|rfl|(simp at *;done)|skip
theorem Tv (n:Nat) (hn:0<n) (hl:n<=1000000):H_ E0 Bb [] [.d (.list true []),.d (.int .i64 n)] [(22,2,.row 111 1 false [])] (.own 22 2):=by
 refine De CE A0 (by simp) (by simp[PR,CT,D6]) (by simp[E5]) fun hwf hwo=>?_
 rw[EJ];unfold Bo
 have h0:¬(n:Int)<0:=by omega
 have h1:(0:Int)<(n:Int):=by omega
 have hw:IntKind.i64.wrap (n:Int)=(n:Int):=Ak _ (by omega)
 have hw2:IntKind.i64.wrap ((n:Int)-0)=(n:Int):=by rw[Int.sub_zero];exact hw
 (try (simp -implicitDefEqProofs only[go_sem,h0,h1,hw,Pl n _ hn,List.length_replicate,T_,T9,hw2,Int.sub_zero]));repeat' first|(with_reducible first|exact tI|refine aI ?_ ?_|intro _)|((first|with_reducible refine AO ?_ ?_<;>intro _)<;>try (simp -implicitDefEqProofs only[go_sem,h0,h1,hw,Pl n _ hn,List.length_replicate,T_,T9,hw2,Int.sub_zero]))|simp (disch:=omega) only[An]
 all_goals first|omega|rfl|(simp at *;done)|skip
theorem Tw:CK E0 Bb [.list true [],.int .i64 0] (.list true []):=by
 refine AM CE A0 (by simp) fun hwf=>?_
 rw[AU];unfold Bo
 (try (simp -implicitDefEqProofs only[go_sem,T_,T9,Int.sub_zero]));repeat' first|(with_reducible first|exact tI|refine aI ?_ ?_|intro _)|((first|with_reducible refine AO ?_ ?_<;>intro _)<;>try (simp -implicitDefEqProofs only[go_sem,T_,T9,Int.sub_zero]))|simp (disch:=omega) only[An]
 all_goals first|omega|rfl|(simp at *;done)|skip
theorem RD (n1 n2:Bool) (a b:List Int) (ha:a.length<=100000) (hb:b.length<=100000):CK E0 Fb [.list false [.list n1 (Al a),.list n2 (Al b)]] (.list (a++b).isEmpty (Al (a++b))):=by
 refine AM Hk A0 (by simp) fun hwf=>?_
 rw[AU];unfold E'
 have w1:IntKind.i64.wrap (0+(a.length:Int))=(a.length:Int):=by rw[Int.zero_add];exact Ak _ (by omega)
 have w2:IntKind.i64.wrap ((a.length:Int)+(b.length:Int))=((a.length+b.length:Nat):Int):=by rw[Ak _ (by omega)];omega
 have w3:IntKind.i64.wrap (0+1)=1:=by rw[Ak _ (by omega)];rfl
 have w4:IntKind.i64.wrap (1+1)=2:=by rw[Ak _ (by omega)];rfl
 have q1:¬(a.length:Int)<0:=by omega
 have q2:¬((a.length+b.length:Nat):Int)<0:=by omega
 (try (simp -implicitDefEqProofs only[go_sem]));repeat' first|(with_reducible first|exact tI|refine aI ?_ ?_|intro _)|((first|with_reducible refine AO ?_ ?_<;>intro _)<;>try (simp -implicitDefEqProofs only[go_sem]))|simp (disch:=omega) only[An]|((with_reducible refine Ao ?_);refine⟨(_,_),rfl,?_,?_⟩)|((with_reducible refine A5 ?_);refine⟨_,rfl,?_,?_⟩)
 refine AZ (α:=Int×Int) (l0:=?l1) (m0:=?m1) (fun x=>[(11,.d (.int .i64 x.1)),(3,.d (.int .i64 x.2))]) (fun x=>[]) (fun x=>(x.1=0/\x.2=0)\/(x.1=1/\x.2=a.length)\/(x.1=2/\x.2=((a.length+b.length:Nat):Int))) (fun x=>(2-x.1).toNat) (0,0) ?h01 ?he1 ?he21 ?hI1 ?step1
 case h01=>(simp -implicitDefEqProofs only[go_sem];rfl)
 case he1=>rfl
 case he21=>rfl
 case' step1=>(rintro⟨i,n⟩ hI;try dsimp only at hI)
 case' hI1=>try dsimp only
 ·exact .inl ⟨rfl,rfl⟩
 rcases hI with⟨rfl,rfl⟩|⟨rfl,rfl⟩|⟨rfl,rfl⟩
 ·(try (simp -implicitDefEqProofs only[go_sem,w1,w3,q1,gq]));repeat' first|(with_reducible first|exact tI|refine aI ?_ ?_|intro _)|((first|with_reducible refine AO ?_ ?_<;>intro _)<;>try (simp -implicitDefEqProofs only[go_sem,w1,w3,q1,gq]))|simp (disch:=omega) only[An]|((with_reducible refine Ao ?_);refine⟨(_,_),rfl,?_,?_⟩)|((with_reducible refine A5 ?_);refine⟨_,rfl,?_,?_⟩)
  all_goals first|omega|(simp at *;done)|skip
 ·(try (simp -implicitDefEqProofs only[go_sem,w2,w4,q2,go]));repeat' first|(with_reducible first|exact tI|refine aI ?_ ?_|intro _)|((first|with_reducible refine AO ?_ ?_<;>intro _)<;>try (simp -implicitDefEqProofs only[go_sem,w2,w4,q2,go]))|simp (disch:=omega) only[An]|((with_reducible refine Ao ?_);refine⟨(_,_),rfl,?_,?_⟩)|((with_reducible refine A5 ?_);refine⟨_,rfl,?_,?_⟩)
  all_goals first|omega|(simp at *;done)|skip
 ·by_cases h0:a.length+b.length=0
  ·have ea:a=[]:=List.eq_nil_of_length_eq_zero (by omega)
   have eb:b=[]:=List.eq_nil_of_length_eq_zero (by omega)
   subst ea eb
   have c1:CK E0 DK [.list true [],.int .i64 (((([]:List Int).length+([]:List Int).length:Nat)):Int)] (.list true []):=Tz
   (try (simp -implicitDefEqProofs only[go_sem,Lf]));repeat' first|(with_reducible first|exact tI|refine aI ?_ ?_|intro _)|((first|with_reducible refine AO ?_ ?_<;>intro _|(with_reducible refine isCall ?_);first|refine AE c1 ?_)<;>try (simp -implicitDefEqProofs only[go_sem,Lf]))|simp (disch:=omega) only[An]|((with_reducible refine Ao ?_);refine⟨(_,_),rfl,?_,?_⟩)|((with_reducible refine A5 ?_);refine⟨_,rfl,?_,?_⟩)
   refine AZ (α:=Int) (l0:=?l2) (m0:=?m2) (fun x=>[(27,.d (.int .i64 x))]) (fun x=>[(33,.row 3 1 true [])]) (fun x=>x=0\/x=1\/x=2) (fun x=>(2-x).toNat) 0 ?h02 ?he2 ?he22 ?hI2 ?step2
   case h02=>(simp -implicitDefEqProofs only[go_sem];rfl)
   case he2=>rfl
   case he22=>rfl
   case' step2=>(rintro i hI2;try dsimp only at hI2)
   case' hI2=>try dsimp only
   ·exact .inl rfl
   rcases hI2 with rfl|rfl|rfl
   ·(try (simp -implicitDefEqProofs only[go_sem,w3]));repeat' first|(with_reducible first|exact tI|refine aI ?_ ?_|intro _)|((first|with_reducible refine AO ?_ ?_<;>intro _)<;>try (simp -implicitDefEqProofs only[go_sem,w3]))|simp (disch:=omega) only[An]|((with_reducible refine Ao ?_);refine⟨(_,_),rfl,?_,?_⟩)|((with_reducible refine A5 ?_);refine⟨_,rfl,?_,?_⟩)
    all_goals first|omega|(simp at *;done)|skip
   ·(try (simp -implicitDefEqProofs only[go_sem,w4]));repeat' first|(with_reducible first|exact tI|refine aI ?_ ?_|intro _)|((first|with_reducible refine AO ?_ ?_<;>intro _)<;>try (simp -implicitDefEqProofs only[go_sem,w4]))|simp (disch:=omega) only[An]|((with_reducible refine Ao ?_);refine⟨(_,_),rfl,?_,?_⟩)|((with_reducible refine A5 ?_);refine⟨_,rfl,?_,?_⟩)
    all_goals first|omega|(simp at *;done)|skip
   ·(try (simp -implicitDefEqProofs only[go_sem,Lf]));repeat' first|(with_reducible first|exact tI|refine aI ?_ ?_|intro _)|((first|with_reducible refine AO ?_ ?_<;>intro _)<;>try (simp -implicitDefEqProofs only[go_sem,Lf]))|simp (disch:=omega) only[An]|((with_reducible refine Ao ?_);refine⟨(_,_),rfl,?_,?_⟩)|((with_reducible refine A5 ?_);refine⟨_,rfl,?_,?_⟩)
    all_goals first|omega|(simp at *;done)|rfl|skip
  ·have he:(a++b).isEmpty=false:=by cases a<;>cases b<;>simp_all
   have c1:=Tx (a.length+b.length) (by omega) (by omega)
   (try (simp -implicitDefEqProofs only[go_sem,Lf]));repeat' first|(with_reducible first|exact tI|refine aI ?_ ?_|intro _)|((first|with_reducible refine AO ?_ ?_<;>intro _|(with_reducible refine isCall ?_);first|(refine E7 ([]) ([((22,2),(24,1))]) (c1) (by repeat' first|exact True.intro|exact rfl|refine And.intro ?_ ?_) (by simp[Handed,Dm.get,Aa.ren,AV.ren,AV.ren.renL,AJ.get,BV,B2,Di,AJ.reach,AV.sites,AV.sites.sitesL,AJ.osites]) (by simp[CN,E5,CT,Dm.get,Di,D6,CG]) (by rfl) (by simp only[D4,Dm.get,Aa.ren,AV.ren,AV.ren.renL,and_self,and_true,true_and,if_true,reduceIte];rfl) ?_))<;>try (simp -implicitDefEqProofs only[go_sem,Lf]))|simp (disch:=omega) only[An]|((with_reducible refine Ao ?_);refine⟨(_,_),rfl,?_,?_⟩)|((with_reducible refine A5 ?_);refine⟨_,rfl,?_,?_⟩)
   refine AZ (α:=Int×(List Int)) (l0:=?l3) (m0:=?m3) (fun x=>[(27,.d (.int .i64 x.1))]) (fun x=>[(24,.row 3 1 false (Al x.2))]) (fun x=>(x.1=0/\x.2=[])\/(x.1=1/\x.2=a)\/(x.1=2/\x.2=a++b)) (fun x=>(2-x.1).toNat) (0,[]) ?h03 ?he3 ?he23 ?hI3 ?step3
   case h03=>(simp -implicitDefEqProofs only[go_sem];rfl)
   case he3=>rfl
   case he23=>rfl
   case' step3=>(rintro⟨i,l⟩ hI3;try dsimp only at hI3)
   case' hI3=>try dsimp only
   ·exact .inl ⟨rfl,rfl⟩
   rcases hI3 with⟨rfl,rfl⟩|⟨rfl,rfl⟩|⟨rfl,rfl⟩
   ·(try (simp -implicitDefEqProofs only[go_sem,w3,List.nil_append]));repeat' first|(with_reducible first|exact tI|refine aI ?_ ?_|intro _)|((first|with_reducible refine AO ?_ ?_<;>intro _)<;>try (simp -implicitDefEqProofs only[go_sem,w3,List.nil_append]))|simp (disch:=omega) only[An]|((with_reducible refine Ao ?_);refine⟨(_,_),rfl,?_,?_⟩)|((with_reducible refine A5 ?_);refine⟨_,rfl,?_,?_⟩)
    all_goals first|omega|(simp at *;done)|skip
   ·(try (simp -implicitDefEqProofs only[go_sem,w4]));repeat' first|(with_reducible first|exact tI|refine aI ?_ ?_|intro _)|((first|with_reducible refine AO ?_ ?_<;>intro _)<;>try (simp -implicitDefEqProofs only[go_sem,w4]))|simp (disch:=omega) only[An]|((with_reducible refine Ao ?_);refine⟨(_,_),rfl,?_,?_⟩)|((with_reducible refine A5 ?_);refine⟨_,rfl,?_,?_⟩)
    all_goals first|omega|(simp at *;done)|skip
   ·(try (simp -implicitDefEqProofs only[go_sem,he,Lf]));repeat' first|(with_reducible first|exact tI|refine aI ?_ ?_|intro _)|((first|with_reducible refine AO ?_ ?_<;>intro _)<;>try (simp -implicitDefEqProofs only[go_sem,he,Lf]))|simp (disch:=omega) only[An]|((with_reducible refine Ao ?_);refine⟨(_,_),rfl,?_,?_⟩)|((with_reducible refine A5 ?_);refine⟨_,rfl,?_,?_⟩)
    all_goals first|omega|(simp at *;done)|rfl|skip
theorem RC (n1 n2:Bool) (a b:List F) (ha:a.length<=100000) (hb:b.length<=100000):CK E0 CF [.list false [.list n1 (us a),.list n2 (us b)]] (.list (a++b).isEmpty (us (a++b))):=by
 refine AM Db A0 (by simp) fun hwf=>?_
 rw[AU];unfold CA
 have w1:IntKind.i64.wrap (0+(a.length:Int))=(a.length:Int):=by rw[Int.zero_add];exact Ak _ (by omega)
 have w2:IntKind.i64.wrap ((a.length:Int)+(b.length:Int))=((a.length+b.length:Nat):Int):=by rw[Ak _ (by omega)];omega
 have w3:IntKind.i64.wrap (0+1)=1:=by rw[Ak _ (by omega)];rfl
 have w4:IntKind.i64.wrap (1+1)=2:=by rw[Ak _ (by omega)];rfl
 have q1:¬(a.length:Int)<0:=by omega
 have q2:¬((a.length+b.length:Nat):Int)<0:=by omega
 (try (simp -implicitDefEqProofs only[go_sem]));repeat' first|(with_reducible first|exact tI|refine aI ?_ ?_|intro _)|((first|with_reducible refine AO ?_ ?_<;>intro _)<;>try (simp -implicitDefEqProofs only[go_sem]))|simp (disch:=omega) only[An]|((with_reducible refine Ao ?_);refine⟨(_,_),rfl,?_,?_⟩)|((with_reducible refine A5 ?_);refine⟨_,rfl,?_,?_⟩)
 refine AZ (α:=Int×Int) (l0:=?l4) (m0:=?m4) (fun x=>[(11,.d (.int .i64 x.1)),(3,.d (.int .i64 x.2))]) (fun x=>[]) (fun x=>(x.1=0/\x.2=0)\/(x.1=1/\x.2=a.length)\/(x.1=2/\x.2=((a.length+b.length:Nat):Int))) (fun x=>(2-x.1).toNat) (0,0) ?h04 ?he4 ?he24 ?hI4 ?step4
 case h04=>(simp -implicitDefEqProofs only[go_sem];rfl)
 case he4=>rfl
 case he24=>rfl
 case' step4=>(rintro⟨i,n⟩ hI;try dsimp only at hI)
 case' hI4=>try dsimp only
 ·exact .inl ⟨rfl,rfl⟩
 rcases hI with⟨rfl,rfl⟩|⟨rfl,rfl⟩|⟨rfl,rfl⟩
 ·(try (simp -implicitDefEqProofs only[go_sem,w1,w3,q1,gq]));repeat' first|(with_reducible first|exact tI|refine aI ?_ ?_|intro _)|((first|with_reducible refine AO ?_ ?_<;>intro _)<;>try (simp -implicitDefEqProofs only[go_sem,w1,w3,q1,gq]))|simp (disch:=omega) only[An]|((with_reducible refine Ao ?_);refine⟨(_,_),rfl,?_,?_⟩)|((with_reducible refine A5 ?_);refine⟨_,rfl,?_,?_⟩)
  all_goals first|omega|(simp at *;done)|skip
 ·(try (simp -implicitDefEqProofs only[go_sem,w2,w4,q2,go]));repeat' first|(with_reducible first|exact tI|refine aI ?_ ?_|intro _)|((first|with_reducible refine AO ?_ ?_<;>intro _)<;>try (simp -implicitDefEqProofs only[go_sem,w2,w4,q2,go]))|simp (disch:=omega) only[An]|((with_reducible refine Ao ?_);refine⟨(_,_),rfl,?_,?_⟩)|((with_reducible refine A5 ?_);refine⟨_,rfl,?_,?_⟩)
  all_goals first|omega|(simp at *;done)|skip
 ·by_cases h0:a.length+b.length=0
  ·have ea:a=[]:=List.eq_nil_of_length_eq_zero (by omega)
   have eb:b=[]:=List.eq_nil_of_length_eq_zero (by omega)
   subst ea eb
   have c1:CK E0 Bb [.list true [],.int .i64 (((([]:List F).length+([]:List F).length:Nat)):Int)] (.list true []):=Tw
   (try (simp -implicitDefEqProofs only[go_sem,Lf]));repeat' first|(with_reducible first|exact tI|refine aI ?_ ?_|intro _)|((first|with_reducible refine AO ?_ ?_<;>intro _|(with_reducible refine isCall ?_);first|refine AE c1 ?_)<;>try (simp -implicitDefEqProofs only[go_sem,Lf]))|simp (disch:=omega) only[An]|((with_reducible refine Ao ?_);refine⟨(_,_),rfl,?_,?_⟩)|((with_reducible refine A5 ?_);refine⟨_,rfl,?_,?_⟩)
   refine AZ (α:=Int) (l0:=?l5) (m0:=?m5) (fun x=>[(27,.d (.int .i64 x))]) (fun x=>[(33,.row 111 1 true [])]) (fun x=>x=0\/x=1\/x=2) (fun x=>(2-x).toNat) 0 ?h05 ?he5 ?he25 ?hI5 ?step5
   case h05=>(simp -implicitDefEqProofs only[go_sem];rfl)
   case he5=>rfl
   case he25=>rfl
   case' step5=>(rintro i hI2;try dsimp only at hI2)
   case' hI5=>try dsimp only
   ·exact .inl rfl
   rcases hI2 with rfl|rfl|rfl
   ·(try (simp -implicitDefEqProofs only[go_sem,w3]));repeat' first|(with_reducible first|exact tI|refine aI ?_ ?_|intro _)|((first|with_reducible refine AO ?_ ?_<;>intro _)<;>try (simp -implicitDefEqProofs only[go_sem,w3]))|simp (disch:=omega) only[An]|((with_reducible refine Ao ?_);refine⟨(_,_),rfl,?_,?_⟩)|((with_reducible refine A5 ?_);refine⟨_,rfl,?_,?_⟩)
    all_goals first|omega|(simp at *;done)|skip
   ·(try (simp -implicitDefEqProofs only[go_sem,w4]));repeat' first|(with_reducible first|exact tI|refine aI ?_ ?_|intro _)|((first|with_reducible refine AO ?_ ?_<;>intro _)<;>try (simp -implicitDefEqProofs only[go_sem,w4]))|simp (disch:=omega) only[An]|((with_reducible refine Ao ?_);refine⟨(_,_),rfl,?_,?_⟩)|((with_reducible refine A5 ?_);refine⟨_,rfl,?_,?_⟩)
    all_goals first|omega|(simp at *;done)|skip
   ·(try (simp -implicitDefEqProofs only[go_sem,Lf]));repeat' first|(with_reducible first|exact tI|refine aI ?_ ?_|intro _)|((first|with_reducible refine AO ?_ ?_<;>intro _)<;>try (simp -implicitDefEqProofs only[go_sem,Lf]))|simp (disch:=omega) only[An]|((with_reducible refine Ao ?_);refine⟨(_,_),rfl,?_,?_⟩)|((with_reducible refine A5 ?_);refine⟨_,rfl,?_,?_⟩)
    all_goals first|omega|(simp at *;done)|rfl|skip
  ·have he:(a++b).isEmpty=false:=by cases a<;>cases b<;>simp_all
   have c1:=Tv (a.length+b.length) (by omega) (by omega)
   (try (simp -implicitDefEqProofs only[go_sem,Lf]));repeat' first|(with_reducible first|exact tI|refine aI ?_ ?_|intro _)|((first|with_reducible refine AO ?_ ?_<;>intro _|(with_reducible refine isCall ?_);first|(refine E7 ([]) ([((22,2),(24,1))]) (c1) (by repeat' first|exact True.intro|exact rfl|refine And.intro ?_ ?_) (by simp[Handed,Dm.get,Aa.ren,AV.ren,AV.ren.renL,AJ.get,BV,B2,Di,AJ.reach,AV.sites,AV.sites.sitesL,AJ.osites]) (by simp[CN,E5,CT,Dm.get,Di,D6,CG]) (by rfl) (by simp only[D4,Dm.get,Aa.ren,AV.ren,AV.ren.renL,and_self,and_true,true_and,if_true,reduceIte];rfl) ?_))<;>try (simp -implicitDefEqProofs only[go_sem,Lf]))|simp (disch:=omega) only[An]|((with_reducible refine Ao ?_);refine⟨(_,_),rfl,?_,?_⟩)|((with_reducible refine A5 ?_);refine⟨_,rfl,?_,?_⟩)
   refine AZ (α:=Int×(List F)) (l0:=?l6) (m0:=?m6) (fun x=>[(27,.d (.int .i64 x.1))]) (fun x=>[(24,.row 111 1 false (us x.2))]) (fun x=>(x.1=0/\x.2=[])\/(x.1=1/\x.2=a)\/(x.1=2/\x.2=a++b)) (fun x=>(2-x.1).toNat) (0,[]) ?h06 ?he6 ?he26 ?hI6 ?step6
   case h06=>(simp -implicitDefEqProofs only[go_sem];rfl)
   case he6=>rfl
   case he26=>rfl
   case' step6=>(rintro⟨i,l⟩ hI3;try dsimp only at hI3)
   case' hI6=>try dsimp only
   ·exact .inl ⟨rfl,rfl⟩
   rcases hI3 with⟨rfl,rfl⟩|⟨rfl,rfl⟩|⟨rfl,rfl⟩
   ·(try (simp -implicitDefEqProofs only[go_sem,w3,List.nil_append]));repeat' first|(with_reducible first|exact tI|refine aI ?_ ?_|intro _)|((first|with_reducible refine AO ?_ ?_<;>intro _)<;>try (simp -implicitDefEqProofs only[go_sem,w3,List.nil_append]))|simp (disch:=omega) only[An]|((with_reducible refine Ao ?_);refine⟨(_,_),rfl,?_,?_⟩)|((with_reducible refine A5 ?_);refine⟨_,rfl,?_,?_⟩)
    all_goals first|omega|(simp at *;done)|skip
   ·(try (simp -implicitDefEqProofs only[go_sem,w4]));repeat' first|(with_reducible first|exact tI|refine aI ?_ ?_|intro _)|((first|with_reducible refine AO ?_ ?_<;>intro _)<;>try (simp -implicitDefEqProofs only[go_sem,w4]))|simp (disch:=omega) only[An]|((with_reducible refine Ao ?_);refine⟨(_,_),rfl,?_,?_⟩)|((with_reducible refine A5 ?_);refine⟨_,rfl,?_,?_⟩)
    all_goals first|omega|(simp at *;done)|skip
   ·(try (simp -implicitDefEqProofs only[go_sem,he,Lf]));repeat' first|(with_reducible first|exact tI|refine aI ?_ ?_|intro _)|((first|with_reducible refine AO ?_ ?_<;>intro _)<;>try (simp -implicitDefEqProofs only[go_sem,he,Lf]))|simp (disch:=omega) only[An]|((with_reducible refine Ao ?_);refine⟨(_,_),rfl,?_,?_⟩)|((with_reducible refine A5 ?_);refine⟨_,rfl,?_,?_⟩)
    all_goals first|omega|(simp at *;done)|rfl|skip
end Go.Pw
end
section
namespace Go.Pw
def Fd:List F->List F->F
 |a::asq,b::bs=>fa (fm a b) (Fd asq bs)
 |_,_=>0
def Ge (r o:List F) (b:F):List F:=List.zipWith (fun x y=>fa x (fm y b)) r o
def Hg (r:List F) (b:F):List F:=r.map fun x=>fm x b
def Ea (r:List F) (j:Nat):F:=r[j]?.getD 0
def Bf (M:List (List F)) (i:Nat):List F:=M[i]?.getD []
def Dj (M:List (List F)) (i j:Nat):F:=Ea (Bf M i) j
theorem iR (a b c:F):fa a (fa b c)=fa b (fa a c):=by rw[←EA,NM a b,EA]
theorem nF (a b c d:F):fa (fa a b) (fa c d)=fa (fa a c) (fa b d):=by rw[EA,EA,iR b c d]
theorem jY (a b c:F):fm (fa a b) c=fa (fm a c) (fm b c):=by rw[Dt,Lz,Dt c a,Dt c b]
theorem NK (a b c:F):fm a (fm b c)=fm b (fm a c):=by rw[←Fo,Dt a b,Fo]
theorem La (w:List F):Fd [] w=0:=rfl
theorem Qc (w:List F):Fd w []=0:=by cases w<;>rfl
theorem Dz (a b:F) (asq bs:List F):Fd (a::asq) (b::bs)=fa (fm a b) (Fd asq bs):=rfl
theorem NO (b:F):∀(r o w:List F),r.length=o.length->Fd (Ge r o b) w=fa (Fd r w) (fm b (Fd o w))
 |[],[],w,_=>by simp[Ge,La,Dr,C6]
 |x::r,y::o,[],_=>by simp[Qc,Dr,C6]
 |x::r,y::o,c::w,h=>by
  have ih:=NO b r o w (by simpa using h)
  simp only[Ge,List.zipWith_cons_cons,Dz] at ih ⊢
  rw[ih,jY,Lz,Fo,NK,nF]
theorem Qb (b:F):∀(r w:List F),Fd (Hg r b) w=fm b (Fd r w)
 |[],w=>by simp[Hg,La,Dr]
 |x::r,[]=>by simp[Qc,Dr]
 |x::r,c::w=>by
  have ih:=Qb b r w
  simp only[Hg,List.map_cons,Dz] at ih ⊢
  rw[ih,Lz,Fo,NK]
theorem Qa (x y:F):∀(r w:List F),r.length=w.length->Fd (r++[x]) (w++[y])=fa (Fd r w) (fm x y)
 |[],[],_=>by simp[Fd,C6,JE]
 |a::r,b::w,h=>by
  have ih:=Qa x y r w (by simpa using h)
  simp only[List.cons_append,Dz]
  rw[ih,EA]
theorem Pr:∀(r w:List F) (i:Nat),i<r.length->r.length=w.length->(∀j,j≠i->fm (Ea r j) (Ea w j)=0)->Fd r w=fm (Ea r i) (Ea w i)
 |a::r,b::w,0,_,hl,h=>by
  have hz:Fd r w=0:=by
   have key:∀(r w:List F),(∀j,fm (Ea r j) (Ea w j)=0)->Fd r w=0:=by
    intro r
    induction r with
    |nil=>intro w _;rfl
    |cons a r ih =>
     intro w h
     cases w with
     |nil=>rfl
     |cons b w =>
      rw[Dz,ih w fun j=>h (j+1),show fm a b=0 from h 0];rfl
   exact key r w fun j=>h (j+1) (by omega)
  rw[Dz,hz,C6];rfl
 |a::r,b::w,i+1,hi,hl,h=>by
  have ih:=Pr r w i (by simpa using hi) (by simpa using hl) fun j hj=>h (j+1) (by omega)
  rw[Dz,ih,show fm a b=0 from h 0 (by omega),JE];rfl
theorem Ta:∀(r w:List F) (i k:Nat),i<k->k<r.length->r.length=w.length->(∀j,j≠i->j≠k->fm (Ea r j) (Ea w j)=0)->Fd r w=fa (fm (Ea r i) (Ea w i)) (fm (Ea r k) (Ea w k))
 |a::r,b::w,0,k+1,_,hk,hl,h=>by
  rw[Dz,Pr r w k (by simpa using hk) (by simpa using hl) fun j hj=>h (j+1) (by omega) (by omega)];rfl
 |a::r,b::w,i+1,k+1,hik,hk,hl,h=>by
  have ih:=Ta r w i k (by omega) (by simpa using hk) (by simpa using hl) fun j hj hj2=>h (j+1) (by omega) (by omega)
  rw[Dz,ih,show fm a b=0 from h 0 (by omega) (by omega),JE];rfl
def RF (c:F) (M:List (List F)) (v:List F):Prop:=∀i,i<M.length->Fd (Bf M i) (v++[c])=0
structure RB (M:List (List F)) (n m:Nat):Prop where
 len:M.length=n
 row:∀i,i<n->(Bf M i).length=m
def Bg (f:F->F->F) (M:List (List F)) (k:Nat):List (List F):=(List.range M.length).map fun i=>if i=k then Bf M k else Ge (Bf M i) (Bf M k) (f (Dj M i k) (Dj M k k))
def swp (M:List (List F)) (k p:Nat):List (List F):=(M.set k (Bf M p)).set p (Bf M k)
theorem MG {α:Type}(n i:Nat) (g:Nat->List F) (h:i<n):Bf ((List.range n).map g) i=g i:=by simp[Bf,h]
theorem GO (M:List (List F)) (k i:Nat) (r:List F) (hk:k<M.length):Bf (M.set k r) i=if i=k then r else Bf M i:=by
 unfold Bf
 by_cases h:i=k
 ·subst h;simp[hk]
 ·rw[List.getElem?_set_ne (fun e=>h e.symm),if_neg h]
theorem DW (f:F->F->F) (M:List (List F)) (k i:Nat) (h:i<M.length):Bf (Bg f M k) i=if i=k then Bf M k else Ge (Bf M i) (Bf M k) (f (Dj M i k) (Dj M k k)) :=
 MG (α:=F) M.length i _ h
theorem Ef (M:List (List F)) (k p i:Nat) (hk:k<M.length) (hp:p<M.length):Bf (swp M k p) i=if i=p then Bf M k else if i=k then Bf M p else Bf M i:=by
 unfold swp
 rw[GO _ _ _ _ (by simpa using hp),GO _ _ _ _ hk]
theorem N2 (r o:List F) (b:F) (h:r.length=o.length):(Ge r o b).length=r.length:=by simp[Ge,h]
theorem Ui (r:List F) (b:F):(Hg r b).length=r.length:=by simp[Hg]
theorem RB.swp {M:List (List F)}{n m k p:Nat}(h:RB M n m) (hk:k<n) (hp:p<n):RB (swp M k p) n m:=by
 have hl:=h.len
 refine⟨by simp[Go.Pw.swp,hl],fun i hi=>?_⟩
 rw[Ef _ _ _ _ (by omega) (by omega)]
 split
 ·exact h.row k hk
 ·split
  ·exact h.row p hp
  ·exact h.row i hi
theorem RB.scl {M:List (List F)}{n m k:Nat}(h:RB M n m) (hk:k<n) (b:F):RB (M.set k (Hg (Bf M k) b)) n m:=by
 have hl:=h.len
 refine⟨by simp[hl],fun i hi=>?_⟩
 rw[GO _ _ _ _ (by omega)]
 split
 ·rw[Ui];exact h.row k hk
 ·exact h.row i hi
theorem RB.red {M:List (List F)}{n m k:Nat}(f:F->F->F) (h:RB M n m) (hk:k<n):RB (Bg f M k) n m:=by
 have hl:=h.len
 refine⟨by simp[Bg,hl],fun i hi=>?_⟩
 rw[DW _ _ _ _ (by omega)]
 split
 ·exact h.row k hk
 ·rw[N2]
  ·exact h.row i hi
  ·rw[h.row i hi,h.row k hk]
theorem Yh {M:List (List F)}{n m k p:Nat}(h:RB M n m) (hk:k<n) (hp:p<n) (c:F) (v:List F):RF c (swp M k p) v↔RF c M v:=by
 have hl:=h.len
 have hl2:=(h.swp hk hp).len
 constructor
 ·intro hs i hi
  by_cases h1:i=k
  ·subst h1
   have:=hs p (by omega)
   rwa [Ef _ _ _ _ (by omega) (by omega),if_pos rfl] at this
  ·by_cases h2:i=p
   ·subst h2
    have:=hs k (by omega)
    rwa [Ef _ _ _ _ (by omega) (by omega),if_neg (fun e=>h1 e.symm),if_pos rfl] at this
   ·have:=hs i (by omega)
    rwa [Ef _ _ _ _ (by omega) (by omega),if_neg h2,if_neg h1] at this
 ·intro hs i hi
  rw[Ef _ _ _ _ (by omega) (by omega)]
  split
  ·exact hs k (by omega)
  ·split
   ·exact hs p (by omega)
   ·exact hs i (by omega)
theorem jL {M:List (List F)}{n m k:Nat}(h:RB M n m) (hk:k<n) {b:F}(hb:b≠0) (c:F) (v:List F):RF c (M.set k (Hg (Bf M k) b)) v↔RF c M v:=by
 have hl:=h.len
 constructor
 ·intro hs i hi
  have:=hs i (by simpa using hi)
  rw[GO _ _ _ _ (by omega)] at this
  split at this
  ·rename_i e;subst e
   rw[Qb] at this
   exact(QU _ _ this).resolve_left hb
  ·exact this
 ·intro hs i hi
  rw[GO _ _ _ _ (by omega)]
  split
  ·rename_i e;subst e;rw[Qb,hs i (by omega),Dr]
  ·exact hs i (by simpa using hi)
theorem Yi {M:List (List F)}{n m k:Nat}(f:F->F->F) (h:RB M n m) (hk:k<n) (c:F) (v:List F):RF c (Bg f M k) v↔RF c M v:=by
 have hl:=h.len
 have hl2:=(h.red f hk).len
 constructor
 ·intro hs i hi
  have h1:=hs k (by omega)
  rw[DW _ _ _ _ (by omega),if_pos rfl] at h1
  by_cases hik:i=k
  ·subst hik;exact h1
  ·have h2:=hs i (by omega)
   rw[DW _ _ _ _ (by omega),if_neg hik,NO _ _ _ _ (by rw[h.row i (by omega),h.row k hk]),h1,Dr,C6] at h2
   exact h2
 ·intro hs i hi
  rw[DW _ _ _ _ (by omega)]
  split
  ·exact hs k (by omega)
  ·rw[NO _ _ _ _ (by rw[h.row i (by omega),h.row k hk]),hs i (by omega),hs k (by omega),Dr,C6]
structure am (M:List (List F)) (k:Nat):Prop where
 off:∀i j,i<M.length->j<k->i≠j->Dj M i j=0
 dia:∀j,j<k->Dj M j j≠0
theorem Nz (r o:List F) (b:F) (j:Nat) (h:r.length=o.length):Ea (Ge r o b) j=fa (Ea r j) (fm (Ea o j) b):=by
 unfold Ea Ge
 rw[List.getElem?_zipWith]
 by_cases hj:j<r.length
 ·rw[List.getElem?_eq_getElem hj,List.getElem?_eq_getElem (by omega)];rfl
 ·rw[List.getElem?_eq_none (by omega),List.getElem?_eq_none (l:=o) (by omega)]
  show (0:F)=fa 0 (fm 0 b)
  rw[Cd];rfl
theorem Q0 (r:List F) (b:F) (j:Nat):Ea (Hg r b) j=fm (Ea r j) b:=by
 unfold Ea Hg
 rw[List.getElem?_map]
 cases r[j]? with
 |none=>exact(Cd b).symm
 |some x=>rfl
theorem am.swp {M:List (List F)}{n m k p:Nat}(hs:RB M n m) (h:am M k) (hk:k<n) (hkp:k<=p) (hp:p<n):am (swp M k p) k:=by
 have hl:=hs.len
 have hl2:=(hs.swp hk hp).len
 refine⟨fun i j hi hj hij=>?_,fun j hj=>?_⟩
 ·unfold Dj
  rw[Ef _ _ _ _ (by omega) (by omega)]
  split
  ·exact h.off k j (by omega) hj (by omega)
  ·split
   ·exact h.off p j (by omega) hj (by omega)
   ·exact h.off i j (by omega) hj hij
 ·unfold Dj
  rw[Ef _ _ _ _ (by omega) (by omega),if_neg (by omega),if_neg (by omega)]
  exact h.dia j hj
theorem YV {M:List (List F)}{n m k p:Nat}(hs:RB M n m) (hk:k<n) (hp:p<n) (j:Nat):Dj (swp M k p) k j=Dj M p j:=by
 have hl:=hs.len
 unfold Dj
 rw[Ef _ _ _ _ (by omega) (by omega)]
 split
 ·rename_i e;subst e;rfl
 ·rw[if_pos rfl]
theorem am.scl {M:List (List F)}{n m k:Nat}(hs:RB M n m) (h:am M k) (hk:k<n) (b:F):am (M.set k (Hg (Bf M k) b)) k:=by
 have hl:=hs.len
 refine⟨fun i j hi hj hij=>?_,fun j hj=>?_⟩
 ·unfold Dj
  rw[GO _ _ _ _ (by omega)]
  split
  ·rw[Q0,show Ea (Bf M k) j=0 from h.off k j (by omega) hj (by omega),Cd]
  ·exact h.off i j (by simpa using hi) hj hij
 ·unfold Dj
  rw[GO _ _ _ _ (by omega),if_neg (by omega)]
  exact h.dia j hj
theorem YW {M:List (List F)}{n m k:Nat}(hs:RB M n m) (hk:k<n) (b:F) (i j:Nat):Dj (M.set k (Hg (Bf M k) b)) i j=if i=k then fm (Dj M k j) b else Dj M i j:=by
 have hl:=hs.len
 unfold Dj
 rw[GO _ _ _ _ (by omega)]
 split
 ·rw[Q0]
 ·rfl
theorem am.red {M:List (List F)}{n m k:Nat}(f:F->F->F) (hs:RB M n m) (h:am M k) (hk:k<n) (hd:Dj M k k≠0) (hf:∀a,fm (Dj M k k) (f a (Dj M k k))=a):am (Bg f M k) (k+1):=by
 have hl:=hs.len
 have hl2:=(hs.red f hk).len
 have e:∀i j,i<n->Dj (Bg f M k) i j=if i=k then Dj M k j else fa (Dj M i j) (fm (Dj M k j) (f (Dj M i k) (Dj M k k))):=fun i j hi=>by
  show Ea (Bf (Bg f M k) i) j=_
  rw[DW _ _ _ _ (by omega)]
  split
  ·rfl
  ·rw[Nz _ _ _ _ (by rw[hs.row i hi,hs.row k hk])];rfl
 refine⟨fun i j hi hj hij=>?_,fun j hj=>?_⟩
 ·rw[e i j (by omega)]
  rcases Nat.lt_succ_iff_lt_or_eq.1 hj with hj|rfl
  ·split
   ·exact h.off k j (by omega) hj (by omega)
   ·rw[h.off i j (by omega) hj hij,h.off k j (by omega) hj (by omega),Cd];rfl
  ·rw[if_neg hij,hf,Fp]
 ·rcases Nat.lt_succ_iff_lt_or_eq.1 hj with hj|rfl
  ·rw[e j j (by omega),if_neg (by omega),h.off k j (by omega) hj (by omega),Cd,C6];exact h.dia j hj
  ·rw[e j j (by omega),if_pos rfl];exact hd
theorem PD {M:List (List F)}{n m k:Nat}(f:F->F->F) (hs:RB M n m) (h:am M k) (hk:k<n) (j:Nat) (hj:j<=k):Dj (Bg f M k) j j=Dj M j j:=by
 have hl:=hs.len
 show Ea (Bf (Bg f M k) j) j=_
 rw[DW _ _ _ _ (by omega)]
 split
 ·rename_i e;subst e;rfl
 ·rename_i hne
  rw[Nz _ _ _ _ (by rw[hs.row j (by omega),hs.row k hk]),show Ea (Bf M k) j=0 from h.off k j (by omega) (by omega) (by omega),Cd,C6];rfl
theorem Jc (v:List F) (c:F) (j:Nat) (h:j<v.length):Ea (v++[c]) j=Ea v j:=by unfold Ea;rw[List.getElem?_append_left h]
theorem Mi (v:List F) (c:F):Ea (v++[c]) v.length=c:=by unfold Ea;simp
theorem Tn (v:List F) (j:Nat) (h:v.length<=j):Ea v j=0:=by unfold Ea;rw[List.getElem?_eq_none h];rfl
theorem X_ {M:List (List F)}{n m:Nat}(hs:RB M n (m+1)) (h:am M m) (hm:m<=n) (v:List F) (hv:v.length=m) :
  RF 1 M v↔(∀i,i<m->fm (Dj M i i) (Ea v i)=Dj M i m)/\∀i,m<=i->i<n->Dj M i m=0:=by
 have hl:=hs.len
 have hw:(v++[1]).length=m+1:=by simp[hv]
 have low:∀i,i<m->Fd (Bf M i) (v++[1])=fa (fm (Dj M i i) (Ea v i)) (Dj M i m):=fun i hi=>by
  rw[Ta (Bf M i) (v++[1]) i m hi (by rw[hs.row i (by omega)];omega) (by rw[hs.row i (by omega),hw]) fun j h1 h2=>?_]
  ·rw[Jc _ _ _ (by omega),show Ea (v++[1]) m=1 by rw[←hv];exact Mi v 1,JS];rfl
  ·by_cases hj:j<m
   ·rw[show Ea (Bf M i) j=0 from h.off i j (by omega) hj (fun e=>h1 e.symm),Cd]
   ·rw[Tn (Bf M i) j (by rw[hs.row i (by omega)];omega),Cd]
 have high:∀i,m<=i->i<n->Fd (Bf M i) (v++[1])=Dj M i m:=fun i hi hi2=>by
  rw[Pr (Bf M i) (v++[1]) m (by rw[hs.row i (by omega)];omega) (by rw[hs.row i (by omega),hw]) fun j h1=>?_]
  ·rw[show Ea (v++[1]) m=1 by rw[←hv];exact Mi v 1,JS];rfl
  ·by_cases hj:j<m
   ·rw[show Ea (Bf M i) j=0 from h.off i j (by omega) hj (by omega),Cd]
   ·rw[Tn (Bf M i) j (by rw[hs.row i (by omega)];omega),Cd]
 constructor
 ·intro hsat
  refine⟨fun i hi=>?_,fun i hi hi2=>?_⟩
  ·have:=hsat i (by omega)
   rw[low i hi] at this
   exact HJ _ _ this
  ·have:=hsat i (by omega)
   rwa [high i hi hi2] at this
 ·rintro⟨h1,h2⟩ i hi
  by_cases him:i<m
  ·rw[low i him,h1 i him,Fp]
  ·rw[high i (by omega) (by omega)];exact h2 i (by omega) (by omega)
theorem bq {M:List (List F)}{n m k:Nat}(hs:RB M n (m+1)) (h:am M k) (hk:k<m) (hm:m<=n) (hz:∀i,k<=i->i<n->Dj M i k=0) :
  ∃v:List F,v.length=m/\RF 0 M v/\Ea v k=1:=by
 have hl:=hs.len
 obtain⟨v,hvd⟩:∃v:List F,v=(List.range m).map fun j=>if j<k then fm (Dj M j k) (fi (Dj M j j)) else if j=k then 1 else 0:=⟨_,rfl⟩
 have hv:v.length=m:=by simp[hvd]
 have ha:∀j,j<m->Ea v j=if j<k then fm (Dj M j k) (fi (Dj M j j)) else if j=k then 1 else 0:=fun j hj=>by rw[hvd];simp[Ea,hj]
 have hvk:Ea v k=1:=by rw[ha k hk,if_neg (by omega),if_pos rfl]
 refine⟨v,hv,fun i hi=>?_,hvk⟩
 have hw:(v++[0]).length=m+1:=by simp[hv]
 have hw0:∀j,j≠k->¬j<k->Ea (v++[0]) j=0:=fun j h1 h2=>by
  by_cases hj:j<m
  ·rw[Jc _ _ _ (by omega),ha j hj,if_neg h2,if_neg h1]
  ·by_cases hjm:j=m
   ·subst hjm;rw[←hv];exact Mi v 0
   ·exact Tn _ _ (by omega)
 have hwk:Ea (v++[0]) k=1:=by rw[Jc _ _ _ (by omega)];exact hvk
 by_cases hik:i<k
 ·rw[Ta (Bf M i) (v++[0]) i k hik (by rw[hs.row i (by omega)];omega) (by rw[hs.row i (by omega),hw]) fun j h1 h2=>?_]
  ·rw[hwk,JS,Jc _ _ _ (by omega),ha i (by omega),if_pos hik]
   show fa (fm (Dj M i i) (fm (Dj M i k) (fi (Dj M i i)))) (Dj M i k)=0
   rw[NK,jW _ (h.dia i hik),JS,Fp]
  ·by_cases hj:j<k
   ·rw[show Ea (Bf M i) j=0 from h.off i j (by omega) hj (fun e=>h1 e.symm),Cd]
   ·rw[hw0 j h2 hj,Dr]
 ·rw[Pr (Bf M i) (v++[0]) k (by rw[hs.row i (by omega)];omega) (by rw[hs.row i (by omega),hw]) fun j h1=>?_]
  ·rw[show Ea (Bf M i) k=0 from hz i (by omega) (by omega),Cd]
  ·by_cases hj:j<k
   ·rw[show Ea (Bf M i) j=0 from h.off i j (by omega) hj (by omega),Cd]
   ·rw[hw0 j h1 hj,Dr]
end Go.Pw
end
section
namespace Go.Pw
def Q8 (v w:List F):List F:=List.zipWith fa v w
theorem ey (v w:List F) (h:v.length=w.length):(Q8 v w).length=v.length:=by simp[Q8,h]
theorem ed (v w:List F) (j:Nat) (h:v.length=w.length):Ea (Q8 v w) j=fa (Ea v j) (Ea w j):=by
 unfold Ea Q8
 rw[List.getElem?_zipWith]
 by_cases hj:j<v.length
 ·rw[List.getElem?_eq_getElem hj,List.getElem?_eq_getElem (by omega)];rfl
 ·rw[List.getElem?_eq_none (by omega),List.getElem?_eq_none (l:=w) (by omega)];rfl
theorem Vg:∀(r v w:List F),v.length=w.length->Fd r (Q8 v w)=fa (Fd r v) (Fd r w)
 |[],v,w,_=>by simp[La,C6]
 |x::r,[],[],_=>by simp[Q8,Qc,C6]
 |x::r,a::v,b::w,h=>by
  have ih:=Vg r v w (by simpa using h)
  simp only[Q8,List.zipWith_cons_cons,Dz] at ih ⊢
  rw[ih,Lz,nF]
theorem d_ {v w:List F}(hl:v.length=w.length) (h:∀j,j<v.length->Ea v j=Ea w j):v=w:=by
 apply List.ext_getElem hl
 intro j h1 h2
 have:=h j h1
 unfold Ea at this
 rwa [List.getElem?_eq_getElem h1,List.getElem?_eq_getElem h2] at this
def TP (x:F):Nat->F
 |0=>1
 |n+1=>fm x (TP x n)
theorem kw (t i:Nat):gp (i*t)=TP (gp t) i:=by
 induction i with
 |zero=>rw[Nat.zero_mul];exact YR
 |succ i ih=>rw[Nat.add_mul,Nat.one_mul,Nat.add_comm,XB,ih];rfl
theorem lZ:∀(xs vs:List F),vs.length=xs.length->xs.Nodup->(∀i,i<xs.length->Fd (xs.map fun x=>TP x i) vs=0)->∀j,Ea vs j=0
 |[],[],_,_,_=>fun j=>rfl
 |x::xs,v::vs,hl,hn,h=>by
  have hl':vs.length=xs.length:=by simpa using hl
  rw[List.nodup_cons] at hn
  have key:∀(i:Nat) (ys ws:List F),ws.length=ys.length->Fd (ys.map fun y=>TP y i) (List.zipWith (fun y w=>fm w (fa y x)) ys ws)=fa (Fd (ys.map fun y=>TP y (i+1)) ws) (fm x (Fd (ys.map fun y=>TP y i) ws)):=by
   intro i ys
   induction ys with
   |nil=>intro ws _;rw[List.map_nil,La,List.map_nil,La,Dr];rfl
   |cons y ys ih =>
    intro ws hw
    cases ws with
    |nil=>simp at hw
    |cons w ws =>
     have:=ih ws (by simpa using hw)
     simp only[List.map_cons,List.zipWith_cons_cons,Dz]
     rw[this,Lz w,Lz (TP y i),Lz x,nF]
     congr 1
     ·congr 1
      show fm (TP y i) (fm w y)=fm (fm y (TP y i)) w
      rw[Dt w y,←Fo,Dt (TP y i) y]
     ·congr 1
      rw[NK,Dt,Fo]
      rw[NK]
  have hz:∀i,i<xs.length->Fd (xs.map fun y=>TP y i) (List.zipWith (fun y w=>fm w (fa y x)) xs vs)=0:=fun i hi=>by
   rw[key i xs vs hl']
   have h1:=h i (by simp;omega)
   have h2:=h (i+1) (by simpa using hi)
   simp only[List.map_cons,Dz] at h1 h2
   have e1:Fd (xs.map fun y=>TP y i) vs=fm (TP x i) v:=(HJ _ _ h1).symm
   have e2:Fd (xs.map fun y=>TP y (i+1)) vs=fm (TP x (i+1)) v:=(HJ _ _ h2).symm
   rw[e1,e2,←Fo]
   exact Fp _
  have ih:=lZ xs (List.zipWith (fun y w=>fm w (fa y x)) xs vs) (by simp[hl']) hn.2 hz
  have htail:∀j,Ea vs j=0:=fun j=>by
   by_cases hj:j<xs.length
   ·have:=ih j
    unfold Ea at this ⊢
    rw[List.getElem?_zipWith,List.getElem?_eq_getElem hj,List.getElem?_eq_getElem (by omega)] at this
    rw[List.getElem?_eq_getElem (by omega)]
    have hne:fa xs[j] x≠0:=fun e=>hn.1 (by rw[←HJ _ _ e];exact List.getElem_mem hj)
    exact(QU _ _ this).resolve_right hne
   ·exact Tn _ _ (by omega)
  have hhead:v=0:=by
   have h0:=h 0 (by simp)
   simp only[List.map_cons,Dz] at h0
   have:Fd (xs.map fun y=>TP y 0) vs=0:=by
    have hvs:vs=List.replicate vs.length 0:=by
     apply d_ (by simp)
     intro j hj
     rw[htail j]
     simp[Ea,hj]
    rw[hvs]
    generalize xs.map (fun y=>TP y 0)=zs
    generalize vs.length=n
    induction zs generalizing n with
    |nil=>rfl
    |cons z zs ih2 =>
     cases n with
     |zero=>rfl
     |succ n=>rw[List.replicate_succ,Dz,Dr,ih2];rfl
   rw[this,C6] at h0
   rw[show TP x 0=1 from rfl,TE] at h0
   exact h0
  intro j
  cases j with
  |zero=>exact hhead
  |succ j=>exact htail j
def XR (L i j:Nat):F:=gp (i*(L-1-j))
def PB (L P:Nat) (at_:List Nat) (s:List F):List (List F):=(List.range P).map fun i=>(at_.map fun j=>XR L i j)++[Ea s i]
theorem NN (L P:Nat) (at_:List Nat) (s:List F):RB (PB L P at_ s) P (at_.length+1):=by
 refine⟨by simp[PB],fun i hi=>?_⟩
 unfold PB
 rw[MG (α:=F) _ _ _ hi];simp
theorem Un (L P:Nat) (at_:List Nat) (s:List F) (i:Nat) (h:i<P):Bf (PB L P at_ s) i=(at_.map fun j=>XR L i j)++[Ea s i]:=MG (α:=F) _ _ _ h
structure aw (L:Nat) (at_:List Nat):Prop where
 nd:at_.Nodup
 lt:∀j,j∈at_->j<L
theorem Tc (L P:Nat) (at_:List Nat) (s v:List F) (c:F) (hv:v.length=at_.length) (i:Nat) (h:i<P):Fd (Bf (PB L P at_ s) i) (v++[c])=fa (Fd (at_.map fun j=>XR L i j) v) (fm (Ea s i) c):=by
 rw[Un _ _ _ _ _ h,Qa _ _ _ _ (by simp[hv])]
theorem VF {L P:Nat}(hL:L<=15) {at_:List Nat}(hp:aw L at_) (hm:at_.length<=P) {s v:List F}(hv:v.length=at_.length) (h:RF 0 (PB L P at_ s) v):∀j,Ea v j=0:=by
 have hx:(at_.map fun j=>gp (L-1-j)).Nodup:=by
  have h1:=hp.nd
  have h2:=hp.lt
  clear h hv hm
  induction at_ with
  |nil=>simp
  |cons a l ih =>
   rw[List.nodup_cons] at h1
   rw[List.map_cons,List.nodup_cons]
   refine⟨fun hmem=>?_,ih ⟨h1.2,fun j hj=>h2 j (by simp[hj])⟩ h1.2 fun j hj=>h2 j (by simp[hj])⟩
   obtain⟨b,hb,he⟩:=List.mem_map.1 hmem
   have ha:=h2 a (by simp)
   have hb2:=h2 b (by simp[hb])
   have:=kx (by omega) (by omega) he
   have:a=b:=by omega
   subst this
   exact h1.1 hb
 refine lZ _ v (by simp[hv]) hx fun i hi=>?_
 have hi':i<P:=by simp at hi;omega
 have:=h i (by rw[(NN L P at_ s).len];exact hi')
 rw[Tc _ _ _ _ _ _ hv i hi',Dr,C6] at this
 rw[List.map_map]
 have e:(at_.map ((fun x=>TP x i) ∘ fun j=>gp (L-1-j)))=at_.map fun j=>XR L i j:=List.map_congr_left fun j _=>(kw _ _).symm
 rw[e];exact this
theorem fy {c d:F}{M:List (List F)}{v w:List F}(hl:v.length=w.length) (h1:RF c M v) (h2:RF d M w):RF (fa c d) M (Q8 v w):=by
 intro i hi
 have:Q8 v w++[fa c d]=Q8 (v++[c]) (w++[d]):=by
  unfold Q8
  rw[List.zipWith_append hl];rfl
 rw[this,Vg _ _ _ (by simp[hl]),h1 i hi,h2 i hi,C6]
theorem bp {L P:Nat}(hL:L<=15) {at_:List Nat}(hp:aw L at_) (hm:at_.length<=P) {s v w:List F}(hv:v.length=at_.length) (hw:w.length=at_.length) (h1:RF 1 (PB L P at_ s) v) (h2:RF 1 (PB L P at_ s) w):v=w:=by
 have h:=fy (by omega) h1 h2
 rw[Fp] at h
 have:=VF hL hp hm (by rw[ey _ _ (by omega)];exact hv) h
 refine d_ (by omega) fun j _=>?_
 have hj:=this j
 rw[ed _ _ _ (by omega)] at hj
 exact HJ _ _ hj
open Classical in
noncomputable def Le (L P:Nat) (at_:List Nat) (s:List F):Option (List F) :=
 if h:∃v:List F,v.length=at_.length/\RF 1 (PB L P at_ s) v then some h.choose else none
theorem Rz {L P:Nat}(hL:L<=15) {at_:List Nat}(hp:aw L at_) (hm:at_.length<=P) {s v:List F}(hv:v.length=at_.length) (h:RF 1 (PB L P at_ s) v):Le L P at_ s=some v:=by
 have hex:∃v:List F,v.length=at_.length/\RF 1 (PB L P at_ s) v:=⟨v,hv,h⟩
 unfold Le
 rw[dif_pos hex]
 congr 1
 exact bp hL hp hm hex.choose_spec.1 hv hex.choose_spec.2 h
theorem Y3 {L P:Nat}{at_:List Nat}{s:List F}(h:∀v:List F,v.length=at_.length->¬RF 1 (PB L P at_ s) v):Le L P at_ s=none:=by
 unfold Le
 rw[dif_neg fun⟨v,h1,h2⟩=>h v h1 h2]
theorem Ry {L P:Nat}{at_:List Nat}{s v:List F}(h:Le L P at_ s=some v):v.length=at_.length/\RF 1 (PB L P at_ s) v:=by
 unfold Le at h
 split at h
 ·rename_i hex
  simp only[Option.some.injEq] at h
  rw[←h];exact hex.choose_spec
 ·cases h
end Go.Pw
end
