/- A part of the proof. -/
import Derived.Test.YtpcpcjbbdgmohaaDoorPgTwrA
set_option linter.all false
open Go Go.Pw Go.Proofs
namespace Go.Pw
set_option maxRecDepth 100000
set_option maxHeartbeats 3200000
theorem a9:(0:Int)<((2:Nat):Int):=by decide
theorem a8:(1:Int)<((2:Nat):Int):=by decide
theorem KA:¬(2:Int)<((2:Nat):Int):=by decide
theorem RJ:IntKind.i64.wrap 0=0:=by decide
theorem RI:IntKind.i64.wrap (0-((0:Nat):Int))=0:=by decide
theorem NM {α:Type}(n:Nat) (x:α) (h:0<n):(List.replicate n x).isEmpty=false:=by cases n with
 |zero=>omega
 |succ n=>rfl
attribute [local congr] Bx A9 A_ Au Bz A0 A2 A1 Ar An Ai Ab Av Aj Ax BG BK BI BJ BH BL BD Ay Aw Al Az Am BB BT Ak BE BF BC A' BA B1
attribute [local irreducible] IntKind.wrap BM Option.getD and or
theorem RA (n:Nat) (hn:0<n) (hl:n<=1000000):HI E0 DF [] [.d (.list true []),.d (.int .i64 n)] [(22,2,.row 3 1 false [])] (.own 22 2):=by
 refine C4 E6 A5 (by simp) (by simp[MN,B6,Dv]) (by simp[EF]) fun hwf hwo=>?_
 rw[D8];unfold Du
 have h0:¬(n:Int)<0:=by omega
 have h1:(0:Int)<(n:Int):=by omega
 have hw:IntKind.i64.wrap (n:Int)=(n:Int):=Af _ (by omega)
 have hw2:IntKind.i64.wrap ((n:Int)-0)=(n:Int):=by rw[Int.sub_zero];exact hw
 (try (simp -implicitDefEqProofs only[go_sem,h0,h1,hw,NM n _ hn,List.length_replicate,RJ,RI,hw2,Int.sub_zero]));repeat' first|(with_reducible first|exact tI|refine aI ?_ ?_|intro _)|((first|with_reducible refine AN ?_ ?_<;>intro _)<;>try (simp -implicitDefEqProofs only[go_sem,h0,h1,hw,NM n _ hn,List.length_replicate,RJ,RI,hw2,Int.sub_zero]))|simp (disch:=omega) only[Ap]
 all_goals first|omega|rfl|(simp at *;done)|skip
theorem RB:DE E0 DF [.list true [],.int .i64 0] (.list true []):=by
 refine AP E6 A5 (by simp) fun hwf=>?_
 rw[AU];unfold Du
 (try (simp -implicitDefEqProofs only[go_sem,RJ,RI,Int.sub_zero]));repeat' first|(with_reducible first|exact tI|refine aI ?_ ?_|intro _)|((first|with_reducible refine AN ?_ ?_<;>intro _)<;>try (simp -implicitDefEqProofs only[go_sem,RJ,RI,Int.sub_zero]))|simp (disch:=omega) only[Ap]
 all_goals first|omega|rfl|(simp at *;done)|skip
theorem Q9 (n:Nat) (hn:0<n) (hl:n<=1000000):HI E0 BP [] [.d (.list true []),.d (.int .i64 n)] [(22,2,.row 173 1 false [])] (.own 22 2):=by
 refine C4 B' A5 (by simp) (by simp[MN,B6,Dv]) (by simp[EF]) fun hwf hwo=>?_
 rw[D8];unfold Bd
 have h0:¬(n:Int)<0:=by omega
 have h1:(0:Int)<(n:Int):=by omega
 have hw:IntKind.i64.wrap (n:Int)=(n:Int):=Af _ (by omega)
 have hw2:IntKind.i64.wrap ((n:Int)-0)=(n:Int):=by rw[Int.sub_zero];exact hw
 (try (simp -implicitDefEqProofs only[go_sem,h0,h1,hw,NM n _ hn,List.length_replicate,RJ,RI,hw2,Int.sub_zero]));repeat' first|(with_reducible first|exact tI|refine aI ?_ ?_|intro _)|((first|with_reducible refine AN ?_ ?_<;>intro _)<;>try (simp -implicitDefEqProofs only[go_sem,h0,h1,hw,NM n _ hn,List.length_replicate,RJ,RI,hw2,Int.sub_zero]))|simp (disch:=omega) only[Ap]
 all_goals first|omega|rfl|(simp at *;done)|skip
theorem Q_:DE E0 BP [.list true [],.int .i64 0] (.list true []):=by
 refine AP B' A5 (by simp) fun hwf=>?_
 rw[AU];unfold Bd
 (try (simp -implicitDefEqProofs only[go_sem,RJ,RI,Int.sub_zero]));repeat' first|(with_reducible first|exact tI|refine aI ?_ ?_|intro _)|((first|with_reducible refine AN ?_ ?_<;>intro _)<;>try (simp -implicitDefEqProofs only[go_sem,RJ,RI,Int.sub_zero]))|simp (disch:=omega) only[Ap]
 all_goals first|omega|rfl|(simp at *;done)|skip
theorem Ov (n1 n2:Bool) (a b:List Int) (ha:a.length<=100000) (hb:b.length<=100000):DE E0 E9 [.list false [.list n1 (A4 a),.list n2 (A4 b)]] (.list (a++b).isEmpty (A4 (a++b))):=by
 refine AP Gw A5 (by simp) fun hwf=>?_
 rw[AU];unfold Ei
 have w1:IntKind.i64.wrap (0+(a.length:Int))=(a.length:Int):=by rw[Int.zero_add];exact Af _ (by omega)
 have w2:IntKind.i64.wrap ((a.length:Int)+(b.length:Int))=((a.length+b.length:Nat):Int):=by rw[Af _ (by omega)];omega
 have w3:IntKind.i64.wrap (0+1)=1:=by rw[Af _ (by omega)];rfl
 have w4:IntKind.i64.wrap (1+1)=2:=by rw[Af _ (by omega)];rfl
 have q1:¬(a.length:Int)<0:=by omega
 have q2:¬((a.length+b.length:Nat):Int)<0:=by omega
 (try (simp -implicitDefEqProofs only[go_sem]));repeat' first|(with_reducible first|exact tI|refine aI ?_ ?_|intro _)|((first|with_reducible refine AN ?_ ?_<;>intro _)<;>try (simp -implicitDefEqProofs only[go_sem]))|simp (disch:=omega) only[Ap]|((with_reducible refine AZ ?_);refine⟨(_,_),rfl,?_,?_⟩)|((with_reducible refine Ae ?_);refine⟨_,rfl,?_,?_⟩)
 refine AX (α:=Int×Int) (l0:=?l1) (m0:=?m1) (fun x=>[(11,.d (.int .i64 x.1)),(3,.d (.int .i64 x.2))]) (fun x=>[]) (fun x=>(x.1=0/\x.2=0)\/(x.1=1/\x.2=a.length)\/(x.1=2/\x.2=((a.length+b.length:Nat):Int))) (fun x=>(2-x.1).toNat) (0,0) ?h01 ?he1 ?he21 ?hI1 ?step1
 case h01=>(simp -implicitDefEqProofs only[go_sem];rfl)
 case he1=>rfl
 case he21=>rfl
 case' step1=>(rintro⟨i,n⟩ hI;try dsimp only at hI)
 case' hI1=>try dsimp only
 ·exact .inl ⟨rfl,rfl⟩
 rcases hI with⟨rfl,rfl⟩|⟨rfl,rfl⟩|⟨rfl,rfl⟩
 ·(try (simp -implicitDefEqProofs only[go_sem,w1,w3,q1,a9]));repeat' first|(with_reducible first|exact tI|refine aI ?_ ?_|intro _)|((first|with_reducible refine AN ?_ ?_<;>intro _)<;>try (simp -implicitDefEqProofs only[go_sem,w1,w3,q1,a9]))|simp (disch:=omega) only[Ap]|((with_reducible refine AZ ?_);refine⟨(_,_),rfl,?_,?_⟩)|((with_reducible refine Ae ?_);refine⟨_,rfl,?_,?_⟩)
  all_goals first|omega|(simp at *;done)|skip
 ·(try (simp -implicitDefEqProofs only[go_sem,w2,w4,q2,a8]));repeat' first|(with_reducible first|exact tI|refine aI ?_ ?_|intro _)|((first|with_reducible refine AN ?_ ?_<;>intro _)<;>try (simp -implicitDefEqProofs only[go_sem,w2,w4,q2,a8]))|simp (disch:=omega) only[Ap]|((with_reducible refine AZ ?_);refine⟨(_,_),rfl,?_,?_⟩)|((with_reducible refine Ae ?_);refine⟨_,rfl,?_,?_⟩)
  all_goals first|omega|(simp at *;done)|skip
 ·by_cases h0:a.length+b.length=0
  ·have ea:a=[]:=List.eq_nil_of_length_eq_zero (by omega)
   have eb:b=[]:=List.eq_nil_of_length_eq_zero (by omega)
   subst ea eb
   have c1:DE E0 DF [.list true [],.int .i64 (((([]:List Int).length+([]:List Int).length:Nat)):Int)] (.list true []):=RB
   (try (simp -implicitDefEqProofs only[go_sem,KA]));repeat' first|(with_reducible first|exact tI|refine aI ?_ ?_|intro _)|((first|with_reducible refine AN ?_ ?_<;>intro _|(with_reducible refine isCall ?_);first|refine AG c1 ?_)<;>try (simp -implicitDefEqProofs only[go_sem,KA]))|simp (disch:=omega) only[Ap]|((with_reducible refine AZ ?_);refine⟨(_,_),rfl,?_,?_⟩)|((with_reducible refine Ae ?_);refine⟨_,rfl,?_,?_⟩)
   refine AX (α:=Int) (l0:=?l2) (m0:=?m2) (fun x=>[(27,.d (.int .i64 x))]) (fun x=>[(33,.row 3 1 true [])]) (fun x=>x=0\/x=1\/x=2) (fun x=>(2-x).toNat) 0 ?h02 ?he2 ?he22 ?hI2 ?step2
   case h02=>(simp -implicitDefEqProofs only[go_sem];rfl)
   case he2=>rfl
   case he22=>rfl
   case' step2=>(rintro i hI2;try dsimp only at hI2)
   case' hI2=>try dsimp only
   ·exact .inl rfl
   rcases hI2 with rfl|rfl|rfl
   ·(try (simp -implicitDefEqProofs only[go_sem,w3]));repeat' first|(with_reducible first|exact tI|refine aI ?_ ?_|intro _)|((first|with_reducible refine AN ?_ ?_<;>intro _)<;>try (simp -implicitDefEqProofs only[go_sem,w3]))|simp (disch:=omega) only[Ap]|((with_reducible refine AZ ?_);refine⟨(_,_),rfl,?_,?_⟩)|((with_reducible refine Ae ?_);refine⟨_,rfl,?_,?_⟩)
    all_goals first|omega|(simp at *;done)|skip
   ·(try (simp -implicitDefEqProofs only[go_sem,w4]));repeat' first|(with_reducible first|exact tI|refine aI ?_ ?_|intro _)|((first|with_reducible refine AN ?_ ?_<;>intro _)<;>try (simp -implicitDefEqProofs only[go_sem,w4]))|simp (disch:=omega) only[Ap]|((with_reducible refine AZ ?_);refine⟨(_,_),rfl,?_,?_⟩)|((with_reducible refine Ae ?_);refine⟨_,rfl,?_,?_⟩)
    all_goals first|omega|(simp at *;done)|skip
   ·(try (simp -implicitDefEqProofs only[go_sem,KA]));repeat' first|(with_reducible first|exact tI|refine aI ?_ ?_|intro _)|((first|with_reducible refine AN ?_ ?_<;>intro _)<;>try (simp -implicitDefEqProofs only[go_sem,KA]))|simp (disch:=omega) only[Ap]|((with_reducible refine AZ ?_);refine⟨(_,_),rfl,?_,?_⟩)|((with_reducible refine Ae ?_);refine⟨_,rfl,?_,?_⟩)
    all_goals first|omega|(simp at *;done)|rfl|skip
  ·have he:(a++b).isEmpty=false:=by cases a<;>cases b<;>simp_all
   have c1:=RA (a.length+b.length) (by omega) (by omega)
   (try (simp -implicitDefEqProofs only[go_sem,KA]));repeat' first|(with_reducible first|exact tI|refine aI ?_ ?_|intro _)|((first|with_reducible refine AN ?_ ?_<;>intro _|(with_reducible refine isCall ?_);first|(refine D_ ([]) ([((22,2),(24,1))]) (c1) (by repeat' first|exact True.intro|exact rfl|refine And.intro ?_ ?_) (by simp[Handed,DG.get,AW.ren,AV.ren,AV.ren.renL,AI.get,Bl,Bu,DR,AI.reach,AV.sites,AV.sites.sitesL,AI.osites]) (by simp[B0,EF,B6,DG.get,DR,Dv,B8]) (by rfl) (by simp only[Db,DG.get,AW.ren,AV.ren,AV.ren.renL,and_self,and_true,true_and,if_true,reduceIte];rfl) ?_))<;>try (simp -implicitDefEqProofs only[go_sem,KA]))|simp (disch:=omega) only[Ap]|((with_reducible refine AZ ?_);refine⟨(_,_),rfl,?_,?_⟩)|((with_reducible refine Ae ?_);refine⟨_,rfl,?_,?_⟩)
   refine AX (α:=Int×(List Int)) (l0:=?l3) (m0:=?m3) (fun x=>[(27,.d (.int .i64 x.1))]) (fun x=>[(24,.row 3 1 false (A4 x.2))]) (fun x=>(x.1=0/\x.2=[])\/(x.1=1/\x.2=a)\/(x.1=2/\x.2=a++b)) (fun x=>(2-x.1).toNat) (0,[]) ?h03 ?he3 ?he23 ?hI3 ?step3
   case h03=>(simp -implicitDefEqProofs only[go_sem];rfl)
   case he3=>rfl
   case he23=>rfl
   case' step3=>(rintro⟨i,l⟩ hI3;try dsimp only at hI3)
   case' hI3=>try dsimp only
   ·exact .inl ⟨rfl,rfl⟩
   rcases hI3 with⟨rfl,rfl⟩|⟨rfl,rfl⟩|⟨rfl,rfl⟩
   ·(try (simp -implicitDefEqProofs only[go_sem,w3,List.nil_append]));repeat' first|(with_reducible first|exact tI|refine aI ?_ ?_|intro _)|((first|with_reducible refine AN ?_ ?_<;>intro _)<;>try (simp -implicitDefEqProofs only[go_sem,w3,List.nil_append]))|simp (disch:=omega) only[Ap]|((with_reducible refine AZ ?_);refine⟨(_,_),rfl,?_,?_⟩)|((with_reducible refine Ae ?_);refine⟨_,rfl,?_,?_⟩)
    all_goals first|omega|(simp at *;done)|skip
   ·(try (simp -implicitDefEqProofs only[go_sem,w4]));repeat' first|(with_reducible first|exact tI|refine aI ?_ ?_|intro _)|((first|with_reducible refine AN ?_ ?_<;>intro _)<;>try (simp -implicitDefEqProofs only[go_sem,w4]))|simp (disch:=omega) only[Ap]|((with_reducible refine AZ ?_);refine⟨(_,_),rfl,?_,?_⟩)|((with_reducible refine Ae ?_);refine⟨_,rfl,?_,?_⟩)
    all_goals first|omega|(simp at *;done)|skip
   ·(try (simp -implicitDefEqProofs only[go_sem,he,KA]));repeat' first|(with_reducible first|exact tI|refine aI ?_ ?_|intro _)|((first|with_reducible refine AN ?_ ?_<;>intro _)<;>try (simp -implicitDefEqProofs only[go_sem,he,KA]))|simp (disch:=omega) only[Ap]|((with_reducible refine AZ ?_);refine⟨(_,_),rfl,?_,?_⟩)|((with_reducible refine Ae ?_);refine⟨_,rfl,?_,?_⟩)
    all_goals first|omega|(simp at *;done)|rfl|skip
theorem Ou (n1 n2:Bool) (a b:List F) (ha:a.length<=100000) (hb:b.length<=100000):DE E0 CA [.list false [.list n1 (us a),.list n2 (us b)]] (.list (a++b).isEmpty (us (a++b))):=by
 refine AP DU A5 (by simp) fun hwf=>?_
 rw[AU];unfold B5
 have w1:IntKind.i64.wrap (0+(a.length:Int))=(a.length:Int):=by rw[Int.zero_add];exact Af _ (by omega)
 have w2:IntKind.i64.wrap ((a.length:Int)+(b.length:Int))=((a.length+b.length:Nat):Int):=by rw[Af _ (by omega)];omega
 have w3:IntKind.i64.wrap (0+1)=1:=by rw[Af _ (by omega)];rfl
 have w4:IntKind.i64.wrap (1+1)=2:=by rw[Af _ (by omega)];rfl
 have q1:¬(a.length:Int)<0:=by omega
 have q2:¬((a.length+b.length:Nat):Int)<0:=by omega
 (try (simp -implicitDefEqProofs only[go_sem]));repeat' first|(with_reducible first|exact tI|refine aI ?_ ?_|intro _)|((first|with_reducible refine AN ?_ ?_<;>intro _)<;>try (simp -implicitDefEqProofs only[go_sem]))|simp (disch:=omega) only[Ap]|((with_reducible refine AZ ?_);refine⟨(_,_),rfl,?_,?_⟩)|((with_reducible refine Ae ?_);refine⟨_,rfl,?_,?_⟩)
 refine AX (α:=Int×Int) (l0:=?l4) (m0:=?m4) (fun x=>[(11,.d (.int .i64 x.1)),(3,.d (.int .i64 x.2))]) (fun x=>[]) (fun x=>(x.1=0/\x.2=0)\/(x.1=1/\x.2=a.length)\/(x.1=2/\x.2=((a.length+b.length:Nat):Int))) (fun x=>(2-x.1).toNat) (0,0) ?h04 ?he4 ?he24 ?hI4 ?step4
 case h04=>(simp -implicitDefEqProofs only[go_sem];rfl)
 case he4=>rfl
 case he24=>rfl
 case' step4=>(rintro⟨i,n⟩ hI;try dsimp only at hI)
 case' hI4=>try dsimp only
 ·exact .inl ⟨rfl,rfl⟩
 rcases hI with⟨rfl,rfl⟩|⟨rfl,rfl⟩|⟨rfl,rfl⟩
 ·(try (simp -implicitDefEqProofs only[go_sem,w1,w3,q1,a9]));repeat' first|(with_reducible first|exact tI|refine aI ?_ ?_|intro _)|((first|with_reducible refine AN ?_ ?_<;>intro _)<;>try (simp -implicitDefEqProofs only[go_sem,w1,w3,q1,a9]))|simp (disch:=omega) only[Ap]|((with_reducible refine AZ ?_);refine⟨(_,_),rfl,?_,?_⟩)|((with_reducible refine Ae ?_);refine⟨_,rfl,?_,?_⟩)
  all_goals first|omega|(simp at *;done)|skip
 ·(try (simp -implicitDefEqProofs only[go_sem,w2,w4,q2,a8]));repeat' first|(with_reducible first|exact tI|refine aI ?_ ?_|intro _)|((first|with_reducible refine AN ?_ ?_<;>intro _)<;>try (simp -implicitDefEqProofs only[go_sem,w2,w4,q2,a8]))|simp (disch:=omega) only[Ap]|((with_reducible refine AZ ?_);refine⟨(_,_),rfl,?_,?_⟩)|((with_reducible refine Ae ?_);refine⟨_,rfl,?_,?_⟩)
  all_goals first|omega|(simp at *;done)|skip
 ·by_cases h0:a.length+b.length=0
  ·have ea:a=[]:=List.eq_nil_of_length_eq_zero (by omega)
   have eb:b=[]:=List.eq_nil_of_length_eq_zero (by omega)
   subst ea eb
   have c1:DE E0 BP [.list true [],.int .i64 (((([]:List F).length+([]:List F).length:Nat)):Int)] (.list true []):=Q_
   (try (simp -implicitDefEqProofs only[go_sem,KA]));repeat' first|(with_reducible first|exact tI|refine aI ?_ ?_|intro _)|((first|with_reducible refine AN ?_ ?_<;>intro _|(with_reducible refine isCall ?_);first|refine AG c1 ?_)<;>try (simp -implicitDefEqProofs only[go_sem,KA]))|simp (disch:=omega) only[Ap]|((with_reducible refine AZ ?_);refine⟨(_,_),rfl,?_,?_⟩)|((with_reducible refine Ae ?_);refine⟨_,rfl,?_,?_⟩)
   refine AX (α:=Int) (l0:=?l5) (m0:=?m5) (fun x=>[(27,.d (.int .i64 x))]) (fun x=>[(33,.row 173 1 true [])]) (fun x=>x=0\/x=1\/x=2) (fun x=>(2-x).toNat) 0 ?h05 ?he5 ?he25 ?hI5 ?step5
   case h05=>(simp -implicitDefEqProofs only[go_sem];rfl)
   case he5=>rfl
   case he25=>rfl
   case' step5=>(rintro i hI2;try dsimp only at hI2)
   case' hI5=>try dsimp only
   ·exact .inl rfl
   rcases hI2 with rfl|rfl|rfl
   ·(try (simp -implicitDefEqProofs only[go_sem,w3]));repeat' first|(with_reducible first|exact tI|refine aI ?_ ?_|intro _)|((first|with_reducible refine AN ?_ ?_<;>intro _)<;>try (simp -implicitDefEqProofs only[go_sem,w3]))|simp (disch:=omega) only[Ap]|((with_reducible refine AZ ?_);refine⟨(_,_),rfl,?_,?_⟩)|((with_reducible refine Ae ?_);refine⟨_,rfl,?_,?_⟩)
    all_goals first|omega|(simp at *;done)|skip
   ·(try (simp -implicitDefEqProofs only[go_sem,w4]));repeat' first|(with_reducible first|exact tI|refine aI ?_ ?_|intro _)|((first|with_reducible refine AN ?_ ?_<;>intro _)<;>try (simp -implicitDefEqProofs only[go_sem,w4]))|simp (disch:=omega) only[Ap]|((with_reducible refine AZ ?_);refine⟨(_,_),rfl,?_,?_⟩)|((with_reducible refine Ae ?_);refine⟨_,rfl,?_,?_⟩)
    all_goals first|omega|(simp at *;done)|skip
   ·(try (simp -implicitDefEqProofs only[go_sem,KA]));repeat' first|(with_reducible first|exact tI|refine aI ?_ ?_|intro _)|((first|with_reducible refine AN ?_ ?_<;>intro _)<;>try (simp -implicitDefEqProofs only[go_sem,KA]))|simp (disch:=omega) only[Ap]|((with_reducible refine AZ ?_);refine⟨(_,_),rfl,?_,?_⟩)|((with_reducible refine Ae ?_);refine⟨_,rfl,?_,?_⟩)
    all_goals first|omega|(simp at *;done)|rfl|skip
  ·have he:(a++b).isEmpty=false:=by cases a<;>cases b<;>simp_all
   have c1:=Q9 (a.length+b.length) (by omega) (by omega)
   (try (simp -implicitDefEqProofs only[go_sem,KA]));repeat' first|(with_reducible first|exact tI|refine aI ?_ ?_|intro _)|((first|with_reducible refine AN ?_ ?_<;>intro _|(with_reducible refine isCall ?_);first|(refine D_ ([]) ([((22,2),(24,1))]) (c1) (by repeat' first|exact True.intro|exact rfl|refine And.intro ?_ ?_) (by simp[Handed,DG.get,AW.ren,AV.ren,AV.ren.renL,AI.get,Bl,Bu,DR,AI.reach,AV.sites,AV.sites.sitesL,AI.osites]) (by simp[B0,EF,B6,DG.get,DR,Dv,B8]) (by rfl) (by simp only[Db,DG.get,AW.ren,AV.ren,AV.ren.renL,and_self,and_true,true_and,if_true,reduceIte];rfl) ?_))<;>try (simp -implicitDefEqProofs only[go_sem,KA]))|simp (disch:=omega) only[Ap]|((with_reducible refine AZ ?_);refine⟨(_,_),rfl,?_,?_⟩)|((with_reducible refine Ae ?_);refine⟨_,rfl,?_,?_⟩)
   refine AX (α:=Int×(List F)) (l0:=?l6) (m0:=?m6) (fun x=>[(27,.d (.int .i64 x.1))]) (fun x=>[(24,.row 173 1 false (us x.2))]) (fun x=>(x.1=0/\x.2=[])\/(x.1=1/\x.2=a)\/(x.1=2/\x.2=a++b)) (fun x=>(2-x.1).toNat) (0,[]) ?h06 ?he6 ?he26 ?hI6 ?step6
   case h06=>(simp -implicitDefEqProofs only[go_sem];rfl)
   case he6=>rfl
   case he26=>rfl
   case' step6=>(rintro⟨i,l⟩ hI3;try dsimp only at hI3)
   case' hI6=>try dsimp only
   ·exact .inl ⟨rfl,rfl⟩
   rcases hI3 with⟨rfl,rfl⟩|⟨rfl,rfl⟩|⟨rfl,rfl⟩
   ·(try (simp -implicitDefEqProofs only[go_sem,w3,List.nil_append]));repeat' first|(with_reducible first|exact tI|refine aI ?_ ?_|intro _)|((first|with_reducible refine AN ?_ ?_<;>intro _)<;>try (simp -implicitDefEqProofs only[go_sem,w3,List.nil_append]))|simp (disch:=omega) only[Ap]|((with_reducible refine AZ ?_);refine⟨(_,_),rfl,?_,?_⟩)|((with_reducible refine Ae ?_);refine⟨_,rfl,?_,?_⟩)
    all_goals first|omega|(simp at *;done)|skip
   ·(try (simp -implicitDefEqProofs only[go_sem,w4]));repeat' first|(with_reducible first|exact tI|refine aI ?_ ?_|intro _)|((first|with_reducible refine AN ?_ ?_<;>intro _)<;>try (simp -implicitDefEqProofs only[go_sem,w4]))|simp (disch:=omega) only[Ap]|((with_reducible refine AZ ?_);refine⟨(_,_),rfl,?_,?_⟩)|((with_reducible refine Ae ?_);refine⟨_,rfl,?_,?_⟩)
    all_goals first|omega|(simp at *;done)|skip
   ·(try (simp -implicitDefEqProofs only[go_sem,he,KA]));repeat' first|(with_reducible first|exact tI|refine aI ?_ ?_|intro _)|((first|with_reducible refine AN ?_ ?_<;>intro _)<;>try (simp -implicitDefEqProofs only[go_sem,he,KA]))|simp (disch:=omega) only[Ap]|((with_reducible refine AZ ?_);refine⟨(_,_),rfl,?_,?_⟩)|((with_reducible refine Ae ?_);refine⟨_,rfl,?_,?_⟩)
    all_goals first|omega|(simp at *;done)|rfl|skip
end Go.Pw
