/- A part of the proof. -/
import Derived.Test.YtibkjeolahobbaaGreatDoorPgChrA
import Derived.Test.YtibkjeolahobbaaGreatDoorCorrectSpec
set_option linter.all false
section
open Go Go.Pw Go.Proofs
namespace Go.Pw
set_option maxRecDepth 100000
set_option maxHeartbeats 3200000
theorem jv:(0:Int)<((2:Nat):Int):=by decide
theorem ju:(1:Int)<((2:Nat):Int):=by decide
theorem Lr:¬(2:Int)<((2:Nat):Int):=by decide
theorem Up:IntKind.i64.wrap 0=0:=by decide
theorem Uo:IntKind.i64.wrap (0-((0:Nat):Int))=0:=by decide
theorem QJ {α:Type}(n:Nat) (x:α) (h:0<n):(List.replicate n x).isEmpty=false:=by cases n with
 |zero=>omega
 |succ n=>rfl
attribute [local congr] Bf A9 A_ Aq Bg Ax Az Ay Ap Aj Ad AZ Au Ae Av BK BO BM BN BL BP BE Ah Aw Ai BC BW Ag BI BJ BD BF BH BG BA BB A8 Bj A' Ar Af
attribute [local irreducible] IntKind.wrap A4 Option.getD and or
theorem Ue (n:Nat) (hn:0<n) (hl:n<=1000000):IJ E0 DS [] [.d (.list true []),.d (.int .i64 n)] [(22,2,.row 3 1 false [])] (.own 22 2):=by
 refine Dg Fc An (by simp) (by simp[Pz,CS,EW]) (by simp[E_]) fun hwf hwo=>?_
 rw[ER];unfold D_
 have h0:¬(n:Int)<0:=by omega
 have h1:(0:Int)<(n:Int):=by omega
 have hw:IntKind.i64.wrap (n:Int)=(n:Int):=Aa _ (by omega)
 have hw2:IntKind.i64.wrap ((n:Int)-0)=(n:Int):=by rw[Int.sub_zero];exact hw
 (try (simp -implicitDefEqProofs only[go_sem,h0,h1,hw,QJ n _ hn,List.length_replicate,Up,Uo,hw2,Int.sub_zero]));repeat' first|(with_reducible first|exact tI|refine aI ?_ ?_|intro _)|((first|with_reducible refine AN ?_ ?_<;>intro _)<;>try (simp -implicitDefEqProofs only[go_sem,h0,h1,hw,QJ n _ hn,List.length_replicate,Up,Uo,hw2,Int.sub_zero]))|simp (disch:=omega) only[Al]
 all_goals first|omega|rfl|(simp at *;done)|skip
theorem Uf:B' E0 DS [.list true [],.int .i64 0] (.list true []):=by
 refine AO Fc An (by simp) fun hwf=>?_
 rw[AW];unfold D_
 (try (simp -implicitDefEqProofs only[go_sem,Up,Uo,Int.sub_zero]));repeat' first|(with_reducible first|exact tI|refine aI ?_ ?_|intro _)|((first|with_reducible refine AN ?_ ?_<;>intro _)<;>try (simp -implicitDefEqProofs only[go_sem,Up,Uo,Int.sub_zero]))|simp (disch:=omega) only[Al]
 all_goals first|omega|rfl|(simp at *;done)|skip
theorem Uc (n:Nat) (hn:0<n) (hl:n<=1000000):IJ E0 Bd [] [.d (.list true []),.d (.int .i64 n)] [(22,2,.row 135 1 false [])] (.own 22 2):=by
 refine Dg CE An (by simp) (by simp[Pz,CS,EW]) (by simp[E_]) fun hwf hwo=>?_
 rw[ER];unfold Bq
 have h0:¬(n:Int)<0:=by omega
 have h1:(0:Int)<(n:Int):=by omega
 have hw:IntKind.i64.wrap (n:Int)=(n:Int):=Aa _ (by omega)
 have hw2:IntKind.i64.wrap ((n:Int)-0)=(n:Int):=by rw[Int.sub_zero];exact hw
 (try (simp -implicitDefEqProofs only[go_sem,h0,h1,hw,QJ n _ hn,List.length_replicate,Up,Uo,hw2,Int.sub_zero]));repeat' first|(with_reducible first|exact tI|refine aI ?_ ?_|intro _)|((first|with_reducible refine AN ?_ ?_<;>intro _)<;>try (simp -implicitDefEqProofs only[go_sem,h0,h1,hw,QJ n _ hn,List.length_replicate,Up,Uo,hw2,Int.sub_zero]))|simp (disch:=omega) only[Al]
 all_goals first|omega|rfl|(simp at *;done)|skip
theorem Ud:B' E0 Bd [.list true [],.int .i64 0] (.list true []):=by
 refine AO CE An (by simp) fun hwf=>?_
 rw[AW];unfold Bq
 (try (simp -implicitDefEqProofs only[go_sem,Up,Uo,Int.sub_zero]));repeat' first|(with_reducible first|exact tI|refine aI ?_ ?_|intro _)|((first|with_reducible refine AN ?_ ?_<;>intro _)<;>try (simp -implicitDefEqProofs only[go_sem,Up,Uo,Int.sub_zero]))|simp (disch:=omega) only[Al]
 all_goals first|omega|rfl|(simp at *;done)|skip
theorem R5 (n1 n2:Bool) (a b:List Int) (ha:a.length<=100000) (hb:b.length<=100000):B' E0 Fd [.list false [.list n1 (Am a),.list n2 (Am b)]] (.list (a++b).isEmpty (Am (a++b))):=by
 refine AO Ht An (by simp) fun hwf=>?_
 rw[AW];unfold FD
 have w1:IntKind.i64.wrap (0+(a.length:Int))=(a.length:Int):=by rw[Int.zero_add];exact Aa _ (by omega)
 have w2:IntKind.i64.wrap ((a.length:Int)+(b.length:Int))=((a.length+b.length:Nat):Int):=by rw[Aa _ (by omega)];omega
 have w3:IntKind.i64.wrap (0+1)=1:=by rw[Aa _ (by omega)];rfl
 have w4:IntKind.i64.wrap (1+1)=2:=by rw[Aa _ (by omega)];rfl
 have q1:¬(a.length:Int)<0:=by omega
 have q2:¬((a.length+b.length:Nat):Int)<0:=by omega
 (try (simp -implicitDefEqProofs only[go_sem]));repeat' first|(with_reducible first|exact tI|refine aI ?_ ?_|intro _)|((first|with_reducible refine AN ?_ ?_<;>intro _)<;>try (simp -implicitDefEqProofs only[go_sem]))|simp (disch:=omega) only[Al]|((with_reducible refine Ab ?_);refine⟨(_,_),rfl,?_,?_⟩)|((with_reducible refine Ao ?_);refine⟨_,rfl,?_,?_⟩)
 refine AY (α:=Int×Int) (l0:=?l1) (m0:=?m1) (fun x=>[(11,.d (.int .i64 x.1)),(3,.d (.int .i64 x.2))]) (fun x=>[]) (fun x=>(x.1=0/\x.2=0)\/(x.1=1/\x.2=a.length)\/(x.1=2/\x.2=((a.length+b.length:Nat):Int))) (fun x=>(2-x.1).toNat) (0,0) ?h01 ?he1 ?he21 ?hI1 ?step1
 case h01=>(simp -implicitDefEqProofs only[go_sem];rfl)
 case he1=>rfl
 case he21=>rfl
 case' step1=>(rintro⟨i,n⟩ hI;try dsimp only at hI)
 case' hI1=>try dsimp only
 ·exact .inl ⟨rfl,rfl⟩
 rcases hI with⟨rfl,rfl⟩|⟨rfl,rfl⟩|⟨rfl,rfl⟩
 ·(try (simp -implicitDefEqProofs only[go_sem,w1,w3,q1,jv]));repeat' first|(with_reducible first|exact tI|refine aI ?_ ?_|intro _)|((first|with_reducible refine AN ?_ ?_<;>intro _)<;>try (simp -implicitDefEqProofs only[go_sem,w1,w3,q1,jv]))|simp (disch:=omega) only[Al]|((with_reducible refine Ab ?_);refine⟨(_,_),rfl,?_,?_⟩)|((with_reducible refine Ao ?_);refine⟨_,rfl,?_,?_⟩)
  all_goals first|omega|(simp at *;done)|skip
 ·(try (simp -implicitDefEqProofs only[go_sem,w2,w4,q2,ju]));repeat' first|(with_reducible first|exact tI|refine aI ?_ ?_|intro _)|((first|with_reducible refine AN ?_ ?_<;>intro _)<;>try (simp -implicitDefEqProofs only[go_sem,w2,w4,q2,ju]))|simp (disch:=omega) only[Al]|((with_reducible refine Ab ?_);refine⟨(_,_),rfl,?_,?_⟩)|((with_reducible refine Ao ?_);refine⟨_,rfl,?_,?_⟩)
  all_goals first|omega|(simp at *;done)|skip
 ·by_cases h0:a.length+b.length=0
  ·have ea:a=[]:=List.eq_nil_of_length_eq_zero (by omega)
   have eb:b=[]:=List.eq_nil_of_length_eq_zero (by omega)
   subst ea eb
   have c1:B' E0 DS [.list true [],.int .i64 (((([]:List Int).length+([]:List Int).length:Nat)):Int)] (.list true []):=Uf
   (try (simp -implicitDefEqProofs only[go_sem,Lr]));repeat' first|(with_reducible first|exact tI|refine aI ?_ ?_|intro _)|((first|with_reducible refine AN ?_ ?_<;>intro _|(with_reducible refine isCall ?_);first|refine AE c1 ?_)<;>try (simp -implicitDefEqProofs only[go_sem,Lr]))|simp (disch:=omega) only[Al]|((with_reducible refine Ab ?_);refine⟨(_,_),rfl,?_,?_⟩)|((with_reducible refine Ao ?_);refine⟨_,rfl,?_,?_⟩)
   refine AY (α:=Int) (l0:=?l2) (m0:=?m2) (fun x=>[(27,.d (.int .i64 x))]) (fun x=>[(33,.row 3 1 true [])]) (fun x=>x=0\/x=1\/x=2) (fun x=>(2-x).toNat) 0 ?h02 ?he2 ?he22 ?hI2 ?step2
   case h02=>(simp -implicitDefEqProofs only[go_sem];rfl)
   case he2=>rfl
   case he22=>rfl
   case' step2=>(rintro i hI2;try dsimp only at hI2)
   case' hI2=>try dsimp only
   ·exact .inl rfl
   rcases hI2 with rfl|rfl|rfl
   ·(try (simp -implicitDefEqProofs only[go_sem,w3]));repeat' first|(with_reducible first|exact tI|refine aI ?_ ?_|intro _)|((first|with_reducible refine AN ?_ ?_<;>intro _)<;>try (simp -implicitDefEqProofs only[go_sem,w3]))|simp (disch:=omega) only[Al]|((with_reducible refine Ab ?_);refine⟨(_,_),rfl,?_,?_⟩)|((with_reducible refine Ao ?_);refine⟨_,rfl,?_,?_⟩)
    all_goals first|omega|(simp at *;done)|skip
   ·(try (simp -implicitDefEqProofs only[go_sem,w4]));repeat' first|(with_reducible first|exact tI|refine aI ?_ ?_|intro _)|((first|with_reducible refine AN ?_ ?_<;>intro _)<;>try (simp -implicitDefEqProofs only[go_sem,w4]))|simp (disch:=omega) only[Al]|((with_reducible refine Ab ?_);refine⟨(_,_),rfl,?_,?_⟩)|((with_reducible refine Ao ?_);refine⟨_,rfl,?_,?_⟩)
    all_goals first|omega|(simp at *;done)|skip
   ·(try (simp -implicitDefEqProofs only[go_sem,Lr]));repeat' first|(with_reducible first|exact tI|refine aI ?_ ?_|intro _)|((first|with_reducible refine AN ?_ ?_<;>intro _)<;>try (simp -implicitDefEqProofs only[go_sem,Lr]))|simp (disch:=omega) only[Al]|((with_reducible refine Ab ?_);refine⟨(_,_),rfl,?_,?_⟩)|((with_reducible refine Ao ?_);refine⟨_,rfl,?_,?_⟩)
    all_goals first|omega|(simp at *;done)|rfl|skip
  ·have he:(a++b).isEmpty=false:=by cases a<;>cases b<;>simp_all
   have c1:=Ue (a.length+b.length) (by omega) (by omega)
   (try (simp -implicitDefEqProofs only[go_sem,Lr]));repeat' first|(with_reducible first|exact tI|refine aI ?_ ?_|intro _)|((first|with_reducible refine AN ?_ ?_<;>intro _|(with_reducible refine isCall ?_);first|(refine E' ([]) ([((22,2),(24,1))]) (c1) (by repeat' first|exact True.intro|exact rfl|refine And.intro ?_ ?_) (by simp[Handed,Dl.get,Ak.ren,AV.ren,AV.ren.renL,AM.get,Bb,CF,D5,AM.reach,AV.sites,AV.sites.sitesL,AM.osites]) (by simp[CP,E_,CS,Dl.get,D5,EW,CJ]) (by rfl) (by simp only[D6,Dl.get,Ak.ren,AV.ren,AV.ren.renL,and_self,and_true,true_and,if_true,reduceIte];rfl) ?_))<;>try (simp -implicitDefEqProofs only[go_sem,Lr]))|simp (disch:=omega) only[Al]|((with_reducible refine Ab ?_);refine⟨(_,_),rfl,?_,?_⟩)|((with_reducible refine Ao ?_);refine⟨_,rfl,?_,?_⟩)
   refine AY (α:=Int×(List Int)) (l0:=?l3) (m0:=?m3) (fun x=>[(27,.d (.int .i64 x.1))]) (fun x=>[(24,.row 3 1 false (Am x.2))]) (fun x=>(x.1=0/\x.2=[])\/(x.1=1/\x.2=a)\/(x.1=2/\x.2=a++b)) (fun x=>(2-x.1).toNat) (0,[]) ?h03 ?he3 ?he23 ?hI3 ?step3
   case h03=>(simp -implicitDefEqProofs only[go_sem];rfl)
   case he3=>rfl
   case he23=>rfl
   case' step3=>(rintro⟨i,l⟩ hI3;try dsimp only at hI3)
   case' hI3=>try dsimp only
   ·exact .inl ⟨rfl,rfl⟩
   rcases hI3 with⟨rfl,rfl⟩|⟨rfl,rfl⟩|⟨rfl,rfl⟩
   ·(try (simp -implicitDefEqProofs only[go_sem,w3,List.nil_append]));repeat' first|(with_reducible first|exact tI|refine aI ?_ ?_|intro _)|((first|with_reducible refine AN ?_ ?_<;>intro _)<;>try (simp -implicitDefEqProofs only[go_sem,w3,List.nil_append]))|simp (disch:=omega) only[Al]|((with_reducible refine Ab ?_);refine⟨(_,_),rfl,?_,?_⟩)|((with_reducible refine Ao ?_);refine⟨_,rfl,?_,?_⟩)
    all_goals first|omega|(simp at *;done)|skip
   ·(try (simp -implicitDefEqProofs only[go_sem,w4]));repeat' first|(with_reducible first|exact tI|refine aI ?_ ?_|intro _)|((first|with_reducible refine AN ?_ ?_<;>intro _)<;>try (simp -implicitDefEqProofs only[go_sem,w4]))|simp (disch:=omega) only[Al]|((with_reducible refine Ab ?_);refine⟨(_,_),rfl,?_,?_⟩)|((with_reducible refine Ao ?_);refine⟨_,rfl,?_,?_⟩)
    all_goals first|omega|(simp at *;done)|skip
   ·(try (simp -implicitDefEqProofs only[go_sem,he,Lr]));repeat' first|(with_reducible first|exact tI|refine aI ?_ ?_|intro _)|((first|with_reducible refine AN ?_ ?_<;>intro _)<;>try (simp -implicitDefEqProofs only[go_sem,he,Lr]))|simp (disch:=omega) only[Al]|((with_reducible refine Ab ?_);refine⟨(_,_),rfl,?_,?_⟩)|((with_reducible refine Ao ?_);refine⟨_,rfl,?_,?_⟩)
    all_goals first|omega|(simp at *;done)|rfl|skip
theorem R4 (n1 n2:Bool) (a b:List F) (ha:a.length<=100000) (hb:b.length<=100000):B' E0 CG [.list false [.list n1 (us a),.list n2 (us b)]] (.list (a++b).isEmpty (us (a++b))):=by
 refine AO Dc An (by simp) fun hwf=>?_
 rw[AW];unfold CA
 have w1:IntKind.i64.wrap (0+(a.length:Int))=(a.length:Int):=by rw[Int.zero_add];exact Aa _ (by omega)
 have w2:IntKind.i64.wrap ((a.length:Int)+(b.length:Int))=((a.length+b.length:Nat):Int):=by rw[Aa _ (by omega)];omega
 have w3:IntKind.i64.wrap (0+1)=1:=by rw[Aa _ (by omega)];rfl
 have w4:IntKind.i64.wrap (1+1)=2:=by rw[Aa _ (by omega)];rfl
 have q1:¬(a.length:Int)<0:=by omega
 have q2:¬((a.length+b.length:Nat):Int)<0:=by omega
 (try (simp -implicitDefEqProofs only[go_sem]));repeat' first|(with_reducible first|exact tI|refine aI ?_ ?_|intro _)|((first|with_reducible refine AN ?_ ?_<;>intro _)<;>try (simp -implicitDefEqProofs only[go_sem]))|simp (disch:=omega) only[Al]|((with_reducible refine Ab ?_);refine⟨(_,_),rfl,?_,?_⟩)|((with_reducible refine Ao ?_);refine⟨_,rfl,?_,?_⟩)
 refine AY (α:=Int×Int) (l0:=?l4) (m0:=?m4) (fun x=>[(11,.d (.int .i64 x.1)),(3,.d (.int .i64 x.2))]) (fun x=>[]) (fun x=>(x.1=0/\x.2=0)\/(x.1=1/\x.2=a.length)\/(x.1=2/\x.2=((a.length+b.length:Nat):Int))) (fun x=>(2-x.1).toNat) (0,0) ?h04 ?he4 ?he24 ?hI4 ?step4
 case h04=>(simp -implicitDefEqProofs only[go_sem];rfl)
 case he4=>rfl
 case he24=>rfl
 case' step4=>(rintro⟨i,n⟩ hI;try dsimp only at hI)
 case' hI4=>try dsimp only
 ·exact .inl ⟨rfl,rfl⟩
 rcases hI with⟨rfl,rfl⟩|⟨rfl,rfl⟩|⟨rfl,rfl⟩
 ·(try (simp -implicitDefEqProofs only[go_sem,w1,w3,q1,jv]));repeat' first|(with_reducible first|exact tI|refine aI ?_ ?_|intro _)|((first|with_reducible refine AN ?_ ?_<;>intro _)<;>try (simp -implicitDefEqProofs only[go_sem,w1,w3,q1,jv]))|simp (disch:=omega) only[Al]|((with_reducible refine Ab ?_);refine⟨(_,_),rfl,?_,?_⟩)|((with_reducible refine Ao ?_);refine⟨_,rfl,?_,?_⟩)
  all_goals first|omega|(simp at *;done)|skip
 ·(try (simp -implicitDefEqProofs only[go_sem,w2,w4,q2,ju]));repeat' first|(with_reducible first|exact tI|refine aI ?_ ?_|intro _)|((first|with_reducible refine AN ?_ ?_<;>intro _)<;>try (simp -implicitDefEqProofs only[go_sem,w2,w4,q2,ju]))|simp (disch:=omega) only[Al]|((with_reducible refine Ab ?_);refine⟨(_,_),rfl,?_,?_⟩)|((with_reducible refine Ao ?_);refine⟨_,rfl,?_,?_⟩)
  all_goals first|omega|(simp at *;done)|skip
 ·by_cases h0:a.length+b.length=0
  ·have ea:a=[]:=List.eq_nil_of_length_eq_zero (by omega)
   have eb:b=[]:=List.eq_nil_of_length_eq_zero (by omega)
   subst ea eb
   have c1:B' E0 Bd [.list true [],.int .i64 (((([]:List F).length+([]:List F).length:Nat)):Int)] (.list true []):=Ud
   (try (simp -implicitDefEqProofs only[go_sem,Lr]));repeat' first|(with_reducible first|exact tI|refine aI ?_ ?_|intro _)|((first|with_reducible refine AN ?_ ?_<;>intro _|(with_reducible refine isCall ?_);first|refine AE c1 ?_)<;>try (simp -implicitDefEqProofs only[go_sem,Lr]))|simp (disch:=omega) only[Al]|((with_reducible refine Ab ?_);refine⟨(_,_),rfl,?_,?_⟩)|((with_reducible refine Ao ?_);refine⟨_,rfl,?_,?_⟩)
   refine AY (α:=Int) (l0:=?l5) (m0:=?m5) (fun x=>[(27,.d (.int .i64 x))]) (fun x=>[(33,.row 135 1 true [])]) (fun x=>x=0\/x=1\/x=2) (fun x=>(2-x).toNat) 0 ?h05 ?he5 ?he25 ?hI5 ?step5
   case h05=>(simp -implicitDefEqProofs only[go_sem];rfl)
   case he5=>rfl
   case he25=>rfl
   case' step5=>(rintro i hI2;try dsimp only at hI2)
   case' hI5=>try dsimp only
   ·exact .inl rfl
   rcases hI2 with rfl|rfl|rfl
   ·(try (simp -implicitDefEqProofs only[go_sem,w3]));repeat' first|(with_reducible first|exact tI|refine aI ?_ ?_|intro _)|((first|with_reducible refine AN ?_ ?_<;>intro _)<;>try (simp -implicitDefEqProofs only[go_sem,w3]))|simp (disch:=omega) only[Al]|((with_reducible refine Ab ?_);refine⟨(_,_),rfl,?_,?_⟩)|((with_reducible refine Ao ?_);refine⟨_,rfl,?_,?_⟩)
    all_goals first|omega|(simp at *;done)|skip
   ·(try (simp -implicitDefEqProofs only[go_sem,w4]));repeat' first|(with_reducible first|exact tI|refine aI ?_ ?_|intro _)|((first|with_reducible refine AN ?_ ?_<;>intro _)<;>try (simp -implicitDefEqProofs only[go_sem,w4]))|simp (disch:=omega) only[Al]|((with_reducible refine Ab ?_);refine⟨(_,_),rfl,?_,?_⟩)|((with_reducible refine Ao ?_);refine⟨_,rfl,?_,?_⟩)
    all_goals first|omega|(simp at *;done)|skip
   ·(try (simp -implicitDefEqProofs only[go_sem,Lr]));repeat' first|(with_reducible first|exact tI|refine aI ?_ ?_|intro _)|((first|with_reducible refine AN ?_ ?_<;>intro _)<;>try (simp -implicitDefEqProofs only[go_sem,Lr]))|simp (disch:=omega) only[Al]|((with_reducible refine Ab ?_);refine⟨(_,_),rfl,?_,?_⟩)|((with_reducible refine Ao ?_);refine⟨_,rfl,?_,?_⟩)
    all_goals first|omega|(simp at *;done)|rfl|skip
  ·have he:(a++b).isEmpty=false:=by cases a<;>cases b<;>simp_all
   have c1:=Uc (a.length+b.length) (by omega) (by omega)
   (try (simp -implicitDefEqProofs only[go_sem,Lr]));repeat' first|(with_reducible first|exact tI|refine aI ?_ ?_|intro _)|((first|with_reducible refine AN ?_ ?_<;>intro _|(with_reducible refine isCall ?_);first|(refine E' ([]) ([((22,2),(24,1))]) (c1) (by repeat' first|exact True.intro|exact rfl|refine And.intro ?_ ?_) (by simp[Handed,Dl.get,Ak.ren,AV.ren,AV.ren.renL,AM.get,Bb,CF,D5,AM.reach,AV.sites,AV.sites.sitesL,AM.osites]) (by simp[CP,E_,CS,Dl.get,D5,EW,CJ]) (by rfl) (by simp only[D6,Dl.get,Ak.ren,AV.ren,AV.ren.renL,and_self,and_true,true_and,if_true,reduceIte];rfl) ?_))<;>try (simp -implicitDefEqProofs only[go_sem,Lr]))|simp (disch:=omega) only[Al]|((with_reducible refine Ab ?_);refine⟨(_,_),rfl,?_,?_⟩)|((with_reducible refine Ao ?_);refine⟨_,rfl,?_,?_⟩)
   refine AY (α:=Int×(List F)) (l0:=?l6) (m0:=?m6) (fun x=>[(27,.d (.int .i64 x.1))]) (fun x=>[(24,.row 135 1 false (us x.2))]) (fun x=>(x.1=0/\x.2=[])\/(x.1=1/\x.2=a)\/(x.1=2/\x.2=a++b)) (fun x=>(2-x.1).toNat) (0,[]) ?h06 ?he6 ?he26 ?hI6 ?step6
   case h06=>(simp -implicitDefEqProofs only[go_sem];rfl)
   case he6=>rfl
   case he26=>rfl
   case' step6=>(rintro⟨i,l⟩ hI3;try dsimp only at hI3)
   case' hI6=>try dsimp only
   ·exact .inl ⟨rfl,rfl⟩
   rcases hI3 with⟨rfl,rfl⟩|⟨rfl,rfl⟩|⟨rfl,rfl⟩
   ·(try (simp -implicitDefEqProofs only[go_sem,w3,List.nil_append]));repeat' first|(with_reducible first|exact tI|refine aI ?_ ?_|intro _)|((first|with_reducible refine AN ?_ ?_<;>intro _)<;>try (simp -implicitDefEqProofs only[go_sem,w3,List.nil_append]))|simp (disch:=omega) only[Al]|((with_reducible refine Ab ?_);refine⟨(_,_),rfl,?_,?_⟩)|((with_reducible refine Ao ?_);refine⟨_,rfl,?_,?_⟩)
    all_goals first|omega|(simp at *;done)|skip
   ·(try (simp -implicitDefEqProofs only[go_sem,w4]));repeat' first|(with_reducible first|exact tI|refine aI ?_ ?_|intro _)|((first|with_reducible refine AN ?_ ?_<;>intro _)<;>try (simp -implicitDefEqProofs only[go_sem,w4]))|simp (disch:=omega) only[Al]|((with_reducible refine Ab ?_);refine⟨(_,_),rfl,?_,?_⟩)|((with_reducible refine Ao ?_);refine⟨_,rfl,?_,?_⟩)
    all_goals first|omega|(simp at *;done)|skip
   ·(try (simp -implicitDefEqProofs only[go_sem,he,Lr]));repeat' first|(with_reducible first|exact tI|refine aI ?_ ?_|intro _)|((first|with_reducible refine AN ?_ ?_<;>intro _)<;>try (simp -implicitDefEqProofs only[go_sem,he,Lr]))|simp (disch:=omega) only[Al]|((with_reducible refine Ab ?_);refine⟨(_,_),rfl,?_,?_⟩)|((with_reducible refine Ao ?_);refine⟨_,rfl,?_,?_⟩)
    all_goals first|omega|(simp at *;done)|rfl|skip
end Go.Pw
end
section
namespace Go.Pw
def Ff:List F->List F->F
 |a::asq,b::bs=>fa (fm a b) (Ff asq bs)
 |_,_=>0
def Gj (r o:List F) (b:F):List F:=List.zipWith (fun x y=>fa x (fm y b)) r o
def Hp (r:List F) (b:F):List F:=r.map fun x=>fm x b
def Ed (r:List F) (j:Nat):F:=r[j]?.getD 0
def Bk (M:List (List F)) (i:Nat):List F:=M[i]?.getD []
def Di (M:List (List F)) (i j:Nat):F:=Ed (Bk M i) j
theorem kV (a b c:F):fa a (fa b c)=fa b (fa a c):=by rw[←EH,Ni a b,EH]
theorem px (a b c d:F):fa (fa a b) (fa c d)=fa (fa a c) (fa b d):=by rw[EH,EH,kV b c d]
theorem lZ (a b c:F):fm (fa a b) c=fa (fm a c) (fm b c):=by rw[Dt,MF,Dt c a,Dt c b]
theorem Ng (a b c:F):fm a (fm b c)=fm b (fm a c):=by rw[←Fu,Dt a b,Fu]
theorem Ll (w:List F):Ff [] w=0:=rfl
theorem RP (w:List F):Ff w []=0:=by cases w<;>rfl
theorem D1 (a b:F) (asq bs:List F):Ff (a::asq) (b::bs)=fa (fm a b) (Ff asq bs):=rfl
theorem Nk (b:F):∀(r o w:List F),r.length=o.length->Ff (Gj r o b) w=fa (Ff r w) (fm b (Ff o w))
 |[],[],w,_=>by simp[Gj,Ll,Dr,DB]
 |x::r,y::o,[],_=>by simp[RP,Dr,DB]
 |x::r,y::o,c::w,h=>by
  have ih:=Nk b r o w (by simpa using h)
  simp only[Gj,List.zipWith_cons_cons,D1] at ih ⊢
  rw[ih,lZ,MF,Fu,Ng,px]
theorem RO (b:F):∀(r w:List F),Ff (Hp r b) w=fm b (Ff r w)
 |[],w=>by simp[Hp,Ll,Dr]
 |x::r,[]=>by simp[RP,Dr]
 |x::r,c::w=>by
  have ih:=RO b r w
  simp only[Hp,List.map_cons,D1] at ih ⊢
  rw[ih,MF,Fu,Ng]
theorem RN (x y:F):∀(r w:List F),r.length=w.length->Ff (r++[x]) (w++[y])=fa (Ff r w) (fm x y)
 |[],[],_=>by simp[Ff,DB,JQ]
 |a::r,b::w,h=>by
  have ih:=RN x y r w (by simpa using h)
  simp only[List.cons_append,D1]
  rw[ih,EH]
theorem QP:∀(r w:List F) (i:Nat),i<r.length->r.length=w.length->(∀j,j≠i->fm (Ed r j) (Ed w j)=0)->Ff r w=fm (Ed r i) (Ed w i)
 |a::r,b::w,0,_,hl,h=>by
  have hz:Ff r w=0:=by
   have key:∀(r w:List F),(∀j,fm (Ed r j) (Ed w j)=0)->Ff r w=0:=by
    intro r
    induction r with
    |nil=>intro w _;rfl
    |cons a r ih =>
     intro w h
     cases w with
     |nil=>rfl
     |cons b w =>
      rw[D1,ih w fun j=>h (j+1),show fm a b=0 from h 0];rfl
   exact key r w fun j=>h (j+1) (by omega)
  rw[D1,hz,DB];rfl
 |a::r,b::w,i+1,hi,hl,h=>by
  have ih:=QP r w i (by simpa using hi) (by simpa using hl) fun j hj=>h (j+1) (by omega)
  rw[D1,ih,show fm a b=0 from h 0 (by omega),JQ];rfl
theorem UH:∀(r w:List F) (i k:Nat),i<k->k<r.length->r.length=w.length->(∀j,j≠i->j≠k->fm (Ed r j) (Ed w j)=0)->Ff r w=fa (fm (Ed r i) (Ed w i)) (fm (Ed r k) (Ed w k))
 |a::r,b::w,0,k+1,_,hk,hl,h=>by
  rw[D1,QP r w k (by simpa using hk) (by simpa using hl) fun j hj=>h (j+1) (by omega) (by omega)];rfl
 |a::r,b::w,i+1,k+1,hik,hk,hl,h=>by
  have ih:=UH r w i k (by omega) (by simpa using hk) (by simpa using hl) fun j hj hj2=>h (j+1) (by omega) (by omega)
  rw[D1,ih,show fm a b=0 from h 0 (by omega) (by omega),JQ];rfl
def R7 (c:F) (M:List (List F)) (v:List F):Prop:=∀i,i<M.length->Ff (Bk M i) (v++[c])=0
structure R3 (M:List (List F)) (n m:Nat):Prop where
 len:M.length=n
 row:∀i,i<n->(Bk M i).length=m
def Bm (f:F->F->F) (M:List (List F)) (k:Nat):List (List F):=(List.range M.length).map fun i=>if i=k then Bk M k else Gj (Bk M i) (Bk M k) (f (Di M i k) (Di M k k))
def swp (M:List (List F)) (k p:Nat):List (List F):=(M.set k (Bk M p)).set p (Bk M k)
theorem Mc {α:Type}(n i:Nat) (g:Nat->List F) (h:i<n):Bk ((List.range n).map g) i=g i:=by simp[Bk,h]
theorem GV (M:List (List F)) (k i:Nat) (r:List F) (hk:k<M.length):Bk (M.set k r) i=if i=k then r else Bk M i:=by
 unfold Bk
 by_cases h:i=k
 ·subst h;simp[hk]
 ·rw[List.getElem?_set_ne (fun e=>h e.symm),if_neg h]
theorem DY (f:F->F->F) (M:List (List F)) (k i:Nat) (h:i<M.length):Bk (Bm f M k) i=if i=k then Bk M k else Gj (Bk M i) (Bk M k) (f (Di M i k) (Di M k k)) :=
 Mc (α:=F) M.length i _ h
theorem Ej (M:List (List F)) (k p i:Nat) (hk:k<M.length) (hp:p<M.length):Bk (swp M k p) i=if i=p then Bk M k else if i=k then Bk M p else Bk M i:=by
 unfold swp
 rw[GV _ _ _ _ (by simpa using hp),GV _ _ _ _ hk]
theorem OE (r o:List F) (b:F) (h:r.length=o.length):(Gj r o b).length=r.length:=by simp[Gj,h]
theorem VO (r:List F) (b:F):(Hp r b).length=r.length:=by simp[Hp]
theorem R3.swp {M:List (List F)}{n m k p:Nat}(h:R3 M n m) (hk:k<n) (hp:p<n):R3 (swp M k p) n m:=by
 have hl:=h.len
 refine⟨by simp[Go.Pw.swp,hl],fun i hi=>?_⟩
 rw[Ej _ _ _ _ (by omega) (by omega)]
 split
 ·exact h.row k hk
 ·split
  ·exact h.row p hp
  ·exact h.row i hi
theorem R3.scl {M:List (List F)}{n m k:Nat}(h:R3 M n m) (hk:k<n) (b:F):R3 (M.set k (Hp (Bk M k) b)) n m:=by
 have hl:=h.len
 refine⟨by simp[hl],fun i hi=>?_⟩
 rw[GV _ _ _ _ (by omega)]
 split
 ·rw[VO];exact h.row k hk
 ·exact h.row i hi
theorem R3.red {M:List (List F)}{n m k:Nat}(f:F->F->F) (h:R3 M n m) (hk:k<n):R3 (Bm f M k) n m:=by
 have hl:=h.len
 refine⟨by simp[Bm,hl],fun i hi=>?_⟩
 rw[DY _ _ _ _ (by omega)]
 split
 ·exact h.row k hk
 ·rw[OE]
  ·exact h.row i hi
  ·rw[h.row i hi,h.row k hk]
theorem Za {M:List (List F)}{n m k p:Nat}(h:R3 M n m) (hk:k<n) (hp:p<n) (c:F) (v:List F):R7 c (swp M k p) v↔R7 c M v:=by
 have hl:=h.len
 have hl2:=(h.swp hk hp).len
 constructor
 ·intro hs i hi
  by_cases h1:i=k
  ·subst h1
   have:=hs p (by omega)
   rwa [Ej _ _ _ _ (by omega) (by omega),if_pos rfl] at this
  ·by_cases h2:i=p
   ·subst h2
    have:=hs k (by omega)
    rwa [Ej _ _ _ _ (by omega) (by omega),if_neg (fun e=>h1 e.symm),if_pos rfl] at this
   ·have:=hs i (by omega)
    rwa [Ej _ _ _ _ (by omega) (by omega),if_neg h2,if_neg h1] at this
 ·intro hs i hi
  rw[Ej _ _ _ _ (by omega) (by omega)]
  split
  ·exact hs k (by omega)
  ·split
   ·exact hs p (by omega)
   ·exact hs i (by omega)
theorem lM {M:List (List F)}{n m k:Nat}(h:R3 M n m) (hk:k<n) {b:F}(hb:b≠0) (c:F) (v:List F):R7 c (M.set k (Hp (Bk M k) b)) v↔R7 c M v:=by
 have hl:=h.len
 constructor
 ·intro hs i hi
  have:=hs i (by simpa using hi)
  rw[GV _ _ _ _ (by omega)] at this
  split at this
  ·rename_i e;subst e
   rw[RO] at this
   exact(RE _ _ this).resolve_left hb
  ·exact this
 ·intro hs i hi
  rw[GV _ _ _ _ (by omega)]
  split
  ·rename_i e;subst e;rw[RO,hs i (by omega),Dr]
  ·exact hs i (by simpa using hi)
theorem Zb {M:List (List F)}{n m k:Nat}(f:F->F->F) (h:R3 M n m) (hk:k<n) (c:F) (v:List F):R7 c (Bm f M k) v↔R7 c M v:=by
 have hl:=h.len
 have hl2:=(h.red f hk).len
 constructor
 ·intro hs i hi
  have h1:=hs k (by omega)
  rw[DY _ _ _ _ (by omega),if_pos rfl] at h1
  by_cases hik:i=k
  ·subst hik;exact h1
  ·have h2:=hs i (by omega)
   rw[DY _ _ _ _ (by omega),if_neg hik,Nk _ _ _ _ (by rw[h.row i (by omega),h.row k hk]),h1,Dr,DB] at h2
   exact h2
 ·intro hs i hi
  rw[DY _ _ _ _ (by omega)]
  split
  ·exact hs k (by omega)
  ·rw[Nk _ _ _ _ (by rw[h.row i (by omega),h.row k hk]),hs i (by omega),hs k (by omega),Dr,DB]
structure bz (M:List (List F)) (k:Nat):Prop where
 off:∀i j,i<M.length->j<k->i≠j->Di M i j=0
 dia:∀j,j<k->Di M j j≠0
theorem OB (r o:List F) (b:F) (j:Nat) (h:r.length=o.length):Ed (Gj r o b) j=fa (Ed r j) (fm (Ed o j) b):=by
 unfold Ed Gj
 rw[List.getElem?_zipWith]
 by_cases hj:j<r.length
 ·rw[List.getElem?_eq_getElem hj,List.getElem?_eq_getElem (by omega)];rfl
 ·rw[List.getElem?_eq_none (by omega),List.getElem?_eq_none (l:=o) (by omega)]
  show (0:F)=fa 0 (fm 0 b)
  rw[Cb];rfl
theorem Rr (r:List F) (b:F) (j:Nat):Ed (Hp r b) j=fm (Ed r j) b:=by
 unfold Ed Hp
 rw[List.getElem?_map]
 cases r[j]? with
 |none=>exact(Cb b).symm
 |some x=>rfl
theorem bz.swp {M:List (List F)}{n m k p:Nat}(hs:R3 M n m) (h:bz M k) (hk:k<n) (hkp:k<=p) (hp:p<n):bz (swp M k p) k:=by
 have hl:=hs.len
 have hl2:=(hs.swp hk hp).len
 refine⟨fun i j hi hj hij=>?_,fun j hj=>?_⟩
 ·unfold Di
  rw[Ej _ _ _ _ (by omega) (by omega)]
  split
  ·exact h.off k j (by omega) hj (by omega)
  ·split
   ·exact h.off p j (by omega) hj (by omega)
   ·exact h.off i j (by omega) hj hij
 ·unfold Di
  rw[Ej _ _ _ _ (by omega) (by omega),if_neg (by omega),if_neg (by omega)]
  exact h.dia j hj
theorem ZS {M:List (List F)}{n m k p:Nat}(hs:R3 M n m) (hk:k<n) (hp:p<n) (j:Nat):Di (swp M k p) k j=Di M p j:=by
 have hl:=hs.len
 unfold Di
 rw[Ej _ _ _ _ (by omega) (by omega)]
 split
 ·rename_i e;subst e;rfl
 ·rw[if_pos rfl]
theorem bz.scl {M:List (List F)}{n m k:Nat}(hs:R3 M n m) (h:bz M k) (hk:k<n) (b:F):bz (M.set k (Hp (Bk M k) b)) k:=by
 have hl:=hs.len
 refine⟨fun i j hi hj hij=>?_,fun j hj=>?_⟩
 ·unfold Di
  rw[GV _ _ _ _ (by omega)]
  split
  ·rw[Rr,show Ed (Bk M k) j=0 from h.off k j (by omega) hj (by omega),Cb]
  ·exact h.off i j (by simpa using hi) hj hij
 ·unfold Di
  rw[GV _ _ _ _ (by omega),if_neg (by omega)]
  exact h.dia j hj
theorem ZT {M:List (List F)}{n m k:Nat}(hs:R3 M n m) (hk:k<n) (b:F) (i j:Nat):Di (M.set k (Hp (Bk M k) b)) i j=if i=k then fm (Di M k j) b else Di M i j:=by
 have hl:=hs.len
 unfold Di
 rw[GV _ _ _ _ (by omega)]
 split
 ·rw[Rr]
 ·rfl
theorem bz.red {M:List (List F)}{n m k:Nat}(f:F->F->F) (hs:R3 M n m) (h:bz M k) (hk:k<n) (hd:Di M k k≠0) (hf:∀a,fm (Di M k k) (f a (Di M k k))=a):bz (Bm f M k) (k+1):=by
 have hl:=hs.len
 have hl2:=(hs.red f hk).len
 have e:∀i j,i<n->Di (Bm f M k) i j=if i=k then Di M k j else fa (Di M i j) (fm (Di M k j) (f (Di M i k) (Di M k k))):=fun i j hi=>by
  show Ed (Bk (Bm f M k) i) j=_
  rw[DY _ _ _ _ (by omega)]
  split
  ·rfl
  ·rw[OB _ _ _ _ (by rw[hs.row i hi,hs.row k hk])];rfl
 refine⟨fun i j hi hj hij=>?_,fun j hj=>?_⟩
 ·rw[e i j (by omega)]
  rcases Nat.lt_succ_iff_lt_or_eq.1 hj with hj|rfl
  ·split
   ·exact h.off k j (by omega) hj (by omega)
   ·rw[h.off i j (by omega) hj hij,h.off k j (by omega) hj (by omega),Cb];rfl
  ·rw[if_neg hij,hf,Fv]
 ·rcases Nat.lt_succ_iff_lt_or_eq.1 hj with hj|rfl
  ·rw[e j j (by omega),if_neg (by omega),h.off k j (by omega) hj (by omega),Cb,DB];exact h.dia j hj
  ·rw[e j j (by omega),if_pos rfl];exact hd
theorem Pi {M:List (List F)}{n m k:Nat}(f:F->F->F) (hs:R3 M n m) (h:bz M k) (hk:k<n) (j:Nat) (hj:j<=k):Di (Bm f M k) j j=Di M j j:=by
 have hl:=hs.len
 show Ed (Bk (Bm f M k) j) j=_
 rw[DY _ _ _ _ (by omega)]
 split
 ·rename_i e;subst e;rfl
 ·rename_i hne
  rw[OB _ _ _ _ (by rw[hs.row j (by omega),hs.row k hk]),show Ed (Bk M k) j=0 from h.off k j (by omega) (by omega) (by omega),Cb,DB];rfl
theorem Jn (v:List F) (c:F) (j:Nat) (h:j<v.length):Ed (v++[c]) j=Ed v j:=by unfold Ed;rw[List.getElem?_append_left h]
theorem M4 (v:List F) (c:F):Ed (v++[c]) v.length=c:=by unfold Ed;simp
theorem UX (v:List F) (j:Nat) (h:v.length<=j):Ed v j=0:=by unfold Ed;rw[List.getElem?_eq_none h];rfl
theorem Y2 {M:List (List F)}{n m:Nat}(hs:R3 M n (m+1)) (h:bz M m) (hm:m<=n) (v:List F) (hv:v.length=m) :
  R7 1 M v↔(∀i,i<m->fm (Di M i i) (Ed v i)=Di M i m)/\∀i,m<=i->i<n->Di M i m=0:=by
 have hl:=hs.len
 have hw:(v++[1]).length=m+1:=by simp[hv]
 have low:∀i,i<m->Ff (Bk M i) (v++[1])=fa (fm (Di M i i) (Ed v i)) (Di M i m):=fun i hi=>by
  rw[UH (Bk M i) (v++[1]) i m hi (by rw[hs.row i (by omega)];omega) (by rw[hs.row i (by omega),hw]) fun j h1 h2=>?_]
  ·rw[Jn _ _ _ (by omega),show Ed (v++[1]) m=1 by rw[←hv];exact M4 v 1,Jc];rfl
  ·by_cases hj:j<m
   ·rw[show Ed (Bk M i) j=0 from h.off i j (by omega) hj (fun e=>h1 e.symm),Cb]
   ·rw[UX (Bk M i) j (by rw[hs.row i (by omega)];omega),Cb]
 have high:∀i,m<=i->i<n->Ff (Bk M i) (v++[1])=Di M i m:=fun i hi hi2=>by
  rw[QP (Bk M i) (v++[1]) m (by rw[hs.row i (by omega)];omega) (by rw[hs.row i (by omega),hw]) fun j h1=>?_]
  ·rw[show Ed (v++[1]) m=1 by rw[←hv];exact M4 v 1,Jc];rfl
  ·by_cases hj:j<m
   ·rw[show Ed (Bk M i) j=0 from h.off i j (by omega) hj (by omega),Cb]
   ·rw[UX (Bk M i) j (by rw[hs.row i (by omega)];omega),Cb]
 constructor
 ·intro hsat
  refine⟨fun i hi=>?_,fun i hi hi2=>?_⟩
  ·have:=hsat i (by omega)
   rw[low i hi] at this
   exact HU _ _ this
  ·have:=hsat i (by omega)
   rwa [high i hi hi2] at this
 ·rintro⟨h1,h2⟩ i hi
  by_cases him:i<m
  ·rw[low i him,h1 i him,Fv]
  ·rw[high i (by omega) (by omega)];exact h2 i (by omega) (by omega)
theorem da {M:List (List F)}{n m k:Nat}(hs:R3 M n (m+1)) (h:bz M k) (hk:k<m) (hm:m<=n) (hz:∀i,k<=i->i<n->Di M i k=0) :
  ∃v:List F,v.length=m/\R7 0 M v/\Ed v k=1:=by
 have hl:=hs.len
 obtain⟨v,hvd⟩:∃v:List F,v=(List.range m).map fun j=>if j<k then fm (Di M j k) (fi (Di M j j)) else if j=k then 1 else 0:=⟨_,rfl⟩
 have hv:v.length=m:=by simp[hvd]
 have ha:∀j,j<m->Ed v j=if j<k then fm (Di M j k) (fi (Di M j j)) else if j=k then 1 else 0:=fun j hj=>by rw[hvd];simp[Ed,hj]
 have hvk:Ed v k=1:=by rw[ha k hk,if_neg (by omega),if_pos rfl]
 refine⟨v,hv,fun i hi=>?_,hvk⟩
 have hw:(v++[0]).length=m+1:=by simp[hv]
 have hw0:∀j,j≠k->¬j<k->Ed (v++[0]) j=0:=fun j h1 h2=>by
  by_cases hj:j<m
  ·rw[Jn _ _ _ (by omega),ha j hj,if_neg h2,if_neg h1]
  ·by_cases hjm:j=m
   ·subst hjm;rw[←hv];exact M4 v 0
   ·exact UX _ _ (by omega)
 have hwk:Ed (v++[0]) k=1:=by rw[Jn _ _ _ (by omega)];exact hvk
 by_cases hik:i<k
 ·rw[UH (Bk M i) (v++[0]) i k hik (by rw[hs.row i (by omega)];omega) (by rw[hs.row i (by omega),hw]) fun j h1 h2=>?_]
  ·rw[hwk,Jc,Jn _ _ _ (by omega),ha i (by omega),if_pos hik]
   show fa (fm (Di M i i) (fm (Di M i k) (fi (Di M i i)))) (Di M i k)=0
   rw[Ng,lX _ (h.dia i hik),Jc,Fv]
  ·by_cases hj:j<k
   ·rw[show Ed (Bk M i) j=0 from h.off i j (by omega) hj (fun e=>h1 e.symm),Cb]
   ·rw[hw0 j h2 hj,Dr]
 ·rw[QP (Bk M i) (v++[0]) k (by rw[hs.row i (by omega)];omega) (by rw[hs.row i (by omega),hw]) fun j h1=>?_]
  ·rw[show Ed (Bk M i) k=0 from hz i (by omega) (by omega),Cb]
  ·by_cases hj:j<k
   ·rw[show Ed (Bk M i) j=0 from h.off i j (by omega) hj (by omega),Cb]
   ·rw[hw0 j h1 hj,Dr]
end Go.Pw
end
section
namespace Go.Pw
def Ry (v w:List F):List F:=List.zipWith fa v w
theorem gy (v w:List F) (h:v.length=w.length):(Ry v w).length=v.length:=by simp[Ry,h]
theorem gf (v w:List F) (j:Nat) (h:v.length=w.length):Ed (Ry v w) j=fa (Ed v j) (Ed w j):=by
 unfold Ed Ry
 rw[List.getElem?_zipWith]
 by_cases hj:j<v.length
 ·rw[List.getElem?_eq_getElem hj,List.getElem?_eq_getElem (by omega)];rfl
 ·rw[List.getElem?_eq_none (by omega),List.getElem?_eq_none (l:=w) (by omega)];rfl
theorem WM:∀(r v w:List F),v.length=w.length->Ff r (Ry v w)=fa (Ff r v) (Ff r w)
 |[],v,w,_=>by simp[Ll,DB]
 |x::r,[],[],_=>by simp[Ry,RP,DB]
 |x::r,a::v,b::w,h=>by
  have ih:=WM r v w (by simpa using h)
  simp only[Ry,List.zipWith_cons_cons,D1] at ih ⊢
  rw[ih,MF,px]
theorem f5 {v w:List F}(hl:v.length=w.length) (h:∀j,j<v.length->Ed v j=Ed w j):v=w:=by
 apply List.ext_getElem hl
 intro j h1 h2
 have:=h j h1
 unfold Ed at this
 rwa [List.getElem?_eq_getElem h1,List.getElem?_eq_getElem h2] at this
def T4 (x:F):Nat->F
 |0=>1
 |n+1=>fm x (T4 x n)
theorem nS (t i:Nat):gp (i*t)=T4 (gp t) i:=by
 induction i with
 |zero=>rw[Nat.zero_mul];exact ZN
 |succ i ih=>rw[Nat.add_mul,Nat.one_mul,Nat.add_comm,Xz,ih];rfl
theorem oM:∀(xs vs:List F),vs.length=xs.length->xs.Nodup->(∀i,i<xs.length->Ff (xs.map fun x=>T4 x i) vs=0)->∀j,Ed vs j=0
 |[],[],_,_,_=>fun j=>rfl
 |x::xs,v::vs,hl,hn,h=>by
  have hl':vs.length=xs.length:=by simpa using hl
  rw[List.nodup_cons] at hn
  have key:∀(i:Nat) (ys ws:List F),ws.length=ys.length->Ff (ys.map fun y=>T4 y i) (List.zipWith (fun y w=>fm w (fa y x)) ys ws)=fa (Ff (ys.map fun y=>T4 y (i+1)) ws) (fm x (Ff (ys.map fun y=>T4 y i) ws)):=by
   intro i ys
   induction ys with
   |nil=>intro ws _;rw[List.map_nil,Ll,List.map_nil,Ll,Dr];rfl
   |cons y ys ih =>
    intro ws hw
    cases ws with
    |nil=>simp at hw
    |cons w ws =>
     have:=ih ws (by simpa using hw)
     simp only[List.map_cons,List.zipWith_cons_cons,D1]
     rw[this,MF w,MF (T4 y i),MF x,px]
     congr 1
     ·congr 1
      show fm (T4 y i) (fm w y)=fm (fm y (T4 y i)) w
      rw[Dt w y,←Fu,Dt (T4 y i) y]
     ·congr 1
      rw[Ng,Dt,Fu]
      rw[Ng]
  have hz:∀i,i<xs.length->Ff (xs.map fun y=>T4 y i) (List.zipWith (fun y w=>fm w (fa y x)) xs vs)=0:=fun i hi=>by
   rw[key i xs vs hl']
   have h1:=h i (by simp;omega)
   have h2:=h (i+1) (by simpa using hi)
   simp only[List.map_cons,D1] at h1 h2
   have e1:Ff (xs.map fun y=>T4 y i) vs=fm (T4 x i) v:=(HU _ _ h1).symm
   have e2:Ff (xs.map fun y=>T4 y (i+1)) vs=fm (T4 x (i+1)) v:=(HU _ _ h2).symm
   rw[e1,e2,←Fu]
   exact Fv _
  have ih:=oM xs (List.zipWith (fun y w=>fm w (fa y x)) xs vs) (by simp[hl']) hn.2 hz
  have htail:∀j,Ed vs j=0:=fun j=>by
   by_cases hj:j<xs.length
   ·have:=ih j
    unfold Ed at this ⊢
    rw[List.getElem?_zipWith,List.getElem?_eq_getElem hj,List.getElem?_eq_getElem (by omega)] at this
    rw[List.getElem?_eq_getElem (by omega)]
    have hne:fa xs[j] x≠0:=fun e=>hn.1 (by rw[←HU _ _ e];exact List.getElem_mem hj)
    exact(RE _ _ this).resolve_right hne
   ·exact UX _ _ (by omega)
  have hhead:v=0:=by
   have h0:=h 0 (by simp)
   simp only[List.map_cons,D1] at h0
   have:Ff (xs.map fun y=>T4 y 0) vs=0:=by
    have hvs:vs=List.replicate vs.length 0:=by
     apply f5 (by simp)
     intro j hj
     rw[htail j]
     simp[Ed,hj]
    rw[hvs]
    generalize xs.map (fun y=>T4 y 0)=zs
    generalize vs.length=n
    induction zs generalizing n with
    |nil=>rfl
    |cons z zs ih2 =>
     cases n with
     |zero=>rfl
     |succ n=>rw[List.replicate_succ,D1,Dr,ih2];rfl
   rw[this,DB] at h0
   rw[show T4 x 0=1 from rfl,Tv] at h0
   exact h0
  intro j
  cases j with
  |zero=>exact hhead
  |succ j=>exact htail j
def YB (L i j:Nat):F:=gp (i*(L-1-j))
def Ph (L P:Nat) (at_:List Nat) (s:List F):List (List F):=(List.range P).map fun i=>(at_.map fun j=>YB L i j)++[Ed s i]
theorem Nj (L P:Nat) (at_:List Nat) (s:List F):R3 (Ph L P at_ s) P (at_.length+1):=by
 refine⟨by simp[Ph],fun i hi=>?_⟩
 unfold Ph
 rw[Mc (α:=F) _ _ _ hi];simp
theorem VR (L P:Nat) (at_:List Nat) (s:List F) (i:Nat) (h:i<P):Bk (Ph L P at_ s) i=(at_.map fun j=>YB L i j)++[Ed s i]:=Mc (α:=F) _ _ _ h
structure cF (L:Nat) (at_:List Nat):Prop where
 nd:at_.Nodup
 lt:∀j,j∈at_->j<L
theorem UJ (L P:Nat) (at_:List Nat) (s v:List F) (c:F) (hv:v.length=at_.length) (i:Nat) (h:i<P):Ff (Bk (Ph L P at_ s) i) (v++[c])=fa (Ff (at_.map fun j=>YB L i j) v) (fm (Ed s i) c):=by
 rw[VR _ _ _ _ _ h,RN _ _ _ _ (by simp[hv])]
theorem Vr {L P:Nat}(hL:L<=15) {at_:List Nat}(hp:cF L at_) (hm:at_.length<=P) {s v:List F}(hv:v.length=at_.length) (h:R7 0 (Ph L P at_ s) v):∀j,Ed v j=0:=by
 have hx:(at_.map fun j=>gp (L-1-j)).Nodup:=by
  have h1:=hp.nd
  have h2:=hp.lt
  clear h hv hm
  induction at_ with
  |nil=>simp
  |cons a l ih =>
   rw[List.nodup_cons] at h1
   rw[List.map_cons,List.nodup_cons]
   refine⟨fun hmem=>?_,ih ⟨h1.2,fun j hj=>h2 j (by simp[hj])⟩ h1.2 fun j hj=>h2 j (by simp[hj])⟩
   obtain⟨b,hb,he⟩:=List.mem_map.1 hmem
   have ha:=h2 a (by simp)
   have hb2:=h2 b (by simp[hb])
   have:=nT (by omega) (by omega) he
   have:a=b:=by omega
   subst this
   exact h1.1 hb
 refine oM _ v (by simp[hv]) hx fun i hi=>?_
 have hi':i<P:=by simp at hi;omega
 have:=h i (by rw[(Nj L P at_ s).len];exact hi')
 rw[UJ _ _ _ _ _ _ hv i hi',Dr,DB] at this
 rw[List.map_map]
 have e:(at_.map ((fun x=>T4 x i) ∘ fun j=>gp (L-1-j)))=at_.map fun j=>YB L i j:=List.map_congr_left fun j _=>(nS _ _).symm
 rw[e];exact this
theorem i4 {c d:F}{M:List (List F)}{v w:List F}(hl:v.length=w.length) (h1:R7 c M v) (h2:R7 d M w):R7 (fa c d) M (Ry v w):=by
 intro i hi
 have:Ry v w++[fa c d]=Ry (v++[c]) (w++[d]):=by
  unfold Ry
  rw[List.zipWith_append hl];rfl
 rw[this,WM _ _ _ (by simp[hl]),h1 i hi,h2 i hi,DB]
theorem dZ {L P:Nat}(hL:L<=15) {at_:List Nat}(hp:cF L at_) (hm:at_.length<=P) {s v w:List F}(hv:v.length=at_.length) (hw:w.length=at_.length) (h1:R7 1 (Ph L P at_ s) v) (h2:R7 1 (Ph L P at_ s) w):v=w:=by
 have h:=i4 (by omega) h1 h2
 rw[Fv] at h
 have:=Vr hL hp hm (by rw[gy _ _ (by omega)];exact hv) h
 refine f5 (by omega) fun j _=>?_
 have hj:=this j
 rw[gf _ _ _ (by omega)] at hj
 exact HU _ _ hj
open Classical in
noncomputable def Lq (L P:Nat) (at_:List Nat) (s:List F):Option (List F) :=
 if h:∃v:List F,v.length=at_.length/\R7 1 (Ph L P at_ s) v then some h.choose else none
theorem Sk {L P:Nat}(hL:L<=15) {at_:List Nat}(hp:cF L at_) (hm:at_.length<=P) {s v:List F}(hv:v.length=at_.length) (h:R7 1 (Ph L P at_ s) v):Lq L P at_ s=some v:=by
 have hex:∃v:List F,v.length=at_.length/\R7 1 (Ph L P at_ s) v:=⟨v,hv,h⟩
 unfold Lq
 rw[dif_pos hex]
 congr 1
 exact dZ hL hp hm hex.choose_spec.1 hv hex.choose_spec.2 h
theorem Zx {L P:Nat}{at_:List Nat}{s:List F}(h:∀v:List F,v.length=at_.length->¬R7 1 (Ph L P at_ s) v):Lq L P at_ s=none:=by
 unfold Lq
 rw[dif_neg fun⟨v,h1,h2⟩=>h v h1 h2]
theorem Sj {L P:Nat}{at_:List Nat}{s v:List F}(h:Lq L P at_ s=some v):v.length=at_.length/\R7 1 (Ph L P at_ s) v:=by
 unfold Lq at h
 split at h
 ·rename_i hex
  simp only[Option.some.injEq] at h
  rw[←h];exact hex.choose_spec
 ·cases h
end Go.Pw
end
