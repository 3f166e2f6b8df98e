/- A part of the proof. -/
import Derived.Test.YtibkjeolahobbaaGreatDoorPgChrA
import Derived.Test.YtibkjeolahobbaaGreatDoorCorrectSpec
set_option linter.all false
section
open Go Go.Pw Go.Proofs
namespace Go.Pw
set_option maxRecDepth 100000
set_option maxHeartbeats 3200000
theorem j7:(0:Int)<((2:Nat):Int):=by decide
theorem j6:(1:Int)<((2:Nat):Int):=by decide
theorem L4:¬(2:Int)<((2:Nat):Int):=by decide
theorem U7:IntKind.i64.wrap 0=0:=by decide
theorem U6:IntKind.i64.wrap (0-((0:Nat):Int))=0:=by decide
theorem QR {α:Type}(n:Nat) (x:α) (h:0<n):(List.replicate n x).isEmpty=false:=by cases n with
 |zero=>omega
 |succ n=>rfl
attribute [local congr] Bl A_ A' Ar Bm Ay A0 Az Aq Ak Ae Aa Av Af Aw BL BP BN BO BM BQ BF Ai Ax Aj BD BX Ah BJ BK BE BG BI BH BB BC A9 Bn BA Au Ag
attribute [local irreducible] IntKind.wrap A4 Option.getD and or
theorem Ut (n:Nat) (hn:0<n) (hl:n<=1000000):IR E0 DS [] [.d (.list true []),.d (.int .i64 n)] [(22,2,.row 3 1 false [])] (.own 22 2):=by
 refine Di Fd Ap (by simp) (by simp[P_,CV,EY]) (by simp[E_]) fun hwf hwo=>?_
 rw[ES];unfold ED
 have h0:¬(n:Int)<0:=by omega
 have h1:(0:Int)<(n:Int):=by omega
 have hw:IntKind.i64.wrap (n:Int)=(n:Int):=AZ _ (by omega)
 have hw2:IntKind.i64.wrap ((n:Int)-0)=(n:Int):=by rw[Int.sub_zero];exact hw
 (try (simp -implicitDefEqProofs only[go_sem,h0,h1,hw,QR n _ hn,List.length_replicate,U7,U6,hw2,Int.sub_zero]));repeat' first|(with_reducible first|exact tI|refine aI ?_ ?_|intro _)|((first|with_reducible refine AO ?_ ?_<;>intro _)<;>try (simp -implicitDefEqProofs only[go_sem,h0,h1,hw,QR n _ hn,List.length_replicate,U7,U6,hw2,Int.sub_zero]))|simp (disch:=omega) only[Al]
 all_goals first|omega|rfl|(simp at *;done)|skip
theorem Uu:CE E0 DS [.list true [],.int .i64 0] (.list true []):=by
 refine AP Fd Ap (by simp) fun hwf=>?_
 rw[AW];unfold ED
 (try (simp -implicitDefEqProofs only[go_sem,U7,U6,Int.sub_zero]));repeat' first|(with_reducible first|exact tI|refine aI ?_ ?_|intro _)|((first|with_reducible refine AO ?_ ?_<;>intro _)<;>try (simp -implicitDefEqProofs only[go_sem,U7,U6,Int.sub_zero]))|simp (disch:=omega) only[Al]
 all_goals first|omega|rfl|(simp at *;done)|skip
theorem Ur (n:Nat) (hn:0<n) (hl:n<=1000000):IR E0 Bd [] [.d (.list true []),.d (.int .i64 n)] [(22,2,.row 135 1 false [])] (.own 22 2):=by
 refine Di CH Ap (by simp) (by simp[P_,CV,EY]) (by simp[E_]) fun hwf hwo=>?_
 rw[ES];unfold Br
 have h0:¬(n:Int)<0:=by omega
 have h1:(0:Int)<(n:Int):=by omega
 have hw:IntKind.i64.wrap (n:Int)=(n:Int):=AZ _ (by omega)
 have hw2:IntKind.i64.wrap ((n:Int)-0)=(n:Int):=by rw[Int.sub_zero];exact hw
 (try (simp -implicitDefEqProofs only[go_sem,h0,h1,hw,QR n _ hn,List.length_replicate,U7,U6,hw2,Int.sub_zero]));repeat' first|(with_reducible first|exact tI|refine aI ?_ ?_|intro _)|((first|with_reducible refine AO ?_ ?_<;>intro _)<;>try (simp -implicitDefEqProofs only[go_sem,h0,h1,hw,QR n _ hn,List.length_replicate,U7,U6,hw2,Int.sub_zero]))|simp (disch:=omega) only[Al]
 all_goals first|omega|rfl|(simp at *;done)|skip
theorem Us:CE E0 Bd [.list true [],.int .i64 0] (.list true []):=by
 refine AP CH Ap (by simp) fun hwf=>?_
 rw[AW];unfold Br
 (try (simp -implicitDefEqProofs only[go_sem,U7,U6,Int.sub_zero]));repeat' first|(with_reducible first|exact tI|refine aI ?_ ?_|intro _)|((first|with_reducible refine AO ?_ ?_<;>intro _)<;>try (simp -implicitDefEqProofs only[go_sem,U7,U6,Int.sub_zero]))|simp (disch:=omega) only[Al]
 all_goals first|omega|rfl|(simp at *;done)|skip
theorem SG (n1 n2:Bool) (a b:List Int) (ha:a.length<=100000) (hb:b.length<=100000):CE E0 Fe [.list false [.list n1 (Am a),.list n2 (Am b)]] (.list (a++b).isEmpty (Am (a++b))):=by
 refine AP Hx Ap (by simp) fun hwf=>?_
 rw[AW];unfold FE
 have w1:IntKind.i64.wrap (0+(a.length:Int))=(a.length:Int):=by rw[Int.zero_add];exact AZ _ (by omega)
 have w2:IntKind.i64.wrap ((a.length:Int)+(b.length:Int))=((a.length+b.length:Nat):Int):=by rw[AZ _ (by omega)];omega
 have w3:IntKind.i64.wrap (0+1)=1:=by rw[AZ _ (by omega)];rfl
 have w4:IntKind.i64.wrap (1+1)=2:=by rw[AZ _ (by omega)];rfl
 have q1:¬(a.length:Int)<0:=by omega
 have q2:¬((a.length+b.length:Nat):Int)<0:=by omega
 (try (simp -implicitDefEqProofs only[go_sem]));repeat' first|(with_reducible first|exact tI|refine aI ?_ ?_|intro _)|((first|with_reducible refine AO ?_ ?_<;>intro _)<;>try (simp -implicitDefEqProofs only[go_sem]))|simp (disch:=omega) only[Al]|((with_reducible refine Ab ?_);refine⟨(_,_),rfl,?_,?_⟩)|((with_reducible refine A1 ?_);refine⟨_,rfl,?_,?_⟩)
 refine AY (α:=Int×Int) (l0:=?l1) (m0:=?m1) (fun x=>[(11,.d (.int .i64 x.1)),(3,.d (.int .i64 x.2))]) (fun x=>[]) (fun x=>(x.1=0/\x.2=0)\/(x.1=1/\x.2=a.length)\/(x.1=2/\x.2=((a.length+b.length:Nat):Int))) (fun x=>(2-x.1).toNat) (0,0) ?h01 ?he1 ?he21 ?hI1 ?step1
 case h01=>(simp -implicitDefEqProofs only[go_sem];rfl)
 case he1=>rfl
 case he21=>rfl
 case' step1=>(rintro⟨i,n⟩ hI;try dsimp only at hI)
 case' hI1=>try dsimp only
 ·exact .inl ⟨rfl,rfl⟩
 rcases hI with⟨rfl,rfl⟩|⟨rfl,rfl⟩|⟨rfl,rfl⟩
 ·(try (simp -implicitDefEqProofs only[go_sem,w1,w3,q1,j7]));repeat' first|(with_reducible first|exact tI|refine aI ?_ ?_|intro _)|((first|with_reducible refine AO ?_ ?_<;>intro _)<;>try (simp -implicitDefEqProofs only[go_sem,w1,w3,q1,j7]))|simp (disch:=omega) only[Al]|((with_reducible refine Ab ?_);refine⟨(_,_),rfl,?_,?_⟩)|((with_reducible refine A1 ?_);refine⟨_,rfl,?_,?_⟩)
  all_goals first|omega|(simp at *;done)|skip
 ·(try (simp -implicitDefEqProofs only[go_sem,w2,w4,q2,j6]));repeat' first|(with_reducible first|exact tI|refine aI ?_ ?_|intro _)|((first|with_reducible refine AO ?_ ?_<;>intro _)<;>try (simp -implicitDefEqProofs only[go_sem,w2,w4,q2,j6]))|simp (disch:=omega) only[Al]|((with_reducible refine Ab ?_);refine⟨(_,_),rfl,?_,?_⟩)|((with_reducible refine A1 ?_);refine⟨_,rfl,?_,?_⟩)
  all_goals first|omega|(simp at *;done)|skip
 ·by_cases h0:a.length+b.length=0
  ·have ea:a=[]:=List.eq_nil_of_length_eq_zero (by omega)
   have eb:b=[]:=List.eq_nil_of_length_eq_zero (by omega)
   subst ea eb
   have c1:CE E0 DS [.list true [],.int .i64 (((([]:List Int).length+([]:List Int).length:Nat)):Int)] (.list true []):=Uu
   (try (simp -implicitDefEqProofs only[go_sem,L4]));repeat' first|(with_reducible first|exact tI|refine aI ?_ ?_|intro _)|((first|with_reducible refine AO ?_ ?_<;>intro _|(with_reducible refine isCall ?_);first|refine AE c1 ?_)<;>try (simp -implicitDefEqProofs only[go_sem,L4]))|simp (disch:=omega) only[Al]|((with_reducible refine Ab ?_);refine⟨(_,_),rfl,?_,?_⟩)|((with_reducible refine A1 ?_);refine⟨_,rfl,?_,?_⟩)
   refine AY (α:=Int) (l0:=?l2) (m0:=?m2) (fun x=>[(27,.d (.int .i64 x))]) (fun x=>[(33,.row 3 1 true [])]) (fun x=>x=0\/x=1\/x=2) (fun x=>(2-x).toNat) 0 ?h02 ?he2 ?he22 ?hI2 ?step2
   case h02=>(simp -implicitDefEqProofs only[go_sem];rfl)
   case he2=>rfl
   case he22=>rfl
   case' step2=>(rintro i hI2;try dsimp only at hI2)
   case' hI2=>try dsimp only
   ·exact .inl rfl
   rcases hI2 with rfl|rfl|rfl
   ·(try (simp -implicitDefEqProofs only[go_sem,w3]));repeat' first|(with_reducible first|exact tI|refine aI ?_ ?_|intro _)|((first|with_reducible refine AO ?_ ?_<;>intro _)<;>try (simp -implicitDefEqProofs only[go_sem,w3]))|simp (disch:=omega) only[Al]|((with_reducible refine Ab ?_);refine⟨(_,_),rfl,?_,?_⟩)|((with_reducible refine A1 ?_);refine⟨_,rfl,?_,?_⟩)
    all_goals first|omega|(simp at *;done)|skip
   ·(try (simp -implicitDefEqProofs only[go_sem,w4]));repeat' first|(with_reducible first|exact tI|refine aI ?_ ?_|intro _)|((first|with_reducible refine AO ?_ ?_<;>intro _)<;>try (simp -implicitDefEqProofs only[go_sem,w4]))|simp (disch:=omega) only[Al]|((with_reducible refine Ab ?_);refine⟨(_,_),rfl,?_,?_⟩)|((with_reducible refine A1 ?_);refine⟨_,rfl,?_,?_⟩)
    all_goals first|omega|(simp at *;done)|skip
   ·(try (simp -implicitDefEqProofs only[go_sem,L4]));repeat' first|(with_reducible first|exact tI|refine aI ?_ ?_|intro _)|((first|with_reducible refine AO ?_ ?_<;>intro _)<;>try (simp -implicitDefEqProofs only[go_sem,L4]))|simp (disch:=omega) only[Al]|((with_reducible refine Ab ?_);refine⟨(_,_),rfl,?_,?_⟩)|((with_reducible refine A1 ?_);refine⟨_,rfl,?_,?_⟩)
    all_goals first|omega|(simp at *;done)|rfl|skip
  ·have he:(a++b).isEmpty=false:=by cases a<;>cases b<;>simp_all
   have c1:=Ut (a.length+b.length) (by omega) (by omega)
   (try (simp -implicitDefEqProofs only[go_sem,L4]));repeat' first|(with_reducible first|exact tI|refine aI ?_ ?_|intro _)|((first|with_reducible refine AO ?_ ?_<;>intro _|(with_reducible refine isCall ?_);first|(refine FA ([]) ([((22,2),(24,1))]) (c1) (by repeat' first|exact True.intro|exact rfl|refine And.intro ?_ ?_) (by simp[Handed,Dm.get,Ad.ren,AV.ren,AV.ren.renL,AN.get,Bb,CI,D8,AN.reach,AV.sites,AV.sites.sitesL,AN.osites]) (by simp[CQ,E_,CV,Dm.get,D8,EY,CL]) (by rfl) (by simp only[D9,Dm.get,Ad.ren,AV.ren,AV.ren.renL,and_self,and_true,true_and,if_true,reduceIte];rfl) ?_))<;>try (simp -implicitDefEqProofs only[go_sem,L4]))|simp (disch:=omega) only[Al]|((with_reducible refine Ab ?_);refine⟨(_,_),rfl,?_,?_⟩)|((with_reducible refine A1 ?_);refine⟨_,rfl,?_,?_⟩)
   refine AY (α:=Int×(List Int)) (l0:=?l3) (m0:=?m3) (fun x=>[(27,.d (.int .i64 x.1))]) (fun x=>[(24,.row 3 1 false (Am x.2))]) (fun x=>(x.1=0/\x.2=[])\/(x.1=1/\x.2=a)\/(x.1=2/\x.2=a++b)) (fun x=>(2-x.1).toNat) (0,[]) ?h03 ?he3 ?he23 ?hI3 ?step3
   case h03=>(simp -implicitDefEqProofs only[go_sem];rfl)
   case he3=>rfl
   case he23=>rfl
   case' step3=>(rintro⟨i,l⟩ hI3;try dsimp only at hI3)
   case' hI3=>try dsimp only
   ·exact .inl ⟨rfl,rfl⟩
   rcases hI3 with⟨rfl,rfl⟩|⟨rfl,rfl⟩|⟨rfl,rfl⟩
   ·(try (simp -implicitDefEqProofs only[go_sem,w3,List.nil_append]));repeat' first|(with_reducible first|exact tI|refine aI ?_ ?_|intro _)|((first|with_reducible refine AO ?_ ?_<;>intro _)<;>try (simp -implicitDefEqProofs only[go_sem,w3,List.nil_append]))|simp (disch:=omega) only[Al]|((with_reducible refine Ab ?_);refine⟨(_,_),rfl,?_,?_⟩)|((with_reducible refine A1 ?_);refine⟨_,rfl,?_,?_⟩)
    all_goals first|omega|(simp at *;done)|skip
   ·(try (simp -implicitDefEqProofs only[go_sem,w4]));repeat' first|(with_reducible first|exact tI|refine aI ?_ ?_|intro _)|((first|with_reducible refine AO ?_ ?_<;>intro _)<;>try (simp -implicitDefEqProofs only[go_sem,w4]))|simp (disch:=omega) only[Al]|((with_reducible refine Ab ?_);refine⟨(_,_),rfl,?_,?_⟩)|((with_reducible refine A1 ?_);refine⟨_,rfl,?_,?_⟩)
    all_goals first|omega|(simp at *;done)|skip
   ·(try (simp -implicitDefEqProofs only[go_sem,he,L4]));repeat' first|(with_reducible first|exact tI|refine aI ?_ ?_|intro _)|((first|with_reducible refine AO ?_ ?_<;>intro _)<;>try (simp -implicitDefEqProofs only[go_sem,he,L4]))|simp (disch:=omega) only[Al]|((with_reducible refine Ab ?_);refine⟨(_,_),rfl,?_,?_⟩)|((with_reducible refine A1 ?_);refine⟨_,rfl,?_,?_⟩)
    all_goals first|omega|(simp at *;done)|rfl|skip
theorem SF (n1 n2:Bool) (a b:List F) (ha:a.length<=100000) (hb:b.length<=100000):CE E0 CJ [.list false [.list n1 (us a),.list n2 (us b)]] (.list (a++b).isEmpty (us (a++b))):=by
 refine AP Dc Ap (by simp) fun hwf=>?_
 rw[AW];unfold CD
 have w1:IntKind.i64.wrap (0+(a.length:Int))=(a.length:Int):=by rw[Int.zero_add];exact AZ _ (by omega)
 have w2:IntKind.i64.wrap ((a.length:Int)+(b.length:Int))=((a.length+b.length:Nat):Int):=by rw[AZ _ (by omega)];omega
 have w3:IntKind.i64.wrap (0+1)=1:=by rw[AZ _ (by omega)];rfl
 have w4:IntKind.i64.wrap (1+1)=2:=by rw[AZ _ (by omega)];rfl
 have q1:¬(a.length:Int)<0:=by omega
 have q2:¬((a.length+b.length:Nat):Int)<0:=by omega
 (try (simp -implicitDefEqProofs only[go_sem]));repeat' first|(with_reducible first|exact tI|refine aI ?_ ?_|intro _)|((first|with_reducible refine AO ?_ ?_<;>intro _)<;>try (simp -implicitDefEqProofs only[go_sem]))|simp (disch:=omega) only[Al]|((with_reducible refine Ab ?_);refine⟨(_,_),rfl,?_,?_⟩)|((with_reducible refine A1 ?_);refine⟨_,rfl,?_,?_⟩)
 refine AY (α:=Int×Int) (l0:=?l4) (m0:=?m4) (fun x=>[(11,.d (.int .i64 x.1)),(3,.d (.int .i64 x.2))]) (fun x=>[]) (fun x=>(x.1=0/\x.2=0)\/(x.1=1/\x.2=a.length)\/(x.1=2/\x.2=((a.length+b.length:Nat):Int))) (fun x=>(2-x.1).toNat) (0,0) ?h04 ?he4 ?he24 ?hI4 ?step4
 case h04=>(simp -implicitDefEqProofs only[go_sem];rfl)
 case he4=>rfl
 case he24=>rfl
 case' step4=>(rintro⟨i,n⟩ hI;try dsimp only at hI)
 case' hI4=>try dsimp only
 ·exact .inl ⟨rfl,rfl⟩
 rcases hI with⟨rfl,rfl⟩|⟨rfl,rfl⟩|⟨rfl,rfl⟩
 ·(try (simp -implicitDefEqProofs only[go_sem,w1,w3,q1,j7]));repeat' first|(with_reducible first|exact tI|refine aI ?_ ?_|intro _)|((first|with_reducible refine AO ?_ ?_<;>intro _)<;>try (simp -implicitDefEqProofs only[go_sem,w1,w3,q1,j7]))|simp (disch:=omega) only[Al]|((with_reducible refine Ab ?_);refine⟨(_,_),rfl,?_,?_⟩)|((with_reducible refine A1 ?_);refine⟨_,rfl,?_,?_⟩)
  all_goals first|omega|(simp at *;done)|skip
 ·(try (simp -implicitDefEqProofs only[go_sem,w2,w4,q2,j6]));repeat' first|(with_reducible first|exact tI|refine aI ?_ ?_|intro _)|((first|with_reducible refine AO ?_ ?_<;>intro _)<;>try (simp -implicitDefEqProofs only[go_sem,w2,w4,q2,j6]))|simp (disch:=omega) only[Al]|((with_reducible refine Ab ?_);refine⟨(_,_),rfl,?_,?_⟩)|((with_reducible refine A1 ?_);refine⟨_,rfl,?_,?_⟩)
  all_goals first|omega|(simp at *;done)|skip
 ·by_cases h0:a.length+b.length=0
  ·have ea:a=[]:=List.eq_nil_of_length_eq_zero (by omega)
   have eb:b=[]:=List.eq_nil_of_length_eq_zero (by omega)
   subst ea eb
   have c1:CE E0 Bd [.list true [],.int .i64 (((([]:List F).length+([]:List F).length:Nat)):Int)] (.list true []):=Us
   (try (simp -implicitDefEqProofs only[go_sem,L4]));repeat' first|(with_reducible first|exact tI|refine aI ?_ ?_|intro _)|((first|with_reducible refine AO ?_ ?_<;>intro _|(with_reducible refine isCall ?_);first|refine AE c1 ?_)<;>try (simp -implicitDefEqProofs only[go_sem,L4]))|simp (disch:=omega) only[Al]|((with_reducible refine Ab ?_);refine⟨(_,_),rfl,?_,?_⟩)|((with_reducible refine A1 ?_);refine⟨_,rfl,?_,?_⟩)
   refine AY (α:=Int) (l0:=?l5) (m0:=?m5) (fun x=>[(27,.d (.int .i64 x))]) (fun x=>[(33,.row 135 1 true [])]) (fun x=>x=0\/x=1\/x=2) (fun x=>(2-x).toNat) 0 ?h05 ?he5 ?he25 ?hI5 ?step5
   case h05=>(simp -implicitDefEqProofs only[go_sem];rfl)
   case he5=>rfl
   case he25=>rfl
   case' step5=>(rintro i hI2;try dsimp only at hI2)
   case' hI5=>try dsimp only
   ·exact .inl rfl
   rcases hI2 with rfl|rfl|rfl
   ·(try (simp -implicitDefEqProofs only[go_sem,w3]));repeat' first|(with_reducible first|exact tI|refine aI ?_ ?_|intro _)|((first|with_reducible refine AO ?_ ?_<;>intro _)<;>try (simp -implicitDefEqProofs only[go_sem,w3]))|simp (disch:=omega) only[Al]|((with_reducible refine Ab ?_);refine⟨(_,_),rfl,?_,?_⟩)|((with_reducible refine A1 ?_);refine⟨_,rfl,?_,?_⟩)
    all_goals first|omega|(simp at *;done)|skip
   ·(try (simp -implicitDefEqProofs only[go_sem,w4]));repeat' first|(with_reducible first|exact tI|refine aI ?_ ?_|intro _)|((first|with_reducible refine AO ?_ ?_<;>intro _)<;>try (simp -implicitDefEqProofs only[go_sem,w4]))|simp (disch:=omega) only[Al]|((with_reducible refine Ab ?_);refine⟨(_,_),rfl,?_,?_⟩)|((with_reducible refine A1 ?_);refine⟨_,rfl,?_,?_⟩)
    all_goals first|omega|(simp at *;done)|skip
   ·(try (simp -implicitDefEqProofs only[go_sem,L4]));repeat' first|(with_reducible first|exact tI|refine aI ?_ ?_|intro _)|((first|with_reducible refine AO ?_ ?_<;>intro _)<;>try (simp -implicitDefEqProofs only[go_sem,L4]))|simp (disch:=omega) only[Al]|((with_reducible refine Ab ?_);refine⟨(_,_),rfl,?_,?_⟩)|((with_reducible refine A1 ?_);refine⟨_,rfl,?_,?_⟩)
    all_goals first|omega|(simp at *;done)|rfl|skip
  ·have he:(a++b).isEmpty=false:=by cases a<;>cases b<;>simp_all
   have c1:=Ur (a.length+b.length) (by omega) (by omega)
   (try (simp -implicitDefEqProofs only[go_sem,L4]));repeat' first|(with_reducible first|exact tI|refine aI ?_ ?_|intro _)|((first|with_reducible refine AO ?_ ?_<;>intro _|(with_reducible refine isCall ?_);first|(refine FA ([]) ([((22,2),(24,1))]) (c1) (by repeat' first|exact True.intro|exact rfl|refine And.intro ?_ ?_) (by simp[Handed,Dm.get,Ad.ren,AV.ren,AV.ren.renL,AN.get,Bb,CI,D8,AN.reach,AV.sites,AV.sites.sitesL,AN.osites]) (by simp[CQ,E_,CV,Dm.get,D8,EY,CL]) (by rfl) (by simp only[D9,Dm.get,Ad.ren,AV.ren,AV.ren.renL,and_self,and_true,true_and,if_true,reduceIte];rfl) ?_))<;>try (simp -implicitDefEqProofs only[go_sem,L4]))|simp (disch:=omega) only[Al]|((with_reducible refine Ab ?_);refine⟨(_,_),rfl,?_,?_⟩)|((with_reducible refine A1 ?_);refine⟨_,rfl,?_,?_⟩)
   refine AY (α:=Int×(List F)) (l0:=?l6) (m0:=?m6) (fun x=>[(27,.d (.int .i64 x.1))]) (fun x=>[(24,.row 135 1 false (us x.2))]) (fun x=>(x.1=0/\x.2=[])\/(x.1=1/\x.2=a)\/(x.1=2/\x.2=a++b)) (fun x=>(2-x.1).toNat) (0,[]) ?h06 ?he6 ?he26 ?hI6 ?step6
   case h06=>(simp -implicitDefEqProofs only[go_sem];rfl)
   case he6=>rfl
   case he26=>rfl
   case' step6=>(rintro⟨i,l⟩ hI3;try dsimp only at hI3)
   case' hI6=>try dsimp only
   ·exact .inl ⟨rfl,rfl⟩
   rcases hI3 with⟨rfl,rfl⟩|⟨rfl,rfl⟩|⟨rfl,rfl⟩
   ·(try (simp -implicitDefEqProofs only[go_sem,w3,List.nil_append]));repeat' first|(with_reducible first|exact tI|refine aI ?_ ?_|intro _)|((first|with_reducible refine AO ?_ ?_<;>intro _)<;>try (simp -implicitDefEqProofs only[go_sem,w3,List.nil_append]))|simp (disch:=omega) only[Al]|((with_reducible refine Ab ?_);refine⟨(_,_),rfl,?_,?_⟩)|((with_reducible refine A1 ?_);refine⟨_,rfl,?_,?_⟩)
    all_goals first|omega|(simp at *;done)|skip
   ·(try (simp -implicitDefEqProofs only[go_sem,w4]));repeat' first|(with_reducible first|exact tI|refine aI ?_ ?_|intro _)|((first|with_reducible refine AO ?_ ?_<;>intro _)<;>try (simp -implicitDefEqProofs only[go_sem,w4]))|simp (disch:=omega) only[Al]|((with_reducible refine Ab ?_);refine⟨(_,_),rfl,?_,?_⟩)|((with_reducible refine A1 ?_);refine⟨_,rfl,?_,?_⟩)
    all_goals first|omega|(simp at *;done)|skip
   ·(try (simp -implicitDefEqProofs only[go_sem,he,L4]));repeat' first|(with_reducible first|exact tI|refine aI ?_ ?_|intro _)|((first|with_reducible refine AO ?_ ?_<;>intro _)<;>try (simp -implicitDefEqProofs only[go_sem,he,L4]))|simp (disch:=omega) only[Al]|((with_reducible refine Ab ?_);refine⟨(_,_),rfl,?_,?_⟩)|((with_reducible refine A1 ?_);refine⟨_,rfl,?_,?_⟩)
    all_goals first|omega|(simp at *;done)|rfl|skip
end Go.Pw
end
section
namespace Go.Pw
def Fh:List F->List F->F
 |a::asq,b::bs=>fa (fm a b) (Fh asq bs)
 |_,_=>0
def Gn (r o:List F) (b:F):List F:=List.zipWith (fun x y=>fa x (fm y b)) r o
def Ht (r:List F) (b:F):List F:=r.map fun x=>fm x b
def Eg (r:List F) (j:Nat):F:=r[j]?.getD 0
def Bh (M:List (List F)) (i:Nat):List F:=M[i]?.getD []
def Dj (M:List (List F)) (i j:Nat):F:=Eg (Bh M i) j
theorem kg (a b c:F):fa a (fa b c)=fa b (fa a c):=by rw[←EK,Nw a b,EK]
theorem qD (a b c d:F):fa (fa a b) (fa c d)=fa (fa a c) (fa b d):=by rw[EK,EK,kg b c d]
theorem mC (a b c:F):fm (fa a b) c=fa (fm a c) (fm b c):=by rw[Dt,MT,Dt c a,Dt c b]
theorem Nu (a b c:F):fm a (fm b c)=fm b (fm a c):=by rw[←Ft,Dt a b,Ft]
theorem Lw (w:List F):Fh [] w=0:=rfl
theorem RX (w:List F):Fh w []=0:=by cases w<;>rfl
theorem D3 (a b:F) (asq bs:List F):Fh (a::asq) (b::bs)=fa (fm a b) (Fh asq bs):=rfl
theorem Nz (b:F):∀(r o w:List F),r.length=o.length->Fh (Gn r o b) w=fa (Fh r w) (fm b (Fh o w))
 |[],[],w,_=>by simp[Gn,Lw,Dr,DE]
 |x::r,y::o,[],_=>by simp[RX,Dr,DE]
 |x::r,y::o,c::w,h=>by
  have ih:=Nz b r o w (by simpa using h)
  simp only[Gn,List.zipWith_cons_cons,D3] at ih ⊢
  rw[ih,mC,MT,Ft,Nu,qD]
theorem RV (b:F):∀(r w:List F),Fh (Ht r b) w=fm b (Fh r w)
 |[],w=>by simp[Ht,Lw,Dr]
 |x::r,[]=>by simp[RX,Dr]
 |x::r,c::w=>by
  have ih:=RV b r w
  simp only[Ht,List.map_cons,D3] at ih ⊢
  rw[ih,MT,Ft,Nu]
theorem RU (x y:F):∀(r w:List F),r.length=w.length->Fh (r++[x]) (w++[y])=fa (Fh r w) (fm x y)
 |[],[],_=>by simp[Fh,DE,JZ]
 |a::r,b::w,h=>by
  have ih:=RU x y r w (by simpa using h)
  simp only[List.cons_append,D3]
  rw[ih,EK]
theorem QY:∀(r w:List F) (i:Nat),i<r.length->r.length=w.length->(∀j,j≠i->fm (Eg r j) (Eg w j)=0)->Fh r w=fm (Eg r i) (Eg w i)
 |a::r,b::w,0,_,hl,h=>by
  have hz:Fh r w=0:=by
   have key:∀(r w:List F),(∀j,fm (Eg r j) (Eg w j)=0)->Fh r w=0:=by
    intro r
    induction r with
    |nil=>intro w _;rfl
    |cons a r ih =>
     intro w h
     cases w with
     |nil=>rfl
     |cons b w =>
      rw[D3,ih w fun j=>h (j+1),show fm a b=0 from h 0];rfl
   exact key r w fun j=>h (j+1) (by omega)
  rw[D3,hz,DE];rfl
 |a::r,b::w,i+1,hi,hl,h=>by
  have ih:=QY r w i (by simpa using hi) (by simpa using hl) fun j hj=>h (j+1) (by omega)
  rw[D3,ih,show fm a b=0 from h 0 (by omega),JZ];rfl
theorem UZ:∀(r w:List F) (i k:Nat),i<k->k<r.length->r.length=w.length->(∀j,j≠i->j≠k->fm (Eg r j) (Eg w j)=0)->Fh r w=fa (fm (Eg r i) (Eg w i)) (fm (Eg r k) (Eg w k))
 |a::r,b::w,0,k+1,_,hk,hl,h=>by
  rw[D3,QY r w k (by simpa using hk) (by simpa using hl) fun j hj=>h (j+1) (by omega) (by omega)];rfl
 |a::r,b::w,i+1,k+1,hik,hk,hl,h=>by
  have ih:=UZ r w i k (by omega) (by simpa using hk) (by simpa using hl) fun j hj hj2=>h (j+1) (by omega) (by omega)
  rw[D3,ih,show fm a b=0 from h 0 (by omega) (by omega),JZ];rfl
def SI (c:F) (M:List (List F)) (v:List F):Prop:=∀i,i<M.length->Fh (Bh M i) (v++[c])=0
structure SE (M:List (List F)) (n m:Nat):Prop where
 len:M.length=n
 row:∀i,i<n->(Bh M i).length=m
def Bj (f:F->F->F) (M:List (List F)) (k:Nat):List (List F):=(List.range M.length).map fun i=>if i=k then Bh M k else Gn (Bh M i) (Bh M k) (f (Dj M i k) (Dj M k k))
def swp (M:List (List F)) (k p:Nat):List (List F):=(M.set k (Bh M p)).set p (Bh M k)
theorem Mm {α:Type}(n i:Nat) (g:Nat->List F) (h:i<n):Bh ((List.range n).map g) i=g i:=by simp[Bh,h]
theorem GW (M:List (List F)) (k i:Nat) (r:List F) (hk:k<M.length):Bh (M.set k r) i=if i=k then r else Bh M i:=by
 unfold Bh
 by_cases h:i=k
 ·subst h;simp[hk]
 ·rw[List.getElem?_set_ne (fun e=>h e.symm),if_neg h]
theorem DY (f:F->F->F) (M:List (List F)) (k i:Nat) (h:i<M.length):Bh (Bj f M k) i=if i=k then Bh M k else Gn (Bh M i) (Bh M k) (f (Dj M i k) (Dj M k k)) :=
 Mm (α:=F) M.length i _ h
theorem Ek (M:List (List F)) (k p i:Nat) (hk:k<M.length) (hp:p<M.length):Bh (swp M k p) i=if i=p then Bh M k else if i=k then Bh M p else Bh M i:=by
 unfold swp
 rw[GW _ _ _ _ (by simpa using hp),GW _ _ _ _ hk]
theorem Oa (r o:List F) (b:F) (h:r.length=o.length):(Gn r o b).length=r.length:=by simp[Gn,h]
theorem Ve (r:List F) (b:F):(Ht r b).length=r.length:=by simp[Ht]
theorem SE.swp {M:List (List F)}{n m k p:Nat}(h:SE M n m) (hk:k<n) (hp:p<n):SE (swp M k p) n m:=by
 have hl:=h.len
 refine⟨by simp[Go.Pw.swp,hl],fun i hi=>?_⟩
 rw[Ek _ _ _ _ (by omega) (by omega)]
 split
 ·exact h.row k hk
 ·split
  ·exact h.row p hp
  ·exact h.row i hi
theorem SE.scl {M:List (List F)}{n m k:Nat}(h:SE M n m) (hk:k<n) (b:F):SE (M.set k (Ht (Bh M k) b)) n m:=by
 have hl:=h.len
 refine⟨by simp[hl],fun i hi=>?_⟩
 rw[GW _ _ _ _ (by omega)]
 split
 ·rw[Ve];exact h.row k hk
 ·exact h.row i hi
theorem SE.red {M:List (List F)}{n m k:Nat}(f:F->F->F) (h:SE M n m) (hk:k<n):SE (Bj f M k) n m:=by
 have hl:=h.len
 refine⟨by simp[Bj,hl],fun i hi=>?_⟩
 rw[DY _ _ _ _ (by omega)]
 split
 ·exact h.row k hk
 ·rw[Oa]
  ·exact h.row i hi
  ·rw[h.row i hi,h.row k hk]
theorem Zq {M:List (List F)}{n m k p:Nat}(h:SE M n m) (hk:k<n) (hp:p<n) (c:F) (v:List F):SI c (swp M k p) v↔SI c M v:=by
 have hl:=h.len
 have hl2:=(h.swp hk hp).len
 constructor
 ·intro hs i hi
  by_cases h1:i=k
  ·subst h1
   have:=hs p (by omega)
   rwa [Ek _ _ _ _ (by omega) (by omega),if_pos rfl] at this
  ·by_cases h2:i=p
   ·subst h2
    have:=hs k (by omega)
    rwa [Ek _ _ _ _ (by omega) (by omega),if_neg (fun e=>h1 e.symm),if_pos rfl] at this
   ·have:=hs i (by omega)
    rwa [Ek _ _ _ _ (by omega) (by omega),if_neg h2,if_neg h1] at this
 ·intro hs i hi
  rw[Ek _ _ _ _ (by omega) (by omega)]
  split
  ·exact hs k (by omega)
  ·split
   ·exact hs p (by omega)
   ·exact hs i (by omega)
theorem lX {M:List (List F)}{n m k:Nat}(h:SE M n m) (hk:k<n) {b:F}(hb:b≠0) (c:F) (v:List F):SI c (M.set k (Ht (Bh M k) b)) v↔SI c M v:=by
 have hl:=h.len
 constructor
 ·intro hs i hi
  have:=hs i (by simpa using hi)
  rw[GW _ _ _ _ (by omega)] at this
  split at this
  ·rename_i e;subst e
   rw[RV] at this
   exact(RM _ _ this).resolve_left hb
  ·exact this
 ·intro hs i hi
  rw[GW _ _ _ _ (by omega)]
  split
  ·rename_i e;subst e;rw[RV,hs i (by omega),Dr]
  ·exact hs i (by simpa using hi)
theorem Zr {M:List (List F)}{n m k:Nat}(f:F->F->F) (h:SE M n m) (hk:k<n) (c:F) (v:List F):SI c (Bj f M k) v↔SI c M v:=by
 have hl:=h.len
 have hl2:=(h.red f hk).len
 constructor
 ·intro hs i hi
  have h1:=hs k (by omega)
  rw[DY _ _ _ _ (by omega),if_pos rfl] at h1
  by_cases hik:i=k
  ·subst hik;exact h1
  ·have h2:=hs i (by omega)
   rw[DY _ _ _ _ (by omega),if_neg hik,Nz _ _ _ _ (by rw[h.row i (by omega),h.row k hk]),h1,Dr,DE] at h2
   exact h2
 ·intro hs i hi
  rw[DY _ _ _ _ (by omega)]
  split
  ·exact hs k (by omega)
  ·rw[Nz _ _ _ _ (by rw[h.row i (by omega),h.row k hk]),hs i (by omega),hs k (by omega),Dr,DE]
structure ce (M:List (List F)) (k:Nat):Prop where
 off:∀i j,i<M.length->j<k->i≠j->Dj M i j=0
 dia:∀j,j<k->Dj M j j≠0
theorem OX (r o:List F) (b:F) (j:Nat) (h:r.length=o.length):Eg (Gn r o b) j=fa (Eg r j) (fm (Eg o j) b):=by
 unfold Eg Gn
 rw[List.getElem?_zipWith]
 by_cases hj:j<r.length
 ·rw[List.getElem?_eq_getElem hj,List.getElem?_eq_getElem (by omega)];rfl
 ·rw[List.getElem?_eq_none (by omega),List.getElem?_eq_none (l:=o) (by omega)]
  show (0:F)=fa 0 (fm 0 b)
  rw[Cf];rfl
theorem R4 (r:List F) (b:F) (j:Nat):Eg (Ht r b) j=fm (Eg r j) b:=by
 unfold Eg Ht
 rw[List.getElem?_map]
 cases r[j]? with
 |none=>exact(Cf b).symm
 |some x=>rfl
theorem ce.swp {M:List (List F)}{n m k p:Nat}(hs:SE M n m) (h:ce M k) (hk:k<n) (hkp:k<=p) (hp:p<n):ce (swp M k p) k:=by
 have hl:=hs.len
 have hl2:=(hs.swp hk hp).len
 refine⟨fun i j hi hj hij=>?_,fun j hj=>?_⟩
 ·unfold Dj
  rw[Ek _ _ _ _ (by omega) (by omega)]
  split
  ·exact h.off k j (by omega) hj (by omega)
  ·split
   ·exact h.off p j (by omega) hj (by omega)
   ·exact h.off i j (by omega) hj hij
 ·unfold Dj
  rw[Ek _ _ _ _ (by omega) (by omega),if_neg (by omega),if_neg (by omega)]
  exact h.dia j hj
theorem Zf {M:List (List F)}{n m k p:Nat}(hs:SE M n m) (hk:k<n) (hp:p<n) (j:Nat):Dj (swp M k p) k j=Dj M p j:=by
 have hl:=hs.len
 unfold Dj
 rw[Ek _ _ _ _ (by omega) (by omega)]
 split
 ·rename_i e;subst e;rfl
 ·rw[if_pos rfl]
theorem ce.scl {M:List (List F)}{n m k:Nat}(hs:SE M n m) (h:ce M k) (hk:k<n) (b:F):ce (M.set k (Ht (Bh M k) b)) k:=by
 have hl:=hs.len
 refine⟨fun i j hi hj hij=>?_,fun j hj=>?_⟩
 ·unfold Dj
  rw[GW _ _ _ _ (by omega)]
  split
  ·rw[R4,show Eg (Bh M k) j=0 from h.off k j (by omega) hj (by omega),Cf]
  ·exact h.off i j (by simpa using hi) hj hij
 ·unfold Dj
  rw[GW _ _ _ _ (by omega),if_neg (by omega)]
  exact h.dia j hj
theorem Zg {M:List (List F)}{n m k:Nat}(hs:SE M n m) (hk:k<n) (b:F) (i j:Nat):Dj (M.set k (Ht (Bh M k) b)) i j=if i=k then fm (Dj M k j) b else Dj M i j:=by
 have hl:=hs.len
 unfold Dj
 rw[GW _ _ _ _ (by omega)]
 split
 ·rw[R4]
 ·rfl
theorem ce.red {M:List (List F)}{n m k:Nat}(f:F->F->F) (hs:SE M n m) (h:ce M k) (hk:k<n) (hd:Dj M k k≠0) (hf:∀a,fm (Dj M k k) (f a (Dj M k k))=a):ce (Bj f M k) (k+1):=by
 have hl:=hs.len
 have hl2:=(hs.red f hk).len
 have e:∀i j,i<n->Dj (Bj f M k) i j=if i=k then Dj M k j else fa (Dj M i j) (fm (Dj M k j) (f (Dj M i k) (Dj M k k))):=fun i j hi=>by
  show Eg (Bh (Bj f M k) i) j=_
  rw[DY _ _ _ _ (by omega)]
  split
  ·rfl
  ·rw[OX _ _ _ _ (by rw[hs.row i hi,hs.row k hk])];rfl
 refine⟨fun i j hi hj hij=>?_,fun j hj=>?_⟩
 ·rw[e i j (by omega)]
  rcases Nat.lt_succ_iff_lt_or_eq.1 hj with hj|rfl
  ·split
   ·exact h.off k j (by omega) hj (by omega)
   ·rw[h.off i j (by omega) hj hij,h.off k j (by omega) hj (by omega),Cf];rfl
  ·rw[if_neg hij,hf,Fu]
 ·rcases Nat.lt_succ_iff_lt_or_eq.1 hj with hj|rfl
  ·rw[e j j (by omega),if_neg (by omega),h.off k j (by omega) hj (by omega),Cf,DE];exact h.dia j hj
  ·rw[e j j (by omega),if_pos rfl];exact hd
theorem Ps {M:List (List F)}{n m k:Nat}(f:F->F->F) (hs:SE M n m) (h:ce M k) (hk:k<n) (j:Nat) (hj:j<=k):Dj (Bj f M k) j j=Dj M j j:=by
 have hl:=hs.len
 show Eg (Bh (Bj f M k) j) j=_
 rw[DY _ _ _ _ (by omega)]
 split
 ·rename_i e;subst e;rfl
 ·rename_i hne
  rw[OX _ _ _ _ (by rw[hs.row j (by omega),hs.row k hk]),show Eg (Bh M k) j=0 from h.off k j (by omega) (by omega) (by omega),Cf,DE];rfl
theorem Jx (v:List F) (c:F) (j:Nat) (h:j<v.length):Eg (v++[c]) j=Eg v j:=by unfold Eg;rw[List.getElem?_append_left h]
theorem NH (v:List F) (c:F):Eg (v++[c]) v.length=c:=by unfold Eg;simp
theorem Um (v:List F) (j:Nat) (h:v.length<=j):Eg v j=0:=by unfold Eg;rw[List.getElem?_eq_none h];rfl
theorem ZG {M:List (List F)}{n m:Nat}(hs:SE M n (m+1)) (h:ce M m) (hm:m<=n) (v:List F) (hv:v.length=m) :
  SI 1 M v↔(∀i,i<m->fm (Dj M i i) (Eg v i)=Dj M i m)/\∀i,m<=i->i<n->Dj M i m=0:=by
 have hl:=hs.len
 have hw:(v++[1]).length=m+1:=by simp[hv]
 have low:∀i,i<m->Fh (Bh M i) (v++[1])=fa (fm (Dj M i i) (Eg v i)) (Dj M i m):=fun i hi=>by
  rw[UZ (Bh M i) (v++[1]) i m hi (by rw[hs.row i (by omega)];omega) (by rw[hs.row i (by omega),hw]) fun j h1 h2=>?_]
  ·rw[Jx _ _ _ (by omega),show Eg (v++[1]) m=1 by rw[←hv];exact NH v 1,Jn];rfl
  ·by_cases hj:j<m
   ·rw[show Eg (Bh M i) j=0 from h.off i j (by omega) hj (fun e=>h1 e.symm),Cf]
   ·rw[Um (Bh M i) j (by rw[hs.row i (by omega)];omega),Cf]
 have high:∀i,m<=i->i<n->Fh (Bh M i) (v++[1])=Dj M i m:=fun i hi hi2=>by
  rw[QY (Bh M i) (v++[1]) m (by rw[hs.row i (by omega)];omega) (by rw[hs.row i (by omega),hw]) fun j h1=>?_]
  ·rw[show Eg (v++[1]) m=1 by rw[←hv];exact NH v 1,Jn];rfl
  ·by_cases hj:j<m
   ·rw[show Eg (Bh M i) j=0 from h.off i j (by omega) hj (by omega),Cf]
   ·rw[Um (Bh M i) j (by rw[hs.row i (by omega)];omega),Cf]
 constructor
 ·intro hsat
  refine⟨fun i hi=>?_,fun i hi hi2=>?_⟩
  ·have:=hsat i (by omega)
   rw[low i hi] at this
   exact HW _ _ this
  ·have:=hsat i (by omega)
   rwa [high i hi hi2] at this
 ·rintro⟨h1,h2⟩ i hi
  by_cases him:i<m
  ·rw[low i him,h1 i him,Fu]
  ·rw[high i (by omega) (by omega)];exact h2 i (by omega) (by omega)
theorem du {M:List (List F)}{n m k:Nat}(hs:SE M n (m+1)) (h:ce M k) (hk:k<m) (hm:m<=n) (hz:∀i,k<=i->i<n->Dj M i k=0) :
  ∃v:List F,v.length=m/\SI 0 M v/\Eg v k=1:=by
 have hl:=hs.len
 obtain⟨v,hvd⟩:∃v:List F,v=(List.range m).map fun j=>if j<k then fm (Dj M j k) (fi (Dj M j j)) else if j=k then 1 else 0:=⟨_,rfl⟩
 have hv:v.length=m:=by simp[hvd]
 have ha:∀j,j<m->Eg v j=if j<k then fm (Dj M j k) (fi (Dj M j j)) else if j=k then 1 else 0:=fun j hj=>by rw[hvd];simp[Eg,hj]
 have hvk:Eg v k=1:=by rw[ha k hk,if_neg (by omega),if_pos rfl]
 refine⟨v,hv,fun i hi=>?_,hvk⟩
 have hw:(v++[0]).length=m+1:=by simp[hv]
 have hw0:∀j,j≠k->¬j<k->Eg (v++[0]) j=0:=fun j h1 h2=>by
  by_cases hj:j<m
  ·rw[Jx _ _ _ (by omega),ha j hj,if_neg h2,if_neg h1]
  ·by_cases hjm:j=m
   ·subst hjm;rw[←hv];exact NH v 0
   ·exact Um _ _ (by omega)
 have hwk:Eg (v++[0]) k=1:=by rw[Jx _ _ _ (by omega)];exact hvk
 by_cases hik:i<k
 ·rw[UZ (Bh M i) (v++[0]) i k hik (by rw[hs.row i (by omega)];omega) (by rw[hs.row i (by omega),hw]) fun j h1 h2=>?_]
  ·rw[hwk,Jn,Jx _ _ _ (by omega),ha i (by omega),if_pos hik]
   show fa (fm (Dj M i i) (fm (Dj M i k) (fi (Dj M i i)))) (Dj M i k)=0
   rw[Nu,l_ _ (h.dia i hik),Jn,Fu]
  ·by_cases hj:j<k
   ·rw[show Eg (Bh M i) j=0 from h.off i j (by omega) hj (fun e=>h1 e.symm),Cf]
   ·rw[hw0 j h2 hj,Dr]
 ·rw[QY (Bh M i) (v++[0]) k (by rw[hs.row i (by omega)];omega) (by rw[hs.row i (by omega),hw]) fun j h1=>?_]
  ·rw[show Eg (Bh M i) k=0 from hz i (by omega) (by omega),Cf]
  ·by_cases hj:j<k
   ·rw[show Eg (Bh M i) j=0 from h.off i j (by omega) hj (by omega),Cf]
   ·rw[hw0 j h1 hj,Dr]
end Go.Pw
end
section
namespace Go.Pw
def R_ (v w:List F):List F:=List.zipWith fa v w
theorem g0 (v w:List F) (h:v.length=w.length):(R_ v w).length=v.length:=by simp[R_,h]
theorem gj (v w:List F) (j:Nat) (h:v.length=w.length):Eg (R_ v w) j=fa (Eg v j) (Eg w j):=by
 unfold Eg R_
 rw[List.getElem?_zipWith]
 by_cases hj:j<v.length
 ·rw[List.getElem?_eq_getElem hj,List.getElem?_eq_getElem (by omega)];rfl
 ·rw[List.getElem?_eq_none (by omega),List.getElem?_eq_none (l:=w) (by omega)];rfl
theorem Wf:∀(r v w:List F),v.length=w.length->Fh r (R_ v w)=fa (Fh r v) (Fh r w)
 |[],v,w,_=>by simp[Lw,DE]
 |x::r,[],[],_=>by simp[R_,RX,DE]
 |x::r,a::v,b::w,h=>by
  have ih:=Wf r v w (by simpa using h)
  simp only[R_,List.zipWith_cons_cons,D3] at ih ⊢
  rw[ih,MT,qD]
theorem gB {v w:List F}(hl:v.length=w.length) (h:∀j,j<v.length->Eg v j=Eg w j):v=w:=by
 apply List.ext_getElem hl
 intro j h1 h2
 have:=h j h1
 unfold Eg at this
 rwa [List.getElem?_eq_getElem h1,List.getElem?_eq_getElem h2] at this
def UM (x:F):Nat->F
 |0=>1
 |n+1=>fm x (UM x n)
theorem nk (t i:Nat):gp (i*t)=UM (gp t) i:=by
 induction i with
 |zero=>rw[Nat.zero_mul];exact ZZ
 |succ i ih=>rw[Nat.add_mul,Nat.one_mul,Nat.add_comm,YF,ih];rfl
theorem oh:∀(xs vs:List F),vs.length=xs.length->xs.Nodup->(∀i,i<xs.length->Fh (xs.map fun x=>UM x i) vs=0)->∀j,Eg vs j=0
 |[],[],_,_,_=>fun j=>rfl
 |x::xs,v::vs,hl,hn,h=>by
  have hl':vs.length=xs.length:=by simpa using hl
  rw[List.nodup_cons] at hn
  have key:∀(i:Nat) (ys ws:List F),ws.length=ys.length->Fh (ys.map fun y=>UM y i) (List.zipWith (fun y w=>fm w (fa y x)) ys ws)=fa (Fh (ys.map fun y=>UM y (i+1)) ws) (fm x (Fh (ys.map fun y=>UM y i) ws)):=by
   intro i ys
   induction ys with
   |nil=>intro ws _;rw[List.map_nil,Lw,List.map_nil,Lw,Dr];rfl
   |cons y ys ih =>
    intro ws hw
    cases ws with
    |nil=>simp at hw
    |cons w ws =>
     have:=ih ws (by simpa using hw)
     simp only[List.map_cons,List.zipWith_cons_cons,D3]
     rw[this,MT w,MT (UM y i),MT x,qD]
     congr 1
     ·congr 1
      show fm (UM y i) (fm w y)=fm (fm y (UM y i)) w
      rw[Dt w y,←Ft,Dt (UM y i) y]
     ·congr 1
      rw[Nu,Dt,Ft]
      rw[Nu]
  have hz:∀i,i<xs.length->Fh (xs.map fun y=>UM y i) (List.zipWith (fun y w=>fm w (fa y x)) xs vs)=0:=fun i hi=>by
   rw[key i xs vs hl']
   have h1:=h i (by simp;omega)
   have h2:=h (i+1) (by simpa using hi)
   simp only[List.map_cons,D3] at h1 h2
   have e1:Fh (xs.map fun y=>UM y i) vs=fm (UM x i) v:=(HW _ _ h1).symm
   have e2:Fh (xs.map fun y=>UM y (i+1)) vs=fm (UM x (i+1)) v:=(HW _ _ h2).symm
   rw[e1,e2,←Ft]
   exact Fu _
  have ih:=oh xs (List.zipWith (fun y w=>fm w (fa y x)) xs vs) (by simp[hl']) hn.2 hz
  have htail:∀j,Eg vs j=0:=fun j=>by
   by_cases hj:j<xs.length
   ·have:=ih j
    unfold Eg at this ⊢
    rw[List.getElem?_zipWith,List.getElem?_eq_getElem hj,List.getElem?_eq_getElem (by omega)] at this
    rw[List.getElem?_eq_getElem (by omega)]
    have hne:fa xs[j] x≠0:=fun e=>hn.1 (by rw[←HW _ _ e];exact List.getElem_mem hj)
    exact(RM _ _ this).resolve_right hne
   ·exact Um _ _ (by omega)
  have hhead:v=0:=by
   have h0:=h 0 (by simp)
   simp only[List.map_cons,D3] at h0
   have:Fh (xs.map fun y=>UM y 0) vs=0:=by
    have hvs:vs=List.replicate vs.length 0:=by
     apply gB (by simp)
     intro j hj
     rw[htail j]
     simp[Eg,hj]
    rw[hvs]
    generalize xs.map (fun y=>UM y 0)=zs
    generalize vs.length=n
    induction zs generalizing n with
    |nil=>rfl
    |cons z zs ih2 =>
     cases n with
     |zero=>rfl
     |succ n=>rw[List.replicate_succ,D3,Dr,ih2];rfl
   rw[this,DE] at h0
   rw[show UM x 0=1 from rfl,UA] at h0
   exact h0
  intro j
  cases j with
  |zero=>exact hhead
  |succ j=>exact htail j
def YV (L i j:Nat):F:=gp (i*(L-1-j))
def Pr (L P:Nat) (at_:List Nat) (s:List F):List (List F):=(List.range P).map fun i=>(at_.map fun j=>YV L i j)++[Eg s i]
theorem Ny (L P:Nat) (at_:List Nat) (s:List F):SE (Pr L P at_ s) P (at_.length+1):=by
 refine⟨by simp[Pr],fun i hi=>?_⟩
 unfold Pr
 rw[Mm (α:=F) _ _ _ hi];simp
theorem Vh (L P:Nat) (at_:List Nat) (s:List F) (i:Nat) (h:i<P):Bh (Pr L P at_ s) i=(at_.map fun j=>YV L i j)++[Eg s i]:=Mm (α:=F) _ _ _ h
structure cr (L:Nat) (at_:List Nat):Prop where
 nd:at_.Nodup
 lt:∀j,j∈at_->j<L
theorem Ub (L P:Nat) (at_:List Nat) (s v:List F) (c:F) (hv:v.length=at_.length) (i:Nat) (h:i<P):Fh (Bh (Pr L P at_ s) i) (v++[c])=fa (Fh (at_.map fun j=>YV L i j) v) (fm (Eg s i) c):=by
 rw[Vh _ _ _ _ _ h,RU _ _ _ _ (by simp[hv])]
theorem WC {L P:Nat}(hL:L<=15) {at_:List Nat}(hp:cr L at_) (hm:at_.length<=P) {s v:List F}(hv:v.length=at_.length) (h:SI 0 (Pr L P at_ s) v):∀j,Eg v j=0:=by
 have hx:(at_.map fun j=>gp (L-1-j)).Nodup:=by
  have h1:=hp.nd
  have h2:=hp.lt
  clear h hv hm
  induction at_ with
  |nil=>simp
  |cons a l ih =>
   rw[List.nodup_cons] at h1
   rw[List.map_cons,List.nodup_cons]
   refine⟨fun hmem=>?_,ih ⟨h1.2,fun j hj=>h2 j (by simp[hj])⟩ h1.2 fun j hj=>h2 j (by simp[hj])⟩
   obtain⟨b,hb,he⟩:=List.mem_map.1 hmem
   have ha:=h2 a (by simp)
   have hb2:=h2 b (by simp[hb])
   have:=np (by omega) (by omega) he
   have:a=b:=by omega
   subst this
   exact h1.1 hb
 refine oh _ v (by simp[hv]) hx fun i hi=>?_
 have hi':i<P:=by simp at hi;omega
 have:=h i (by rw[(Ny L P at_ s).len];exact hi')
 rw[Ub _ _ _ _ _ _ hv i hi',Dr,DE] at this
 rw[List.map_map]
 have e:(at_.map ((fun x=>UM x i) ∘ fun j=>gp (L-1-j)))=at_.map fun j=>YV L i j:=List.map_congr_left fun j _=>(nk _ _).symm
 rw[e];exact this
theorem jE {c d:F}{M:List (List F)}{v w:List F}(hl:v.length=w.length) (h1:SI c M v) (h2:SI d M w):SI (fa c d) M (R_ v w):=by
 intro i hi
 have:R_ v w++[fa c d]=R_ (v++[c]) (w++[d]):=by
  unfold R_
  rw[List.zipWith_append hl];rfl
 rw[this,Wf _ _ _ (by simp[hl]),h1 i hi,h2 i hi,DE]
theorem dt {L P:Nat}(hL:L<=15) {at_:List Nat}(hp:cr L at_) (hm:at_.length<=P) {s v w:List F}(hv:v.length=at_.length) (hw:w.length=at_.length) (h1:SI 1 (Pr L P at_ s) v) (h2:SI 1 (Pr L P at_ s) w):v=w:=by
 have h:=jE (by omega) h1 h2
 rw[Fu] at h
 have:=WC hL hp hm (by rw[g0 _ _ (by omega)];exact hv) h
 refine gB (by omega) fun j _=>?_
 have hj:=this j
 rw[gj _ _ _ (by omega)] at hj
 exact HW _ _ hj
open Classical in
noncomputable def L3 (L P:Nat) (at_:List Nat) (s:List F):Option (List F) :=
 if h:∃v:List F,v.length=at_.length/\SI 1 (Pr L P at_ s) v then some h.choose else none
theorem Sx {L P:Nat}(hL:L<=15) {at_:List Nat}(hp:cr L at_) (hm:at_.length<=P) {s v:List F}(hv:v.length=at_.length) (h:SI 1 (Pr L P at_ s) v):L3 L P at_ s=some v:=by
 have hex:∃v:List F,v.length=at_.length/\SI 1 (Pr L P at_ s) v:=⟨v,hv,h⟩
 unfold L3
 rw[dif_pos hex]
 congr 1
 exact dt hL hp hm hex.choose_spec.1 hv hex.choose_spec.2 h
theorem aD {L P:Nat}{at_:List Nat}{s:List F}(h:∀v:List F,v.length=at_.length->¬SI 1 (Pr L P at_ s) v):L3 L P at_ s=none:=by
 unfold L3
 rw[dif_neg fun⟨v,h1,h2⟩=>h v h1 h2]
theorem Sw {L P:Nat}{at_:List Nat}{s v:List F}(h:L3 L P at_ s=some v):v.length=at_.length/\SI 1 (Pr L P at_ s) v:=by
 unfold L3 at h
 split at h
 ·rename_i hex
  simp only[Option.some.injEq] at h
  rw[←h];exact hex.choose_spec
 ·cases h
end Go.Pw
end
