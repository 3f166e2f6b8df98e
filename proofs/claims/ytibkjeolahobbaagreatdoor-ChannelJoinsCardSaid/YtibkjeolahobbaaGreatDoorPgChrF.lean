/- A part of the proof. -/
import Derived.Test.YtibkjeolahobbaaGreatDoorPgChrA
import Derived.Test.YtibkjeolahobbaaGreatDoorCorrectSpec
set_option linter.all false
section
open Go Go.Pw Go.Proofs
namespace Go.Pw
set_option maxRecDepth 100000
set_option maxHeartbeats 3200000
theorem kr:(0:Int)<((2:Nat):Int):=by decide
theorem kq:(1:Int)<((2:Nat):Int):=by decide
theorem Lg:¬(2:Int)<((2:Nat):Int):=by decide
theorem VK:IntKind.i64.wrap 0=0:=by decide
theorem VJ:IntKind.i64.wrap (0-((0:Nat):Int))=0:=by decide
theorem QJ {α:Type}(n:Nat) (x:α) (h:0<n):(List.replicate n x).isEmpty=false:=by cases n with
 |zero=>omega
 |succ n=>rfl
attribute [local irreducible] IntKind.wrap Ai Option.getD and or
theorem U_ (n:Nat) (hn:0<n) (hl:n<=1000000):Hk E0 Cl [] [.d (.list true []),.d (.int .i64 n)] [(22,2,.row 3 1 false [])] (.own 22 2):=by
 refine C3 Er Af (by simp) (by simp[Pu,E9,D7]) (by simp[J4]) fun hwf hwo=>?_
 rw[De];unfold DL
 have h0:¬(n:Int)<0:=by omega
 have h1:(0:Int)<(n:Int):=by omega
 have hw:IntKind.i64.wrap (n:Int)=(n:Int):=AZ _ (by omega)
 have hw2:IntKind.i64.wrap ((n:Int)-0)=(n:Int):=by rw[Int.sub_zero];exact hw
 (try (simp -implicitDefEqProofs only[go_sem,h0,h1,hw,QJ n _ hn,List.length_replicate,VK,VJ,hw2,Int.sub_zero]));repeat' first|(with_reducible first|exact tI|refine aI ?_ ?_|intro _|refine AJ ?_ ?_<;>intro _<;>try simp -implicitDefEqProofs only[go_sem,h0,h1,hw,QJ n _ hn,List.length_replicate,VK,VJ,hw2,Int.sub_zero])|simp (disch:=omega) only[Ad]
 all_goals first|omega|rfl|(simp at *;done)|skip
theorem U':BR E0 Cl [.list true [],.int .i64 0] (.list true []):=by
 refine AM Er Af (by simp) fun hwf=>?_
 rw[AQ];unfold DL
 (try (simp -implicitDefEqProofs only[go_sem,VK,VJ,Int.sub_zero]));repeat' first|(with_reducible first|exact tI|refine aI ?_ ?_|intro _|refine AJ ?_ ?_<;>intro _<;>try simp -implicitDefEqProofs only[go_sem,VK,VJ,Int.sub_zero])|simp (disch:=omega) only[Ad]
 all_goals first|omega|rfl|(simp at *;done)|skip
theorem U8 (n:Nat) (hn:0<n) (hl:n<=1000000):Hk E0 A6 [] [.d (.list true []),.d (.int .i64 n)] [(22,2,.row 135 1 false [])] (.own 22 2):=by
 refine C3 Bg Af (by simp) (by simp[Pu,E9,D7]) (by simp[J4]) fun hwf hwo=>?_
 rw[De];unfold BF
 have h0:¬(n:Int)<0:=by omega
 have h1:(0:Int)<(n:Int):=by omega
 have hw:IntKind.i64.wrap (n:Int)=(n:Int):=AZ _ (by omega)
 have hw2:IntKind.i64.wrap ((n:Int)-0)=(n:Int):=by rw[Int.sub_zero];exact hw
 (try (simp -implicitDefEqProofs only[go_sem,h0,h1,hw,QJ n _ hn,List.length_replicate,VK,VJ,hw2,Int.sub_zero]));repeat' first|(with_reducible first|exact tI|refine aI ?_ ?_|intro _|refine AJ ?_ ?_<;>intro _<;>try simp -implicitDefEqProofs only[go_sem,h0,h1,hw,QJ n _ hn,List.length_replicate,VK,VJ,hw2,Int.sub_zero])|simp (disch:=omega) only[Ad]
 all_goals first|omega|rfl|(simp at *;done)|skip
theorem U9:BR E0 A6 [.list true [],.int .i64 0] (.list true []):=by
 refine AM Bg Af (by simp) fun hwf=>?_
 rw[AQ];unfold BF
 (try (simp -implicitDefEqProofs only[go_sem,VK,VJ,Int.sub_zero]));repeat' first|(with_reducible first|exact tI|refine aI ?_ ?_|intro _|refine AJ ?_ ?_<;>intro _<;>try simp -implicitDefEqProofs only[go_sem,VK,VJ,Int.sub_zero])|simp (disch:=omega) only[Ad]
 all_goals first|omega|rfl|(simp at *;done)|skip
theorem SV (n1 n2:Bool) (a b:List Int) (ha:a.length<=100000) (hb:b.length<=100000):BR E0 Eu [.list false [.list n1 (Aa a),.list n2 (Aa b)]] (.list (a++b).isEmpty (Aa (a++b))):=by
 refine AM HN Af (by simp) fun hwf=>?_
 rw[AQ];unfold EO
 have w1:IntKind.i64.wrap (0+(a.length:Int))=(a.length:Int):=by rw[Int.zero_add];exact AZ _ (by omega)
 have w2:IntKind.i64.wrap ((a.length:Int)+(b.length:Int))=((a.length+b.length:Nat):Int):=by rw[AZ _ (by omega)];omega
 have w3:IntKind.i64.wrap (0+1)=1:=by rw[AZ _ (by omega)];rfl
 have w4:IntKind.i64.wrap (1+1)=2:=by rw[AZ _ (by omega)];rfl
 have q1:¬(a.length:Int)<0:=by omega
 have q2:¬((a.length+b.length:Nat):Int)<0:=by omega
 (try (simp -implicitDefEqProofs only[go_sem]));repeat' first|(with_reducible first|exact tI|refine aI ?_ ?_|intro _|refine AJ ?_ ?_<;>intro _<;>try simp -implicitDefEqProofs only[go_sem])|simp (disch:=omega) only[Ad]|((with_reducible first|apply Ae|apply Ab);exact rfl)
 refine AU (α:=Int×Int) (l0:=?l1) (m0:=?m1) (fun x=>[(11,.d (.int .i64 x.1)),(3,.d (.int .i64 x.2))]) (fun x=>[]) (fun x=>(x.1=0/\x.2=0)\/(x.1=1/\x.2=a.length)\/(x.1=2/\x.2=((a.length+b.length:Nat):Int))) (fun x=>(2-x.1).toNat) (0,0) ?h01 ?he1 ?he21 ?hI1 ?step1
 case h01=>(simp -implicitDefEqProofs only[go_sem];rfl)
 case he1=>rfl
 case he21=>rfl
 case' step1=>(rintro⟨i,n⟩ hI;try dsimp only at hI)
 case' hI1=>try dsimp only
 ·exact .inl ⟨rfl,rfl⟩
 rcases hI with⟨rfl,rfl⟩|⟨rfl,rfl⟩|⟨rfl,rfl⟩
 ·(try (simp -implicitDefEqProofs only[go_sem,w1,w3,q1,kr]));repeat' first|(with_reducible first|exact tI|refine aI ?_ ?_|intro _|refine AJ ?_ ?_<;>intro _<;>try simp -implicitDefEqProofs only[go_sem,w1,w3,q1,kr])|simp (disch:=omega) only[Ad]|((with_reducible first|apply Ae|apply Ab);exact rfl)
  all_goals first|omega|(simp at *;done)|skip
 ·(try (simp -implicitDefEqProofs only[go_sem,w2,w4,q2,kq]));repeat' first|(with_reducible first|exact tI|refine aI ?_ ?_|intro _|refine AJ ?_ ?_<;>intro _<;>try simp -implicitDefEqProofs only[go_sem,w2,w4,q2,kq])|simp (disch:=omega) only[Ad]|((with_reducible first|apply Ae|apply Ab);exact rfl)
  all_goals first|omega|(simp at *;done)|skip
 ·by_cases h0:a.length+b.length=0
  ·have ea:a=[]:=List.eq_nil_of_length_eq_zero (by omega)
   have eb:b=[]:=List.eq_nil_of_length_eq_zero (by omega)
   subst ea eb
   have c1:BR E0 Cl [.list true [],.int .i64 (((([]:List Int).length+([]:List Int).length:Nat)):Int)] (.list true []):=U'
   (try (simp -implicitDefEqProofs only[go_sem,Lg]));repeat' first|(with_reducible first|exact tI|refine aI ?_ ?_|intro _)|((first|with_reducible refine AJ ?_ ?_<;>intro _|(with_reducible refine isCall ?_);first|refine AE c1 ?_)<;>try (simp -implicitDefEqProofs only[go_sem,Lg]))|simp (disch:=omega) only[Ad]|((with_reducible first|apply Ae|apply Ab);exact rfl)
   refine AU (α:=Int) (l0:=?l2) (m0:=?m2) (fun x=>[(27,.d (.int .i64 x))]) (fun x=>[(33,.row 3 1 true [])]) (fun x=>x=0\/x=1\/x=2) (fun x=>(2-x).toNat) 0 ?h02 ?he2 ?he22 ?hI2 ?step2
   case h02=>(simp -implicitDefEqProofs only[go_sem];rfl)
   case he2=>rfl
   case he22=>rfl
   case' step2=>(rintro i hI2;try dsimp only at hI2)
   case' hI2=>try dsimp only
   ·exact .inl rfl
   rcases hI2 with rfl|rfl|rfl
   ·(try (simp -implicitDefEqProofs only[go_sem,w3]));repeat' first|(with_reducible first|exact tI|refine aI ?_ ?_|intro _|refine AJ ?_ ?_<;>intro _<;>try simp -implicitDefEqProofs only[go_sem,w3])|simp (disch:=omega) only[Ad]|((with_reducible first|apply Ae|apply Ab);exact rfl)
    all_goals first|omega|(simp at *;done)|skip
   ·(try (simp -implicitDefEqProofs only[go_sem,w4]));repeat' first|(with_reducible first|exact tI|refine aI ?_ ?_|intro _|refine AJ ?_ ?_<;>intro _<;>try simp -implicitDefEqProofs only[go_sem,w4])|simp (disch:=omega) only[Ad]|((with_reducible first|apply Ae|apply Ab);exact rfl)
    all_goals first|omega|(simp at *;done)|skip
   ·(try (simp -implicitDefEqProofs only[go_sem,Lg]));repeat' first|(with_reducible first|exact tI|refine aI ?_ ?_|intro _|refine AJ ?_ ?_<;>intro _<;>try simp -implicitDefEqProofs only[go_sem,Lg])|simp (disch:=omega) only[Ad]|((with_reducible first|apply Ae|apply Ab);exact rfl)
    all_goals first|omega|(simp at *;done)|rfl|skip
  ·have he:(a++b).isEmpty=false:=by cases a<;>cases b<;>simp_all
   have c1:=U_ (a.length+b.length) (by omega) (by omega)
   (try (simp -implicitDefEqProofs only[go_sem,Lg]));repeat' first|(with_reducible first|exact tI|refine aI ?_ ?_|intro _)|((first|with_reducible refine AJ ?_ ?_<;>intro _|(with_reducible refine isCall ?_);first|(refine EM ([]) ([((22,2),(24,1))]) (c1) ?_))<;>try (simp -implicitDefEqProofs only[go_sem,Lg]))|simp (disch:=omega) only[Ad]|((with_reducible first|apply Ae|apply Ab);exact rfl)
   refine AU (α:=Int×(List Int)) (l0:=?l3) (m0:=?m3) (fun x=>[(27,.d (.int .i64 x.1))]) (fun x=>[(24,.row 3 1 false (Aa x.2))]) (fun x=>(x.1=0/\x.2=[])\/(x.1=1/\x.2=a)\/(x.1=2/\x.2=a++b)) (fun x=>(2-x.1).toNat) (0,[]) ?h03 ?he3 ?he23 ?hI3 ?step3
   case h03=>(simp -implicitDefEqProofs only[go_sem];rfl)
   case he3=>rfl
   case he23=>rfl
   case' step3=>(rintro⟨i,l⟩ hI3;try dsimp only at hI3)
   case' hI3=>try dsimp only
   ·exact .inl ⟨rfl,rfl⟩
   rcases hI3 with⟨rfl,rfl⟩|⟨rfl,rfl⟩|⟨rfl,rfl⟩
   ·(try (simp -implicitDefEqProofs only[go_sem,w3,List.nil_append]));repeat' first|(with_reducible first|exact tI|refine aI ?_ ?_|intro _|refine AJ ?_ ?_<;>intro _<;>try simp -implicitDefEqProofs only[go_sem,w3,List.nil_append])|simp (disch:=omega) only[Ad]|((with_reducible first|apply Ae|apply Ab);exact rfl)
    all_goals first|omega|(simp at *;done)|skip
   ·(try (simp -implicitDefEqProofs only[go_sem,w4]));repeat' first|(with_reducible first|exact tI|refine aI ?_ ?_|intro _|refine AJ ?_ ?_<;>intro _<;>try simp -implicitDefEqProofs only[go_sem,w4])|simp (disch:=omega) only[Ad]|((with_reducible first|apply Ae|apply Ab);exact rfl)
    all_goals first|omega|(simp at *;done)|skip
   ·(try (simp -implicitDefEqProofs only[go_sem,he,Lg]));repeat' first|(with_reducible first|exact tI|refine aI ?_ ?_|intro _|refine AJ ?_ ?_<;>intro _<;>try simp -implicitDefEqProofs only[go_sem,he,Lg])|simp (disch:=omega) only[Ad]|((with_reducible first|apply Ae|apply Ab);exact rfl)
    all_goals first|omega|(simp at *;done)|rfl|skip
theorem SU (n1 n2:Bool) (a b:List F) (ha:a.length<=100000) (hb:b.length<=100000):BR E0 Bh [.list false [.list n1 (us a),.list n2 (us b)]] (.list (a++b).isEmpty (us (a++b))):=by
 refine AM C1 Af (by simp) fun hwf=>?_
 rw[AQ];unfold Bb
 have w1:IntKind.i64.wrap (0+(a.length:Int))=(a.length:Int):=by rw[Int.zero_add];exact AZ _ (by omega)
 have w2:IntKind.i64.wrap ((a.length:Int)+(b.length:Int))=((a.length+b.length:Nat):Int):=by rw[AZ _ (by omega)];omega
 have w3:IntKind.i64.wrap (0+1)=1:=by rw[AZ _ (by omega)];rfl
 have w4:IntKind.i64.wrap (1+1)=2:=by rw[AZ _ (by omega)];rfl
 have q1:¬(a.length:Int)<0:=by omega
 have q2:¬((a.length+b.length:Nat):Int)<0:=by omega
 (try (simp -implicitDefEqProofs only[go_sem]));repeat' first|(with_reducible first|exact tI|refine aI ?_ ?_|intro _|refine AJ ?_ ?_<;>intro _<;>try simp -implicitDefEqProofs only[go_sem])|simp (disch:=omega) only[Ad]|((with_reducible first|apply Ae|apply Ab);exact rfl)
 refine AU (α:=Int×Int) (l0:=?l4) (m0:=?m4) (fun x=>[(11,.d (.int .i64 x.1)),(3,.d (.int .i64 x.2))]) (fun x=>[]) (fun x=>(x.1=0/\x.2=0)\/(x.1=1/\x.2=a.length)\/(x.1=2/\x.2=((a.length+b.length:Nat):Int))) (fun x=>(2-x.1).toNat) (0,0) ?h04 ?he4 ?he24 ?hI4 ?step4
 case h04=>(simp -implicitDefEqProofs only[go_sem];rfl)
 case he4=>rfl
 case he24=>rfl
 case' step4=>(rintro⟨i,n⟩ hI;try dsimp only at hI)
 case' hI4=>try dsimp only
 ·exact .inl ⟨rfl,rfl⟩
 rcases hI with⟨rfl,rfl⟩|⟨rfl,rfl⟩|⟨rfl,rfl⟩
 ·(try (simp -implicitDefEqProofs only[go_sem,w1,w3,q1,kr]));repeat' first|(with_reducible first|exact tI|refine aI ?_ ?_|intro _|refine AJ ?_ ?_<;>intro _<;>try simp -implicitDefEqProofs only[go_sem,w1,w3,q1,kr])|simp (disch:=omega) only[Ad]|((with_reducible first|apply Ae|apply Ab);exact rfl)
  all_goals first|omega|(simp at *;done)|skip
 ·(try (simp -implicitDefEqProofs only[go_sem,w2,w4,q2,kq]));repeat' first|(with_reducible first|exact tI|refine aI ?_ ?_|intro _|refine AJ ?_ ?_<;>intro _<;>try simp -implicitDefEqProofs only[go_sem,w2,w4,q2,kq])|simp (disch:=omega) only[Ad]|((with_reducible first|apply Ae|apply Ab);exact rfl)
  all_goals first|omega|(simp at *;done)|skip
 ·by_cases h0:a.length+b.length=0
  ·have ea:a=[]:=List.eq_nil_of_length_eq_zero (by omega)
   have eb:b=[]:=List.eq_nil_of_length_eq_zero (by omega)
   subst ea eb
   have c1:BR E0 A6 [.list true [],.int .i64 (((([]:List F).length+([]:List F).length:Nat)):Int)] (.list true []):=U9
   (try (simp -implicitDefEqProofs only[go_sem,Lg]));repeat' first|(with_reducible first|exact tI|refine aI ?_ ?_|intro _)|((first|with_reducible refine AJ ?_ ?_<;>intro _|(with_reducible refine isCall ?_);first|refine AE c1 ?_)<;>try (simp -implicitDefEqProofs only[go_sem,Lg]))|simp (disch:=omega) only[Ad]|((with_reducible first|apply Ae|apply Ab);exact rfl)
   refine AU (α:=Int) (l0:=?l5) (m0:=?m5) (fun x=>[(27,.d (.int .i64 x))]) (fun x=>[(33,.row 135 1 true [])]) (fun x=>x=0\/x=1\/x=2) (fun x=>(2-x).toNat) 0 ?h05 ?he5 ?he25 ?hI5 ?step5
   case h05=>(simp -implicitDefEqProofs only[go_sem];rfl)
   case he5=>rfl
   case he25=>rfl
   case' step5=>(rintro i hI2;try dsimp only at hI2)
   case' hI5=>try dsimp only
   ·exact .inl rfl
   rcases hI2 with rfl|rfl|rfl
   ·(try (simp -implicitDefEqProofs only[go_sem,w3]));repeat' first|(with_reducible first|exact tI|refine aI ?_ ?_|intro _|refine AJ ?_ ?_<;>intro _<;>try simp -implicitDefEqProofs only[go_sem,w3])|simp (disch:=omega) only[Ad]|((with_reducible first|apply Ae|apply Ab);exact rfl)
    all_goals first|omega|(simp at *;done)|skip
   ·(try (simp -implicitDefEqProofs only[go_sem,w4]));repeat' first|(with_reducible first|exact tI|refine aI ?_ ?_|intro _|refine AJ ?_ ?_<;>intro _<;>try simp -implicitDefEqProofs only[go_sem,w4])|simp (disch:=omega) only[Ad]|((with_reducible first|apply Ae|apply Ab);exact rfl)
    all_goals first|omega|(simp at *;done)|skip
   ·(try (simp -implicitDefEqProofs only[go_sem,Lg]));repeat' first|(with_reducible first|exact tI|refine aI ?_ ?_|intro _|refine AJ ?_ ?_<;>intro _<;>try simp -implicitDefEqProofs only[go_sem,Lg])|simp (disch:=omega) only[Ad]|((with_reducible first|apply Ae|apply Ab);exact rfl)
    all_goals first|omega|(simp at *;done)|rfl|skip
  ·have he:(a++b).isEmpty=false:=by cases a<;>cases b<;>simp_all
   have c1:=U8 (a.length+b.length) (by omega) (by omega)
   (try (simp -implicitDefEqProofs only[go_sem,Lg]));repeat' first|(with_reducible first|exact tI|refine aI ?_ ?_|intro _)|((first|with_reducible refine AJ ?_ ?_<;>intro _|(with_reducible refine isCall ?_);first|(refine EM ([]) ([((22,2),(24,1))]) (c1) ?_))<;>try (simp -implicitDefEqProofs only[go_sem,Lg]))|simp (disch:=omega) only[Ad]|((with_reducible first|apply Ae|apply Ab);exact rfl)
   refine AU (α:=Int×(List F)) (l0:=?l6) (m0:=?m6) (fun x=>[(27,.d (.int .i64 x.1))]) (fun x=>[(24,.row 135 1 false (us x.2))]) (fun x=>(x.1=0/\x.2=[])\/(x.1=1/\x.2=a)\/(x.1=2/\x.2=a++b)) (fun x=>(2-x.1).toNat) (0,[]) ?h06 ?he6 ?he26 ?hI6 ?step6
   case h06=>(simp -implicitDefEqProofs only[go_sem];rfl)
   case he6=>rfl
   case he26=>rfl
   case' step6=>(rintro⟨i,l⟩ hI3;try dsimp only at hI3)
   case' hI6=>try dsimp only
   ·exact .inl ⟨rfl,rfl⟩
   rcases hI3 with⟨rfl,rfl⟩|⟨rfl,rfl⟩|⟨rfl,rfl⟩
   ·(try (simp -implicitDefEqProofs only[go_sem,w3,List.nil_append]));repeat' first|(with_reducible first|exact tI|refine aI ?_ ?_|intro _|refine AJ ?_ ?_<;>intro _<;>try simp -implicitDefEqProofs only[go_sem,w3,List.nil_append])|simp (disch:=omega) only[Ad]|((with_reducible first|apply Ae|apply Ab);exact rfl)
    all_goals first|omega|(simp at *;done)|skip
   ·(try (simp -implicitDefEqProofs only[go_sem,w4]));repeat' first|(with_reducible first|exact tI|refine aI ?_ ?_|intro _|refine AJ ?_ ?_<;>intro _<;>try simp -implicitDefEqProofs only[go_sem,w4])|simp (disch:=omega) only[Ad]|((with_reducible first|apply Ae|apply Ab);exact rfl)
    all_goals first|omega|(simp at *;done)|skip
   ·(try (simp -implicitDefEqProofs only[go_sem,he,Lg]));repeat' first|(with_reducible first|exact tI|refine aI ?_ ?_|intro _|refine AJ ?_ ?_<;>intro _<;>try simp -implicitDefEqProofs only[go_sem,he,Lg])|simp (disch:=omega) only[Ad]|((with_reducible first|apply Ae|apply Ab);exact rfl)
    all_goals first|omega|(simp at *;done)|rfl|skip
end Go.Pw
end
section
namespace Go.Pw
def Eb:List F->List F->F
 |a::asq,b::bs=>fa (fm a b) (Eb asq bs)
 |_,_=>0
def C7 (r o:List F) (b:F):List F:=List.zipWith (fun x y=>fa x (fm y b)) r o
def HK (r:List F) (b:F):List F:=r.map fun x=>fm x b
def Di (r:List F) (j:Nat):F:=r[j]?.getD 0
def Ak (M:List (List F)) (i:Nat):List F:=M[i]?.getD []
def Bk (M:List (List F)) (i j:Nat):F:=Di (Ak M i) j
theorem lZ (a b c:F):fa a (fa b c)=fa b (fa a c):=by rw[←DV,Nf a b,DV]
theorem r6 (a b c d:F):fa (fa a b) (fa c d)=fa (fa a c) (fa b d):=by rw[DV,DV,lZ b c d]
theorem nW (a b c:F):fm (fa a b) c=fa (fm a c) (fm b c):=by rw[Ck,L8,Ck c a,Ck c b]
theorem Nc (a b c:F):fm a (fm b c)=fm b (fm a c):=by rw[←E',Ck a b,E']
theorem LY (w:List F):Eb [] w=0:=rfl
theorem Rl (w:List F):Eb w []=0:=by cases w<;>rfl
theorem DG (a b:F) (asq bs:List F):Eb (a::asq) (b::bs)=fa (fm a b) (Eb asq bs):=rfl
theorem Ng (b:F):∀(r o w:List F),r.length=o.length->Eb (C7 r o b) w=fa (Eb r w) (fm b (Eb o w))
 |[],[],w,_=>by simp[C7,LY,C0,CM]
 |x::r,y::o,[],_=>by simp[Rl,C0,CM]
 |x::r,y::o,c::w,h=>by
  have ih:=Ng b r o w (by simpa using h)
  simp only[C7,List.zipWith_cons_cons,DG] at ih ⊢
  rw[ih,nW,L8,E',Nc,r6]
theorem Rk (b:F):∀(r w:List F),Eb (HK r b) w=fm b (Eb r w)
 |[],w=>by simp[HK,LY,C0]
 |x::r,[]=>by simp[Rl,C0]
 |x::r,c::w=>by
  have ih:=Rk b r w
  simp only[HK,List.map_cons,DG] at ih ⊢
  rw[ih,L8,E',Nc]
theorem Rj (x y:F):∀(r w:List F),r.length=w.length->Eb (r++[x]) (w++[y])=fa (Eb r w) (fm x y)
 |[],[],_=>by simp[Eb,CM,HQ]
 |a::r,b::w,h=>by
  have ih:=Rj x y r w (by simpa using h)
  simp only[List.cons_append,DG]
  rw[ih,DV]
theorem QQ:∀(r w:List F) (i:Nat),i<r.length->r.length=w.length->(∀j,j≠i->fm (Di r j) (Di w j)=0)->Eb r w=fm (Di r i) (Di w i)
 |a::r,b::w,0,_,hl,h=>by
  have hz:Eb r w=0:=by
   have key:∀(r w:List F),(∀j,fm (Di r j) (Di w j)=0)->Eb r w=0:=by
    intro r
    induction r with
    |nil=>intro w _;rfl
    |cons a r ih =>
     intro w h
     cases w with
     |nil=>rfl
     |cons b w =>
      rw[DG,ih w fun j=>h (j+1),show fm a b=0 from h 0];rfl
   exact key r w fun j=>h (j+1) (by omega)
  rw[DG,hz,CM];rfl
 |a::r,b::w,i+1,hi,hl,h=>by
  have ih:=QQ r w i (by simpa using hi) (by simpa using hl) fun j hj=>h (j+1) (by omega)
  rw[DG,ih,show fm a b=0 from h 0 (by omega),HQ];rfl
theorem Um:∀(r w:List F) (i k:Nat),i<k->k<r.length->r.length=w.length->(∀j,j≠i->j≠k->fm (Di r j) (Di w j)=0)->Eb r w=fa (fm (Di r i) (Di w i)) (fm (Di r k) (Di w k))
 |a::r,b::w,0,k+1,_,hk,hl,h=>by
  rw[DG,QQ r w k (by simpa using hk) (by simpa using hl) fun j hj=>h (j+1) (by omega) (by omega)];rfl
 |a::r,b::w,i+1,k+1,hik,hk,hl,h=>by
  have ih:=Um r w i k (by omega) (by simpa using hk) (by simpa using hl) fun j hj hj2=>h (j+1) (by omega) (by omega)
  rw[DG,ih,show fm a b=0 from h 0 (by omega) (by omega),HQ];rfl
def QD (c:F) (M:List (List F)) (v:List F):Prop:=∀i,i<M.length->Eb (Ak M i) (v++[c])=0
structure QZ (M:List (List F)) (n m:Nat):Prop where
 len:M.length=n
 row:∀i,i<n->(Ak M i).length=m
def A5 (f:F->F->F) (M:List (List F)) (k:Nat):List (List F):=(List.range M.length).map fun i=>if i=k then Ak M k else C7 (Ak M i) (Ak M k) (f (Bk M i k) (Bk M k k))
def swp (M:List (List F)) (k p:Nat):List (List F):=(M.set k (Ak M p)).set p (Ak M k)
theorem MU {α:Type}(n i:Nat) (g:Nat->List F) (h:i<n):Ak ((List.range n).map g) i=g i:=by simp[Ak,h]
theorem Fu (M:List (List F)) (k i:Nat) (r:List F) (hk:k<M.length):Ak (M.set k r) i=if i=k then r else Ak M i:=by
 unfold Ak
 by_cases h:i=k
 ·subst h;simp[hk]
 ·rw[List.getElem?_set_ne (fun e=>h e.symm),if_neg h]
theorem Ct (f:F->F->F) (M:List (List F)) (k i:Nat) (h:i<M.length):Ak (A5 f M k) i=if i=k then Ak M k else C7 (Ak M i) (Ak M k) (f (Bk M i k) (Bk M k k)) :=
 MU (α:=F) M.length i _ h
theorem Dx (M:List (List F)) (k p i:Nat) (hk:k<M.length) (hp:p<M.length):Ak (swp M k p) i=if i=p then Ak M k else if i=k then Ak M p else Ak M i:=by
 unfold swp
 rw[Fu _ _ _ _ (by simpa using hp),Fu _ _ _ _ hk]
theorem HA (r o:List F) (b:F) (h:r.length=o.length):(C7 r o b).length=r.length:=by simp[C7,h]
theorem Vs (r:List F) (b:F):(HK r b).length=r.length:=by simp[HK]
theorem QZ.swp {M:List (List F)}{n m k p:Nat}(h:QZ M n m) (hk:k<n) (hp:p<n):QZ (swp M k p) n m:=by
 have hl:=h.len
 refine⟨by simp[Go.Pw.swp,hl],fun i hi=>?_⟩
 rw[Dx _ _ _ _ (by omega) (by omega)]
 split
 ·exact h.row k hk
 ·split
  ·exact h.row p hp
  ·exact h.row i hi
theorem QZ.scl {M:List (List F)}{n m k:Nat}(h:QZ M n m) (hk:k<n) (b:F):QZ (M.set k (HK (Ak M k) b)) n m:=by
 have hl:=h.len
 refine⟨by simp[hl],fun i hi=>?_⟩
 rw[Fu _ _ _ _ (by omega)]
 split
 ·rw[Vs];exact h.row k hk
 ·exact h.row i hi
theorem QZ.red {M:List (List F)}{n m k:Nat}(f:F->F->F) (h:QZ M n m) (hk:k<n):QZ (A5 f M k) n m:=by
 have hl:=h.len
 refine⟨by simp[A5,hl],fun i hi=>?_⟩
 rw[Ct _ _ _ _ (by omega)]
 split
 ·exact h.row k hk
 ·rw[HA]
  ·exact h.row i hi
  ·rw[h.row i hi,h.row k hk]
theorem Z9 {M:List (List F)}{n m k p:Nat}(h:QZ M n m) (hk:k<n) (hp:p<n) (c:F) (v:List F):QD c (swp M k p) v↔QD c M v:=by
 have hl:=h.len
 have hl2:=(h.swp hk hp).len
 constructor
 ·intro hs i hi
  by_cases h1:i=k
  ·subst h1
   have:=hs p (by omega)
   rwa [Dx _ _ _ _ (by omega) (by omega),if_pos rfl] at this
  ·by_cases h2:i=p
   ·subst h2
    have:=hs k (by omega)
    rwa [Dx _ _ _ _ (by omega) (by omega),if_neg (fun e=>h1 e.symm),if_pos rfl] at this
   ·have:=hs i (by omega)
    rwa [Dx _ _ _ _ (by omega) (by omega),if_neg h2,if_neg h1] at this
 ·intro hs i hi
  rw[Dx _ _ _ _ (by omega) (by omega)]
  split
  ·exact hs k (by omega)
  ·split
   ·exact hs p (by omega)
   ·exact hs i (by omega)
theorem nD {M:List (List F)}{n m k:Nat}(h:QZ M n m) (hk:k<n) {b:F}(hb:b≠0) (c:F) (v:List F):QD c (M.set k (HK (Ak M k) b)) v↔QD c M v:=by
 have hl:=h.len
 constructor
 ·intro hs i hi
  have:=hs i (by simpa using hi)
  rw[Fu _ _ _ _ (by omega)] at this
  split at this
  ·rename_i e;subst e
   rw[Rk] at this
   exact(Rb _ _ this).resolve_left hb
  ·exact this
 ·intro hs i hi
  rw[Fu _ _ _ _ (by omega)]
  split
  ·rename_i e;subst e;rw[Rk,hs i (by omega),C0]
  ·exact hs i (by simpa using hi)
theorem Z_ {M:List (List F)}{n m k:Nat}(f:F->F->F) (h:QZ M n m) (hk:k<n) (c:F) (v:List F):QD c (A5 f M k) v↔QD c M v:=by
 have hl:=h.len
 have hl2:=(h.red f hk).len
 constructor
 ·intro hs i hi
  have h1:=hs k (by omega)
  rw[Ct _ _ _ _ (by omega),if_pos rfl] at h1
  by_cases hik:i=k
  ·subst hik;exact h1
  ·have h2:=hs i (by omega)
   rw[Ct _ _ _ _ (by omega),if_neg hik,Ng _ _ _ _ (by rw[h.row i (by omega),h.row k hk]),h1,C0,CM] at h2
   exact h2
 ·intro hs i hi
  rw[Ct _ _ _ _ (by omega)]
  split
  ·exact hs k (by omega)
  ·rw[Ng _ _ _ _ (by rw[h.row i (by omega),h.row k hk]),hs i (by omega),hs k (by omega),C0,CM]
structure dS (M:List (List F)) (k:Nat):Prop where
 off:∀i j,i<M.length->j<k->i≠j->Bk M i j=0
 dia:∀j,j<k->Bk M j j≠0
theorem K0 (r o:List F) (b:F) (j:Nat) (h:r.length=o.length):Di (C7 r o b) j=fa (Di r j) (fm (Di o j) b):=by
 unfold Di C7
 rw[List.getElem?_zipWith]
 by_cases hj:j<r.length
 ·rw[List.getElem?_eq_getElem hj,List.getElem?_eq_getElem (by omega)];rfl
 ·rw[List.getElem?_eq_none (by omega),List.getElem?_eq_none (l:=o) (by omega)]
  show (0:F)=fa 0 (fm 0 b)
  rw[B2];rfl
theorem SG (r:List F) (b:F) (j:Nat):Di (HK r b) j=fm (Di r j) b:=by
 unfold Di HK
 rw[List.getElem?_map]
 cases r[j]? with
 |none=>exact(B2 b).symm
 |some x=>rfl
theorem dS.swp {M:List (List F)}{n m k p:Nat}(hs:QZ M n m) (h:dS M k) (hk:k<n) (hkp:k<=p) (hp:p<n):dS (swp M k p) k:=by
 have hl:=hs.len
 have hl2:=(hs.swp hk hp).len
 refine⟨fun i j hi hj hij=>?_,fun j hj=>?_⟩
 ·unfold Bk
  rw[Dx _ _ _ _ (by omega) (by omega)]
  split
  ·exact h.off k j (by omega) hj (by omega)
  ·split
   ·exact h.off p j (by omega) hj (by omega)
   ·exact h.off i j (by omega) hj hij
 ·unfold Bk
  rw[Dx _ _ _ _ (by omega) (by omega),if_neg (by omega),if_neg (by omega)]
  exact h.dia j hj
theorem Uk {M:List (List F)}{n m k p:Nat}(hs:QZ M n m) (hk:k<n) (hp:p<n) (j:Nat):Bk (swp M k p) k j=Bk M p j:=by
 have hl:=hs.len
 unfold Bk
 rw[Dx _ _ _ _ (by omega) (by omega)]
 split
 ·rename_i e;subst e;rfl
 ·rw[if_pos rfl]
theorem dS.scl {M:List (List F)}{n m k:Nat}(hs:QZ M n m) (h:dS M k) (hk:k<n) (b:F):dS (M.set k (HK (Ak M k) b)) k:=by
 have hl:=hs.len
 refine⟨fun i j hi hj hij=>?_,fun j hj=>?_⟩
 ·unfold Bk
  rw[Fu _ _ _ _ (by omega)]
  split
  ·rw[SG,show Di (Ak M k) j=0 from h.off k j (by omega) hj (by omega),B2]
  ·exact h.off i j (by simpa using hi) hj hij
 ·unfold Bk
  rw[Fu _ _ _ _ (by omega),if_neg (by omega)]
  exact h.dia j hj
theorem Z4 {M:List (List F)}{n m k:Nat}(hs:QZ M n m) (hk:k<n) (b:F) (i j:Nat):Bk (M.set k (HK (Ak M k) b)) i j=if i=k then fm (Bk M k j) b else Bk M i j:=by
 have hl:=hs.len
 unfold Bk
 rw[Fu _ _ _ _ (by omega)]
 split
 ·rw[SG]
 ·rfl
theorem dS.red {M:List (List F)}{n m k:Nat}(f:F->F->F) (hs:QZ M n m) (h:dS M k) (hk:k<n) (hd:Bk M k k≠0) (hf:∀a,fm (Bk M k k) (f a (Bk M k k))=a):dS (A5 f M k) (k+1):=by
 have hl:=hs.len
 have hl2:=(hs.red f hk).len
 have e:∀i j,i<n->Bk (A5 f M k) i j=if i=k then Bk M k j else fa (Bk M i j) (fm (Bk M k j) (f (Bk M i k) (Bk M k k))):=fun i j hi=>by
  show Di (Ak (A5 f M k) i) j=_
  rw[Ct _ _ _ _ (by omega)]
  split
  ·rfl
  ·rw[K0 _ _ _ _ (by rw[hs.row i hi,hs.row k hk])];rfl
 refine⟨fun i j hi hj hij=>?_,fun j hj=>?_⟩
 ·rw[e i j (by omega)]
  rcases Nat.lt_succ_iff_lt_or_eq.1 hj with hj|rfl
  ·split
   ·exact h.off k j (by omega) hj (by omega)
   ·rw[h.off i j (by omega) hj hij,h.off k j (by omega) hj (by omega),B2];rfl
  ·rw[if_neg hij,hf,FA]
 ·rcases Nat.lt_succ_iff_lt_or_eq.1 hj with hj|rfl
  ·rw[e j j (by omega),if_neg (by omega),h.off k j (by omega) hj (by omega),B2,CM];exact h.dia j hj
  ·rw[e j j (by omega),if_pos rfl];exact hd
theorem Pf {M:List (List F)}{n m k:Nat}(f:F->F->F) (hs:QZ M n m) (h:dS M k) (hk:k<n) (j:Nat) (hj:j<=k):Bk (A5 f M k) j j=Bk M j j:=by
 have hl:=hs.len
 show Di (Ak (A5 f M k) j) j=_
 rw[Ct _ _ _ _ (by omega)]
 split
 ·rename_i e;subst e;rfl
 ·rename_i hne
  rw[K0 _ _ _ _ (by rw[hs.row j (by omega),hs.row k hk]),show Di (Ak M k) j=0 from h.off k j (by omega) (by omega) (by omega),B2,CM];rfl
theorem JQ (v:List F) (c:F) (j:Nat) (h:j<v.length):Di (v++[c]) j=Di v j:=by unfold Di;rw[List.getElem?_append_left h]
theorem M3 (v:List F) (c:F):Di (v++[c]) v.length=c:=by unfold Di;simp
theorem U2 (v:List F) (j:Nat) (h:v.length<=j):Di v j=0:=by unfold Di;rw[List.getElem?_eq_none h];rfl
theorem ZX {M:List (List F)}{n m:Nat}(hs:QZ M n (m+1)) (h:dS M m) (hm:m<=n) (v:List F) (hv:v.length=m) :
  QD 1 M v↔(∀i,i<m->fm (Bk M i i) (Di v i)=Bk M i m)/\∀i,m<=i->i<n->Bk M i m=0:=by
 have hl:=hs.len
 have hw:(v++[1]).length=m+1:=by simp[hv]
 have low:∀i,i<m->Eb (Ak M i) (v++[1])=fa (fm (Bk M i i) (Di v i)) (Bk M i m):=fun i hi=>by
  rw[Um (Ak M i) (v++[1]) i m hi (by rw[hs.row i (by omega)];omega) (by rw[hs.row i (by omega),hw]) fun j h1 h2=>?_]
  ·rw[JQ _ _ _ (by omega),show Di (v++[1]) m=1 by rw[←hv];exact M3 v 1,JF];rfl
  ·by_cases hj:j<m
   ·rw[show Di (Ak M i) j=0 from h.off i j (by omega) hj (fun e=>h1 e.symm),B2]
   ·rw[U2 (Ak M i) j (by rw[hs.row i (by omega)];omega),B2]
 have high:∀i,m<=i->i<n->Eb (Ak M i) (v++[1])=Bk M i m:=fun i hi hi2=>by
  rw[QQ (Ak M i) (v++[1]) m (by rw[hs.row i (by omega)];omega) (by rw[hs.row i (by omega),hw]) fun j h1=>?_]
  ·rw[show Di (v++[1]) m=1 by rw[←hv];exact M3 v 1,JF];rfl
  ·by_cases hj:j<m
   ·rw[show Di (Ak M i) j=0 from h.off i j (by omega) hj (by omega),B2]
   ·rw[U2 (Ak M i) j (by rw[hs.row i (by omega)];omega),B2]
 constructor
 ·intro hsat
  refine⟨fun i hi=>?_,fun i hi hi2=>?_⟩
  ·have:=hsat i (by omega)
   rw[low i hi] at this
   exact Gz _ _ this
  ·have:=hsat i (by omega)
   rwa [high i hi hi2] at this
 ·rintro⟨h1,h2⟩ i hi
  by_cases him:i<m
  ·rw[low i him,h1 i him,FA]
  ·rw[high i (by omega) (by omega)];exact h2 i (by omega) (by omega)
theorem eT {M:List (List F)}{n m k:Nat}(hs:QZ M n (m+1)) (h:dS M k) (hk:k<m) (hm:m<=n) (hz:∀i,k<=i->i<n->Bk M i k=0) :
  ∃v:List F,v.length=m/\QD 0 M v/\Di v k=1:=by
 have hl:=hs.len
 obtain⟨v,hvd⟩:∃v:List F,v=(List.range m).map fun j=>if j<k then fm (Bk M j k) (fi (Bk M j j)) else if j=k then 1 else 0:=⟨_,rfl⟩
 have hv:v.length=m:=by simp[hvd]
 have ha:∀j,j<m->Di v j=if j<k then fm (Bk M j k) (fi (Bk M j j)) else if j=k then 1 else 0:=fun j hj=>by rw[hvd];simp[Di,hj]
 have hvk:Di v k=1:=by rw[ha k hk,if_neg (by omega),if_pos rfl]
 refine⟨v,hv,fun i hi=>?_,hvk⟩
 have hw:(v++[0]).length=m+1:=by simp[hv]
 have hw0:∀j,j≠k->¬j<k->Di (v++[0]) j=0:=fun j h1 h2=>by
  by_cases hj:j<m
  ·rw[JQ _ _ _ (by omega),ha j hj,if_neg h2,if_neg h1]
  ·by_cases hjm:j=m
   ·subst hjm;rw[←hv];exact M3 v 0
   ·exact U2 _ _ (by omega)
 have hwk:Di (v++[0]) k=1:=by rw[JQ _ _ _ (by omega)];exact hvk
 by_cases hik:i<k
 ·rw[Um (Ak M i) (v++[0]) i k hik (by rw[hs.row i (by omega)];omega) (by rw[hs.row i (by omega),hw]) fun j h1 h2=>?_]
  ·rw[hwk,JF,JQ _ _ _ (by omega),ha i (by omega),if_pos hik]
   show fa (fm (Bk M i i) (fm (Bk M i k) (fi (Bk M i i)))) (Bk M i k)=0
   rw[Nc,nU _ (h.dia i hik),JF,FA]
  ·by_cases hj:j<k
   ·rw[show Di (Ak M i) j=0 from h.off i j (by omega) hj (fun e=>h1 e.symm),B2]
   ·rw[hw0 j h2 hj,C0]
 ·rw[QQ (Ak M i) (v++[0]) k (by rw[hs.row i (by omega)];omega) (by rw[hs.row i (by omega),hw]) fun j h1=>?_]
  ·rw[show Di (Ak M i) k=0 from hz i (by omega) (by omega),B2]
  ·by_cases hj:j<k
   ·rw[show Di (Ak M i) j=0 from h.off i j (by omega) hj (by omega),B2]
   ·rw[hw0 j h1 hj,C0]
end Go.Pw
end
section
namespace Go.Pw
def SL (v w:List F):List F:=List.zipWith fa v w
theorem jK (v w:List F) (h:v.length=w.length):(SL v w).length=v.length:=by simp[SL,h]
theorem i0 (v w:List F) (j:Nat) (h:v.length=w.length):Di (SL v w) j=fa (Di v j) (Di w j):=by
 unfold Di SL
 rw[List.getElem?_zipWith]
 by_cases hj:j<v.length
 ·rw[List.getElem?_eq_getElem hj,List.getElem?_eq_getElem (by omega)];rfl
 ·rw[List.getElem?_eq_none (by omega),List.getElem?_eq_none (l:=w) (by omega)];rfl
theorem Wr:∀(r v w:List F),v.length=w.length->Eb r (SL v w)=fa (Eb r v) (Eb r w)
 |[],v,w,_=>by simp[LY,CM]
 |x::r,[],[],_=>by simp[SL,Rl,CM]
 |x::r,a::v,b::w,h=>by
  have ih:=Wr r v w (by simpa using h)
  simp only[SL,List.zipWith_cons_cons,DG] at ih ⊢
  rw[ih,L8,r6]
theorem Wb {v w:List F}(hl:v.length=w.length) (h:∀j,j<v.length->Di v j=Di w j):v=w:=by
 apply List.ext_getElem hl
 intro j h1 h2
 have:=h j h1
 unfold Di at this
 rwa [List.getElem?_eq_getElem h1,List.getElem?_eq_getElem h2] at this
def UX (x:F):Nat->F
 |0=>1
 |n+1=>fm x (UX x n)
theorem pk (t i:Nat):gp (i*t)=UX (gp t) i:=by
 induction i with
 |zero=>rw[Nat.zero_mul];exact UR
 |succ i ih=>rw[Nat.add_mul,Nat.one_mul,Nat.add_comm,UU,ih];rfl
theorem qW:∀(xs vs:List F),vs.length=xs.length->xs.Nodup->(∀i,i<xs.length->Eb (xs.map fun x=>UX x i) vs=0)->∀j,Di vs j=0
 |[],[],_,_,_=>fun j=>rfl
 |x::xs,v::vs,hl,hn,h=>by
  have hl':vs.length=xs.length:=by simpa using hl
  rw[List.nodup_cons] at hn
  have key:∀(i:Nat) (ys ws:List F),ws.length=ys.length->Eb (ys.map fun y=>UX y i) (List.zipWith (fun y w=>fm w (fa y x)) ys ws)=fa (Eb (ys.map fun y=>UX y (i+1)) ws) (fm x (Eb (ys.map fun y=>UX y i) ws)):=by
   intro i ys
   induction ys with
   |nil=>intro ws _;rw[List.map_nil,LY,List.map_nil,LY,C0];rfl
   |cons y ys ih =>
    intro ws hw
    cases ws with
    |nil=>simp at hw
    |cons w ws =>
     have:=ih ws (by simpa using hw)
     simp only[List.map_cons,List.zipWith_cons_cons,DG]
     rw[this,L8 w,L8 (UX y i),L8 x,r6]
     congr 1
     ·congr 1
      show fm (UX y i) (fm w y)=fm (fm y (UX y i)) w
      rw[Ck w y,←E',Ck (UX y i) y]
     ·congr 1
      rw[Nc,Ck,E']
      rw[Nc]
  have hz:∀i,i<xs.length->Eb (xs.map fun y=>UX y i) (List.zipWith (fun y w=>fm w (fa y x)) xs vs)=0:=fun i hi=>by
   rw[key i xs vs hl']
   have h1:=h i (by simp;omega)
   have h2:=h (i+1) (by simpa using hi)
   simp only[List.map_cons,DG] at h1 h2
   have e1:Eb (xs.map fun y=>UX y i) vs=fm (UX x i) v:=(Gz _ _ h1).symm
   have e2:Eb (xs.map fun y=>UX y (i+1)) vs=fm (UX x (i+1)) v:=(Gz _ _ h2).symm
   rw[e1,e2,←E']
   exact FA _
  have ih:=qW xs (List.zipWith (fun y w=>fm w (fa y x)) xs vs) (by simp[hl']) hn.2 hz
  have htail:∀j,Di vs j=0:=fun j=>by
   by_cases hj:j<xs.length
   ·have:=ih j
    unfold Di at this ⊢
    rw[List.getElem?_zipWith,List.getElem?_eq_getElem hj,List.getElem?_eq_getElem (by omega)] at this
    rw[List.getElem?_eq_getElem (by omega)]
    have hne:fa xs[j] x≠0:=fun e=>hn.1 (by rw[←Gz _ _ e];exact List.getElem_mem hj)
    exact(Rb _ _ this).resolve_right hne
   ·exact U2 _ _ (by omega)
  have hhead:v=0:=by
   have h0:=h 0 (by simp)
   simp only[List.map_cons,DG] at h0
   have:Eb (xs.map fun y=>UX y 0) vs=0:=by
    have hvs:vs=List.replicate vs.length 0:=by
     apply Wb (by simp)
     intro j hj
     rw[htail j]
     simp[Di,hj]
    rw[hvs]
    generalize xs.map (fun y=>UX y 0)=zs
    generalize vs.length=n
    induction zs generalizing n with
    |nil=>rfl
    |cons z zs ih2 =>
     cases n with
     |zero=>rfl
     |succ n=>rw[List.replicate_succ,DG,C0,ih2];rfl
   rw[this,CM] at h0
   rw[show UX x 0=1 from rfl,UF] at h0
   exact h0
  intro j
  cases j with
  |zero=>exact hhead
  |succ j=>exact htail j
def VC (L i j:Nat):F:=gp (i*(L-1-j))
def J' (L P:Nat) (at_:List Nat) (s:List F):List (List F):=(List.range P).map fun i=>(at_.map fun j=>VC L i j)++[Di s i]
theorem LX (L P:Nat) (at_:List Nat) (s:List F):QZ (J' L P at_ s) P (at_.length+1):=by
 refine⟨by simp[J'],fun i hi=>?_⟩
 unfold J'
 rw[MU (α:=F) _ _ _ hi];simp
theorem RA (L P:Nat) (at_:List Nat) (s:List F) (i:Nat) (h:i<P):Ak (J' L P at_ s) i=(at_.map fun j=>VC L i j)++[Di s i]:=MU (α:=F) _ _ _ h
structure ZG (L:Nat) (at_:List Nat):Prop where
 nd:at_.Nodup
 lt:∀j,j∈at_->j<L
theorem Uo (L P:Nat) (at_:List Nat) (s v:List F) (c:F) (hv:v.length=at_.length) (i:Nat) (h:i<P):Eb (Ak (J' L P at_ s) i) (v++[c])=fa (Eb (at_.map fun j=>VC L i j) v) (fm (Di s i) c):=by
 rw[RA _ _ _ _ _ h,Rj _ _ _ _ (by simp[hv])]
theorem WM {L P:Nat}(hL:L<=15) {at_:List Nat}(hp:ZG L at_) (hm:at_.length<=P) {s v:List F}(hv:v.length=at_.length) (h:QD 0 (J' L P at_ s) v):∀j,Di v j=0:=by
 have hx:(at_.map fun j=>gp (L-1-j)).Nodup:=by
  have h1:=hp.nd
  have h2:=hp.lt
  clear h hv hm
  induction at_ with
  |nil=>simp
  |cons a l ih =>
   rw[List.nodup_cons] at h1
   rw[List.map_cons,List.nodup_cons]
   refine⟨fun hmem=>?_,ih ⟨h1.2,fun j hj=>h2 j (by simp[hj])⟩ h1.2 fun j hj=>h2 j (by simp[hj])⟩
   obtain⟨b,hb,he⟩:=List.mem_map.1 hmem
   have ha:=h2 a (by simp)
   have hb2:=h2 b (by simp[hb])
   have:=pm (by omega) (by omega) he
   have:a=b:=by omega
   subst this
   exact h1.1 hb
 refine qW _ v (by simp[hv]) hx fun i hi=>?_
 have hi':i<P:=by simp at hi;omega
 have:=h i (by rw[(LX L P at_ s).len];exact hi')
 rw[Uo _ _ _ _ _ _ hv i hi',C0,CM] at this
 rw[List.map_map]
 have e:(at_.map ((fun x=>UX x i) ∘ fun j=>gp (L-1-j)))=at_.map fun j=>VC L i j:=List.map_congr_left fun j _=>(pk _ _).symm
 rw[e];exact this
theorem kD {c d:F}{M:List (List F)}{v w:List F}(hl:v.length=w.length) (h1:QD c M v) (h2:QD d M w):QD (fa c d) M (SL v w):=by
 intro i hi
 have:SL v w++[fa c d]=SL (v++[c]) (w++[d]):=by
  unfold SL
  rw[List.zipWith_append hl];rfl
 rw[this,Wr _ _ _ (by simp[hl]),h1 i hi,h2 i hi,CM]
theorem eS {L P:Nat}(hL:L<=15) {at_:List Nat}(hp:ZG L at_) (hm:at_.length<=P) {s v w:List F}(hv:v.length=at_.length) (hw:w.length=at_.length) (h1:QD 1 (J' L P at_ s) v) (h2:QD 1 (J' L P at_ s) w):v=w:=by
 have h:=kD (by omega) h1 h2
 rw[FA] at h
 have:=WM hL hp hm (by rw[jK _ _ (by omega)];exact hv) h
 refine Wb (by omega) fun j _=>?_
 have hj:=this j
 rw[i0 _ _ _ (by omega)] at hj
 exact Gz _ _ hj
open Classical in
noncomputable def Gl (L P:Nat) (at_:List Nat) (s:List F):Option (List F) :=
 if h:∃v:List F,v.length=at_.length/\QD 1 (J' L P at_ s) v then some h.choose else none
theorem LP {L P:Nat}(hL:L<=15) {at_:List Nat}(hp:ZG L at_) (hm:at_.length<=P) {s v:List F}(hv:v.length=at_.length) (h:QD 1 (J' L P at_ s) v):Gl L P at_ s=some v:=by
 have hex:∃v:List F,v.length=at_.length/\QD 1 (J' L P at_ s) v:=⟨v,hv,h⟩
 unfold Gl
 rw[dif_pos hex]
 congr 1
 exact eS hL hp hm hex.choose_spec.1 hv hex.choose_spec.2 h
theorem ab {L P:Nat}{at_:List Nat}{s:List F}(h:∀v:List F,v.length=at_.length->¬QD 1 (J' L P at_ s) v):Gl L P at_ s=none:=by
 unfold Gl
 rw[dif_neg fun⟨v,h1,h2⟩=>h v h1 h2]
theorem IA {L P:Nat}{at_:List Nat}{s v:List F}(h:Gl L P at_ s=some v):v.length=at_.length/\QD 1 (J' L P at_ s) v:=by
 unfold Gl at h
 split at h
 ·rename_i hex
  simp only[Option.some.injEq] at h
  rw[←h];exact hex.choose_spec
 ·cases h
end Go.Pw
end
