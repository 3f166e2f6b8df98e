/- Part. -/
import Derived.Test.YtmdklgapccickaaGreatDoorMvPC
import Derived.Test.YtmdklgapccickaaGreatDoorPgMvChcX
import Derived.Test.YtmdklgapccickaaGreatDoorPgMvChrFs
set_option linter.all false
open List renaming length_take->aa,take_of_length_le->ay,take_add_one->az,getElem?_eq_getElem->ck,length_drop->cp,flatMap_cons->et,all_cons->f0,getElem?_eq_some_iff->hU,getElem?_map->hY,mem_map->i5,map_map->i7,findIdx?_eq_some_iff_getElem->j0,findIdx?_eq_none_iff->j4,length_map->kk
open Nat renaming zero_le->ax,eq_zero_or_pos->hX
open Option renaming getD_some->cw,getD->ea,toList_some->la
open Bool renaming and_eq_true->c8,false_eq_true->eb
open Go Go.Pw Go.Proofs
namespace Go.Pw
set_option maxRecDepth 100000
set_option maxHeartbeats 3200000
def Ez:PC :=
 .seq (.reg [] (AG 4 .mov [.k (.d (.list true []))]::[]) [0,1,4]) (.seq (.reg [] (AG 5 .mov [.k (.d (.list true []))]::[]) [0,1,4,5]) (.seq (.seq (.reg [] (AA 14 1::AB 15 (.len false) 14::AM 16 0::[]) [0,4,5,14,15,16]) (.block 0 (.loop [.freeze 4,.own 5 30 3 1] [0,4,5,14,15,16] [30,39,10039,900000,900001,901000,901001,5000030,5000039,5010039,800000,800001,801000,801001,902000,903000,902001,903001] (.seq (.reg [] (AD 17 (.bin .lss) 16 15::[]) [0,4,5,14,15,16,17]) (.seq (.cond (.t 17) (.skip) (.exit 0)) (.seq (.block 1 (.seq (.reg [] (AD 18 (.iaddrS 1) 14 16::AH 19 1 18::AA 7 19::[]) [0,4,5,7,14,15,16]) (.seq (.reg [] (AM 8 3::[]) [0,4,5,7,8,14,15,16]) (.block 2 (.loop [.freeze 4,.own 5 30 3 1] [0,4,5,7,8,14,15,16] [30,39,10039,900000,900001,901000,901001,5000030,5000039,5010039,800000,800001,801000,801001,902000,903000,902001,903001] (.seq (.seq (.reg [] (AA 20 8::AK 21 (.bin .geq) 20 0::[]) [0,4,5,7,8,14,15,16,21]) (.cond (.t 21) (.skip) (.exit 2))) (.seq (.block 3 (.reg [] (AA 24 5::AA 25 7::AA 26 8::AD 27 (.bin .shr) 25 26::AK 28 (.bin .and) 27 1::AB 29 (.mkrow 1 (.int .i64 0) 1 [0]) 28::AD 30 (.app 3 1 none true) 24 29::AA 5 30::[]) [0,4,5,7,8,14,15,16])) (.reg [] (AA 22 8::AK 23 (.bin .sub) 22 1::AA 8 23::[]) [0,4,5,7,8,14,15,16])))))))) (.reg [] (AK 31 (.bin .add) 16 1::AA 16 31::[]) [0,4,5,14,15,16]))))))) (.seq (.reg [.freeze 5] (AA 33 0::AB 34 .nilck 33::AJ 35 0 34::AJ 36 10 35::AH 37 1 36::AA 38 5::AD 39 (.call 71) 37 38::AA 32 39::AW 40 0 32::AW 41 1 32::AA 5 40::[]) [4,5]) (.seq (.reg [] (AG 9 (.zero [.list true []]) []::[]) [4,5,9]) (.seq (.seq (.reg [.freeze 5] (AA 42 5::AK 43 (.call 80) 42 4::[]) [4,9,43]) (.block 4 (.rngF [.freeze 4] (.t 43) [44] [4,9] [9,59,5000009,5000059] (.reg [] (AA 10 44::[]) [9,10]) [] [9,59,5000009,5000059] (.block 5 (.seq (.reg [] (AM 11 0::[]) [9,10,11]) (.seq (.seq (.reg [] (AA 45 10::AB 46 (.len false) 45::AM 47 0::[]) [9,11,45,46,47]) (.block 6 (.loop [] [9,11,45,46,47] [9,59,5000009,5000059] (.seq (.reg [] (AD 48 (.bin .lss) 47 46::[]) [9,11,45,46,47,48]) (.seq (.cond (.t 48) (.skip) (.exit 6)) (.seq (.block 7 (.seq (.reg [] (AD 49 (.iaddrS 1) 45 47::AH 50 1 49::AA 13 50::[]) [9,11,13,45,46,47]) (.reg [] (AA 51 11::AG 52 (.bin .mul) [.k (.d (.int .i64 2)),.t 51]::AA 53 13::AD 54 (.bin .add) 52 53::AA 11 54::[]) [9,11,45,46,47]))) (.reg [] (AK 55 (.bin .add) 47 1::AA 47 55::[]) [9,11,45,46,47]))))))) (.reg [] (AH 56 1 9::AA 57 11::AB 58 (.mkrow 1 (.int .i64 0) 1 [0]) 57::AD 59 (.app 3 1 none true) 56 58::Ae (.store 1) [.t 9,.t 59]::[]) []))))))) (.seq (.reg [] (AH 60 1 9::AA 4 60::[]) [4]) (.ret)))))))
theorem Hx:Br E0 Fo Ez [.t 4] 61:=AI (fl:=[]) (by kernel_rfl)
def Ff:PC :=
 .seq (.reg [] (AG 4 .mov [.k (.d (.list true []))]::AM 5 0::[]) [0,1]) (.seq (.reg [] (AG 6 .mov [.k (.d (.list true []))]::[]) [0,1,6]) (.seq (.reg [] (AA 10 1::AB 11 (.call 35) 10::AA 7 11::[]) [0,6,7]) (.seq (.seq (.reg [] (AA 12 7::AB 13 (.len false) 12::AM 14 0::[]) [0,6,7,12,13,14]) (.block 0 (.loop [.own 6 24 3 1] [0,6,7,12,13,14] [11,24,10011,900000,901000,800000,801000,902000,903000] (.seq (.reg [] (AD 15 (.bin .lss) 14 13::[]) [0,6,7,12,13,14,15]) (.seq (.cond (.t 15) (.skip) (.exit 0)) (.seq (.block 1 (.seq (.reg [] (AA 16 14::AD 17 (.iaddrS 1) 12 14::AH 18 1 17::AA 8 16::AA 9 18::[]) [0,6,7,8,9,12,13,14]) (.seq (.reg [] (AA 19 9::AK 20 (.bin .eql) 19 (-1)::[]) [0,6,7,8,12,13,14,20]) (.cond (.t 20) (.seq (.reg [] (AA 21 6::AA 22 8::AB 23 (.mkrow 1 (.int .i64 0) 1 [0]) 22::AD 24 (.app 3 1 none true) 21 23::AA 6 24::[]) [0,6,7,8,12,13,14]) (.reg [] (AA 25 7::AA 26 8::AD 27 (.iaddrS 1) 25 26::Ae (.store 1) [.t 27,.k (.d (.int .i64 0))]::[]) [0,6,7,12,13,14])) (.skip))))) (.reg [] (AK 28 (.bin .add) 14 1::AA 14 28::[]) [0,6,7,12,13,14]))))))) (.seq (.draw [.freeze 6,.freeze 7] ((AA 29 0,[])::(AB 30 .nilck 29,[])::(AJ 31 0 30,[])::(AJ 32 6 31,[])::(AB 33 (.load true 3) 32,[])::(AA 34 0,[])::(AA 35 7,[])::(AD 36 (.call 36) 34 35,[4])::(AA 37 6,[])::(AG 38 (.call 106) [.t 33,.t 36,.t 37],[])::(AW 39 0 38,[])::(AW 40 1 38,[])::(AA 4 39,[])::(AA 5 40,[])::[]) [4,5]) (.ret)))))
theorem Il:Br E0 GE Ff [.t 4,.t 5] 41:=AI (fl:=[]) (by kernel_rfl)
section
theorem X3{α:Type}{f:α->List Int}{m:Nat}(e:∀x,(f x).length=m):∀(l:List α) (i k:Nat) (h:i<l.length),k<m->(l.flatMap f)[m*i+k]?=(f l[i])[k]?
 |[],_,_,h,_=>by cases h
 |x::l,0,k,_,hk=>by
  rw[Nat.mul_zero,Nat.zero_add,et,List.getElem?_append_left (by rw[e];exact hk)];rfl
 |x::l,i+1,k,h,hk=>by
  rw[et,Nat.mul_succ,List.getElem?_append_right (by rw[e];omega),e,show m*i+m+k-m=m*i+k by omega];exact X3 e l i k (by simpa using h) hk
theorem pD(xs:List Int){i k:Nat}(hi:i<xs.length)(hk:k<4):(Je xs).take (4*i+k)++[(xs[i]?.getD 0)/2^(3-k)%2]=(Je xs).take (4*i+(k+1)):=by
 have h1:=VY xs;have h2:4*i+k<(Je xs).length:=by omega
 rw[show 4*i+(k+1)=4*i+k+1 by omega,az];congr 1;have e:=X3 (f:=M4 1) (m:=4) (fun x=>Jm 1 x) xs i k hi hk;unfold Je;rw[e,ck hi];simp only[cw]
 match k,hk with
 |0,_=>rfl|1,_=>rfl|2,_=>rfl|3,_=>rfl
theorem XN:∀(l:List Int) (a:Int),Ap l=true->0<=a->0<=l.foldl (fun a w=>a*2^1+w) a/\l.foldl (fun a w=>a*2^1+w) a+1<=(a+1)*2^l.length
 |[],a,_,h=>by simp;omega
 |x::l,a,hb,h=>by
  have hx:0<=x/\x<=1:=by
   simp only[Ap,f0,c8,Cw,decide_eq_true_eq]at hb;exact hb.1
  have hl:Ap l=true:=by
   simp only[Ap,f0,c8]at hb;exact hb.2
  have ih:=XN l (a*2^1+x) hl (by omega);refine⟨ih.1,Int.le_trans ih.2 ?_⟩;have e:(a+1)*(2:Int)^(x::l).length=((a+1)*2)*2^l.length:=by rw[List.length_cons,Int.pow_succ,Int.mul_comm (2^l.length) 2,Int.mul_assoc]
  rw[e];exact Int.mul_le_mul_of_nonneg_right (by omega) (Int.le_of_lt (Int.pow_pos (by omega)))
theorem iA{l:List Int}(h:Ap l=true)(hl:l.length<=4):0<=IZ 1 l/\IZ 1 l<=15:=by
 have h1:=XN l 0 h (Int.le_refl 0)
 have h2:(2:Int)^l.length<=16:=by
  have:l.length=0\/l.length=1\/l.length=2\/l.length=3\/l.length=4:=by omega
  rcases this with e|e|e|e|e<;>rw[e]<;>omega
 unfold IZ;omega
theorem XM:∀(l:List Int) (m n:Nat),l.length=m*4->n<m->(aZ l)[n]?.getD 0=IZ 1 ((l.drop (n*4)).take 4)
 |l,0,n,_,h=>by cases h
 |a::b::c::d::l,m+1,0,hl,_=>rfl
 |a::b::c::d::l,m+1,n+1,hl,h=>by
  have:=XM l m n (by simp at hl;omega) (by omega);show(aZ l)[n]?.getD 0=_;rw[this,show(n+1)*4=n*4+4 by omega];rfl
 |[],m+1,n,hl,_=>by simp at hl
 |[_],m+1,n,hl,_=>by simp at hl;omega
 |[_,_],m+1,n,hl,_=>by simp at hl;omega
 |[_,_,_],m+1,n,hl,_=>by simp at hl;omega
theorem n9(s:Int)(xs:List Int){n:Nat}(h:n<xs.length):(DL s xs).take n++[IZ 1 (((Cy s (Je xs)).drop (n*4)).take 4)]=(DL s xs).take (n+1):=by
 have h1:(Cy s (Je xs)).length=xs.length*4:=by rw[Hg,VY];omega
 have h2:=XM _ _ n h1 h;rw[XL]at h2;rw[←h2,az,ck (by rw[D7];exact h)];rfl
theorem jj{p:List Int}{j:Nat}(h:j<p.length):2*IZ 1 (p.take j)+(p[j]?.getD 0)=IZ 1 (p.take (j+1)):=by
 rw[az,ck h,la,jk];simp only[cw];omega
def scO(X:List Int):Nat->List (Nat×Nat×AY)
 |0=>[(5000009,0,.cells [.d (.list true [])])]
 |k+1=>[(59,0,.row 3 1 false (Ad (X.take (k+1)))),(5000009,0,.cells [.own 59 0])]
theorem xF(X:List Int):scO X 0=[(5000009,0,.cells [.d (.list true [])])]:=rfl
theorem oB(X:List Int)(k:Nat):scO X (k+1)=[(59,0,.row 3 1 false (Ad (X.take (k+1)))),(5000009,0,.cells [.own 59 0])]:=rfl
attribute [local irreducible] IntKind.wrap Ah ea and or
theorem H0(c:Ag)(r:List D)(nb:Bool)(xs:List Int)(hs:Cw c.seed 1 127=true)(hl:xs.length<=32)(h0:0<xs.length) :
  BU E0 Fo [.ptr (YB c r),.list nb (Ad xs)] (.list false (Ad (DL c.seed xs))):=by
 have β:=VY xs;refine AL Hx AR (by simp) fun τ=>?_
 rw[AN];unfold Ez;refine' HM @Be
 all_goals try exact BL
 refine AZ (α:=Nat×Bool) (fun x=>[(16,.d (.int .i64 (x.1:Int)))]) (fun x=>[(30,.row 3 1 x.2 (Ad ((Je xs).take (4*x.1))))]) (fun x=>x.1<=xs.length/\x.2=decide (x.1=0)) (fun x=>xs.length-x.1) (0,true) ?hI1 ?step1
 case' step1=>(rintro⟨i,nl⟩ hI;try dsimp only at hI)
 case' hI1=>try dsimp only
 ·exact⟨ax _,rfl⟩
 ·obtain⟨i1,i2⟩:=hI;change nl=decide (i=0)at i2;subst i2
  by_cases hi:i<xs.length
  ·have u:(i:Int)<(xs.length:Int):=by omega
   have ε:=HE (i:=i) (by omega);obtain⟨x,hx⟩:∃x,xs[i]?.getD 0=x:=⟨_,rfl⟩
   have o:=fun k hk=>@pD xs i k hi hk
   simp only[hx]at o;refine' Ta @Be u hi hx
   all_goals try exact BL
   refine AZ (α:=Nat×Int×Bool) (fun x=>[(8,.d (.int .i64 x.2.1))]) (fun x=>[(30,.row 3 1 x.2.2 (Ad ((Je xs).take (4*i+x.1))))]) (fun x=>x.1<=4/\x.2.1=3-(x.1:Int)/\x.2.2=(decide (i=0) && decide (x.1=0))) (fun x=>4-x.1) (0,3,(decide (i=0))) ?hI2 ?step2
   case' step2=>(rintro⟨k,a,e⟩ hI2;try dsimp only at hI2)
   case' hI2=>try dsimp only
   ·exact⟨ax _,rfl,by cases i<;>simp⟩
   ·obtain⟨k1,k2,k3⟩:=hI2;change a=3-(k:Int)at k2;change e=(decide (i=0) && decide (k=0))at k3
    by_cases hk:k<4
    ·have ha:0<=a:=by omega
     have κ:a.toNat=3-k:=by omega
     have o:=o k hk;have θ:IntKind.i64.wrap (a-1)=a-1:=Am _ (by omega);have σ:((Je xs).take (4*i+k)).length<=128:=by rw[aa];omega
     have M:false=(decide (i=0) && decide (k+1=0)):=by simp
     refine' MX ha θ
     all_goals try exact BL
     rw[κ,o];exact⟨(k+1,a-1,false),rfl,⟨by show k+1<=4;omega,by show a-1=3-((k+1:Nat):Int);omega,M⟩,by show 4-(k+1)<4-k;omega⟩
    ·have ha:¬0<=a:=by omega
     have Z:4*i+k=4*(i+1):=by omega
     have M:e=decide (i+1=0):=by rw[k3];simp;omega
     refine' LV ha ε Z
     all_goals try exact BL
     all_goals skip
  ·have u:¬(i:Int)<(xs.length:Int):=by omega
   have ι:(Je xs).take (4*i)=Je xs:=ay (by omega);have δ:decide (i=0)=false:=decide_eq_false (by omega);rw[ι,δ];have η:NA c.seed (Je xs)=(Cy c.seed (Je xs),0):=bK (by unfold GF;rw[hs,kg,decide_eq_true (by omega)];simp only[Bool.and_self]);have c1:=JM c.seed false (Je xs);rw[η]at c1;have t:=Hg c.seed (Je xs);have U:=M_ c.seed (Je xs);obtain⟨R,hR⟩:∃R,Cy c.seed (Je xs)=R:=⟨_,rfl⟩
   have X:=fun n hn=>@n9 c.seed xs n hn
   rw[hR]at c1 t U;simp only[hR]at X;have γ:R.isEmpty=false:=K3 (fun e=>by rw[e]at t;simp at t;omega);rw[γ]at c1;have c2:=YO false R 4 (by omega);have c3:=YN false R 4 xs.length (by omega) (by omega) (by omega) rfl;refine' FS @Be u;repeat' first|(refine' BJ;(first|refine AF c1 ?_|refine AF c2 ?_)<;>refine' FS @Be u)|refine' BI|done
   all_goals try exact BL
   refine Y0 (α:=Nat) (fun k=>⟨BH (scO (DL c.seed xs) k),fun _=>1⟩) (fun n k=>k=n) (fun e x=>False) 0 (sl1:=Dm ?l7) ?h07 (fun _=>rfl) FT (by simp[PC.noR]) c3 ?hw7 rfl ?step7 ?hend7 (fun e x h=>h.elim)
   case h07 =>
    simp -implicitDefEqProofs only[go_sem];simp only[or_true,true_or,true_and];rfl
   case hw7=>simp -implicitDefEqProofs only[go_sem,xF]
   case step7 =>
    intro n k ds y hk;subst hk;have T:k<xs.length:=by have:=(hU.1 y).1;rw[N0]at this;exact this
    rw[V9 R T]at y;obtain rfl:=Option.some.inj y;refine⟨rfl,?_⟩;have B:=X k T;obtain⟨p,hp⟩:∃p,(R.drop (k*4)).take 4=p:=⟨_,rfl⟩
    have ρ:p.length=4:=by rw[←hp,aa,cp,t,β];omega
    have N:Ap p=true:=by rw[←hp];exact L1 (L2 U _) _
    rw[hp]at B ⊢;have ν:((DL c.seed xs).take k).length<=32:=by rw[aa];omega
    obtain⟨O,hO⟩:∃O,scO (DL c.seed xs) k=O:=⟨_,rfl⟩
    have hround:∀(a:Int) (j:Nat),a=IZ 1 (p.take j)->j<4->IntKind.i64.wrap (2*a)=2*a/\IntKind.i64.wrap (2*a+p[j]?.getD 0)=IZ 1 (p.take (j+1)):=fun a j h2 Y=>by
     have ξ:=iA (L1 N j) (by rw[aa];omega);have μ:=iA (L1 N (j+1)) (by rw[aa];omega);have o:=jj (show j<p.length by omega);refine⟨Am _ (by omega),?_⟩;rw[h2,o];exact Am _ (by omega)
    rcases hX k with S|S
    ·subst S;refine' HM @xF
     all_goals try exact BL
     refine AZ (α:=Nat×Int) (fun x=>[(47,.d (.int .i64 (x.1:Int))),(11,.d (.int .i64 x.2))]) (fun x=>[]) (fun x=>x.1<=4/\x.2=IZ 1 (p.take x.1)) (fun x=>4-x.1) (0,0) ?hI3 ?step3
     case' step3=>(rintro⟨j,a⟩ hI3;try dsimp only at hI3)
     case' hI3=>try dsimp only
     ·exact⟨ax _,rfl⟩
     ·obtain⟨j1,q⟩:=hI3;change a=IZ 1 (p.take j)at q
      by_cases Y:j<4
      ·have l:(j:Int)<(p.length:Int):=by omega
       have z:j<p.length:=by omega
       obtain⟨G,A⟩:=hround a j q Y;have J:=HE (i:=j) (by omega);refine' bq l z J G A
       all_goals try exact BL
       rfl
      ·have l:¬(j:Int)<(p.length:Int):=by omega
       have L:p.take j=p:=ay (by omega);rw[L]at q;subst q;refine' HM l;refine⟨1,?_,rfl⟩;rw[oB,←B];rfl
    ·obtain⟨m,rfl⟩:∃m,k=m+1:=⟨k-1,by omega⟩
     refine' HM @oB
     all_goals try exact BL
     refine AZ (α:=Nat×Int) (fun x=>[(47,.d (.int .i64 (x.1:Int))),(11,.d (.int .i64 x.2))]) (fun x=>[]) (fun x=>x.1<=4/\x.2=IZ 1 (p.take x.1)) (fun x=>4-x.1) (0,0) ?hI4 ?step4
     case' step4=>(rintro⟨j,a⟩ hI4;try dsimp only at hI4)
     case' hI4=>try dsimp only
     ·exact⟨ax _,rfl⟩
     ·obtain⟨j1,q⟩:=hI4;change a=IZ 1 (p.take j)at q
      by_cases Y:j<4
      ·have l:(j:Int)<(p.length:Int):=by omega
       have z:j<p.length:=by omega
       obtain⟨G,A⟩:=hround a j q Y;have J:=HE (i:=j) (by omega);refine' bq l z J G A
       all_goals try exact BL
       rfl
      ·have l:¬(j:Int)<(p.length:Int):=by omega
       have L:p.take j=p:=ay (by omega);rw[L]at q;subst q;refine' MX l B
       ·omega
       ·exact⟨m+1+1,rfl,rfl⟩
   case hend7 =>
    intro k hk;rw[N0]at hk;change k=xs.length at hk;obtain⟨m,rfl⟩:∃m,k=m+1:=⟨k-1,by omega⟩
    have ζ:(DL c.seed xs).take (m+1)=DL c.seed xs:=ay (by rw[D7];omega);refine' MX @oB ζ
    all_goals first|rfl|skip
end
section
def rwF(p:List Int):D:=.list false (Ad p)
def tN(rs:List (List Int)):List D:=rs.map rwF
theorem tM(rs:List (List Int)):(tN rs).length=rs.length:=by simp[tN]
theorem kV{rs:List (List Int)}{i:Nat}{A:D->Prop}:Au (tN rs)[i]? A=(i<rs.length/\A (.list false (Ad (rs[i]?.getD [])))):=by
 unfold tN;rw[hY]
 by_cases h:i<rs.length
 ·simp[h,Au,rwF]
 ·have:rs[i]?=none:=List.getElem?_eq_none (by omega);simp[this,h,Au]
theorem oG(rs:List (List Int)):Cc 1 (tN rs)=True:=by
 refine eq_true fun x hx=>?_
 simp only[tN,i5]at hx;obtain⟨p,_,rfl⟩:=hx;rfl
attribute [go_sem] tM kV oG
def YZ(c:GCode):List (List Int):=(List.range 16).map c.stm
theorem ai(c:GCode):(YZ c).length=16:=by simp[YZ]
theorem iB(c:GCode):HU c=tN (YZ c):=by
 unfold HU tN YZ;rw[i7];rfl
def nV:Option Nat->Int
 |some s=>(s:Int)
 |none=>-1
def Yp(l:List (Option Nat)):List Int:=l.map nV
theorem Qf(l:List (Option Nat)):(Yp l).length=l.length:=by simp[Yp]
theorem uu{c:GCode}(h:Nm c 16=true)(p:List Int):(match (YZ c).findIdx? (fun q=>decide (q=p))with|some i=>(i:Int)|none=>-1)=nV (YY c p):=by
 cases hf:(YZ c).findIdx? (fun q=>decide (q=p))with
 |some i =>
  rw[j0]at hf;obtain⟨hi,j,_⟩:=hf;have e:i<16:=by rw[ai]at hi;exact hi
  simp only[YZ,List.getElem_map,List.getElem_range,decide_eq_true_eq]at j;rw[←j,ab h e];rfl
 |none =>
  rw[j4]at hf
  cases hs:YY c p with
  |none=>rfl
  |some s =>
   obtain⟨h1,h2⟩:=XO hs;have:=hf (c.stm s) (by simp only[YZ,i5,List.mem_range];exact⟨s,h1,rfl⟩);simp[h2]at this
theorem nO(c:Ag)(bits:List Int)(a:Nat){i:Nat}(h:i<c.syms):(Yp (c.syL bits a)).take i++[nV (YY c.code (c.part bits a i))]=(Yp (c.syL bits a)).take (i+1):=by
 rw[az];congr 1;unfold Yp Ag.syL;rw[i7,hY,List.getElem?_range h];rfl
theorem rJ(c:Ag)(bits:List Int)(a i:Nat)(h:i<c.syms):(((bits.drop (a+c.mark.length)).take (c.syms*c.code.sz)).drop (i*c.code.sz)).take c.code.sz=c.part bits a i:=by
 have h1:i*c.code.sz+c.code.sz<=c.syms*c.code.sz:=by have:=Nat.mul_le_mul_right c.code.sz (show i+1<=c.syms from h);rw[Nat.add_mul,Nat.one_mul]at this;exact this
 unfold Ag.part;rw[List.drop_take,List.take_take,List.drop_drop,Nat.min_eq_left (by omega)]
def Ol(c:Ag)(bits:List Int):D:=match c.find bits with
 |some a=>.tup [.int .i64 (a:Int),.list false (Ad (Yp (c.syL bits a))),.bool true]
 |none=>.tup [.int .i64 0,.list true [],.bool false]
theorem qV{c:Ag}{bits:List Int}{a:Nat}(h:∀j,j<a->c.errs<FI c.mark (bits.drop j))(e:a+c.tot<=bits.length):(FI c.mark (bits.drop a)<=c.errs->c.find bits=some a) :=
 fun hd=>Sp.2 ⟨e,hd,h⟩
theorem qU{c:Ag}{bits:List Int}{a:Nat}(h:∀j,j<a->c.errs<FI c.mark (bits.drop j))(e:¬a+c.tot<=bits.length):c.find bits=none:=by
 cases hf:c.find bits with
 |none=>rfl
 |some r =>
  obtain⟨h1,h2,i⟩:=Sp.1 hf;have:=h r (by omega);omega
theorem dV:BA E0.P DE=true:=by kernel_rfl
def qb(c:Ag):Nat×Nat×AY:=(5000002,0,.cells [.d (.ptr (YB c (HU c.code)))])
def fdO(c:Ag)(X:List Int):Nat->List (Nat×Nat×AY)
 |0=>[qb c,(5000005,0,.cells [.d (.list true [])])]
 |k+1=>[(68,0,.row 3 1 false (Ad (X.take (k+1)))),qb c,(5000005,0,.cells [.own 68 0])]
theorem qa(c:Ag)(X:List Int):fdO c X 0=[qb c,(5000005,0,.cells [.d (.list true [])])]:=rfl
theorem cj(c:Ag)(X:List Int)(k:Nat):fdO c X (k+1)=[(68,0,.row 3 1 false (Ad (X.take (k+1)))),qb c,(5000005,0,.cells [.own 68 0])]:=rfl
attribute [local irreducible] IntKind.wrap Ah ea and or
theorem QV(rs:List (List Int))(r:rs.length<=1000)(f:FuncId)(cs:List D)(p:List Int->Bool)(hb:BA E0.P f=true)(q:Ax AV.toD1 (cs.map .d)=some cs)(h:∀x,x∈rs->BU E0 f (.list false (Ad x)::cs) (.bool (p x))) :
  BU E0 EQ [.list false (tN rs),.fn f cs] (.int .i64 (match rs.findIdx? p with|some i=>i|none=>-1)):=by
 refine AL Gh AR (by simp) fun o=>?_
 simp only[Eo,Dv,Du,Da,FE,FD,HI,FC,Bj,B0,B1,Dw,CO,kk,Bq,true_and,and_true]at o;rw[AN];unfold D9;simp -implicitDefEqProofs only[go_sem];refine AZ (α:=Int) (fun x=>[(8,.d (.int .i64 x))]) (fun x=>[]) (fun x=>0<=x/\x<=rs.length/\∀(j:Nat) (l:j<rs.length),(j:Int)<x->p rs[j]=false) (fun x=>(rs.length-x).toNat) ?a1_0 ?hI1 ?step1
 case' step1=>(rintro i m;try dsimp only at m)
 case' hI1=>try dsimp only
 ·simp;omega
 ·have e:i<rs.length->IntKind.i64.wrap (i+1)=i+1:=fun h=>Am _ (by omega)
  refine' FP
  all_goals try exact BL
  ·have hx:rs[i.toNat]?.getD []=rs[i.toNat]'(by omega):=by rw[ck (by omega),cw]
   rw[hx];refine Zg (h _ (List.getElem_mem _)) (J8 rfl q) (fun hp=>?_) (fun hp=>?_)
   ·simp -implicitDefEqProofs only[go_sem];have:rs.findIdx? p=some i.toNat:=by rw[j0];exact⟨by omega,hp,fun j l=>by simp[m.2.2 j (by omega) (by omega)]⟩
    rw[this];simp;omega
   ·have e:=e (by omega);refine' HM e
    all_goals try exact BL
    rename_i j l t
    by_cases n:j=i.toNat
    ·subst n;exact hp
    ·exact m.2.2 j l (by omega)
  ·have:rs.findIdx? p=none:=by
    rw[j4];intro x hx;obtain⟨j,l,rfl⟩:=List.getElem_of_mem hx;exact m.2.2 j l (by omega)
   rw[this]
theorem TG(c:Ag)(hk:LU c)(M:Bool)(bits:List Int)(hb:Pz bits=true)(Z:M=true->bits=[]) :
  BU E0 HC [.ptr (YB c (HU c.code)),.list M (Ad bits)] (Ol c bits):=by
 have hm:=hk.markl;have hs:=hk.syms;have ht:=hk.tot;have hz:=Ir hk.code;have δ:bits.length<=1000/\Ap bits=true:=by simp only[Pz,c8,decide_eq_true_eq]at hb;exact hb
 have γ:c.tot=c.mark.length+c.syms*c.code.sz:=rfl;have cB:=LG c hk.wev hk.code;have cL:=Ha c;obtain⟨B,hB⟩:∃B,c.syms*c.code.sz=B:=⟨_,rfl⟩
 rw[hB]at cB ht γ;refine AL KN AR (by simp) fun θ=>?_
 rw[AN];unfold GX;refine' HM @Be
 all_goals try exact BL
 refine AZ (α:=Nat) (fun x=>[(4,.d (.int .i64 (x:Int)))]) (fun x=>[]) (fun x=>x<=bits.length+1/\∀j,j<x->c.errs<FI c.mark (bits.drop j)) (fun x=>bits.length+1-x) 0 ?hI2 ?step2
 case' step2=>(rintro a hI;try dsimp only at hI)
 case' hI2=>try dsimp only
 ·exact⟨ax _,fun j hj=>by omega⟩
 ·obtain⟨i1,Y⟩:=hI;have A:IntKind.i64.wrap ((a:Int)+(c.mark.length:Int))=((a+c.mark.length:Nat):Int):=by rw[Am _ (by omega)];omega
  have z:IntKind.i64.wrap (((a+c.mark.length:Nat):Int)+(B:Int))=((a+c.mark.length+B:Nat):Int):=by rw[Am _ (by omega)];omega
  have N:=HE (i:=a) (by omega)
  by_cases S:a+c.tot<=bits.length
  ·have t:((a+c.mark.length+B:Nat):Int)<=(bits.length:Int):=by omega
   have O:(a:Int)<=(bits.length:Int):=by omega
   have cD:=N1 c.nm M c.mark (bits.drop a) hm.2.2 (L2 δ.2 a) (by rw[cp];omega) (by omega)
   by_cases hd:c.errs<FI c.mark (bits.drop a)
   ·refine' mt @Be A z t O hd N;repeat' first|(refine' BJ;(first|refine AF cB ?_|refine AF cD ?_)<;>refine' mt @Be A z t O hd N)|refine' BI|done
    all_goals try exact BL
    rename_i j hj
    by_cases e:j=a
    ·rw[e];exact hd
    ·exact Y j (by omega)
   ·have hf:=qV Y S (by omega)
    have β:M=false:=by
     cases M with
     |false=>rfl
     |true=>have:=Z rfl;rw[this]at S;simp at S;omega
    subst β;obtain⟨R,T⟩:∃R,(bits.drop (a+c.mark.length)).take B=R:=⟨_,rfl⟩
    have U:R.length=c.syms*c.code.sz:=by rw[←T,aa,cp];omega
    have cC:=YO false R c.code.sz (by omega);have cS:=YN false R c.code.sz c.syms (by omega) U (by omega) rfl;have l:=fun i h=>rJ c bits a i h
    rw[hB,T]at l;have g3:((a+c.mark.length:Nat):Int)<=(bits.length:Int):=by omega
    have g4:(B:Int)<=((bits.drop (a+c.mark.length)).length:Int):=by rw[cp];omega
    have η:=(iB c.code).symm;have ε:(YB c (HU c.code)).drop 12=HU c.code:=rfl;have p:=jm c.code;refine' EP @Be A z t O hd N (aI g3 (aI g4 T));repeat' first|(refine' BJ;(first|refine AF cB ?_|refine AF cD ?_|refine AF cL ?_|refine AF cC ?_)<;>refine' EP @Be A z t O hd N (aI g3 (aI g4 T)))|refine' BI|done
    all_goals try exact BL
    refine Y0 (α:=Nat) (fun k=>⟨BH (fdO c (Yp (c.syL bits a)) k),fun _=>1⟩) (fun n k=>k=n) (fun e x=>False) 0 (sl1:=Dm ?l7) ?h07 (fun _=>rfl) FT (by simp[PC.noR]) cS ?hw7 rfl ?step7 ?hend7 (fun e x h=>h.elim)
    case h07 =>
     simp -implicitDefEqProofs only[go_sem];simp only[or_true,true_or,true_and];rfl
    case hw7=>simp -implicitDefEqProofs only[go_sem,qa,qb]
    case step7 =>
     intro n k ds y X;subst X;have r:k<c.syms:=by have:=(hU.1 y).1;rw[N0]at this;exact this
     rw[V9 R r,l k r]at y;obtain rfl:=Option.some.inj y;refine⟨rfl,?_⟩;have cI:=QV (YZ c.code) (by rw[ai];omega) DE [.ptr [.list false (Ad (c.part bits a k))]] (fun q=>decide (q=c.part bits a k)) dV rfl (fun x _=>f9 false false x _);rw[uu hk.dst,←iB]at cI;have u:=nO c bits a r;have o:=af c.code;have ζ:((Yp (c.syL bits a)).take k).length<=32:=by rw[aa];omega
     rcases hX k with G|G
     ·subst G
      (try(simp -implicitDefEqProofs only[go_sem,qa,qb,Be,p,o]));repeat' first|(with_reducible first|exact tI|refine aI ?_ ?_|intro _)|((first|with_reducible refine GK ?_ ?_<;>intro _|(with_reducible refine isCall ?_);first|refine AF cI ?_)<;>try(simp -implicitDefEqProofs only[go_sem,qa,qb,Be,p,o]))|simp (disch:=omega)only[Jb]|((with_reducible refine fY ?_);refine⟨_,rfl,?_,?_⟩)
      all_goals try exact BL
      refine⟨1,?_,rfl⟩;rw[cj,←u];rfl
     ·obtain⟨m,rfl⟩:∃m,k=m+1:=⟨k-1,by omega⟩
      (try(simp -implicitDefEqProofs only[go_sem,cj,qb,Be,p,o,u]));repeat' first|(with_reducible first|exact tI|refine aI ?_ ?_|intro _)|((first|with_reducible refine GK ?_ ?_<;>intro _|(with_reducible refine isCall ?_);first|refine AF cI ?_)<;>try(simp -implicitDefEqProofs only[go_sem,cj,qb,Be,p,o,u]))|simp (disch:=omega)only[Jb]|((with_reducible refine fY ?_);refine⟨_,rfl,?_,?_⟩)
      all_goals try exact BL
      exact⟨m+1+1,rfl,rfl⟩
    case hend7 =>
     intro k L;rw[N0]at L;change k=c.syms at L;obtain⟨m,rfl⟩:∃m,k=m+1:=⟨k-1,by omega⟩
     have J:(Yp (c.syL bits a)).take (m+1)=Yp (c.syL bits a):=ay (by rw[Qf,UY];omega);have hr:Ol c bits=.tup [.int .i64 (a:Int),.list false (Ad (Yp (c.syL bits a))),.bool true]:=by unfold Ol;rw[hf]
     rw[hr]
     (try(simp -implicitDefEqProofs only[go_sem,cj,qb,Be,J]));repeat' first|(with_reducible first|exact tI|refine aI ?_ ?_|intro _)|((first|with_reducible refine GK ?_ ?_<;>intro _)<;>try(simp -implicitDefEqProofs only[go_sem,cj,qb,Be,J]))|simp (disch:=omega)only[Jb]|((with_reducible refine fY ?_);refine⟨_,rfl,?_,?_⟩)
     all_goals first|rfl|skip
  ·have t:¬((a+c.mark.length+B:Nat):Int)<=(bits.length:Int):=by omega
   have hf:=qU Y S;have hr:Ol c bits=.tup [.int .i64 0,.list true [],.bool false]:=by unfold Ol;rw[hf]
   rw[hr];refine' Gj @Be A z t;repeat' first|(refine' BJ;(first|refine AF cB ?_)<;>refine' Gj @Be A z t)|refine' BI|done
   all_goals try exact BL
   all_goals skip
end
section
theorem nT{α:Type}(l:List α)(x:α):false=(l++[x]).isEmpty:=by cases l<;>rfl
attribute [local irreducible] IntKind.wrap Ah ea and or
theorem QJ(L P Q:Int)(n n2:Bool)(xs N:List Int)(ι:xs.length<=1000):BU E0 LR [.agg [.int .i64 L,.int .i64 P,.int .i64 Q],.list n (Ad xs),.list n2 (Ad N)] (.tup [.list (zx L P Q xs N).isEmpty (Ad (zx L P Q xs N)),.int .i64 (gaE L P Q xs N)]):=by
 refine AL O2 AR (by simp) fun hwf=>?_
 rw[AN];unfold I1 zx gaE
 cases hw:DN L P Q with
 |false =>
  have c1:=Ed L P Q n xs Dt (if JN L P=true then L else 0) dW (by
   split
   ·rename_i hc;have:=Ny hc;omega
   ·omega) fun hc=>by rw[if_pos hc];exact Mb L P
  unfold xI at c1;rw[hw]at c1;simp only[eb,if_false]at c1 ⊢;rw[VU]at c1;refine' Fp;repeat' first|(refine' BJ;(first|refine AF c1 ?_)<;>refine' Fp)|refine' BI|done
  all_goals first|rfl|(simp;done)|skip
 |true =>
  obtain⟨l,p,q,rfl,rfl,rfl,b1,b2,b3,b4,b5,b6,b7,hc⟩:=Qa hw;have c1:=Ed l p q n xs Dt (l:Int) dW (by omega) fun hc=>Mb l p
  unfold xI at c1;rw[hw]at c1;simp only[if_true]at c1 ⊢
  cases hs:FL xs ((q:Int)*(l:Int))with
  |false =>
   rw[hs]at c1;simp only[eb,if_false]at c1 ⊢;rw[e_]at c1;refine' Fp;repeat' first|(refine' BJ;(first|refine AF c1 ?_)<;>refine' Fp)|refine' BI|done
   all_goals first|rfl|(simp;done)|skip
  |true =>
   rw[hs]at c1;simp only[if_true]at c1 ⊢;rw[iX]at c1;have U:=QF n2 N xs.length
   cases hm:Gu N xs.length with
   |false =>
    rw[hm]at U;simp only[eb,if_false];refine' Fp;repeat' first|(refine' BJ;(first|refine AF c1 ?_|refine AF U ?_)<;>refine' Fp)|refine' BI|done
    all_goals first|rfl|(simp;done)|skip
   |true =>
    rw[hm]at U;simp only[if_true];obtain⟨hl,hf⟩:=U8 hs;obtain⟨d,hd⟩:∃d,fs xs=d:=⟨_,rfl⟩
    rw[hd]at hf ⊢;subst hf;have m:=yx hm;have ε:=AAg hm;obtain⟨mk,ρ⟩:∃mk,nt N=mk:=⟨_,rfl⟩
    rw[ρ]at m ε ⊢;subst ε;rw[Lm]at hl m ι U;have δ:=Y9 hl;rw[δ]at m;have ω:=pN b2 b7;have ψ:=pO m;simp only[Int.toNat_natCast];have c2:=fun k hk=>LE l p q l k n d (by omega) (by omega) b7 hk δ
    have B:=fun k=>@Y7 l q k (by omega) mk m
    have c3:=fun k b=>QH l p false b (Cp l q k d) (TZ q k mk) b2 (by omega) b3 (by omega) (Cu ..) (B k) (by have:=pO (B k);omega) rfl
    have hO:∀k,Rr l p (Cp l q k d) (TZ q k mk)=iu l p q d mk k:=fun k=>rfl
    simp only[hO]at c3;have c4:=HY l p (by omega);have w1:(l:Int)-(p:Int)=((l-p:Nat):Int):=by omega
    rw[w1]at c4;have σ:=fun k hk=>@aE q (mr l p q d mk) k hk
    have hwl:=UW q (mr l p q d mk);refine' Fp;repeat' first|(refine' BJ;(first|refine AF c1 ?_|refine AF U ?_)<;>refine' Fp)|refine' BI|done
    all_goals try exact BL
    refine AZ (α:=Nat×Bool) (fun x=>[(33,.d (.int .i64 (x.1:Int)))]) (fun x=>[(76,.row 147 1 x.2 (sG ((dx q (mr l p q d mk)).take x.1)))]) (fun x=>x.1<=q/\x.2=decide (x.1=0)/\∀i,i<x.1->(iu l p q d mk i).isSome=true) (fun x=>q-x.1) (0,true) ?hI1 ?step1
    case' step1=>(rintro⟨k,e⟩ hI;try dsimp only at hI)
    case' hI1=>try dsimp only
    ·exact⟨ax _,rfl,fun i hi=>absurd hi (by omega)⟩
    ·obtain⟨k1,k2,k3⟩:=hI;change e=decide (k=0)at k2;subst k2
     by_cases hk:k<q
     ·have G:(k:Int)<(q:Int):=by omega
      have X:=HE (i:=k) (by omega);have θ:¬(q:Int)=0:=by omega
      refine' HM G
      all_goals try exact BL
      refine AZ (α:=Nat×Bool×(List Nat)) (fun x=>[(38,.d (.int .i64 (x.1:Int)))]) (fun x=>[(54,.row 3 1 x.2.1 (Ad (ni x.2.2)))]) (fun x=>x.1<=mk.length/\x.2.1=x.2.2.isEmpty/\x.2.2=TZ q k (mk.take x.1)) (fun x=>mk.length-x.1) (0,true,[]) ?hI2 ?step2
      case' step2=>(rintro⟨i,e,mm⟩ hI2;try dsimp only at hI2)
      case' hI2=>try dsimp only
      ·exact⟨ax _,rfl,rfl⟩
      ·obtain⟨i1,i2,T⟩:=hI2;change e=mm.isEmpty at i2
       have υ:mm.length<=1000:=by
        have h1:mm.length<=(mk.take i).length:=by
         rw[T];unfold TZ;rw[kk];exact List.length_filter_le ..
        rw[aa]at h1;omega
       by_cases hi:i<mk.length
       ·have j:(i:Int)<(mk.length:Int):=by omega
        have Z:=HE (i:=i) (by omega);have hx:=pP q k i mk hi;have Y:=m.lt (mk[i]?.getD 0) (get_mem hi);obtain⟨x,J⟩:∃x,mk[i]?.getD 0=x:=⟨_,rfl⟩
        rw[J]at hx Y;have t1:Int.tmod (x:Int) (q:Int)=((x%q:Nat):Int):=nJ x q;have t2:Int.tdiv (x:Int) (q:Int)=((x/q:Nat):Int):=nL x q;have μ:=Nat.div_le_self x q
        by_cases β:x%q=k
        ·have A:((x%q:Nat):Int)=(k:Int):=by omega
         rw[if_pos β,←T]at hx;have M:=nT mm (x/q);obtain⟨y,hy⟩:∃y,x/q=y:=⟨_,rfl⟩
         rw[hy]at t2 hx μ M;have w2:IntKind.i64.wrap (y:Int)=(y:Int):=Am _ (by omega);refine' P4 j hi Z J t1 t2 w2 (aI A θ)
         all_goals try exact BL
         all_goals first|exact⟨M,hx.symm⟩|exact hx.symm|exact M|skip
        ·have A:¬((x%q:Nat):Int)=(k:Int):=by omega
         rw[if_neg β,←T]at hx;refine' P4 j hi Z J t1 t2 A θ
         all_goals try exact BL
         all_goals first|exact⟨i2,hx.symm⟩|exact hx.symm|exact i2|skip
       ·have j:¬(i:Int)<(mk.length:Int):=by omega
        have R:mk.take i=mk:=ay (by omega);rw[R]at T;subst T;have c5:=c2 k hk;have S:=c3 k e;rw[DC]at S;have t:=fun r=>@RG l p q d mk k r
        have η:=@zI l p q d mk k hk;have z:=fun r h=>@RR l p (Cp l q k d) r (TZ q k mk) (Cu ..) (B k) h
        simp only[hO]at z;have u:=σ k hk;obtain⟨O,o⟩:∃O,iu l p q d mk k=O:=⟨_,rfl⟩
        rw[o]at S t η z
        cases O with
        |none =>
         rw[X7]at S;rw[η rfl,uA,t9];refine' J6 j;repeat' first|(refine' BJ;(first|refine AF c5 ?_|refine AF S ?_)<;>refine' J6 j)|refine' BI|done
         all_goals first|rfl|omega|(simp;done)|skip
        |some r =>
         rw[X6]at S;have χ:=(z r rfl).2.1;have τ:=t r rfl;rw[τ]at u
         have ζ:∀i,i<k+1->(iu l p q d mk i).isSome=true:=fun i hi=>by
          rcases Nat.lt_succ_iff_lt_or_eq.1 hi with hi|rfl
          ·exact k3 i hi
          ·rw[o];rfl
         have γ:l-p<=r.length:=by omega
         refine' Gj j X u γ;repeat' first|(refine' BJ;(first|refine AF c5 ?_|refine AF S ?_|refine AF c4 ?_)<;>refine' Gj j X u γ)|refine' BI|done
         all_goals try exact BL
         all_goals first|exact ζ|exact ζ _ (by assumption)|skip
     ·have G:¬(k:Int)<(q:Int):=by omega
      have φ:k=q:=by omega
      have κ:decide (k=0)=false:=decide_eq_false (by omega);have R:(dx q (mr l p q d mk)).take k=dx q (mr l p q d mk):=ay (by omega);have ξ:=@ft l p q d mk fun i hi=>k3 i (by omega)
      rw[κ,R,ξ,t_,t8]
      have ν:∀i,i<q->(mr l p q d mk i).length=l-p:=fun i hi=>by
       have h1:=k3 i (by omega);obtain⟨O,o⟩:∃O,iu l p q d mk i=O:=⟨_,rfl⟩
       rw[o]at h1
       cases O with
       |none=>cases h1
       |some r =>
        rw[RG o,aa,(RR (Cu ..) (B i) o).2.1];omega
      have c7:=LF (.agg [.int .i64 (l:Int),.int .i64 (p:Int),.int .i64 (q:Int)]) q (l-p) (mr l p q d mk) (by omega) (by omega) b7 b6 ν ⟨_,_,_,rfl⟩;have hB:0<(Jj (l-p) q (mr l p q d mk)).length:=by rw[JP];exact Nat.mul_pos (by omega) (by omega)
      rw[Vd hB];refine' J6 G;repeat' first|(refine' BJ;(first|refine AF c7 ?_)<;>refine' J6 G)|refine' BI|done
      all_goals first|rfl|omega|(simp;done)|skip
end
end Go.Pw
