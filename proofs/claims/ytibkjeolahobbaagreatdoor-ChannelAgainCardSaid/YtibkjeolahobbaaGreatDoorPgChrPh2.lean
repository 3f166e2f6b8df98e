/- A part of the proof. -/
import Derived.Test.YtibkjeolahobbaaGreatDoorChPC
import Derived.Test.YtibkjeolahobbaaGreatDoorPgChrN
import Derived.Test.YtibkjeolahobbaaGreatDoorPgChcJ
import Derived.Test.YtibkjeolahobbaaGreatDoorPgChcA
import Derived.Test.YtibkjeolahobbaaGreatDoorChcSpec2
set_option linter.all false
open Go Go.Pw Go.Proofs
namespace Go.Pw
set_option maxRecDepth 100000
set_option maxHeartbeats 3200000
def HE:PC :=
 .seq (.reg [] (AD 3 .box 0::AH 6 .mov [.k (.d (.list true []))]::AL 7 0::[]) [1,2,3]) (.seq (.reg [] (AD 18 (.load true 3) 3::AA 19 1::AH 20 (.call 78) [.t 18,.t 19,.k (.fn 121 [])]::AA 17 20::BO 21 0 17::BO 22 1 17::AH 8 (.zero [.int .i64 0,.int .i64 0,.int .i64 0]) []::B3 (.store 3) [.t 8,.t 21]::AA 9 22::[]) [1,2,8,9]) (.seq (.seq (.reg [] (AA 23 9::AQ 24 (.bin .neq) 23 0::[]) [1,2,8,9,24]) (.cond (.t 24) (.seq (.reg [] (AA 25 9::AH 6 .mov [.k (.d (.list true []))]::AA 7 25::[]) [6,7]) (.ret)) (.skip))) (.seq (.seq (.reg [] (AA 26 2::AA 27 1::AD 28 (.len false) 27::AB 29 (.call 122) 26 28::AD 30 (.un .not) 29::[]) [1,2,8,30]) (.cond (.t 30) (.seq (.reg [] (AH 6 .mov [.k (.d (.list true []))]::AL 7 1::[]) [6,7]) (.ret)) (.skip))) (.seq (.reg [] (AH 10 .mov [.k (.d (.list true []))]::[]) [1,2,8,10]) (.seq (.seq (.reg [] (AR 31 2 8::AG 32 1 31::AL 33 0::[]) [1,2,8,10,32,33]) (.block 0 (.loop [.own 10 76 110 1] [1,2,8,10,32,33] [8,20,76,10020,900001,900002,901001,901002] (.seq (.reg [] (AB 34 (.bin .lss) 33 32::[]) [1,2,8,10,32,33,34]) (.seq (.cond (.t 34) (.skip) (.exit 0)) (.seq (.block 1 (.seq (.reg [] (AA 35 33::AA 11 35::[]) [1,2,8,10,11,32,33]) (.seq (.reg [] (AH 12 .mov [.k (.d (.list true []))]::[]) [1,2,8,10,11,12,32,33]) (.seq (.seq (.reg [] (AA 36 2::AD 37 (.len false) 36::AL 38 0::[]) [1,2,8,10,11,12,32,33,36,37,38]) (.block 2 (.loop [.own 10 76 110 1,.own 12 54 3 1] [1,2,8,10,11,12,32,33,36,37,38] [8,20,54,76,10020,900001,900002,901001,901002] (.seq (.reg [] (AB 39 (.bin .lss) 38 37::[]) [1,2,8,10,11,12,32,33,36,37,38,39]) (.seq (.cond (.t 39) (.skip) (.exit 2)) (.seq (.block 3 (.seq (.reg [] (AB 40 (.iaddrS 1) 36 38::AG 41 1 40::AA 14 41::[]) [1,2,8,10,11,12,14,32,33,36,37,38]) (.seq (.reg [] (AA 42 14::AR 43 2 8::AG 44 1 43::AB 45 (.bin .rem) 42 44::AA 46 11::AB 47 (.bin .eql) 45 46::[]) [1,2,8,10,11,12,14,32,33,36,37,38,47]) (.cond (.t 47) (.reg [] (AA 48 12::AA 49 14::AR 50 2 8::AG 51 1 50::AB 52 (.bin .quo) 49 51::AD 53 (.mkrow 1 (.int .i64 0) 1 [0]) 52::AB 54 (.app 3 1 none true) 48 53::AA 12 54::[]) [1,2,8,10,11,12,32,33,36,37,38]) (.skip))))) (.reg [] (AQ 55 (.bin .add) 38 1::AA 38 55::[]) [1,2,8,10,11,12,32,33,36,37,38]))))))) (.seq (.draw [.freeze 12] ((AR 57 0 8,[])::(AD 58 (.load true 2) 57,[])::(AD 59 (.load true 3) 8,[])::(AA 60 1,[])::(AA 61 11,[])::(AH 62 (.call 81) [.t 59,.t 60,.t 61],[1])::(AA 63 12,[])::(AH 64 (.call 123) [.t 58,.t 62,.t 63],[])::(AA 56 64,[])::(BO 65 0 56,[])::(BO 66 1 56,[])::(AA 15 65,[])::(AA 16 66,[])::[]) [1,2,8,10,15,16,32,33]) (.seq (.seq (.reg [] (AA 67 16::AD 68 (.un .not) 67::[]) [1,2,8,10,15,32,33,68]) (.cond (.t 68) (.seq (.reg [] (AH 6 .mov [.k (.d (.list true []))]::AL 7 52::[]) [6,7]) (.ret)) (.skip))) (.reg [] (AA 69 10::AA 70 15::AR 71 0 8::AD 72 (.load true 2) 71::AD 73 (.call 79) 72::AB 74 (.slice 1 false true false) 70 73::AD 75 (.mkrow 1 (.list true []) 1 [0]) 74::AB 76 (.app 110 1 none true) 69 75::AA 10 76::[]) [1,2,8,10,32,33]))))))) (.reg [] (AQ 77 (.bin .add) 33 1::AA 33 77::[]) [1,2,8,10,32,33]))))))) (.seq (.reg [.freeze 10] (AD 78 (.load true 3) 8::AA 79 10::AB 80 (.call 82) 78 79::AA 6 80::AL 7 0::[]) [6,7]) (.ret)))))))
theorem Lh:Cg E0 I' HE [.t 6,.t 7] 81:=AI (fl:=[]) (by kernel_rfl)
def ZF:PC :=
 .seq (.reg [] (AD 3 .box 0::AH 6 .mov [.k (.d (.list true []))]::AL 7 0::[]) [1,2,3]) (.seq (.seq (.reg [] (AD 16 (.load true 3) 3::AD 17 (.call 51) 16::AQ 18 (.bin .neq) 17 0::[]) [1,2,3,18]) (.cond (.t 18) (.seq (.reg [] (AH 6 .mov [.k (.d (.list true []))]::AL 7 50::[]) [6,7]) (.ret)) (.skip))) (.seq (.seq (.reg [] (AA 19 1::AR 20 2 3::AG 21 1 20::AR 22 0 3::AR 23 0 22::AG 24 1 23::AB 25 (.bin .mul) 21 24::AB 26 (.call 37) 19 25::AD 27 (.un .not) 26::[]) [1,2,3,27]) (.cond (.t 27) (.seq (.reg [] (AH 6 .mov [.k (.d (.list true []))]::AL 7 51::[]) [6,7]) (.ret)) (.skip))) (.seq (.seq (.reg [] (AA 28 2::AA 29 1::AD 30 (.len false) 29::AB 31 (.call 98) 28 30::AD 32 (.un .not) 31::[]) [1,2,3,32]) (.cond (.t 32) (.seq (.reg [] (AH 6 .mov [.k (.d (.list true []))]::AL 7 1::[]) [6,7]) (.ret)) (.skip))) (.seq (.reg [] (AR 33 0 3::AR 34 0 33::AG 35 1 34::AR 36 0 3::AR 37 1 36::AG 38 1 37::AB 39 (.bin .sub) 35 38::AA 8 39::[]) [1,2,3,8]) (.seq (.reg [] (AR 40 2 3::AG 41 1 40::AA 42 8::AB 43 (.bin .mul) 41 42::AB 44 (.mksl 3 1 (.int .i64 0) true) 43 43::AA 9 44::[]) [1,2,3,8,9]) (.seq (.seq (.reg [] (AL 10 0::[]) [1,2,3,8,9,10]) (.block 0 (.loop [] [1,2,3,8,9,10] [3,44,10085,900000,900001,900002,901000,901001,901002] (.seq (.seq (.reg [] (AA 45 10::AR 46 2 3::AG 47 1 46::AB 48 (.bin .lss) 45 47::[]) [1,2,3,8,9,10,48]) (.cond (.t 48) (.skip) (.exit 0))) (.seq (.block 1 (.seq (.reg [] (AH 11 .mov [.k (.d (.list true []))]::[]) [1,2,3,8,9,10,11]) (.seq (.seq (.reg [] (AL 12 0::[]) [1,2,3,8,9,10,11,12]) (.block 2 (.loop [.own 11 75 3 1] [1,2,3,8,9,10,11,12] [3,44,75,10085,900000,900001,900002,901000,901001,901002] (.seq (.seq (.reg [] (AA 51 12::AA 52 2::AD 53 (.len false) 52::AB 54 (.bin .lss) 51 53::[]) [1,2,3,8,9,10,11,12,54]) (.cond (.t 54) (.skip) (.exit 2))) (.seq (.block 3 (.seq (.draw [] ((AA 57 2,[])::(AA 58 12,[])::(AB 59 (.iaddrS 1) 57 58,[])::(AG 60 1 59,[])::(AR 61 2 3,[])::(AG 62 1 61,[])::(AB 63 (.bin .rem) 60 62,[])::(AA 64 10,[])::(AB 65 (.bin .eql) 63 64,[])::[]) [1,2,3,8,9,10,11,12,65]) (.cond (.t 65) (.draw [] ((AA 66 11,[])::(AA 67 2,[])::(AA 68 12,[])::(AB 69 (.iaddrS 1) 67 68,[])::(AG 70 1 69,[])::(AR 71 2 3,[])::(AG 72 1 71,[])::(AB 73 (.bin .quo) 70 72,[])::(AD 74 (.mkrow 1 (.int .i64 0) 1 [0]) 73,[])::(AB 75 (.app 3 1 none true) 66 74,[])::(AA 11 75,[])::[]) [1,2,3,8,9,10,11,12]) (.skip)))) (.reg [] (AA 55 12::AQ 56 (.bin .add) 55 1::AA 12 56::[]) [1,2,3,8,9,10,11,12])))))) (.seq (.draw [.freeze 11] ((AR 77 0 3,[])::(AD 78 (.load true 2) 77,[])::(AA 79 1,[])::(AR 80 2 3,[])::(AG 81 1 80,[])::(AA 82 10,[])::(AH 83 (.call 95) [.t 79,.t 81,.t 82],[1])::(AA 84 11,[])::(AH 85 (.call 99) [.t 78,.t 83,.t 84],[])::(AA 76 85,[])::(BO 86 0 76,[])::(BO 87 1 76,[])::(AA 13 86,[])::(AA 14 87,[])::[]) [1,2,3,8,9,10,13,14]) (.seq (.seq (.reg [] (AA 88 14::AD 89 (.un .not) 88::[]) [1,2,3,8,9,10,13,89]) (.cond (.t 89) (.seq (.reg [] (AH 6 .mov [.k (.d (.list true []))]::AL 7 52::[]) [6,7]) (.ret)) (.skip))) (.seq (.reg [] (AL 15 0::[]) [1,2,3,8,9,10,13,15]) (.block 4 (.loop [] [1,2,3,8,9,10,13,15] [3,44,85,10085,900000,900001,900002,901000,901001,901002] (.seq (.seq (.reg [] (AA 90 15::AA 91 8::AB 92 (.bin .lss) 90 91::[]) [1,2,3,8,9,10,13,15,92]) (.cond (.t 92) (.skip) (.exit 4))) (.seq (.block 5 (.draw [] ((AA 95 9,[])::(AA 96 15,[])::(AR 97 2 3,[])::(AG 98 1 97,[])::(AB 99 (.bin .mul) 96 98,[])::(AA 100 10,[])::(AB 101 (.bin .add) 99 100,[])::(AA 102 13,[])::(AA 103 15,[])::(AB 104 (.iaddrS 1) 102 103,[])::(AG 105 1 104,[])::(AB 106 (.iaddrS 1) 95 101,[])::(B3 (.store 1) [.t 106,.t 105],[])::[]) [1,2,3,8,9,10,13,15])) (.reg [] (AA 93 15::AQ 94 (.bin .add) 93 1::AA 15 94::[]) [1,2,3,8,9,10,13,15]))))))))))) (.reg [] (AA 49 10::AQ 50 (.bin .add) 49 1::AA 10 50::[]) [1,2,3,8,9,10])))))) (.seq (.reg [] (AA 107 9::AA 6 107::AL 7 0::[]) [6,7]) (.ret))))))))
section
def fM (l:List (List F)):List D:=l.map fun r=>.list false (us r)
theorem ff (l:List (List F)):(fM l).length=l.length:=by simp[fM]
theorem bD (l:List (List F)) (r:List F):fM l++[.list false (us r)]=fM (l++[r]):=by simp[fM]
theorem ZM {ls:List (List F)}{i:Nat}{A:D->Prop}:BP (fM ls)[i]? A=(i<ls.length/\A (.list false (us (ls[i]?.getD [])))):=by
 unfold fM
 rw[List.getElem?_map]
 by_cases h:i<ls.length
 ·simp[h,BP]
 ·have:ls[i]?=none:=List.getElem?_eq_none (by omega)
  simp[this,h,BP]
attribute [go_sem] ff bD ZM
theorem ZG (m q k j:Nat) (b:List F) (h:j<m):(C7 m q k b).take j++[b[j*q+k]?.getD 0]=(C7 m q k b).take (j+1):=by
 rw[←OJ j h,Br _ 0 j (by rw[DR];exact h)]
theorem mY {m q k j n:Nat}(hk:k<q) (hn:n=m*q) (h:j<m):k+j*q<n:=by have:=SO hk h;omega
theorem mZ {m q k n:Nat}(hn:n=m*q):¬k+m*q<n:=by omega
theorem c_ {m q:Nat}(hm:m<=15) (hq:q<=8):m*q<=120:=Nat.mul_le_mul hm hq
def V3 (q:Nat) (W:Nat->List F):List (List F):=(List.range q).map W
theorem Pc (q:Nat) (W:Nat->List F):(V3 q W).length=q:=by simp[V3]
theorem Sh {q:Nat}{W:Nat->List F}{k:Nat}(h:k<q):(V3 q W)[k]?.getD []=W k:=by simp[V3,h]
theorem Tw {q:Nat}{W:Nat->List F}{k:Nat}(h:k<q):(V3 q W).take k++[W k]=(V3 q W).take (k+1):=by
 have:=Br (V3 q W) [] k (by rw[Pc];exact h)
 rwa [Sh h] at this
theorem en {m q i k:Nat}{W:Nat->List F}(hi:i<m) (hk:k<q):(Hm m q W).take (i*q+k)++[(W k)[i]?.getD 0]=(Hm m q W).take (i*q+(k+1)):=by
 have h:=SO hk hi
 rw[←Nat.add_assoc,←Br _ 0 (i*q+k) (by rw[HW];exact h),Q3 _ h,XZ hk,TV hk]
theorem aW (b:Bool):(b && decide ((0:Nat)=0))=b:=by simp
theorem Q5 (b:Bool) {k:Nat}(h:k≠0):(b && decide (k=0))=false:=by simp[h]
def spE (L P Q:Int) (xs:List Int):Int:=if Cx L P Q=true then if CN xs (Q*(L-P))=true then 0 else 51 else 50
def UL (L P Q:Int) (xs:List Int):List Int:=if Cx L P Q=true then if CN xs (Q*(L-P))=true then iv (Yq L.toNat P.toNat Q.toNat (fs xs)) else [] else []
noncomputable def mf (L P Q:Int) (xs ms:List Int):Int:=if Cx L P Q=true then if CN xs (Q*L)=true then if EJ ms xs.length=true then oE (dp L.toNat P.toNat Q.toNat (fs xs) (nt ms)) else 1 else 51 else 50
noncomputable def lx (L P Q:Int) (xs ms:List Int):List Int:=if Cx L P Q=true then if CN xs (Q*L)=true then if EJ ms xs.length=true then iv (oL (dp L.toNat P.toNat Q.toNat (fs xs) (nt ms))) else [] else [] else []
theorem Mr {L P Q:Int}(h:Cx L P Q=true):∃l p q:Nat,L=(l:Int)/\P=(p:Int)/\Q=(q:Int)/\2<=l/\l<=15/\1<=p/\p<=8/\p<l/\1<=q/\q<=8/\D7 (l:Int) (p:Int)=true:=by
 obtain⟨hc,h1,h2⟩:=Tz h
 obtain⟨l,p,rfl,rfl,b1,b2,b3,b4,b5⟩:=aP hc
 exact⟨l,p,Q.toNat,rfl,rfl,by omega,b1,b2,b3,b4,b5,by omega,by omega,hc⟩
theorem TC {n m q:Nat}(h:(n:Int)=(q:Int)*(m:Int)):n=m*q:=by
 rw[Nat.mul_comm];exact_mod_cast h
theorem dB (q k i:Nat) (ms:List Nat) (h:i<ms.length):Pk q k (ms.take (i+1))=if (ms[i]?.getD 0)%q=k then Pk q k (ms.take i)++[(ms[i]?.getD 0)/q] else Pk q k (ms.take i):=by
 rw[←Br ms 0 i h,U1]
attribute [local congr] Bh A7 A8 Au Bi Az A1 A0 Ar Ai Ab AZ Aw Ad Ax BF BJ BH BI BG BK BC Ag Ay Ah BA BS Af BD BE BB A_ A' A6 Bj A9 Av Ae
attribute [local irreducible] IntKind.wrap A5 Option.getD and or
theorem I1 (L P q m k:Nat) (n:Bool) (b:List F) (hm:m<=15) (hm1:1<=m) (hq:q<=8) (hk:k<q) (hb:b.length=m*q) :
  CI E0 Gc [.agg [.int .i64 (L:Int),.int .i64 (P:Int),.int .i64 (q:Int)],.list n (Aj (iv b)),.int .i64 (k:Int)] (.list false (us (C7 m q k b))):=by
 have hmq:=c_ hm hq
 have hpl:=DR m q k b
 refine AK JU Aq (by simp) fun hwf=>?_
 rw[AW];unfold F2
 (try (simp -implicitDefEqProofs only[go_sem]));repeat' first|(with_reducible first|exact tI|refine aI ?_ ?_|intro _)|((first|with_reducible refine AM ?_ ?_<;>intro _)<;>try (simp -implicitDefEqProofs only[go_sem]))|simp (disch:=omega) only[An]|((with_reducible refine BZ ?_);refine⟨(_,_,_),rfl,?_,?_⟩)
 all_goals first|omega|(simp;done)|(simp;omega)|skip
 refine AY (α:=Nat×Nat×Bool) (l0:=?l1) (m0:=?m1) (fun x=>[(8,.d (.int .i64 (x.2.1:Int)))]) (fun x=>[(25,.row 135 1 x.2.2 (us ((C7 m q k b).take x.1)))]) (fun x=>x.1<=m/\x.2.1=k+x.1*q/\x.2.2=decide (x.1=0)) (fun x=>m-x.1) (0,k,true) ?h01 ?he1 ?he21 ?hI1 ?step1
 case h01=>(simp -implicitDefEqProofs only[go_sem];rfl)
 case he1=>rfl
 case he21=>rfl
 case' step1=>(rintro⟨j,s,e⟩ hI;try dsimp only at hI)
 case' hI1=>try dsimp only
 ·exact⟨Nat.zero_le _,by simp,rfl⟩
 ·obtain⟨h1,hs,h2⟩:=hI
  change e=decide (j=0) at h2
  subst h2
  have hjq:=Nat.mul_le_mul_right q h1
  by_cases h:j<m
  ·have h0:=mY hk hb h
   rw[←hs] at h0
   have h':(s:Int)<(b.length:Int):=by omega
   have hs2:s+q=k+(j+1)*q:=by rw[Nat.add_mul,Nat.one_mul];omega
   have hwj:IntKind.i64.wrap ((s:Int)+(q:Int))=((s+q:Nat):Int):=by rw[Ak _ (by omega)];omega
   have hst:=ZG m q k j b h
   rw[Nat.add_comm (j*q) k,←hs] at hst
   (try (simp -implicitDefEqProofs only[go_sem,h0,h',hwj,hst,jd]));repeat' first|(with_reducible first|exact tI|refine aI ?_ ?_|intro _)|((first|with_reducible refine AM ?_ ?_<;>intro _)<;>try (simp -implicitDefEqProofs only[go_sem,h0,h',hwj,hst,jd]))|simp (disch:=omega) only[An]|((with_reducible refine BZ ?_);refine⟨(_,_,_),rfl,?_,?_⟩)
   all_goals first|omega|(simp;done)|(simp;omega)|skip
   all_goals first|exact⟨hs2,rfl⟩|exact hs2|rfl|skip
  ·have hje:j=m:=by omega
   subst hje
   have h0:=mZ (k:=k) hb
   have h':¬(s:Int)<(b.length:Int):=by omega
   have htk:(C7 j q k b).take j=C7 j q k b:=List.take_of_length_le (by omega)
   have hj0:decide (j=0)=false:=decide_eq_false (by omega)
   rw[htk,hj0]
   (try (simp -implicitDefEqProofs only[go_sem,h']));repeat' first|(with_reducible first|exact tI|refine aI ?_ ?_|intro _)|((first|with_reducible refine AM ?_ ?_<;>intro _)<;>try (simp -implicitDefEqProofs only[go_sem,h']))|simp (disch:=omega) only[An]|((with_reducible refine BZ ?_);refine⟨(_,_,_),rfl,?_,?_⟩)
   all_goals first|omega|(simp;done)|(simp;omega)|skip
   all_goals first|rfl|skip
theorem I2 (x:D) (q m:Nat) (W:Nat->List F) (hm:m<=15) (hm1:1<=m) (hq:q<=8) (hq1:1<=q) (hW:∀k,k<q->(W k).length=m) (hx:∃a b c,x=.agg [.int .i64 a,.int .i64 b,.int .i64 c]) :
  CI E0 Gd [x,.list false (fM (V3 q W))] (.list false (Aj (iv (Hm m q W)))):=by
 obtain⟨a,b,c,rfl⟩:=hx
 have hmq:=c_ hm hq
 have hbl:=HW m q W
 have hwl:=Pc q W
 have h0:0<(V3 q W).length:=by omega
 have hw0:(V3 q W)[0]?.getD []=W 0:=Sh (by omega)
 have hl0:=hW 0 (by omega)
 refine AK JV Aq (by simp) fun hwf=>?_
 rw[AW];unfold F3
 (try (simp -implicitDefEqProofs only[go_sem,h0,hw0,hl0]));repeat' first|(with_reducible first|exact tI|refine aI ?_ ?_|intro _)|((first|with_reducible refine AM ?_ ?_<;>intro _)<;>try (simp -implicitDefEqProofs only[go_sem,h0,hw0,hl0]))|simp (disch:=omega) only[An]|((with_reducible refine BZ ?_);refine⟨(_,_,_),rfl,?_,?_⟩)
 all_goals first|omega|(simp;done)|(simp;omega)|skip
 refine AY (α:=Nat×Nat×Bool) (l0:=?l2) (m0:=?m2) (fun x=>[(13,.d (.int .i64 (x.1:Int)))]) (fun x=>[(29,.row 3 1 x.2.2 (Aj (iv ((Hm m q W).take x.2.1))))]) (fun x=>x.1<=m/\x.2.1=x.1*q/\x.2.2=decide (x.1=0)) (fun x=>m-x.1) (0,0,true) ?h02 ?he2 ?he22 ?hI2 ?step2
 case h02=>(simp -implicitDefEqProofs only[go_sem];rfl)
 case he2=>rfl
 case he22=>rfl
 case' step2=>(rintro⟨i,n,e⟩ hI;try dsimp only at hI)
 case' hI2=>try dsimp only
 ·exact⟨Nat.zero_le _,by simp,rfl⟩
 ·obtain⟨i1,hn,i2⟩:=hI
  change e=decide (i=0) at i2
  subst i2
  have hiq:=Nat.mul_le_mul_right q i1
  by_cases h:i<m
  ·have h':(i:Int)<(m:Int):=by omega
   have hwi:IntKind.i64.wrap ((i:Int)+1)=((i+1:Nat):Int):=by rw[Ak _ (by omega)];omega
   have hbs:=fun k hk=>@en m q i k W h hk
   have hend:i*q+q=(i+1)*q:=by rw[Nat.add_mul];omega
   (try (simp -implicitDefEqProofs only[go_sem,h',hwl]));repeat' first|(with_reducible first|exact tI|refine aI ?_ ?_|intro _)|((first|with_reducible refine AM ?_ ?_<;>intro _)<;>try (simp -implicitDefEqProofs only[go_sem,h',hwl]))|simp (disch:=omega) only[An]|((with_reducible refine BZ ?_);refine⟨(_,_,_),rfl,?_,?_⟩)
   all_goals first|omega|(simp;done)|(simp;omega)|skip
   refine AY (α:=Nat×Nat×Bool) (l0:=?l3) (m0:=?m3) (fun x=>[(18,.d (.int .i64 (x.1:Int)))]) (fun x=>[(29,.row 3 1 x.2.2 (Aj (iv ((Hm m q W).take x.2.1))))]) (fun x=>x.1<=q/\x.2.1=i*q+x.1/\x.2.2=(decide (i=0) && decide (x.1=0))) (fun x=>q-x.1) (0,n,(decide (i=0))) ?h03 ?he3 ?he23 ?hI3 ?step3
   case h03=>(simp -implicitDefEqProofs only[go_sem];rfl)
   case he3=>rfl
   case he23=>rfl
   case' step3=>(rintro⟨k,n2,e2⟩ hI2;try dsimp only at hI2)
   case' hI3=>try dsimp only
   ·exact⟨Nat.zero_le _,hn,(aW _).symm⟩
   ·obtain⟨k1,hn2,k2⟩:=hI2
    change e2=(decide (i=0) && decide (k=0)) at k2
    by_cases hk:k<q
    ·have hk':(k:Int)<(q:Int):=by omega
     have hwk:IntKind.i64.wrap ((k:Int)+1)=((k+1:Nat):Int):=by rw[Ak _ (by omega)];omega
     have hg:=Sh (W:=W) hk
     have hkl:=hW k hk
     have hst:=hbs k hk
     have hn3:n2+1=i*q+(k+1):=by omega
     rw[←hn2,←hn3] at hst
     have hfe:false=(decide (i=0) && decide (k+1=0)):=(Q5 _ (by omega)).symm
     have hnl:n2<=120:=by have:=SO hk h;omega
     (try (simp -implicitDefEqProofs only[go_sem,hk',hwk,hwl,hk,hg,hkl,hst,h,ao]));repeat' first|(with_reducible first|exact tI|refine aI ?_ ?_|intro _)|((first|with_reducible refine AM ?_ ?_<;>intro _)<;>try (simp -implicitDefEqProofs only[go_sem,hk',hwk,hwl,hk,hg,hkl,hst,h,ao]))|simp (disch:=omega) only[An]|((with_reducible refine BZ ?_);refine⟨(_,_,_),rfl,?_,?_⟩)
     all_goals first|omega|(simp;done)|(simp;omega)|skip
     all_goals first|exact⟨hn3,hfe⟩|exact hn3|exact hfe|rfl|(simp;done)|skip
    ·have hk':¬(k:Int)<(q:Int):=by omega
     have hke:k=q:=by omega
     have hn3:n2=(i+1)*q:=by omega
     have hfe:e2=decide (i+1=0):=by rw[k2,Q5 _ (by omega),decide_eq_false (by omega)]
     (try (simp -implicitDefEqProofs only[go_sem,hk',hwl,hwi]));repeat' first|(with_reducible first|exact tI|refine aI ?_ ?_|intro _)|((first|with_reducible refine AM ?_ ?_<;>intro _)<;>try (simp -implicitDefEqProofs only[go_sem,hk',hwl,hwi]))|simp (disch:=omega) only[An]|((with_reducible refine BZ ?_);refine⟨(_,_,_),rfl,?_,?_⟩)
     all_goals first|omega|(simp;done)|(simp;omega)|skip
     all_goals first|exact⟨hn3,hfe⟩|exact hn3|exact hfe|rfl|(simp;done)|skip
  ·have h':¬(i:Int)<(m:Int):=by omega
   have hie:i=m:=by omega
   subst hie
   have htk:(Hm i q W).take n=Hm i q W:=List.take_of_length_le (by omega)
   have hi0:decide (i=0)=false:=decide_eq_false (by omega)
   rw[htk,hi0]
   (try (simp -implicitDefEqProofs only[go_sem,h']));repeat' first|(with_reducible first|exact tI|refine aI ?_ ?_|intro _)|((first|with_reducible refine AM ?_ ?_<;>intro _)<;>try (simp -implicitDefEqProofs only[go_sem,h']))|simp (disch:=omega) only[An]|((with_reducible refine BZ ?_);refine⟨(_,_,_),rfl,?_,?_⟩)
   all_goals first|omega|(simp;done)|(simp;omega)|skip
   all_goals first|rfl|skip
theorem Me (L P Q:Int) (n:Bool) (xs:List Int):CI E0 I_ [.agg [.int .i64 L,.int .i64 P,.int .i64 Q],.list n (Aj xs)] (.tup [.list (UL L P Q xs).isEmpty (Aj (UL L P Q xs)),.int .i64 (spE L P Q xs)]):=by
 refine AK MV Aq (by simp) fun hwf=>?_
 rw[AW];unfold Ht UL spE
 cases hw:Cx L P Q with
 |false =>
  have c1:=Dr L P Q n xs Cz (if D7 L P=true then L-P else 0) SW (by
   split
   ·rename_i hc;have:=K7 hc;omega
   ·omega) fun hc=>by rw[if_pos hc];have:=K7 hc;exact GB L P (by omega)
  unfold jh at c1
  rw[hw] at c1
  simp only[Bool.false_eq_true,if_false] at c1 ⊢
  rw[QP] at c1
  (try (simp -implicitDefEqProofs only[go_sem]));repeat' first|(with_reducible first|exact tI|refine aI ?_ ?_|intro _)|((first|with_reducible refine AM ?_ ?_<;>intro _|(with_reducible refine isCall ?_);first|refine AE c1 ?_)<;>try (simp -implicitDefEqProofs only[go_sem]))|simp (disch:=omega) only[An]|((with_reducible refine Am ?_);refine⟨(_,_),rfl,?_,?_⟩)
  all_goals first|rfl|(simp;done)|skip
 |true =>
  obtain⟨l,p,q,rfl,rfl,rfl,b1,b2,b3,b4,b5,b6,b7,hc⟩:=Mr hw
  have c1:=Dr l p q n xs Cz ((l:Int)-(p:Int)) SW (by omega) fun hc=>GB l p (by omega)
  unfold jh at c1
  rw[hw] at c1
  simp only[if_true] at c1 ⊢
  cases hs:CN xs ((q:Int)*((l:Int)-(p:Int))) with
  |false =>
   rw[hs] at c1
   simp only[Bool.false_eq_true,if_false] at c1 ⊢
   rw[Wc] at c1
   (try (simp -implicitDefEqProofs only[go_sem]));repeat' first|(with_reducible first|exact tI|refine aI ?_ ?_|intro _)|((first|with_reducible refine AM ?_ ?_<;>intro _|(with_reducible refine isCall ?_);first|refine AE c1 ?_)<;>try (simp -implicitDefEqProofs only[go_sem]))|simp (disch:=omega) only[An]|((with_reducible refine Am ?_);refine⟨(_,_),rfl,?_,?_⟩)
   all_goals first|rfl|(simp;done)|skip
  |true =>
   rw[hs] at c1
   simp only[if_true] at c1 ⊢
   rw[YA] at c1
   obtain⟨hl,hf⟩:=P4 hs
   obtain⟨d,hd⟩:∃d,fs xs=d:=⟨_,rfl⟩
   rw[hd] at hf ⊢
   subst hf
   rw[Kp,show ((l:Int)-(p:Int))=((l-p:Nat):Int) by omega] at hl
   have hdl:=TC hl
   simp only[Int.toNat_natCast]
   have c2:=fun k hk=>I1 l p q (l-p) k n d (by omega) (by omega) b7 hk hdl
   have hW0:Yq l p q d=Hm l q fun k=>IB p (C7 (l-p) q k d):=rfl
   have c3:=fun k=>Mc l p false (C7 (l-p) q k d) b2 b3 (by rw[DR];omega) (by rw[DR];omega) rfl
   have hWl:∀k,k<q->(IB p (C7 (l-p) q k d)).length=l:=fun k _=>by rw[Iw,DR];omega
   obtain⟨W,hW⟩:∃W:Nat->List F,(fun k=>IB p (C7 (l-p) q k d))=W:=⟨_,rfl⟩
   have hWk:∀k,IB p (C7 (l-p) q k d)=W k:=fun k=>by rw[←hW]
   simp only[hWk] at c3 hWl
   rw[hW] at hW0
   rw[hW0]
   have c4:=I2 (.agg [.int .i64 (l:Int),.int .i64 (p:Int),.int .i64 (q:Int)]) q l W b2 (by omega) b7 b6 hWl ⟨_,_,_,rfl⟩
   have hB:0<(Hm l q W).length:=by rw[HW];exact Nat.mul_pos (by omega) (by omega)
   rw[QV hB]
   have hst:=fun k hk=>@Tw q W k hk
   have hwl:=Pc q W
   (try (simp -implicitDefEqProofs only[go_sem]));repeat' first|(with_reducible first|exact tI|refine aI ?_ ?_|intro _)|((first|with_reducible refine AM ?_ ?_<;>intro _|(with_reducible refine isCall ?_);first|refine AE c1 ?_)<;>try (simp -implicitDefEqProofs only[go_sem]))|simp (disch:=omega) only[An]|((with_reducible refine Am ?_);refine⟨(_,_),rfl,?_,?_⟩)
   all_goals first|omega|(simp;done)|(simp;omega)|skip
   refine AY (α:=Nat×Bool) (l0:=?l4) (m0:=?m4) (fun x=>[(21,.d (.int .i64 (x.1:Int)))]) (fun x=>[(33,.row 110 1 x.2 (fM ((V3 q W).take x.1)))]) (fun x=>x.1<=q/\x.2=decide (x.1=0)) (fun x=>q-x.1) (0,true) ?h04 ?he4 ?he24 ?hI4 ?step4
   case h04=>(simp -implicitDefEqProofs only[go_sem];rfl)
   case he4=>rfl
   case he24=>rfl
   case' step4=>(rintro⟨k,e⟩ hI;try dsimp only at hI)
   case' hI4=>try dsimp only
   ·exact⟨Nat.zero_le _,rfl⟩
   ·obtain⟨k1,k2⟩:=hI
    change e=decide (k=0) at k2
    subst k2
    by_cases hk:k<q
    ·have hk':(k:Int)<(q:Int):=by omega
     have hwk:IntKind.i64.wrap ((k:Int)+1)=((k+1:Nat):Int):=by rw[Ak _ (by omega)];omega
     have c5:=c2 k hk
     have c6:=c3 k
     have hst2:=hst k hk
     rw[B0] at c6
     (try (simp -implicitDefEqProofs only[go_sem,hk',hwk,hst2]));repeat' first|(with_reducible first|exact tI|refine aI ?_ ?_|intro _)|((first|with_reducible refine AM ?_ ?_<;>intro _|(with_reducible refine isCall ?_);first|refine AE c5 ?_|refine AE c6 ?_)<;>try (simp -implicitDefEqProofs only[go_sem,hk',hwk,hst2]))|simp (disch:=omega) only[An]|((with_reducible refine Am ?_);refine⟨(_,_),rfl,?_,?_⟩)
     all_goals first|omega|(simp;done)|(simp;omega)|skip
     all_goals first|rfl|skip
    ·have hk':¬(k:Int)<(q:Int):=by omega
     have hke:k=q:=by omega
     have hk0:decide (k=0)=false:=decide_eq_false (by omega)
     have htk:(V3 q W).take k=V3 q W:=List.take_of_length_le (by omega)
     rw[hk0,htk]
     (try (simp -implicitDefEqProofs only[go_sem,hk']));repeat' first|(with_reducible first|exact tI|refine aI ?_ ?_|intro _)|((first|with_reducible refine AM ?_ ?_<;>intro _|(with_reducible refine isCall ?_);first|refine AE c4 ?_)<;>try (simp -implicitDefEqProofs only[go_sem,hk']))|simp (disch:=omega) only[An]|((with_reducible refine Am ?_);refine⟨(_,_),rfl,?_,?_⟩)
     all_goals first|rfl|omega|(simp;done)|skip
end
def AX.ok (c:AX):Bool:=c.code.ok && (Cx c.L c.P c.Q && (decide (c.Q*c.L<=32) && (Ci c.mark && (Cp c.seed 1 127 && (Cp c.errs 0 16 && Ky c.code 16)))))
def AX.flat (c:AX) (X:List Int):List Int:=X.flatMap fun x=>c.code.stm x.toNat
def JL (c:AX) (block:List Int):List Int:=c.mark++c.flat (Db c.seed block)
def ap (c:AX) (d:List Int):List Int:=if c.ok=true then if spE c.L c.P c.Q d=0 then JL c (UL c.L c.P c.Q d) else [] else []
def lw (c:AX) (d:List Int):Int:=if c.ok=true then if spE c.L c.P c.Q d=0 then 0 else 51 else 130
noncomputable def af (c:AX) (sy:List (Option Nat)):List Int:=lx c.L c.P c.Q (Db c.seed (O8 sy)) (ni (fO sy))
noncomputable def Zg (c:AX) (sy:List (Option Nat)):Int:=mf c.L c.P c.Q (Db c.seed (O8 sy)) (ni (fO sy))
def Gh (bits:List Int):Bool:=decide (bits.length<=1000) && Ap bits
noncomputable def cH (c:AX) (bits:List Int):Int:=if c.ok=true then if Gh bits=true then match c.find bits with
 |none=>3
 |some a=>Zg c (c.syL bits a)
 else 131 else 130
noncomputable def X9 (c:AX) (bits:List Int):List Int:=if c.ok=true then if Gh bits=true then match c.find bits with
 |none=>[]
 |some a=>af c (c.syL bits a)
 else [] else []
noncomputable def cK (c:AX) (bits:List Int):Int:=if c.ok=true then if Gh bits=true then match c.find bits with
 |none=>0
 |some a=>if Zg c (c.syL bits a)=0 then a else 0
 else 0 else 0
theorem VX {α:Type}(a b:List α) (n:Nat):(a++b).drop (a.length+n)=b.drop n:=by
 rw[List.drop_append,List.drop_eq_nil_of_le (by omega),List.nil_append,show a.length+n-a.length=n by omega]
theorem SL {α:Type}{f:α->List Int}{m:Nat}(hf:∀x,(f x).length=m):∀(l:List α) (i:Nat) (h:i<l.length),((l.flatMap f).drop (i*m)).take m=f l[i]
 |[],_,h=>by cases h
 |x::l,0,_=>by
  rw[Nat.zero_mul,List.drop_zero,List.flatMap_cons]
  exact List.take_left' (hf x)
 |x::l,i+1,h=>by
  rw[List.flatMap_cons,show (i+1)*m=(f x).length+i*m by rw[hf,Nat.succ_mul];omega,VX]
  exact SL hf l i (by simpa using h)
theorem VG {α:Type}{f:α->List Int}{m:Nat}(hf:∀x,(f x).length=m):∀l:List α,(l.flatMap f).length=l.length*m
 |[]=>by simp
 |x::l=>by rw[List.flatMap_cons,List.length_append,hf,VG hf l,List.length_cons,Nat.succ_mul];omega
theorem Ol (c:AX) (X:List Int):(c.flat X).length=X.length*c.code.sz:=VG (fun x=>LU ..) X
theorem X1 (c:AX) (b:List Int):(JL c b).length=c.mark.length+b.length*c.code.sz:=by
 unfold JL;rw[List.length_append,Ol,EW]
theorem bg (c:AX) (X rest:List Int) (i:Nat) (h:i<X.length):c.part (c.mark++c.flat X++rest) 0 i=c.code.stm (X[i]?.getD 0).toNat:=by
 unfold AX.part
 rw[Nat.zero_add,List.append_assoc,VX]
 have h1:=Ol c X
 have h2:(i+1)*c.code.sz<=X.length*c.code.sz:=Nat.mul_le_mul_right _ h
 rw[Nat.succ_mul] at h2
 rw[List.drop_append_of_le_length (by rw[h1];omega),List.take_append_of_le_length (by rw[List.length_drop,h1];omega)]
 have:=SL (f:=fun x:Int=>c.code.stm x.toNat) (fun x=>LU ..) X i h
 rw[List.getElem?_eq_getElem h]
 exact this
section
attribute [local congr] Bh A7 A8 Au Bi Az A1 A0 Ar Ai Ab AZ Aw Ad Ax BF BJ BH BI BG BK BC Ag Ay Ah BA BS Af BD BE BB A_ A' A6 Bj A9 Av Ae
attribute [local irreducible] IntKind.wrap A5 Option.getD and or
abbrev Gl:=List (IT×Int)
def np (e:IT×Int):D×D:=(jg e.1,.int .i64 e.2)
def ol (m:Gl):List (D×D):=m.map np
def dI (k:IT):Gl->Option Int
 |[]=>none
 |e::m=>if k=e.1 then some e.2 else dI k m
def mI (k:IT) (v:Int):Gl->Gl
 |[]=>[(k,v)]
 |e::m=>if k=e.1 then (e.1,v)::m else e::mI k v m
def AU.apW (c:AU) (rec:Int->List Int->Gl->Int×Gl) (s first:Int) (mark:List Int):Nat->Int->Int->Gl->Int×Gl
 |0,_,least,m=>(least,m)
 |k+1,w,least,m =>
  let bits:=(Cn c.out.toNat (c.wrd s w)).drop first.toNat
  let n:=min mark.length bits.length
  let r:=rec (c.nxt s w) (mark.drop n) m
  c.apW rec s first mark k (w+1) (min least (Ce (mark.take n) bits+r.1)) r.2
def AU.apM (c:AU):Nat->Int->Int->List Int->Gl->Int×Gl
 |0,_,_,_,m=>(0,m)
 |n+1,s,first,mark,m =>
  if mark=[] then (0,m) else
  match dI (s,mark.length) m with
  |some v=>if first=0 then (v,m) else c.apW (fun s' mk m'=>c.apM n s' 0 mk m') s first mark c.W 0 16 m
  |none=>let r:=c.apW (fun s' mk m'=>c.apM n s' 0 mk m') s first mark c.W 0 16 m
   if first=0 then (r.1,mI (s,mark.length) r.1 r.2) else r
def o8 (m:Gl):Prop:=∀e,e∈m->0<=e.2/\e.2<=16
theorem MS:∀(xs ys:List Int),0<=Ce xs ys/\Ce xs ys<=xs.length
 |[],_=>by simp[Ce]
 |_::_,[]=>by simp[Ce];omega
 |x::xs,y::ys=>by
  have:=MS xs ys
  simp only[Ce,List.length_cons]
  split<;>omega
theorem Fl {xs:List Int}(h:Ap xs=true) (n:Nat):Ap (xs.take n)=true:=by
 simp only[Ap,List.all_eq_true] at *
 exact fun x hx=>h x (List.mem_of_mem_take hx)
theorem AU.W_eq' (c:AU):(c.W:Int)=2^c.bits.toNat:=by simp[AU.W]
abbrev o_:Mp:=(true,[some .i64,some .i64])
end
section
attribute [local congr] Bh A7 A8 Au Bi Az A1 A0 Ar Ai Ab AZ Aw Ad Ax BF BJ BH BI BG BK BC Ag Ay Ah BA BS Af BD BE BB A_ A' A6 Bj A9 Av Ae
attribute [local irreducible] IntKind.wrap A5 Option.getD and or
def AU.apFirst (c:AU) (mark:List Int) (s:Int):Nat->Int->Int->Gl->Int×Gl
 |0,_,least,m=>(least,m)
 |k+1,f,least,m=>c.apFirst mark s k (f+1) (min least (c.apM 16 s f mark m).1) (c.apM 16 s f mark m).2
def AU.apStates (c:AU) (mark:List Int):Nat->Int->Int->Gl->Int×Gl
 |0,_,least,m=>(least,m)
 |k+1,s,least,m=>c.apStates mark k (s+1) (c.apFirst mark s c.out.toNat 0 least m).1 (c.apFirst mark s c.out.toNat 0 least m).2
def AU.apart (c:AU) (mark:List Int):Int:=(c.apStates mark c.words.length 0 16 []).1
def AU.apartR (c:AU) (mark:List Int):Int×Int:=if !c.ok then (0,40) else if !Ci mark then (0,1) else (c.apart mark,0)
theorem ML (n1 n2:Bool) (xs ys:List Int) (at_:Int) (h0:0<=at_) (hl:at_+xs.length<=ys.length) (h128:xs.length<=1000000) (h129:ys.length<=1000000) :
  CI E0 I8 [.list n1 (Aj xs),.list n2 (Aj ys),.int .i64 at_] (.int .i64 (Ce xs (ys.drop at_.toNat))):=by
 refine AK MT Aq (by simp) fun hwf=>?_
 rw[AW];unfold Hr
 simp -implicitDefEqProofs only[go_sem]
 obtain⟨Y,hY⟩:∃Y,ys.drop at_.toNat=Y:=⟨_,rfl⟩
 have hYl:Y.length=ys.length-at_.toNat:=by rw[←hY];simp
 rw[hY]
 refine AY (α:=Int×Int) (l0:=?l1) (m0:=?m1) (fun x=>[(8,.d (.int .i64 x.1)),(7,.d (.int .i64 x.2))]) (fun x=>[]) (fun x=>0<=x.1/\x.1<=xs.length/\0<=x.2/\x.2<=x.1/\x.2+Ce (xs.drop x.1.toNat) (Y.drop x.1.toNat)=Ce xs Y) (fun x=>(xs.length-x.1).toNat) (?a1_0,?a1_1) ?h01 ?he1 ?he21 ?hI1 ?step1
 case h01=>(simp -implicitDefEqProofs only[go_sem];rfl)
 case he1=>rfl
 case he21=>rfl
 case' step1=>(rintro⟨i,n⟩ hI;try dsimp only at hI)
 case' hI1=>try dsimp only
 ·simp
 ·obtain⟨hi0,hi1,hn0,hn1,heq⟩:=hI
  by_cases hi:i<xs.length
  ·have hg:Y[i.toNat]?.getD 0=ys[(at_+i).toNat]?.getD 0:=by
    rw[←hY,List.getElem?_drop,show at_.toNat+i.toNat=(at_+i).toNat by omega]
   have hd:Ce (xs.drop i.toNat) (Y.drop i.toNat)=(if xs[i.toNat]?.getD 0=ys[(at_+i).toNat]?.getD 0 then 0 else 1)+Ce (xs.drop (i+1).toNat) (Y.drop (i+1).toNat):=by
    rw[Fi (xs:=xs) (i:=i.toNat) (by omega),Fi (xs:=Y) (i:=i.toNat) (by omega),Ce,hg,show (i+1).toNat=i.toNat+1 by omega]
   rw[hd] at heq
   have hwr:IntKind.i64.wrap (at_+i)=at_+i:=Ak _ (by omega)
   (try (simp -implicitDefEqProofs only[go_sem,hwr]));repeat' first|(with_reducible first|exact tI|refine aI ?_ ?_|intro _)|((first|with_reducible refine AM ?_ ?_<;>intro _)<;>try (simp -implicitDefEqProofs only[go_sem,hwr]))|simp (disch:=omega) only[An]|((with_reducible refine Am ?_);refine⟨(_,_),rfl,?_,?_⟩)
   all_goals first|omega|(simp;done)|(simp;omega)|skip
   all_goals simp_all
   all_goals omega
  ·(try (simp -implicitDefEqProofs only[go_sem]));repeat' first|(with_reducible first|exact tI|refine aI ?_ ?_|intro _)|((first|with_reducible refine AM ?_ ?_<;>intro _)<;>try (simp -implicitDefEqProofs only[go_sem]))|simp (disch:=omega) only[An]|((with_reducible refine Am ?_);refine⟨(_,_),rfl,?_,?_⟩)
   all_goals first|omega|(simp;done)|(simp;omega)|skip
   have h0:xs.drop i.toNat=[]:=List.drop_eq_nil_of_le (by omega)
   rw[h0,show Ce [] (Y.drop i.toNat)=0 by simp[Ce]] at heq
   rw[←heq];simp
theorem OE (nl:Bool) (xs:List Int):CI E0 LH [.list nl (Aj xs)] (.bool (Ci xs)):=by
 refine AK OY Aq (by simp) fun hwf=>?_
 rw[AW];unfold Jp
 (try (simp -implicitDefEqProofs only[go_sem]));repeat' first|(with_reducible first|exact tI|refine aI ?_ ?_|intro _)|((first|with_reducible refine AM ?_ ?_<;>intro _|(with_reducible refine isCall ?_);first|refine AE (C9 _ _ _) ?_|refine AE (M7 nl xs) ?_)<;>try (simp -implicitDefEqProofs only[go_sem]))|simp (disch:=omega) only[An]
 all_goals simp_all[Ci]
def j9 (bits:List Int):List Int->List Int->List Int
 |out,[]=>out
 |out,s::l=>j9 bits (if 0<=s/\s<bits.length then out.set s.toNat (1-bits[s.toNat]?.getD 0) else out) l
end
section
attribute [local congr] Bh A7 A8 Au Bi Az A1 A0 Ar Ai Ab AZ Aw Ad Ax BF BJ BH BI BG BK BC Ag Ay Ah BA BS Af BD BE BB A_ A' A6 Bj A9 Av Ae
attribute [local irreducible] IntKind.wrap A5 Option.getD and or
def AU.decW (c:AU) (rec:Int->Gl->Option (List Int)×Gl) (s:Int) (own:List Int):Nat->Int->Gl->Option (List Int)×Gl
 |0,_,m=>(none,m)
 |n+1,w,m =>
  if own=Cn c.out.toNat (c.wrd s w) then
   match (rec (c.nxt s w) m).1 with
   |some l=>(some (w::l),(rec (c.nxt s w) m).2)
   |none=>c.decW rec s own n (w+1) (rec (c.nxt s w) m).2
  else c.decW rec s own n (w+1) m
def AU.decM (c:AU) (bits:List Int):Nat->Int->Int->Gl->Option (List Int)×Gl
 |0,_,_,m=>(some [],m)
 |k+1,s,p,m =>
  if dI (s,p) m=none then
   match (c.decW (fun s' m'=>c.decM bits k s' (p+1) m') s ((bits.drop (p*c.out).toNat).take c.out.toNat) c.W 0 m).1 with
   |some l=>(some l,(c.decW (fun s' m'=>c.decM bits k s' (p+1) m') s ((bits.drop (p*c.out).toNat).take c.out.toNat) c.W 0 m).2)
   |none=>(none,(c.decW (fun s' m'=>c.decM bits k s' (p+1) m') s ((bits.drop (p*c.out).toNat).take c.out.toNat) c.W 0 m).2++[((s,p),1)])
  else (none,m)
def AU.Tab (c:AU) (m:Gl):Prop:=(m.map (·.1)).Nodup/\∀e,e∈m->e.2=1/\c.isState e.1.1=true/\0<=e.1.2/\e.1.2<=24
def oW (p:Int) (m m':Gl):Prop:=∀e,e∈m'->e∈m\/p<=e.1.2
def og (o:Option (List Int)):D:=match o with|some l=>.list false (Aj l)|none=>.list true []
theorem Jy (n1 n2:Bool) (xs ys:List Int):CI E0 Fm [.list n1 (Aj xs),.list n2 (Aj ys)] (.bool (decide (xs=ys))):=by
 refine AK IC Aq (by simp) fun hwf=>?_
 simp only[Dx,DK,DJ,C0,EH,EG,Fz,EF,Bk,Bv,Bw,DM,B9,List.length_map,B5,true_and,and_true] at hwf
 rw[AW];unfold FG
 by_cases hl:xs.length=ys.length
 ·(try (simp -implicitDefEqProofs only[go_sem]));repeat' first|(with_reducible first|exact tI|refine aI ?_ ?_|intro _)|((first|with_reducible refine AM ?_ ?_<;>intro _)<;>try (simp -implicitDefEqProofs only[go_sem]))|simp (disch:=omega) only[An]|((with_reducible refine Ao ?_);refine⟨_,rfl,?_,?_⟩)
  all_goals first|omega|(simp;done)|(simp;omega)|skip
  refine AY (α:=Int) (l0:=?l1) (m0:=?m1) (fun x=>[(13,.d (.int .i64 x))]) (fun x=>[]) (fun x=>0<=x/\x<=xs.length/\xs.take x.toNat=ys.take x.toNat) (fun x=>(xs.length-x).toNat) ?a1_0 ?h01 ?he1 ?he21 ?hI1 ?step1
  case h01=>(simp -implicitDefEqProofs only[go_sem];rfl)
  case he1=>rfl
  case he21=>rfl
  case' step1=>(rintro i hI;try dsimp only at hI)
  case' hI1=>try dsimp only
  ·simp
  ·obtain⟨hi0,hi1,heq⟩:=hI
   by_cases hi:i<xs.length
   ·have hx:=take_get (xs:=xs) (i:=i.toNat) (by omega)
    have hy:=take_get (xs:=ys) (i:=i.toNat) (by omega)
    have hii:(i+1).toNat=i.toNat+1:=by omega
    by_cases he:xs[i.toNat]?.getD 0=ys[i.toNat]?.getD 0
    ·(try (simp -implicitDefEqProofs only[go_sem]));repeat' first|(with_reducible first|exact tI|refine aI ?_ ?_|intro _)|((first|with_reducible refine AM ?_ ?_<;>intro _)<;>try (simp -implicitDefEqProofs only[go_sem]))|simp (disch:=omega) only[An]|((with_reducible refine Ao ?_);refine⟨_,rfl,?_,?_⟩)
     all_goals (try simp (disch:=omega) only[An] at *)
     all_goals first|omega|(simp;done)|(simp;omega)|skip
     all_goals (rw[hii,hx,hy,heq,he])
    ·have hne:¬xs=ys:=fun e=>he (by rw[e])
     (try (simp -implicitDefEqProofs only[go_sem]));repeat' first|(with_reducible first|exact tI|refine aI ?_ ?_|intro _)|((first|with_reducible refine AM ?_ ?_<;>intro _)<;>try (simp -implicitDefEqProofs only[go_sem]))|simp (disch:=omega) only[An]|((with_reducible refine Ao ?_);refine⟨_,rfl,?_,?_⟩)
     all_goals first|omega|(simp;done)|(simp;omega)|skip
     all_goals first|(exfalso;omega)|simp[hne]
   ·have hxy:xs=ys:=by
     have h1:xs.take i.toNat=xs:=List.take_of_length_le (by omega)
     have h2:ys.take i.toNat=ys:=List.take_of_length_le (by omega)
     rw[←h1,heq,h2]
    (try (simp -implicitDefEqProofs only[go_sem]));repeat' first|(with_reducible first|exact tI|refine aI ?_ ?_|intro _)|((first|with_reducible refine AM ?_ ?_<;>intro _)<;>try (simp -implicitDefEqProofs only[go_sem]))|simp (disch:=omega) only[An]|((with_reducible refine Ao ?_);refine⟨_,rfl,?_,?_⟩)
    all_goals first|omega|(simp;done)|(simp;omega)|skip
    all_goals simp[hxy]
 ·have hne:¬xs=ys:=fun e=>hl (by rw[e])
  (try (simp -implicitDefEqProofs only[go_sem]));repeat' first|(with_reducible first|exact tI|refine aI ?_ ?_|intro _)|((first|with_reducible refine AM ?_ ?_<;>intro _)<;>try (simp -implicitDefEqProofs only[go_sem]))|simp (disch:=omega) only[An]|((with_reducible refine Ao ?_);refine⟨_,rfl,?_,?_⟩)
  all_goals first|(exfalso;omega)|simp[hne]
def AU.decR (c:AU) (s:Int) (bits:List Int):Option (List Int)×Int :=
 if !c.ok then (none,40) else if !c.isState s then (none,41)
 else if !(Ap bits && decide ((bits.length:Int).tmod c.out=0) && decide ((bits.length:Int)<=c.out*24)) then (none,1)
 else match (c.decM bits (bits.length/c.out.toNat) s 0 []).1 with
  |some l=>(some l,0)
  |none=>(none,3)
end
end Go.Pw
