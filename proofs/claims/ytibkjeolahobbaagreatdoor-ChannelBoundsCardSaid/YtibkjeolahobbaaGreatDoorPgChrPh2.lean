/- A part of the proof. -/
import Derived.Test.YtibkjeolahobbaaGreatDoorChPC
import Derived.Test.YtibkjeolahobbaaGreatDoorPgChrN
import Derived.Test.YtibkjeolahobbaaGreatDoorPgChcJ
import Derived.Test.YtibkjeolahobbaaGreatDoorPgChcA
import Derived.Test.YtibkjeolahobbaaGreatDoorChcSpec2
set_option linter.all false
open Go Go.Pw Go.Proofs
namespace Go.Pw
set_option maxRecDepth 100000
set_option maxHeartbeats 3200000
def HO:PC :=
 .seq (.reg [] (AB 3 .box 0::AJ 6 .mov [.k (.d (.list true []))]::AL 7 0::[]) [1,2,3]) (.seq (.reg [] (AB 18 (.load true 3) 3::AA 19 1::AJ 20 (.call 78) [.t 18,.t 19,.k (.fn 121 [])]::AA 17 20::BT 21 0 17::BT 22 1 17::AJ 8 (.zero [.int .i64 0,.int .i64 0,.int .i64 0]) []::Br (.store 3) [.t 8,.t 21]::AA 9 22::[]) [1,2,8,9]) (.seq (.seq (.reg [] (AA 23 9::AQ 24 (.bin .neq) 23 0::[]) [1,2,8,9,24]) (.cond (.t 24) (.seq (.reg [] (AA 25 9::AJ 6 .mov [.k (.d (.list true []))]::AA 7 25::[]) [6,7]) (.ret)) (.skip))) (.seq (.seq (.reg [] (AA 26 2::AA 27 1::AB 28 (.len false) 27::AD 29 (.call 122) 26 28::AB 30 (.un .not) 29::[]) [1,2,8,30]) (.cond (.t 30) (.seq (.reg [] (AJ 6 .mov [.k (.d (.list true []))]::AL 7 1::[]) [6,7]) (.ret)) (.skip))) (.seq (.reg [] (AJ 10 .mov [.k (.d (.list true []))]::[]) [1,2,8,10]) (.seq (.seq (.reg [] (AP 31 2 8::AI 32 1 31::AL 33 0::[]) [1,2,8,10,32,33]) (.block 0 (.loop [.own 10 76 110 1] [1,2,8,10,32,33] [8,20,76,10020,900001,900002,901001,901002] (.seq (.reg [] (AD 34 (.bin .lss) 33 32::[]) [1,2,8,10,32,33,34]) (.seq (.cond (.t 34) (.skip) (.exit 0)) (.seq (.block 1 (.seq (.reg [] (AA 35 33::AA 11 35::[]) [1,2,8,10,11,32,33]) (.seq (.reg [] (AJ 12 .mov [.k (.d (.list true []))]::[]) [1,2,8,10,11,12,32,33]) (.seq (.seq (.reg [] (AA 36 2::AB 37 (.len false) 36::AL 38 0::[]) [1,2,8,10,11,12,32,33,36,37,38]) (.block 2 (.loop [.own 10 76 110 1,.own 12 54 3 1] [1,2,8,10,11,12,32,33,36,37,38] [8,20,54,76,10020,900001,900002,901001,901002] (.seq (.reg [] (AD 39 (.bin .lss) 38 37::[]) [1,2,8,10,11,12,32,33,36,37,38,39]) (.seq (.cond (.t 39) (.skip) (.exit 2)) (.seq (.block 3 (.seq (.reg [] (AD 40 (.iaddrS 1) 36 38::AI 41 1 40::AA 14 41::[]) [1,2,8,10,11,12,14,32,33,36,37,38]) (.seq (.reg [] (AA 42 14::AP 43 2 8::AI 44 1 43::AD 45 (.bin .rem) 42 44::AA 46 11::AD 47 (.bin .eql) 45 46::[]) [1,2,8,10,11,12,14,32,33,36,37,38,47]) (.cond (.t 47) (.reg [] (AA 48 12::AA 49 14::AP 50 2 8::AI 51 1 50::AD 52 (.bin .quo) 49 51::AB 53 (.mkrow 1 (.int .i64 0) 1 [0]) 52::AD 54 (.app 3 1 none true) 48 53::AA 12 54::[]) [1,2,8,10,11,12,32,33,36,37,38]) (.skip))))) (.reg [] (AQ 55 (.bin .add) 38 1::AA 38 55::[]) [1,2,8,10,11,12,32,33,36,37,38]))))))) (.seq (.draw [.freeze 12] ((AP 57 0 8,[])::(AB 58 (.load true 2) 57,[])::(AB 59 (.load true 3) 8,[])::(AA 60 1,[])::(AA 61 11,[])::(AJ 62 (.call 81) [.t 59,.t 60,.t 61],[1])::(AA 63 12,[])::(AJ 64 (.call 123) [.t 58,.t 62,.t 63],[])::(AA 56 64,[])::(BT 65 0 56,[])::(BT 66 1 56,[])::(AA 15 65,[])::(AA 16 66,[])::[]) [1,2,8,10,15,16,32,33]) (.seq (.seq (.reg [] (AA 67 16::AB 68 (.un .not) 67::[]) [1,2,8,10,15,32,33,68]) (.cond (.t 68) (.seq (.reg [] (AJ 6 .mov [.k (.d (.list true []))]::AL 7 52::[]) [6,7]) (.ret)) (.skip))) (.reg [] (AA 69 10::AA 70 15::AP 71 0 8::AB 72 (.load true 2) 71::AB 73 (.call 79) 72::AD 74 (.slice 1 false true false) 70 73::AB 75 (.mkrow 1 (.list true []) 1 [0]) 74::AD 76 (.app 110 1 none true) 69 75::AA 10 76::[]) [1,2,8,10,32,33]))))))) (.reg [] (AQ 77 (.bin .add) 33 1::AA 33 77::[]) [1,2,8,10,32,33]))))))) (.seq (.reg [.freeze 10] (AB 78 (.load true 3) 8::AA 79 10::AD 80 (.call 82) 78 79::AA 6 80::AL 7 0::[]) [6,7]) (.ret)))))))
theorem Lu:Cj E0 JN HO [.t 6,.t 7] 81:=AK (fl:=[]) (by kernel_rfl)
def aK:PC :=
 .seq (.reg [] (AB 3 .box 0::AJ 6 .mov [.k (.d (.list true []))]::AL 7 0::[]) [1,2,3]) (.seq (.seq (.reg [] (AB 16 (.load true 3) 3::AB 17 (.call 51) 16::AQ 18 (.bin .neq) 17 0::[]) [1,2,3,18]) (.cond (.t 18) (.seq (.reg [] (AJ 6 .mov [.k (.d (.list true []))]::AL 7 50::[]) [6,7]) (.ret)) (.skip))) (.seq (.seq (.reg [] (AA 19 1::AP 20 2 3::AI 21 1 20::AP 22 0 3::AP 23 0 22::AI 24 1 23::AD 25 (.bin .mul) 21 24::AD 26 (.call 37) 19 25::AB 27 (.un .not) 26::[]) [1,2,3,27]) (.cond (.t 27) (.seq (.reg [] (AJ 6 .mov [.k (.d (.list true []))]::AL 7 51::[]) [6,7]) (.ret)) (.skip))) (.seq (.seq (.reg [] (AA 28 2::AA 29 1::AB 30 (.len false) 29::AD 31 (.call 98) 28 30::AB 32 (.un .not) 31::[]) [1,2,3,32]) (.cond (.t 32) (.seq (.reg [] (AJ 6 .mov [.k (.d (.list true []))]::AL 7 1::[]) [6,7]) (.ret)) (.skip))) (.seq (.reg [] (AP 33 0 3::AP 34 0 33::AI 35 1 34::AP 36 0 3::AP 37 1 36::AI 38 1 37::AD 39 (.bin .sub) 35 38::AA 8 39::[]) [1,2,3,8]) (.seq (.reg [] (AP 40 2 3::AI 41 1 40::AA 42 8::AD 43 (.bin .mul) 41 42::AD 44 (.mksl 3 1 (.int .i64 0) true) 43 43::AA 9 44::[]) [1,2,3,8,9]) (.seq (.seq (.reg [] (AL 10 0::[]) [1,2,3,8,9,10]) (.block 0 (.loop [] [1,2,3,8,9,10] [3,44,10085,900000,900001,900002,901000,901001,901002] (.seq (.seq (.reg [] (AA 45 10::AP 46 2 3::AI 47 1 46::AD 48 (.bin .lss) 45 47::[]) [1,2,3,8,9,10,48]) (.cond (.t 48) (.skip) (.exit 0))) (.seq (.block 1 (.seq (.reg [] (AJ 11 .mov [.k (.d (.list true []))]::[]) [1,2,3,8,9,10,11]) (.seq (.seq (.reg [] (AL 12 0::[]) [1,2,3,8,9,10,11,12]) (.block 2 (.loop [.own 11 75 3 1] [1,2,3,8,9,10,11,12] [3,44,75,10085,900000,900001,900002,901000,901001,901002] (.seq (.seq (.reg [] (AA 51 12::AA 52 2::AB 53 (.len false) 52::AD 54 (.bin .lss) 51 53::[]) [1,2,3,8,9,10,11,12,54]) (.cond (.t 54) (.skip) (.exit 2))) (.seq (.block 3 (.seq (.draw [] ((AA 57 2,[])::(AA 58 12,[])::(AD 59 (.iaddrS 1) 57 58,[])::(AI 60 1 59,[])::(AP 61 2 3,[])::(AI 62 1 61,[])::(AD 63 (.bin .rem) 60 62,[])::(AA 64 10,[])::(AD 65 (.bin .eql) 63 64,[])::[]) [1,2,3,8,9,10,11,12,65]) (.cond (.t 65) (.draw [] ((AA 66 11,[])::(AA 67 2,[])::(AA 68 12,[])::(AD 69 (.iaddrS 1) 67 68,[])::(AI 70 1 69,[])::(AP 71 2 3,[])::(AI 72 1 71,[])::(AD 73 (.bin .quo) 70 72,[])::(AB 74 (.mkrow 1 (.int .i64 0) 1 [0]) 73,[])::(AD 75 (.app 3 1 none true) 66 74,[])::(AA 11 75,[])::[]) [1,2,3,8,9,10,11,12]) (.skip)))) (.reg [] (AA 55 12::AQ 56 (.bin .add) 55 1::AA 12 56::[]) [1,2,3,8,9,10,11,12])))))) (.seq (.draw [.freeze 11] ((AP 77 0 3,[])::(AB 78 (.load true 2) 77,[])::(AA 79 1,[])::(AP 80 2 3,[])::(AI 81 1 80,[])::(AA 82 10,[])::(AJ 83 (.call 95) [.t 79,.t 81,.t 82],[1])::(AA 84 11,[])::(AJ 85 (.call 99) [.t 78,.t 83,.t 84],[])::(AA 76 85,[])::(BT 86 0 76,[])::(BT 87 1 76,[])::(AA 13 86,[])::(AA 14 87,[])::[]) [1,2,3,8,9,10,13,14]) (.seq (.seq (.reg [] (AA 88 14::AB 89 (.un .not) 88::[]) [1,2,3,8,9,10,13,89]) (.cond (.t 89) (.seq (.reg [] (AJ 6 .mov [.k (.d (.list true []))]::AL 7 52::[]) [6,7]) (.ret)) (.skip))) (.seq (.reg [] (AL 15 0::[]) [1,2,3,8,9,10,13,15]) (.block 4 (.loop [] [1,2,3,8,9,10,13,15] [3,44,85,10085,900000,900001,900002,901000,901001,901002] (.seq (.seq (.reg [] (AA 90 15::AA 91 8::AD 92 (.bin .lss) 90 91::[]) [1,2,3,8,9,10,13,15,92]) (.cond (.t 92) (.skip) (.exit 4))) (.seq (.block 5 (.draw [] ((AA 95 9,[])::(AA 96 15,[])::(AP 97 2 3,[])::(AI 98 1 97,[])::(AD 99 (.bin .mul) 96 98,[])::(AA 100 10,[])::(AD 101 (.bin .add) 99 100,[])::(AA 102 13,[])::(AA 103 15,[])::(AD 104 (.iaddrS 1) 102 103,[])::(AI 105 1 104,[])::(AD 106 (.iaddrS 1) 95 101,[])::(Br (.store 1) [.t 106,.t 105],[])::[]) [1,2,3,8,9,10,13,15])) (.reg [] (AA 93 15::AQ 94 (.bin .add) 93 1::AA 15 94::[]) [1,2,3,8,9,10,13,15]))))))))))) (.reg [] (AA 49 10::AQ 50 (.bin .add) 49 1::AA 10 50::[]) [1,2,3,8,9,10])))))) (.seq (.reg [] (AA 107 9::AA 6 107::AL 7 0::[]) [6,7]) (.ret))))))))
section
def g8 (l:List (List F)):List D:=l.map fun r=>.list false (us r)
theorem iM (l:List (List F)):(g8 l).length=l.length:=by simp[g8]
theorem cq (l:List (List F)) (r:List F):g8 l++[.list false (us r)]=g8 (l++[r]):=by simp[g8]
theorem aR {ls:List (List F)}{i:Nat}{A:D->Prop}:BV (g8 ls)[i]? A=(i<ls.length/\A (.list false (us (ls[i]?.getD [])))):=by
 unfold g8
 rw[List.getElem?_map]
 by_cases h:i<ls.length
 ·simp[h,BV]
 ·have:ls[i]?=none:=List.getElem?_eq_none (by omega)
  simp[this,h,BV]
attribute [go_sem] iM cq aR
theorem aL (m q k j:Nat) (b:List F) (h:j<m):(DE m q k b).take j++[b[j*q+k]?.getD 0]=(DE m q k b).take (j+1):=by
 rw[←Oq j h,Bx _ 0 j (by rw[DV];exact h)]
theorem ow {m q k j n:Nat}(hk:k<q) (hn:n=m*q) (h:j<m):k+j*q<n:=by have:=S7 hk h;omega
theorem oz {m q k n:Nat}(hn:n=m*q):¬k+m*q<n:=by omega
theorem eW {m q:Nat}(hm:m<=15) (hq:q<=8):m*q<=120:=Nat.mul_le_mul hm hq
def Wx (q:Nat) (W:Nat->List F):List (List F):=(List.range q).map W
theorem QE (q:Nat) (W:Nat->List F):(Wx q W).length=q:=by simp[Wx]
theorem TP {q:Nat}{W:Nat->List F}{k:Nat}(h:k<q):(Wx q W)[k]?.getD []=W k:=by simp[Wx,h]
theorem Uj {q:Nat}{W:Nat->List F}{k:Nat}(h:k<q):(Wx q W).take k++[W k]=(Wx q W).take (k+1):=by
 have:=Bx (Wx q W) [] k (by rw[QE];exact h)
 rwa [TP h] at this
theorem ga {m q i k:Nat}{W:Nat->List F}(hi:i<m) (hk:k<q):(Hw m q W).take (i*q+k)++[(W k)[i]?.getD 0]=(Hw m q W).take (i*q+(k+1)):=by
 have h:=S7 hk hi
 rw[←Nat.add_assoc,←Bx _ 0 (i*q+k) (by rw[Hg];exact h),Rn _ h,YT hk,UK hk]
theorem bt (b:Bool):(b && decide ((0:Nat)=0))=b:=by simp
theorem Rp (b:Bool) {k:Nat}(h:k≠0):(b && decide (k=0))=false:=by simp[h]
def spE (L P Q:Int) (xs:List Int):Int:=if Cv L P Q=true then if CR xs (Q*(L-P))=true then 0 else 51 else 50
def U7 (L P Q:Int) (xs:List Int):List Int:=if Cv L P Q=true then if CR xs (Q*(L-P))=true then iv (Zt L.toNat P.toNat Q.toNat (fs xs)) else [] else []
noncomputable def o7 (L P Q:Int) (xs ms:List Int):Int:=if Cv L P Q=true then if CR xs (Q*L)=true then if EU ms xs.length=true then oE (fT L.toNat P.toNat Q.toNat (fs xs) (nt ms)) else 1 else 51 else 50
noncomputable def oH (L P Q:Int) (xs ms:List Int):List Int:=if Cv L P Q=true then if CR xs (Q*L)=true then if EU ms xs.length=true then iv (oL (fT L.toNat P.toNat Q.toNat (fs xs) (nt ms))) else [] else [] else []
theorem M9 {L P Q:Int}(h:Cv L P Q=true):∃l p q:Nat,L=(l:Int)/\P=(p:Int)/\Q=(q:Int)/\2<=l/\l<=15/\1<=p/\p<=8/\p<l/\1<=q/\q<=8/\EK (l:Int) (p:Int)=true:=by
 obtain⟨hc,h1,h2⟩:=Ul h
 obtain⟨l,p,rfl,rfl,b1,b2,b3,b4,b5⟩:=bn hc
 exact⟨l,p,Q.toNat,rfl,rfl,by omega,b1,b2,b3,b4,b5,by omega,by omega,hc⟩
theorem T0 {n m q:Nat}(h:(n:Int)=(q:Int)*(m:Int)):n=m*q:=by
 rw[Nat.mul_comm];exact_mod_cast h
theorem eZ (q k i:Nat) (ms:List Nat) (h:i<ms.length):QL q k (ms.take (i+1))=if (ms[i]?.getD 0)%q=k then QL q k (ms.take i)++[(ms[i]?.getD 0)/q] else QL q k (ms.take i):=by
 rw[←Bx ms 0 i h,Vk]
attribute [local congr] Bf A9 A_ Aq Bg Ax Az Ay Ap Aj Ad AZ Au Ae Av BK BO BM BN BL BP BE Ah Aw Ai BC BW Ag BI BJ BD BF BH BG BA BB A8 Bj A' Ar Af
attribute [local irreducible] IntKind.wrap A4 Option.getD and or
theorem JC (L P q m k:Nat) (n:Bool) (b:List F) (hm:m<=15) (hm1:1<=m) (hq:q<=8) (hk:k<q) (hb:b.length=m*q) :
  B' E0 Gk [.agg [.int .i64 (L:Int),.int .i64 (P:Int),.int .i64 (q:Int)],.list n (Am (iv b)),.int .i64 (k:Int)] (.list false (us (DE m q k b))):=by
 have hmq:=eW hm hq
 have hpl:=DV m q k b
 refine AO Je An (by simp) fun hwf=>?_
 rw[AW];unfold GA
 (try (simp -implicitDefEqProofs only[go_sem]));repeat' first|(with_reducible first|exact tI|refine aI ?_ ?_|intro _)|((first|with_reducible refine AN ?_ ?_<;>intro _)<;>try (simp -implicitDefEqProofs only[go_sem]))|simp (disch:=omega) only[Al]|((with_reducible refine BS ?_);refine⟨(_,_,_),rfl,?_,?_⟩)
 all_goals first|omega|(simp;done)|(simp;omega)|skip
 refine AY (α:=Nat×Nat×Bool) (l0:=?l1) (m0:=?m1) (fun x=>[(8,.d (.int .i64 (x.2.1:Int)))]) (fun x=>[(25,.row 135 1 x.2.2 (us ((DE m q k b).take x.1)))]) (fun x=>x.1<=m/\x.2.1=k+x.1*q/\x.2.2=decide (x.1=0)) (fun x=>m-x.1) (0,k,true) ?h01 ?he1 ?he21 ?hI1 ?step1
 case h01=>(simp -implicitDefEqProofs only[go_sem];rfl)
 case he1=>rfl
 case he21=>rfl
 case' step1=>(rintro⟨j,s,e⟩ hI;try dsimp only at hI)
 case' hI1=>try dsimp only
 ·exact⟨Nat.zero_le _,by simp,rfl⟩
 ·obtain⟨h1,hs,h2⟩:=hI
  change e=decide (j=0) at h2
  subst h2
  have hjq:=Nat.mul_le_mul_right q h1
  by_cases h:j<m
  ·have h0:=ow hk hb h
   rw[←hs] at h0
   have h':(s:Int)<(b.length:Int):=by omega
   have hs2:s+q=k+(j+1)*q:=by rw[Nat.add_mul,Nat.one_mul];omega
   have hwj:IntKind.i64.wrap ((s:Int)+(q:Int))=((s+q:Nat):Int):=by rw[Aa _ (by omega)];omega
   have hst:=aL m q k j b h
   rw[Nat.add_comm (j*q) k,←hs] at hst
   (try (simp -implicitDefEqProofs only[go_sem,h0,h',hwj,hst,lQ]));repeat' first|(with_reducible first|exact tI|refine aI ?_ ?_|intro _)|((first|with_reducible refine AN ?_ ?_<;>intro _)<;>try (simp -implicitDefEqProofs only[go_sem,h0,h',hwj,hst,lQ]))|simp (disch:=omega) only[Al]|((with_reducible refine BS ?_);refine⟨(_,_,_),rfl,?_,?_⟩)
   all_goals first|omega|(simp;done)|(simp;omega)|skip
   all_goals first|exact⟨hs2,rfl⟩|exact hs2|rfl|skip
  ·have hje:j=m:=by omega
   subst hje
   have h0:=oz (k:=k) hb
   have h':¬(s:Int)<(b.length:Int):=by omega
   have htk:(DE j q k b).take j=DE j q k b:=List.take_of_length_le (by omega)
   have hj0:decide (j=0)=false:=decide_eq_false (by omega)
   rw[htk,hj0]
   (try (simp -implicitDefEqProofs only[go_sem,h']));repeat' first|(with_reducible first|exact tI|refine aI ?_ ?_|intro _)|((first|with_reducible refine AN ?_ ?_<;>intro _)<;>try (simp -implicitDefEqProofs only[go_sem,h']))|simp (disch:=omega) only[Al]|((with_reducible refine BS ?_);refine⟨(_,_,_),rfl,?_,?_⟩)
   all_goals first|omega|(simp;done)|(simp;omega)|skip
   all_goals first|rfl|skip
theorem JD (x:D) (q m:Nat) (W:Nat->List F) (hm:m<=15) (hm1:1<=m) (hq:q<=8) (hq1:1<=q) (hW:∀k,k<q->(W k).length=m) (hx:∃a b c,x=.agg [.int .i64 a,.int .i64 b,.int .i64 c]) :
  B' E0 Gl [x,.list false (g8 (Wx q W))] (.list false (Am (iv (Hw m q W)))):=by
 obtain⟨a,b,c,rfl⟩:=hx
 have hmq:=eW hm hq
 have hbl:=Hg m q W
 have hwl:=QE q W
 have h0:0<(Wx q W).length:=by omega
 have hw0:(Wx q W)[0]?.getD []=W 0:=TP (by omega)
 have hl0:=hW 0 (by omega)
 refine AO Jf An (by simp) fun hwf=>?_
 rw[AW];unfold GB
 (try (simp -implicitDefEqProofs only[go_sem,h0,hw0,hl0]));repeat' first|(with_reducible first|exact tI|refine aI ?_ ?_|intro _)|((first|with_reducible refine AN ?_ ?_<;>intro _)<;>try (simp -implicitDefEqProofs only[go_sem,h0,hw0,hl0]))|simp (disch:=omega) only[Al]|((with_reducible refine BS ?_);refine⟨(_,_,_),rfl,?_,?_⟩)
 all_goals first|omega|(simp;done)|(simp;omega)|skip
 refine AY (α:=Nat×Nat×Bool) (l0:=?l2) (m0:=?m2) (fun x=>[(13,.d (.int .i64 (x.1:Int)))]) (fun x=>[(29,.row 3 1 x.2.2 (Am (iv ((Hw m q W).take x.2.1))))]) (fun x=>x.1<=m/\x.2.1=x.1*q/\x.2.2=decide (x.1=0)) (fun x=>m-x.1) (0,0,true) ?h02 ?he2 ?he22 ?hI2 ?step2
 case h02=>(simp -implicitDefEqProofs only[go_sem];rfl)
 case he2=>rfl
 case he22=>rfl
 case' step2=>(rintro⟨i,n,e⟩ hI;try dsimp only at hI)
 case' hI2=>try dsimp only
 ·exact⟨Nat.zero_le _,by simp,rfl⟩
 ·obtain⟨i1,hn,i2⟩:=hI
  change e=decide (i=0) at i2
  subst i2
  have hiq:=Nat.mul_le_mul_right q i1
  by_cases h:i<m
  ·have h':(i:Int)<(m:Int):=by omega
   have hwi:IntKind.i64.wrap ((i:Int)+1)=((i+1:Nat):Int):=by rw[Aa _ (by omega)];omega
   have hbs:=fun k hk=>@ga m q i k W h hk
   have hend:i*q+q=(i+1)*q:=by rw[Nat.add_mul];omega
   (try (simp -implicitDefEqProofs only[go_sem,h',hwl]));repeat' first|(with_reducible first|exact tI|refine aI ?_ ?_|intro _)|((first|with_reducible refine AN ?_ ?_<;>intro _)<;>try (simp -implicitDefEqProofs only[go_sem,h',hwl]))|simp (disch:=omega) only[Al]|((with_reducible refine BS ?_);refine⟨(_,_,_),rfl,?_,?_⟩)
   all_goals first|omega|(simp;done)|(simp;omega)|skip
   refine AY (α:=Nat×Nat×Bool) (l0:=?l3) (m0:=?m3) (fun x=>[(18,.d (.int .i64 (x.1:Int)))]) (fun x=>[(29,.row 3 1 x.2.2 (Am (iv ((Hw m q W).take x.2.1))))]) (fun x=>x.1<=q/\x.2.1=i*q+x.1/\x.2.2=(decide (i=0) && decide (x.1=0))) (fun x=>q-x.1) (0,n,(decide (i=0))) ?h03 ?he3 ?he23 ?hI3 ?step3
   case h03=>(simp -implicitDefEqProofs only[go_sem];rfl)
   case he3=>rfl
   case he23=>rfl
   case' step3=>(rintro⟨k,n2,e2⟩ hI2;try dsimp only at hI2)
   case' hI3=>try dsimp only
   ·exact⟨Nat.zero_le _,hn,(bt _).symm⟩
   ·obtain⟨k1,hn2,k2⟩:=hI2
    change e2=(decide (i=0) && decide (k=0)) at k2
    by_cases hk:k<q
    ·have hk':(k:Int)<(q:Int):=by omega
     have hwk:IntKind.i64.wrap ((k:Int)+1)=((k+1:Nat):Int):=by rw[Aa _ (by omega)];omega
     have hg:=TP (W:=W) hk
     have hkl:=hW k hk
     have hst:=hbs k hk
     have hn3:n2+1=i*q+(k+1):=by omega
     rw[←hn2,←hn3] at hst
     have hfe:false=(decide (i=0) && decide (k+1=0)):=(Rp _ (by omega)).symm
     have hnl:n2<=120:=by have:=S7 hk h;omega
     (try (simp -implicitDefEqProofs only[go_sem,hk',hwk,hwl,hk,hg,hkl,hst,h,cP]));repeat' first|(with_reducible first|exact tI|refine aI ?_ ?_|intro _)|((first|with_reducible refine AN ?_ ?_<;>intro _)<;>try (simp -implicitDefEqProofs only[go_sem,hk',hwk,hwl,hk,hg,hkl,hst,h,cP]))|simp (disch:=omega) only[Al]|((with_reducible refine BS ?_);refine⟨(_,_,_),rfl,?_,?_⟩)
     all_goals first|omega|(simp;done)|(simp;omega)|skip
     all_goals first|exact⟨hn3,hfe⟩|exact hn3|exact hfe|rfl|(simp;done)|skip
    ·have hk':¬(k:Int)<(q:Int):=by omega
     have hke:k=q:=by omega
     have hn3:n2=(i+1)*q:=by omega
     have hfe:e2=decide (i+1=0):=by rw[k2,Rp _ (by omega),decide_eq_false (by omega)]
     (try (simp -implicitDefEqProofs only[go_sem,hk',hwl,hwi]));repeat' first|(with_reducible first|exact tI|refine aI ?_ ?_|intro _)|((first|with_reducible refine AN ?_ ?_<;>intro _)<;>try (simp -implicitDefEqProofs only[go_sem,hk',hwl,hwi]))|simp (disch:=omega) only[Al]|((with_reducible refine BS ?_);refine⟨(_,_,_),rfl,?_,?_⟩)
     all_goals first|omega|(simp;done)|(simp;omega)|skip
     all_goals first|exact⟨hn3,hfe⟩|exact hn3|exact hfe|rfl|(simp;done)|skip
  ·have h':¬(i:Int)<(m:Int):=by omega
   have hie:i=m:=by omega
   subst hie
   have htk:(Hw i q W).take n=Hw i q W:=List.take_of_length_le (by omega)
   have hi0:decide (i=0)=false:=decide_eq_false (by omega)
   rw[htk,hi0]
   (try (simp -implicitDefEqProofs only[go_sem,h']));repeat' first|(with_reducible first|exact tI|refine aI ?_ ?_|intro _)|((first|with_reducible refine AN ?_ ?_<;>intro _)<;>try (simp -implicitDefEqProofs only[go_sem,h']))|simp (disch:=omega) only[Al]|((with_reducible refine BS ?_);refine⟨(_,_,_),rfl,?_,?_⟩)
   all_goals first|omega|(simp;done)|(simp;omega)|skip
   all_goals first|rfl|skip
theorem Mu (L P Q:Int) (n:Bool) (xs:List Int):B' E0 JM [.agg [.int .i64 L,.int .i64 P,.int .i64 Q],.list n (Am xs)] (.tup [.list (U7 L P Q xs).isEmpty (Am (U7 L P Q xs)),.int .i64 (spE L P Q xs)]):=by
 refine AO Mm An (by simp) fun hwf=>?_
 rw[AW];unfold H3 U7 spE
 cases hw:Cv L P Q with
 |false =>
  have c1:=D2 L P Q n xs C5 (if EK L P=true then L-P else 0) TD (by
   split
   ·rename_i hc;have:=LH hc;omega
   ·omega) fun hc=>by rw[if_pos hc];have:=LH hc;exact GM L P (by omega)
  unfold lV at c1
  rw[hw] at c1
  simp only[Bool.false_eq_true,if_false] at c1 ⊢
  rw[Q2] at c1
  (try (simp -implicitDefEqProofs only[go_sem]));repeat' first|(with_reducible first|exact tI|refine aI ?_ ?_|intro _)|((first|with_reducible refine AN ?_ ?_<;>intro _|(with_reducible refine isCall ?_);first|refine AE c1 ?_)<;>try (simp -implicitDefEqProofs only[go_sem]))|simp (disch:=omega) only[Al]|((with_reducible refine Ab ?_);refine⟨(_,_),rfl,?_,?_⟩)
  all_goals first|rfl|(simp;done)|skip
 |true =>
  obtain⟨l,p,q,rfl,rfl,rfl,b1,b2,b3,b4,b5,b6,b7,hc⟩:=M9 hw
  have c1:=D2 l p q n xs C5 ((l:Int)-(p:Int)) TD (by omega) fun hc=>GM l p (by omega)
  unfold lV at c1
  rw[hw] at c1
  simp only[if_true] at c1 ⊢
  cases hs:CR xs ((q:Int)*((l:Int)-(p:Int))) with
  |false =>
   rw[hs] at c1
   simp only[Bool.false_eq_true,if_false] at c1 ⊢
   rw[XX] at c1
   (try (simp -implicitDefEqProofs only[go_sem]));repeat' first|(with_reducible first|exact tI|refine aI ?_ ?_|intro _)|((first|with_reducible refine AN ?_ ?_<;>intro _|(with_reducible refine isCall ?_);first|refine AE c1 ?_)<;>try (simp -implicitDefEqProofs only[go_sem]))|simp (disch:=omega) only[Al]|((with_reducible refine Ab ?_);refine⟨(_,_),rfl,?_,?_⟩)
   all_goals first|rfl|(simp;done)|skip
  |true =>
   rw[hs] at c1
   simp only[if_true] at c1 ⊢
   rw[Y'] at c1
   obtain⟨hl,hf⟩:=Qf hs
   obtain⟨d,hd⟩:∃d,fs xs=d:=⟨_,rfl⟩
   rw[hd] at hf ⊢
   subst hf
   rw[K1,show ((l:Int)-(p:Int))=((l-p:Nat):Int) by omega] at hl
   have hdl:=T0 hl
   simp only[Int.toNat_natCast]
   have c2:=fun k hk=>JC l p q (l-p) k n d (by omega) (by omega) b7 hk hdl
   have hW0:Zt l p q d=Hw l q fun k=>IQ p (DE (l-p) q k d):=rfl
   have c3:=fun k=>Ms l p false (DE (l-p) q k d) b2 b3 (by rw[DV];omega) (by rw[DV];omega) rfl
   have hWl:∀k,k<q->(IQ p (DE (l-p) q k d)).length=l:=fun k _=>by rw[I7,DV];omega
   obtain⟨W,hW⟩:∃W:Nat->List F,(fun k=>IQ p (DE (l-p) q k d))=W:=⟨_,rfl⟩
   have hWk:∀k,IQ p (DE (l-p) q k d)=W k:=fun k=>by rw[←hW]
   simp only[hWk] at c3 hWl
   rw[hW] at hW0
   rw[hW0]
   have c4:=JD (.agg [.int .i64 (l:Int),.int .i64 (p:Int),.int .i64 (q:Int)]) q l W b2 (by omega) b7 b6 hWl ⟨_,_,_,rfl⟩
   have hB:0<(Hw l q W).length:=by rw[Hg];exact Nat.mul_pos (by omega) (by omega)
   rw[Q_ hB]
   have hst:=fun k hk=>@Uj q W k hk
   have hwl:=QE q W
   (try (simp -implicitDefEqProofs only[go_sem]));repeat' first|(with_reducible first|exact tI|refine aI ?_ ?_|intro _)|((first|with_reducible refine AN ?_ ?_<;>intro _|(with_reducible refine isCall ?_);first|refine AE c1 ?_)<;>try (simp -implicitDefEqProofs only[go_sem]))|simp (disch:=omega) only[Al]|((with_reducible refine Ab ?_);refine⟨(_,_),rfl,?_,?_⟩)
   all_goals first|omega|(simp;done)|(simp;omega)|skip
   refine AY (α:=Nat×Bool) (l0:=?l4) (m0:=?m4) (fun x=>[(21,.d (.int .i64 (x.1:Int)))]) (fun x=>[(33,.row 110 1 x.2 (g8 ((Wx q W).take x.1)))]) (fun x=>x.1<=q/\x.2=decide (x.1=0)) (fun x=>q-x.1) (0,true) ?h04 ?he4 ?he24 ?hI4 ?step4
   case h04=>(simp -implicitDefEqProofs only[go_sem];rfl)
   case he4=>rfl
   case he24=>rfl
   case' step4=>(rintro⟨k,e⟩ hI;try dsimp only at hI)
   case' hI4=>try dsimp only
   ·exact⟨Nat.zero_le _,rfl⟩
   ·obtain⟨k1,k2⟩:=hI
    change e=decide (k=0) at k2
    subst k2
    by_cases hk:k<q
    ·have hk':(k:Int)<(q:Int):=by omega
     have hwk:IntKind.i64.wrap ((k:Int)+1)=((k+1:Nat):Int):=by rw[Aa _ (by omega)];omega
     have c5:=c2 k hk
     have c6:=c3 k
     have hst2:=hst k hk
     rw[B3] at c6
     (try (simp -implicitDefEqProofs only[go_sem,hk',hwk,hst2]));repeat' first|(with_reducible first|exact tI|refine aI ?_ ?_|intro _)|((first|with_reducible refine AN ?_ ?_<;>intro _|(with_reducible refine isCall ?_);first|refine AE c5 ?_|refine AE c6 ?_)<;>try (simp -implicitDefEqProofs only[go_sem,hk',hwk,hst2]))|simp (disch:=omega) only[Al]|((with_reducible refine Ab ?_);refine⟨(_,_),rfl,?_,?_⟩)
     all_goals first|omega|(simp;done)|(simp;omega)|skip
     all_goals first|rfl|skip
    ·have hk':¬(k:Int)<(q:Int):=by omega
     have hke:k=q:=by omega
     have hk0:decide (k=0)=false:=decide_eq_false (by omega)
     have htk:(Wx q W).take k=Wx q W:=List.take_of_length_le (by omega)
     rw[hk0,htk]
     (try (simp -implicitDefEqProofs only[go_sem,hk']));repeat' first|(with_reducible first|exact tI|refine aI ?_ ?_|intro _)|((first|with_reducible refine AN ?_ ?_<;>intro _|(with_reducible refine isCall ?_);first|refine AE c4 ?_)<;>try (simp -implicitDefEqProofs only[go_sem,hk']))|simp (disch:=omega) only[Al]|((with_reducible refine Ab ?_);refine⟨(_,_),rfl,?_,?_⟩)
     all_goals first|rfl|omega|(simp;done)|skip
end
def AX.ok (c:AX):Bool:=c.code.ok && (Cv c.L c.P c.Q && (decide (c.Q*c.L<=32) && (Cl c.mark && (Ct c.seed 1 127 && (Ct c.errs 0 16 && I8 c.code 16)))))
def AX.flat (c:AX) (X:List Int):List Int:=X.flatMap fun x=>c.code.stm x.toNat
def JY (c:AX) (block:List Int):List Int:=c.mark++c.flat (Dh c.seed block)
def cQ (c:AX) (d:List Int):List Int:=if c.ok=true then if spE c.L c.P c.Q d=0 then JY c (U7 c.L c.P c.Q d) else [] else []
def oG (c:AX) (d:List Int):Int:=if c.ok=true then if spE c.L c.P c.Q d=0 then 0 else 51 else 130
noncomputable def b9 (c:AX) (sy:List (Option Nat)):List Int:=oH c.L c.P c.Q (Dh c.seed (Pe sy)) (ni (g_ sy))
noncomputable def aw (c:AX) (sy:List (Option Nat)):Int:=o7 c.L c.P c.Q (Dh c.seed (Pe sy)) (ni (g_ sy))
def Gr (bits:List Int):Bool:=decide (bits.length<=1000) && A1 bits
noncomputable def d0 (c:AX) (bits:List Int):Int:=if c.ok=true then if Gr bits=true then match c.find bits with
 |none=>3
 |some a=>aw c (c.syL bits a)
 else 131 else 130
noncomputable def Y8 (c:AX) (bits:List Int):List Int:=if c.ok=true then if Gr bits=true then match c.find bits with
 |none=>[]
 |some a=>b9 c (c.syL bits a)
 else [] else []
noncomputable def d4 (c:AX) (bits:List Int):Int:=if c.ok=true then if Gr bits=true then match c.find bits with
 |none=>0
 |some a=>if aw c (c.syL bits a)=0 then a else 0
 else 0 else 0
theorem WL {α:Type}(a b:List α) (n:Nat):(a++b).drop (a.length+n)=b.drop n:=by
 rw[List.drop_append,List.drop_eq_nil_of_le (by omega),List.nil_append,show a.length+n-a.length=n by omega]
theorem S4 {α:Type}{f:α->List Int}{m:Nat}(hf:∀x,(f x).length=m):∀(l:List α) (i:Nat) (h:i<l.length),((l.flatMap f).drop (i*m)).take m=f l[i]
 |[],_,h=>by cases h
 |x::l,0,_=>by
  rw[Nat.zero_mul,List.drop_zero,List.flatMap_cons]
  exact List.take_left' (hf x)
 |x::l,i+1,h=>by
  rw[List.flatMap_cons,show (i+1)*m=(f x).length+i*m by rw[hf,Nat.succ_mul];omega,WL]
  exact S4 hf l i (by simpa using h)
theorem V4 {α:Type}{f:α->List Int}{m:Nat}(hf:∀x,(f x).length=m):∀l:List α,(l.flatMap f).length=l.length*m
 |[]=>by simp
 |x::l=>by rw[List.flatMap_cons,List.length_append,hf,V4 hf l,List.length_cons,Nat.succ_mul];omega
theorem PH (c:AX) (X:List Int):(c.flat X).length=X.length*c.code.sz:=V4 (fun x=>FN ..) X
theorem Y0 (c:AX) (b:List Int):(JY c b).length=c.mark.length+b.length*c.code.sz:=by
 unfold JY;rw[List.length_append,PH,Eg]
theorem dU (c:AX) (X rest:List Int) (i:Nat) (h:i<X.length):c.part (c.mark++c.flat X++rest) 0 i=c.code.stm (X[i]?.getD 0).toNat:=by
 unfold AX.part
 rw[Nat.zero_add,List.append_assoc,WL]
 have h1:=PH c X
 have h2:(i+1)*c.code.sz<=X.length*c.code.sz:=Nat.mul_le_mul_right _ h
 rw[Nat.succ_mul] at h2
 rw[List.drop_append_of_le_length (by rw[h1];omega),List.take_append_of_le_length (by rw[List.length_drop,h1];omega)]
 have:=S4 (f:=fun x:Int=>c.code.stm x.toNat) (fun x=>FN ..) X i h
 rw[List.getElem?_eq_getElem h]
 exact this
section
attribute [local congr] Bf A9 A_ Aq Bg Ax Az Ay Ap Aj Ad AZ Au Ae Av BK BO BM BN BL BP BE Ah Aw Ai BC BW Ag BI BJ BD BF BH BG BA BB A8 Bj A' Ar Af
attribute [local irreducible] IntKind.wrap A4 Option.getD and or
abbrev Gw:=List (Ic×Int)
def py (e:Ic×Int):D×D:=(lU e.1,.int .i64 e.2)
def qU (m:Gw):List (D×D):=m.map py
def em (k:Ic):Gw->Option Int
 |[]=>none
 |e::m=>if k=e.1 then some e.2 else em k m
def oX (k:Ic) (v:Int):Gw->Gw
 |[]=>[(k,v)]
 |e::m=>if k=e.1 then (e.1,v)::m else e::oX k v m
def AU.apW (c:AU) (rec:Int->List Int->Gw->Int×Gw) (s first:Int) (mark:List Int):Nat->Int->Int->Gw->Int×Gw
 |0,_,least,m=>(least,m)
 |k+1,w,least,m =>
  let bits:=(Cr c.out.toNat (c.wrd s w)).drop first.toNat
  let n:=min mark.length bits.length
  let r:=rec (c.nxt s w) (mark.drop n) m
  c.apW rec s first mark k (w+1) (min least (CM (mark.take n) bits+r.1)) r.2
def AU.apM (c:AU):Nat->Int->Int->List Int->Gw->Int×Gw
 |0,_,_,_,m=>(0,m)
 |n+1,s,first,mark,m =>
  if mark=[] then (0,m) else
  match em (s,mark.length) m with
  |some v=>if first=0 then (v,m) else c.apW (fun s' mk m'=>c.apM n s' 0 mk m') s first mark c.W 0 16 m
  |none=>let r:=c.apW (fun s' mk m'=>c.apM n s' 0 mk m') s first mark c.W 0 16 m
   if first=0 then (r.1,oX (s,mark.length) r.1 r.2) else r
def qh (m:Gw):Prop:=∀e,e∈m->0<=e.2/\e.2<=16
theorem Jd:∀(xs ys:List Int),0<=CM xs ys/\CM xs ys<=xs.length
 |[],_=>by simp[CM]
 |_::_,[]=>by simp[CM];omega
 |x::xs,y::ys=>by
  have:=Jd xs ys
  simp only[CM,List.length_cons]
  split<;>omega
theorem Fz {xs:List Int}(h:A1 xs=true) (n:Nat):A1 (xs.take n)=true:=by
 simp only[A1,List.all_eq_true] at *
 exact fun x hx=>h x (List.mem_of_mem_take hx)
theorem AU.W_eq' (c:AU):(c.W:Int)=2^c.bits.toNat:=by simp[AU.W]
abbrev qj:M7:=(true,[some .i64,some .i64])
end
section
attribute [local congr] Bf A9 A_ Aq Bg Ax Az Ay Ap Aj Ad AZ Au Ae Av BK BO BM BN BL BP BE Ah Aw Ai BC BW Ag BI BJ BD BF BH BG BA BB A8 Bj A' Ar Af
attribute [local irreducible] IntKind.wrap A4 Option.getD and or
def AU.apFirst (c:AU) (mark:List Int) (s:Int):Nat->Int->Int->Gw->Int×Gw
 |0,_,least,m=>(least,m)
 |k+1,f,least,m=>c.apFirst mark s k (f+1) (min least (c.apM 16 s f mark m).1) (c.apM 16 s f mark m).2
def AU.apStates (c:AU) (mark:List Int):Nat->Int->Int->Gw->Int×Gw
 |0,_,least,m=>(least,m)
 |k+1,s,least,m=>c.apStates mark k (s+1) (c.apFirst mark s c.out.toNat 0 least m).1 (c.apFirst mark s c.out.toNat 0 least m).2
def AU.apart (c:AU) (mark:List Int):Int:=(c.apStates mark c.words.length 0 16 []).1
def AU.apartR (c:AU) (mark:List Int):Int×Int:=if !c.ok then (0,40) else if !Cl mark then (0,1) else (c.apart mark,0)
theorem HM (n1 n2:Bool) (xs ys:List Int) (at_:Int) (h0:0<=at_) (hl:at_+xs.length<=ys.length) (h128:xs.length<=1000000) (h129:ys.length<=1000000) :
  B' E0 JK [.list n1 (Am xs),.list n2 (Am ys),.int .i64 at_] (.int .i64 (CM xs (ys.drop at_.toNat))):=by
 refine AO Mk An (by simp) fun hwf=>?_
 rw[AW];unfold H1
 simp -implicitDefEqProofs only[go_sem]
 obtain⟨Y,hY⟩:∃Y,ys.drop at_.toNat=Y:=⟨_,rfl⟩
 have hYl:Y.length=ys.length-at_.toNat:=by rw[←hY];simp
 rw[hY]
 refine AY (α:=Int×Int) (l0:=?l1) (m0:=?m1) (fun x=>[(8,.d (.int .i64 x.1)),(7,.d (.int .i64 x.2))]) (fun x=>[]) (fun x=>0<=x.1/\x.1<=xs.length/\0<=x.2/\x.2<=x.1/\x.2+CM (xs.drop x.1.toNat) (Y.drop x.1.toNat)=CM xs Y) (fun x=>(xs.length-x.1).toNat) (?a1_0,?a1_1) ?h01 ?he1 ?he21 ?hI1 ?step1
 case h01=>(simp -implicitDefEqProofs only[go_sem];rfl)
 case he1=>rfl
 case he21=>rfl
 case' step1=>(rintro⟨i,n⟩ hI;try dsimp only at hI)
 case' hI1=>try dsimp only
 ·simp
 ·obtain⟨hi0,hi1,hn0,hn1,heq⟩:=hI
  by_cases hi:i<xs.length
  ·have hg:Y[i.toNat]?.getD 0=ys[(at_+i).toNat]?.getD 0:=by
    rw[←hY,List.getElem?_drop,show at_.toNat+i.toNat=(at_+i).toNat by omega]
   have hd:CM (xs.drop i.toNat) (Y.drop i.toNat)=(if xs[i.toNat]?.getD 0=ys[(at_+i).toNat]?.getD 0 then 0 else 1)+CM (xs.drop (i+1).toNat) (Y.drop (i+1).toNat):=by
    rw[Fw (xs:=xs) (i:=i.toNat) (by omega),Fw (xs:=Y) (i:=i.toNat) (by omega),CM,hg,show (i+1).toNat=i.toNat+1 by omega]
   rw[hd] at heq
   have hwr:IntKind.i64.wrap (at_+i)=at_+i:=Aa _ (by omega)
   (try (simp -implicitDefEqProofs only[go_sem,hwr]));repeat' first|(with_reducible first|exact tI|refine aI ?_ ?_|intro _)|((first|with_reducible refine AN ?_ ?_<;>intro _)<;>try (simp -implicitDefEqProofs only[go_sem,hwr]))|simp (disch:=omega) only[Al]|((with_reducible refine Ab ?_);refine⟨(_,_),rfl,?_,?_⟩)
   all_goals first|omega|(simp;done)|(simp;omega)|skip
   all_goals simp_all
   all_goals omega
  ·(try (simp -implicitDefEqProofs only[go_sem]));repeat' first|(with_reducible first|exact tI|refine aI ?_ ?_|intro _)|((first|with_reducible refine AN ?_ ?_<;>intro _)<;>try (simp -implicitDefEqProofs only[go_sem]))|simp (disch:=omega) only[Al]|((with_reducible refine Ab ?_);refine⟨(_,_),rfl,?_,?_⟩)
   all_goals first|omega|(simp;done)|(simp;omega)|skip
   have h0:xs.drop i.toNat=[]:=List.drop_eq_nil_of_le (by omega)
   rw[h0,show CM [] (Y.drop i.toNat)=0 by simp[CM]] at heq
   rw[←heq];simp
theorem Ok (nl:Bool) (xs:List Int):B' E0 LT [.list nl (Am xs)] (.bool (Cl xs)):=by
 refine AO O5 An (by simp) fun hwf=>?_
 rw[AW];unfold Jy
 (try (simp -implicitDefEqProofs only[go_sem]));repeat' first|(with_reducible first|exact tI|refine aI ?_ ?_|intro _)|((first|with_reducible refine AN ?_ ?_<;>intro _|(with_reducible refine isCall ?_);first|refine AE (DG _ _ _) ?_|refine AE (NR nl xs) ?_)<;>try (simp -implicitDefEqProofs only[go_sem]))|simp (disch:=omega) only[Al]
 all_goals simp_all[Cl]
def mC (bits:List Int):List Int->List Int->List Int
 |out,[]=>out
 |out,s::l=>mC bits (if 0<=s/\s<bits.length then out.set s.toNat (1-bits[s.toNat]?.getD 0) else out) l
end
end Go.Pw
