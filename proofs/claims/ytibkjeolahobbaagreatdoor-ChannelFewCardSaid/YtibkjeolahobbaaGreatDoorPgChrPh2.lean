/- A part of the proof. -/
import Derived.Test.YtibkjeolahobbaaGreatDoorChPC
import Derived.Test.YtibkjeolahobbaaGreatDoorPgChrN
import Derived.Test.YtibkjeolahobbaaGreatDoorPgChcJ
import Derived.Test.YtibkjeolahobbaaGreatDoorPgChcA
import Derived.Test.YtibkjeolahobbaaGreatDoorChcSpec2
set_option linter.all false
section
open Go Go.Pw Go.Proofs
namespace Go.Pw
set_option maxRecDepth 100000
def HP:PC :=
 .seq (.reg [] (AD 3 .box 0::AJ 6 .mov [.k (.d (.list true []))]::AM 7 0::[]) [1,2,3]) (.seq (.reg [] (AD 18 (.load true 3) 3::AA 19 1::AJ 20 (.call 78) [.t 18,.t 19,.k (.fn 121 [])]::AA 17 20::BR 21 0 17::BR 22 1 17::AJ 8 (.zero [.int .i64 0,.int .i64 0,.int .i64 0]) []::Bt (.store 3) [.t 8,.t 21]::AA 9 22::[]) [1,2,8,9]) (.seq (.seq (.reg [] (AA 23 9::AQ 24 (.bin .neq) 23 0::[]) [1,2,8,9,24]) (.cond (.t 24) (.seq (.reg [] (AA 25 9::AJ 6 .mov [.k (.d (.list true []))]::AA 7 25::[]) [6,7]) (.ret)) (.skip))) (.seq (.seq (.reg [] (AA 26 2::AA 27 1::AD 28 (.len false) 27::AB 29 (.call 122) 26 28::AD 30 (.un .not) 29::[]) [1,2,8,30]) (.cond (.t 30) (.seq (.reg [] (AJ 6 .mov [.k (.d (.list true []))]::AM 7 1::[]) [6,7]) (.ret)) (.skip))) (.seq (.reg [] (AJ 10 .mov [.k (.d (.list true []))]::[]) [1,2,8,10]) (.seq (.seq (.reg [] (AL 31 2 8::AI 32 1 31::AM 33 0::[]) [1,2,8,10,32,33]) (.block 0 (.loop [.own 10 76 110 1] [1,2,8,10,32,33] [8,20,76,10020,900001,900002,901001,901002] (.seq (.reg [] (AB 34 (.bin .lss) 33 32::[]) [1,2,8,10,32,33,34]) (.seq (.cond (.t 34) (.skip) (.exit 0)) (.seq (.block 1 (.seq (.reg [] (AA 35 33::AA 11 35::[]) [1,2,8,10,11,32,33]) (.seq (.reg [] (AJ 12 .mov [.k (.d (.list true []))]::[]) [1,2,8,10,11,12,32,33]) (.seq (.seq (.reg [] (AA 36 2::AD 37 (.len false) 36::AM 38 0::[]) [1,2,8,10,11,12,32,33,36,37,38]) (.block 2 (.loop [.own 10 76 110 1,.own 12 54 3 1] [1,2,8,10,11,12,32,33,36,37,38] [8,20,54,76,10020,900001,900002,901001,901002] (.seq (.reg [] (AB 39 (.bin .lss) 38 37::[]) [1,2,8,10,11,12,32,33,36,37,38,39]) (.seq (.cond (.t 39) (.skip) (.exit 2)) (.seq (.block 3 (.seq (.reg [] (AB 40 (.iaddrS 1) 36 38::AI 41 1 40::AA 14 41::[]) [1,2,8,10,11,12,14,32,33,36,37,38]) (.seq (.reg [] (AA 42 14::AL 43 2 8::AI 44 1 43::AB 45 (.bin .rem) 42 44::AA 46 11::AB 47 (.bin .eql) 45 46::[]) [1,2,8,10,11,12,14,32,33,36,37,38,47]) (.cond (.t 47) (.reg [] (AA 48 12::AA 49 14::AL 50 2 8::AI 51 1 50::AB 52 (.bin .quo) 49 51::AD 53 (.mkrow 1 (.int .i64 0) 1 [0]) 52::AB 54 (.app 3 1 none true) 48 53::AA 12 54::[]) [1,2,8,10,11,12,32,33,36,37,38]) (.skip))))) (.reg [] (AQ 55 (.bin .add) 38 1::AA 38 55::[]) [1,2,8,10,11,12,32,33,36,37,38]))))))) (.seq (.draw [.freeze 12] ((AL 57 0 8,[])::(AD 58 (.load true 2) 57,[])::(AD 59 (.load true 3) 8,[])::(AA 60 1,[])::(AA 61 11,[])::(AJ 62 (.call 81) [.t 59,.t 60,.t 61],[1])::(AA 63 12,[])::(AJ 64 (.call 123) [.t 58,.t 62,.t 63],[])::(AA 56 64,[])::(BR 65 0 56,[])::(BR 66 1 56,[])::(AA 15 65,[])::(AA 16 66,[])::[]) [1,2,8,10,15,16,32,33]) (.seq (.seq (.reg [] (AA 67 16::AD 68 (.un .not) 67::[]) [1,2,8,10,15,32,33,68]) (.cond (.t 68) (.seq (.reg [] (AJ 6 .mov [.k (.d (.list true []))]::AM 7 52::[]) [6,7]) (.ret)) (.skip))) (.reg [] (AA 69 10::AA 70 15::AL 71 0 8::AD 72 (.load true 2) 71::AD 73 (.call 79) 72::AB 74 (.slice 1 false true false) 70 73::AD 75 (.mkrow 1 (.list true []) 1 [0]) 74::AB 76 (.app 110 1 none true) 69 75::AA 10 76::[]) [1,2,8,10,32,33]))))))) (.reg [] (AQ 77 (.bin .add) 33 1::AA 33 77::[]) [1,2,8,10,32,33]))))))) (.seq (.reg [.freeze 10] (AD 78 (.load true 3) 8::AA 79 10::AB 80 (.call 82) 78 79::AA 6 80::AM 7 0::[]) [6,7]) (.ret)))))))
theorem L7:Ch E0 JV HP [.t 6,.t 7] 81:=AK (fl:=[]) (by kernel_rfl)
def ai:PC :=
 .seq (.reg [] (AD 3 .box 0::AJ 6 .mov [.k (.d (.list true []))]::AM 7 0::[]) [1,2,3]) (.seq (.seq (.reg [] (AD 16 (.load true 3) 3::AD 17 (.call 51) 16::AQ 18 (.bin .neq) 17 0::[]) [1,2,3,18]) (.cond (.t 18) (.seq (.reg [] (AJ 6 .mov [.k (.d (.list true []))]::AM 7 50::[]) [6,7]) (.ret)) (.skip))) (.seq (.seq (.reg [] (AA 19 1::AL 20 2 3::AI 21 1 20::AL 22 0 3::AL 23 0 22::AI 24 1 23::AB 25 (.bin .mul) 21 24::AB 26 (.call 37) 19 25::AD 27 (.un .not) 26::[]) [1,2,3,27]) (.cond (.t 27) (.seq (.reg [] (AJ 6 .mov [.k (.d (.list true []))]::AM 7 51::[]) [6,7]) (.ret)) (.skip))) (.seq (.seq (.reg [] (AA 28 2::AA 29 1::AD 30 (.len false) 29::AB 31 (.call 98) 28 30::AD 32 (.un .not) 31::[]) [1,2,3,32]) (.cond (.t 32) (.seq (.reg [] (AJ 6 .mov [.k (.d (.list true []))]::AM 7 1::[]) [6,7]) (.ret)) (.skip))) (.seq (.reg [] (AL 33 0 3::AL 34 0 33::AI 35 1 34::AL 36 0 3::AL 37 1 36::AI 38 1 37::AB 39 (.bin .sub) 35 38::AA 8 39::[]) [1,2,3,8]) (.seq (.reg [] (AL 40 2 3::AI 41 1 40::AA 42 8::AB 43 (.bin .mul) 41 42::AB 44 (.mksl 3 1 (.int .i64 0) true) 43 43::AA 9 44::[]) [1,2,3,8,9]) (.seq (.seq (.reg [] (AM 10 0::[]) [1,2,3,8,9,10]) (.block 0 (.loop [] [1,2,3,8,9,10] [3,44,10085,900000,900001,900002,901000,901001,901002] (.seq (.seq (.reg [] (AA 45 10::AL 46 2 3::AI 47 1 46::AB 48 (.bin .lss) 45 47::[]) [1,2,3,8,9,10,48]) (.cond (.t 48) (.skip) (.exit 0))) (.seq (.block 1 (.seq (.reg [] (AJ 11 .mov [.k (.d (.list true []))]::[]) [1,2,3,8,9,10,11]) (.seq (.seq (.reg [] (AM 12 0::[]) [1,2,3,8,9,10,11,12]) (.block 2 (.loop [.own 11 75 3 1] [1,2,3,8,9,10,11,12] [3,44,75,10085,900000,900001,900002,901000,901001,901002] (.seq (.seq (.reg [] (AA 51 12::AA 52 2::AD 53 (.len false) 52::AB 54 (.bin .lss) 51 53::[]) [1,2,3,8,9,10,11,12,54]) (.cond (.t 54) (.skip) (.exit 2))) (.seq (.block 3 (.seq (.draw [] ((AA 57 2,[])::(AA 58 12,[])::(AB 59 (.iaddrS 1) 57 58,[])::(AI 60 1 59,[])::(AL 61 2 3,[])::(AI 62 1 61,[])::(AB 63 (.bin .rem) 60 62,[])::(AA 64 10,[])::(AB 65 (.bin .eql) 63 64,[])::[]) [1,2,3,8,9,10,11,12,65]) (.cond (.t 65) (.draw [] ((AA 66 11,[])::(AA 67 2,[])::(AA 68 12,[])::(AB 69 (.iaddrS 1) 67 68,[])::(AI 70 1 69,[])::(AL 71 2 3,[])::(AI 72 1 71,[])::(AB 73 (.bin .quo) 70 72,[])::(AD 74 (.mkrow 1 (.int .i64 0) 1 [0]) 73,[])::(AB 75 (.app 3 1 none true) 66 74,[])::(AA 11 75,[])::[]) [1,2,3,8,9,10,11,12]) (.skip)))) (.reg [] (AA 55 12::AQ 56 (.bin .add) 55 1::AA 12 56::[]) [1,2,3,8,9,10,11,12])))))) (.seq (.draw [.freeze 11] ((AL 77 0 3,[])::(AD 78 (.load true 2) 77,[])::(AA 79 1,[])::(AL 80 2 3,[])::(AI 81 1 80,[])::(AA 82 10,[])::(AJ 83 (.call 95) [.t 79,.t 81,.t 82],[1])::(AA 84 11,[])::(AJ 85 (.call 99) [.t 78,.t 83,.t 84],[])::(AA 76 85,[])::(BR 86 0 76,[])::(BR 87 1 76,[])::(AA 13 86,[])::(AA 14 87,[])::[]) [1,2,3,8,9,10,13,14]) (.seq (.seq (.reg [] (AA 88 14::AD 89 (.un .not) 88::[]) [1,2,3,8,9,10,13,89]) (.cond (.t 89) (.seq (.reg [] (AJ 6 .mov [.k (.d (.list true []))]::AM 7 52::[]) [6,7]) (.ret)) (.skip))) (.seq (.reg [] (AM 15 0::[]) [1,2,3,8,9,10,13,15]) (.block 4 (.loop [] [1,2,3,8,9,10,13,15] [3,44,85,10085,900000,900001,900002,901000,901001,901002] (.seq (.seq (.reg [] (AA 90 15::AA 91 8::AB 92 (.bin .lss) 90 91::[]) [1,2,3,8,9,10,13,15,92]) (.cond (.t 92) (.skip) (.exit 4))) (.seq (.block 5 (.draw [] ((AA 95 9,[])::(AA 96 15,[])::(AL 97 2 3,[])::(AI 98 1 97,[])::(AB 99 (.bin .mul) 96 98,[])::(AA 100 10,[])::(AB 101 (.bin .add) 99 100,[])::(AA 102 13,[])::(AA 103 15,[])::(AB 104 (.iaddrS 1) 102 103,[])::(AI 105 1 104,[])::(AB 106 (.iaddrS 1) 95 101,[])::(Bt (.store 1) [.t 106,.t 105],[])::[]) [1,2,3,8,9,10,13,15])) (.reg [] (AA 93 15::AQ 94 (.bin .add) 93 1::AA 15 94::[]) [1,2,3,8,9,10,13,15]))))))))))) (.reg [] (AA 49 10::AQ 50 (.bin .add) 49 1::AA 10 50::[]) [1,2,3,8,9,10])))))) (.seq (.reg [] (AA 107 9::AA 6 107::AM 7 0::[]) [6,7]) (.ret))))))))
end Go.Pw
end
section
open Go Go.Pw Go.Proofs
namespace Go.Pw
set_option maxRecDepth 100000
set_option maxHeartbeats 3200000
def iG (l:List (List F)):List D:=l.map fun r=>.list false (us r)
theorem iZ (l:List (List F)):(iG l).length=l.length:=by simp[iG]
theorem dG (l:List (List F)) (r:List F):iG l++[.list false (us r)]=iG (l++[r]):=by simp[iG]
theorem ap {ls:List (List F)}{i:Nat}{A:D->Prop}:BW (iG ls)[i]? A=(i<ls.length/\A (.list false (us (ls[i]?.getD [])))):=by
 unfold iG
 rw[List.getElem?_map]
 by_cases h:i<ls.length
 ·simp[h,BW]
 ·have:ls[i]?=none:=List.getElem?_eq_none (by omega)
  simp[this,h,BW]
attribute [go_sem] iZ dG ap
theorem aj (m q k j:Nat) (b:List F) (h:j<m):(CU m q k b).take j++[b[j*q+k]?.getD 0]=(CU m q k b).take (j+1):=by
 rw[←O9 j h,Bz _ 0 j (by rw[Ca];exact h)]
theorem pG {m q k j n:Nat}(hk:k<q) (hn:n=m*q) (h:j<m):k+j*q<n:=by have:=RZ hk h;omega
theorem pH {m q k n:Nat}(hn:n=m*q):¬k+m*q<n:=by omega
theorem ei {m q:Nat}(hm:m<=15) (hq:q<=8):m*q<=120:=Nat.mul_le_mul hm hq
def XI (q:Nat) (W:Nat->List F):List (List F):=(List.range q).map W
theorem QO (q:Nat) (W:Nat->List F):(XI q W).length=q:=by simp[XI]
theorem Tc {q:Nat}{W:Nat->List F}{k:Nat}(h:k<q):(XI q W)[k]?.getD []=W k:=by simp[XI,h]
theorem U1 {q:Nat}{W:Nat->List F}{k:Nat}(h:k<q):(XI q W).take k++[W k]=(XI q W).take (k+1):=by
 have:=Bz (XI q W) [] k (by rw[QO];exact h)
 rwa [Tc h] at this
theorem gf {m q i k:Nat}{W:Nat->List F}(hi:i<m) (hk:k<q):(H0 m q W).take (i*q+k)++[(W k)[i]?.getD 0]=(H0 m q W).take (i*q+(k+1)):=by
 have h:=RZ hk hi
 rw[←Nat.add_assoc,←Bz _ 0 (i*q+k) (by rw[Hk];exact h),OW _ h,Uc hk,RY hk]
theorem cU (b:Bool):(b && decide ((0:Nat)=0))=b:=by simp
theorem R1 (b:Bool) {k:Nat}(h:k≠0):(b && decide (k=0))=false:=by simp[h]
def spE (L P Q:Int) (xs:List Int):Int:=if Cz L P Q=true then if CS xs (Q*(L-P))=true then 0 else 51 else 50
def Tn (L P Q:Int) (xs:List Int):List Int:=if Cz L P Q=true then if CS xs (Q*(L-P))=true then iv (Sr L.toNat P.toNat Q.toNat (fs xs)) else [] else []
noncomputable def pL (L P Q:Int) (xs ms:List Int):Int:=if Cz L P Q=true then if CS xs (Q*L)=true then if EW ms xs.length=true then oE (YJ L.toNat P.toNat Q.toNat (fs xs) (nt ms)) else 1 else 51 else 50
noncomputable def od (L P Q:Int) (xs ms:List Int):List Int:=if Cz L P Q=true then if CS xs (Q*L)=true then if EW ms xs.length=true then iv (oL (YJ L.toNat P.toNat Q.toNat (fs xs) (nt ms))) else [] else [] else []
theorem Jc {L P Q:Int}(h:Cz L P Q=true):∃l p q:Nat,L=(l:Int)/\P=(p:Int)/\Q=(q:Int)/\2<=l/\l<=15/\1<=p/\p<=8/\p<l/\1<=q/\q<=8/\De (l:Int) (p:Int)=true:=by
 obtain⟨hc,h1,h2⟩:=U3 h
 obtain⟨l,p,rfl,rfl,b1,b2,b3,b4,b5⟩:=cJ hc
 exact⟨l,p,Q.toNat,rfl,rfl,by omega,b1,b2,b3,b4,b5,by omega,by omega,hc⟩
theorem UH {n m q:Nat}(h:(n:Int)=(q:Int)*(m:Int)):n=m*q:=by
 rw[Nat.mul_comm];exact_mod_cast h
theorem em (q k i:Nat) (ms:List Nat) (h:i<ms.length):Pn q k (ms.take (i+1))=if (ms[i]?.getD 0)%q=k then Pn q k (ms.take i)++[(ms[i]?.getD 0)/q] else Pn q k (ms.take i):=by
 rw[←Bz ms 0 i h,V6]
attribute [local congr] Bl A_ A' Ar Bm Ay A0 Az Aq Ak Ae Aa Av Af Aw BL BP BN BO BM BQ BF Ai Ax Aj BD BX Ah BJ BK BE BG BI BH BB BC A9 Bn BA Au Ag
attribute [local irreducible] IntKind.wrap A4 Option.getD and or
theorem JL (L P q m k:Nat) (n:Bool) (b:List F) (hm:m<=15) (hm1:1<=m) (hq:q<=8) (hk:k<q) (hb:b.length=m*q) :
  CE E0 Gp [.agg [.int .i64 (L:Int),.int .i64 (P:Int),.int .i64 (q:Int)],.list n (Am (iv b)),.int .i64 (k:Int)] (.list false (us (CU m q k b))):=by
 have hmq:=ei hm hq
 have hpl:=Ca m q k b
 refine AP Jo Ap (by simp) fun hwf=>?_
 rw[AW];unfold GE
 (try (simp -implicitDefEqProofs only[go_sem]));repeat' first|(with_reducible first|exact tI|refine aI ?_ ?_|intro _)|((first|with_reducible refine AO ?_ ?_<;>intro _)<;>try (simp -implicitDefEqProofs only[go_sem]))|simp (disch:=omega) only[Al]|((with_reducible refine BT ?_);refine⟨(_,_,_),rfl,?_,?_⟩)
 all_goals first|omega|(simp;done)|(simp;omega)|skip
 refine AY (α:=Nat×Nat×Bool) (l0:=?l1) (m0:=?m1) (fun x=>[(8,.d (.int .i64 (x.2.1:Int)))]) (fun x=>[(25,.row 135 1 x.2.2 (us ((CU m q k b).take x.1)))]) (fun x=>x.1<=m/\x.2.1=k+x.1*q/\x.2.2=decide (x.1=0)) (fun x=>m-x.1) (0,k,true) ?h01 ?he1 ?he21 ?hI1 ?step1
 case h01=>(simp -implicitDefEqProofs only[go_sem];rfl)
 case he1=>rfl
 case he21=>rfl
 case' step1=>(rintro⟨j,s,e⟩ hI;try dsimp only at hI)
 case' hI1=>try dsimp only
 ·exact⟨Nat.zero_le _,by simp,rfl⟩
 ·obtain⟨h1,hs,h2⟩:=hI
  change e=decide (j=0) at h2
  subst h2
  have hjq:=Nat.mul_le_mul_right q h1
  by_cases h:j<m
  ·have h0:=pG hk hb h
   rw[←hs] at h0
   have h':(s:Int)<(b.length:Int):=by omega
   have hs2:s+q=k+(j+1)*q:=by rw[Nat.add_mul,Nat.one_mul];omega
   have hwj:IntKind.i64.wrap ((s:Int)+(q:Int))=((s+q:Nat):Int):=by rw[AZ _ (by omega)];omega
   have hst:=aj m q k j b h
   rw[Nat.add_comm (j*q) k,←hs] at hst
   (try (simp -implicitDefEqProofs only[go_sem,h0,h',hwj,hst,lq]));repeat' first|(with_reducible first|exact tI|refine aI ?_ ?_|intro _)|((first|with_reducible refine AO ?_ ?_<;>intro _)<;>try (simp -implicitDefEqProofs only[go_sem,h0,h',hwj,hst,lq]))|simp (disch:=omega) only[Al]|((with_reducible refine BT ?_);refine⟨(_,_,_),rfl,?_,?_⟩)
   all_goals first|omega|(simp;done)|(simp;omega)|skip
   all_goals first|exact⟨hs2,rfl⟩|exact hs2|rfl|skip
  ·have hje:j=m:=by omega
   subst hje
   have h0:=pH (k:=k) hb
   have h':¬(s:Int)<(b.length:Int):=by omega
   have htk:(CU j q k b).take j=CU j q k b:=List.take_of_length_le (by omega)
   have hj0:decide (j=0)=false:=decide_eq_false (by omega)
   rw[htk,hj0]
   (try (simp -implicitDefEqProofs only[go_sem,h']));repeat' first|(with_reducible first|exact tI|refine aI ?_ ?_|intro _)|((first|with_reducible refine AO ?_ ?_<;>intro _)<;>try (simp -implicitDefEqProofs only[go_sem,h']))|simp (disch:=omega) only[Al]|((with_reducible refine BT ?_);refine⟨(_,_,_),rfl,?_,?_⟩)
   all_goals first|omega|(simp;done)|(simp;omega)|skip
   all_goals first|rfl|skip
theorem JM (x:D) (q m:Nat) (W:Nat->List F) (hm:m<=15) (hm1:1<=m) (hq:q<=8) (hq1:1<=q) (hW:∀k,k<q->(W k).length=m) (hx:∃a b c,x=.agg [.int .i64 a,.int .i64 b,.int .i64 c]) :
  CE E0 Gq [x,.list false (iG (XI q W))] (.list false (Am (iv (H0 m q W)))):=by
 obtain⟨a,b,c,rfl⟩:=hx
 have hmq:=ei hm hq
 have hbl:=Hk m q W
 have hwl:=QO q W
 have h0:0<(XI q W).length:=by omega
 have hw0:(XI q W)[0]?.getD []=W 0:=Tc (by omega)
 have hl0:=hW 0 (by omega)
 refine AP Jp Ap (by simp) fun hwf=>?_
 rw[AW];unfold GF
 (try (simp -implicitDefEqProofs only[go_sem,h0,hw0,hl0]));repeat' first|(with_reducible first|exact tI|refine aI ?_ ?_|intro _)|((first|with_reducible refine AO ?_ ?_<;>intro _)<;>try (simp -implicitDefEqProofs only[go_sem,h0,hw0,hl0]))|simp (disch:=omega) only[Al]|((with_reducible refine BT ?_);refine⟨(_,_,_),rfl,?_,?_⟩)
 all_goals first|omega|(simp;done)|(simp;omega)|skip
 refine AY (α:=Nat×Nat×Bool) (l0:=?l2) (m0:=?m2) (fun x=>[(13,.d (.int .i64 (x.1:Int)))]) (fun x=>[(29,.row 3 1 x.2.2 (Am (iv ((H0 m q W).take x.2.1))))]) (fun x=>x.1<=m/\x.2.1=x.1*q/\x.2.2=decide (x.1=0)) (fun x=>m-x.1) (0,0,true) ?h02 ?he2 ?he22 ?hI2 ?step2
 case h02=>(simp -implicitDefEqProofs only[go_sem];rfl)
 case he2=>rfl
 case he22=>rfl
 case' step2=>(rintro⟨i,n,e⟩ hI;try dsimp only at hI)
 case' hI2=>try dsimp only
 ·exact⟨Nat.zero_le _,by simp,rfl⟩
 ·obtain⟨i1,hn,i2⟩:=hI
  change e=decide (i=0) at i2
  subst i2
  have hiq:=Nat.mul_le_mul_right q i1
  by_cases h:i<m
  ·have h':(i:Int)<(m:Int):=by omega
   have hwi:IntKind.i64.wrap ((i:Int)+1)=((i+1:Nat):Int):=by rw[AZ _ (by omega)];omega
   have hbs:=fun k hk=>@gf m q i k W h hk
   have hend:i*q+q=(i+1)*q:=by rw[Nat.add_mul];omega
   (try (simp -implicitDefEqProofs only[go_sem,h',hwl]));repeat' first|(with_reducible first|exact tI|refine aI ?_ ?_|intro _)|((first|with_reducible refine AO ?_ ?_<;>intro _)<;>try (simp -implicitDefEqProofs only[go_sem,h',hwl]))|simp (disch:=omega) only[Al]|((with_reducible refine BT ?_);refine⟨(_,_,_),rfl,?_,?_⟩)
   all_goals first|omega|(simp;done)|(simp;omega)|skip
   refine AY (α:=Nat×Nat×Bool) (l0:=?l3) (m0:=?m3) (fun x=>[(18,.d (.int .i64 (x.1:Int)))]) (fun x=>[(29,.row 3 1 x.2.2 (Am (iv ((H0 m q W).take x.2.1))))]) (fun x=>x.1<=q/\x.2.1=i*q+x.1/\x.2.2=(decide (i=0) && decide (x.1=0))) (fun x=>q-x.1) (0,n,(decide (i=0))) ?h03 ?he3 ?he23 ?hI3 ?step3
   case h03=>(simp -implicitDefEqProofs only[go_sem];rfl)
   case he3=>rfl
   case he23=>rfl
   case' step3=>(rintro⟨k,n2,e2⟩ hI2;try dsimp only at hI2)
   case' hI3=>try dsimp only
   ·exact⟨Nat.zero_le _,hn,(cU _).symm⟩
   ·obtain⟨k1,hn2,k2⟩:=hI2
    change e2=(decide (i=0) && decide (k=0)) at k2
    by_cases hk:k<q
    ·have hk':(k:Int)<(q:Int):=by omega
     have hwk:IntKind.i64.wrap ((k:Int)+1)=((k+1:Nat):Int):=by rw[AZ _ (by omega)];omega
     have hg:=Tc (W:=W) hk
     have hkl:=hW k hk
     have hst:=hbs k hk
     have hn3:n2+1=i*q+(k+1):=by omega
     rw[←hn2,←hn3] at hst
     have hfe:false=(decide (i=0) && decide (k+1=0)):=(R1 _ (by omega)).symm
     have hnl:n2<=120:=by have:=RZ hk h;omega
     (try (simp -implicitDefEqProofs only[go_sem,hk',hwk,hwl,hk,hg,hkl,hst,h,cy]));repeat' first|(with_reducible first|exact tI|refine aI ?_ ?_|intro _)|((first|with_reducible refine AO ?_ ?_<;>intro _)<;>try (simp -implicitDefEqProofs only[go_sem,hk',hwk,hwl,hk,hg,hkl,hst,h,cy]))|simp (disch:=omega) only[Al]|((with_reducible refine BT ?_);refine⟨(_,_,_),rfl,?_,?_⟩)
     all_goals first|omega|(simp;done)|(simp;omega)|skip
     all_goals first|exact⟨hn3,hfe⟩|exact hn3|exact hfe|rfl|(simp;done)|skip
    ·have hk':¬(k:Int)<(q:Int):=by omega
     have hke:k=q:=by omega
     have hn3:n2=(i+1)*q:=by omega
     have hfe:e2=decide (i+1=0):=by rw[k2,R1 _ (by omega),decide_eq_false (by omega)]
     (try (simp -implicitDefEqProofs only[go_sem,hk',hwl,hwi]));repeat' first|(with_reducible first|exact tI|refine aI ?_ ?_|intro _)|((first|with_reducible refine AO ?_ ?_<;>intro _)<;>try (simp -implicitDefEqProofs only[go_sem,hk',hwl,hwi]))|simp (disch:=omega) only[Al]|((with_reducible refine BT ?_);refine⟨(_,_,_),rfl,?_,?_⟩)
     all_goals first|omega|(simp;done)|(simp;omega)|skip
     all_goals first|exact⟨hn3,hfe⟩|exact hn3|exact hfe|rfl|(simp;done)|skip
  ·have h':¬(i:Int)<(m:Int):=by omega
   have hie:i=m:=by omega
   subst hie
   have htk:(H0 i q W).take n=H0 i q W:=List.take_of_length_le (by omega)
   have hi0:decide (i=0)=false:=decide_eq_false (by omega)
   rw[htk,hi0]
   (try (simp -implicitDefEqProofs only[go_sem,h']));repeat' first|(with_reducible first|exact tI|refine aI ?_ ?_|intro _)|((first|with_reducible refine AO ?_ ?_<;>intro _)<;>try (simp -implicitDefEqProofs only[go_sem,h']))|simp (disch:=omega) only[Al]|((with_reducible refine BT ?_);refine⟨(_,_,_),rfl,?_,?_⟩)
   all_goals first|omega|(simp;done)|(simp;omega)|skip
   all_goals first|rfl|skip
theorem M_ (L P Q:Int) (n:Bool) (xs:List Int):CE E0 JU [.agg [.int .i64 L,.int .i64 P,.int .i64 Q],.list n (Am xs)] (.tup [.list (Tn L P Q xs).isEmpty (Am (Tn L P Q xs)),.int .i64 (spE L P Q xs)]):=by
 refine AP Mz Ap (by simp) fun hwf=>?_
 rw[AW];unfold H7 Tn spE
 cases hw:Cz L P Q with
 |false =>
  have c1:=D4 L P Q n xs C9 (if De L P=true then L-P else 0) TR (by
   split
   ·rename_i hc;have:=Gl hc;omega
   ·omega) fun hc=>by rw[if_pos hc];have:=Gl hc;exact GO L P (by omega)
  unfold lz at c1
  rw[hw] at c1
  simp only[Bool.false_eq_true,if_false] at c1 ⊢
  rw[RA] at c1
  (try (simp -implicitDefEqProofs only[go_sem]));repeat' first|(with_reducible first|exact tI|refine aI ?_ ?_|intro _)|((first|with_reducible refine AO ?_ ?_<;>intro _|(with_reducible refine isCall ?_);first|refine AE c1 ?_)<;>try (simp -implicitDefEqProofs only[go_sem]))|simp (disch:=omega) only[Al]|((with_reducible refine Ab ?_);refine⟨(_,_),rfl,?_,?_⟩)
  all_goals first|rfl|(simp;done)|skip
 |true =>
  obtain⟨l,p,q,rfl,rfl,rfl,b1,b2,b3,b4,b5,b6,b7,hc⟩:=Jc hw
  have c1:=D4 l p q n xs C9 ((l:Int)-(p:Int)) TR (by omega) fun hc=>GO l p (by omega)
  unfold lz at c1
  rw[hw] at c1
  simp only[if_true] at c1 ⊢
  cases hs:CS xs ((q:Int)*((l:Int)-(p:Int))) with
  |false =>
   rw[hs] at c1
   simp only[Bool.false_eq_true,if_false] at c1 ⊢
   rw[Xr] at c1
   (try (simp -implicitDefEqProofs only[go_sem]));repeat' first|(with_reducible first|exact tI|refine aI ?_ ?_|intro _)|((first|with_reducible refine AO ?_ ?_<;>intro _|(with_reducible refine isCall ?_);first|refine AE c1 ?_)<;>try (simp -implicitDefEqProofs only[go_sem]))|simp (disch:=omega) only[Al]|((with_reducible refine Ab ?_);refine⟨(_,_),rfl,?_,?_⟩)
   all_goals first|rfl|(simp;done)|skip
  |true =>
   rw[hs] at c1
   simp only[if_true] at c1 ⊢
   rw[ZN] at c1
   obtain⟨hl,hf⟩:=Qo hs
   obtain⟨d,hd⟩:∃d,fs xs=d:=⟨_,rfl⟩
   rw[hd] at hf ⊢
   subst hf
   rw[Jl,show ((l:Int)-(p:Int))=((l-p:Nat):Int) by omega] at hl
   have hdl:=UH hl
   simp only[Int.toNat_natCast]
   have c2:=fun k hk=>JL l p q (l-p) k n d (by omega) (by omega) b7 hk hdl
   have hW0:Sr l p q d=H0 l q fun k=>Gh p (CU (l-p) q k d):=rfl
   have c3:=fun k=>M8 l p false (CU (l-p) q k d) b2 b3 (by rw[Ca];omega) (by rw[Ca];omega) rfl
   have hWl:∀k,k<q->(Gh p (CU (l-p) q k d)).length=l:=fun k _=>by rw[HX,Ca];omega
   obtain⟨W,hW⟩:∃W:Nat->List F,(fun k=>Gh p (CU (l-p) q k d))=W:=⟨_,rfl⟩
   have hWk:∀k,Gh p (CU (l-p) q k d)=W k:=fun k=>by rw[←hW]
   simp only[hWk] at c3 hWl
   rw[hW] at hW0
   rw[hW0]
   have c4:=JM (.agg [.int .i64 (l:Int),.int .i64 (p:Int),.int .i64 (q:Int)]) q l W b2 (by omega) b7 b6 hWl ⟨_,_,_,rfl⟩
   have hB:0<(H0 l q W).length:=by rw[Hk];exact Nat.mul_pos (by omega) (by omega)
   rw[RH hB]
   have hst:=fun k hk=>@U1 q W k hk
   have hwl:=QO q W
   (try (simp -implicitDefEqProofs only[go_sem]));repeat' first|(with_reducible first|exact tI|refine aI ?_ ?_|intro _)|((first|with_reducible refine AO ?_ ?_<;>intro _|(with_reducible refine isCall ?_);first|refine AE c1 ?_)<;>try (simp -implicitDefEqProofs only[go_sem]))|simp (disch:=omega) only[Al]|((with_reducible refine Ab ?_);refine⟨(_,_),rfl,?_,?_⟩)
   all_goals first|omega|(simp;done)|(simp;omega)|skip
   refine AY (α:=Nat×Bool) (l0:=?l4) (m0:=?m4) (fun x=>[(21,.d (.int .i64 (x.1:Int)))]) (fun x=>[(33,.row 110 1 x.2 (iG ((XI q W).take x.1)))]) (fun x=>x.1<=q/\x.2=decide (x.1=0)) (fun x=>q-x.1) (0,true) ?h04 ?he4 ?he24 ?hI4 ?step4
   case h04=>(simp -implicitDefEqProofs only[go_sem];rfl)
   case he4=>rfl
   case he24=>rfl
   case' step4=>(rintro⟨k,e⟩ hI;try dsimp only at hI)
   case' hI4=>try dsimp only
   ·exact⟨Nat.zero_le _,rfl⟩
   ·obtain⟨k1,k2⟩:=hI
    change e=decide (k=0) at k2
    subst k2
    by_cases hk:k<q
    ·have hk':(k:Int)<(q:Int):=by omega
     have hwk:IntKind.i64.wrap ((k:Int)+1)=((k+1:Nat):Int):=by rw[AZ _ (by omega)];omega
     have c5:=c2 k hk
     have c6:=c3 k
     have hst2:=hst k hk
     rw[B6] at c6
     (try (simp -implicitDefEqProofs only[go_sem,hk',hwk,hst2]));repeat' first|(with_reducible first|exact tI|refine aI ?_ ?_|intro _)|((first|with_reducible refine AO ?_ ?_<;>intro _|(with_reducible refine isCall ?_);first|refine AE c5 ?_|refine AE c6 ?_)<;>try (simp -implicitDefEqProofs only[go_sem,hk',hwk,hst2]))|simp (disch:=omega) only[Al]|((with_reducible refine Ab ?_);refine⟨(_,_),rfl,?_,?_⟩)
     all_goals first|omega|(simp;done)|(simp;omega)|skip
     all_goals first|rfl|skip
    ·have hk':¬(k:Int)<(q:Int):=by omega
     have hke:k=q:=by omega
     have hk0:decide (k=0)=false:=decide_eq_false (by omega)
     have htk:(XI q W).take k=XI q W:=List.take_of_length_le (by omega)
     rw[hk0,htk]
     (try (simp -implicitDefEqProofs only[go_sem,hk']));repeat' first|(with_reducible first|exact tI|refine aI ?_ ?_|intro _)|((first|with_reducible refine AO ?_ ?_<;>intro _|(with_reducible refine isCall ?_);first|refine AE c4 ?_)<;>try (simp -implicitDefEqProofs only[go_sem,hk']))|simp (disch:=omega) only[Al]|((with_reducible refine Ab ?_);refine⟨(_,_),rfl,?_,?_⟩)
     all_goals first|rfl|omega|(simp;done)|skip
end Go.Pw
end
section
open Go Go.Pw
namespace Go.Pw
end Go.Pw
end
section
open Go Go.Pw
namespace Go.Pw
def AX.ok (c:AX):Bool:=c.code.ok && (Cz c.L c.P c.Q && (decide (c.Q*c.L<=32) && (Co c.mark && (Cw c.seed 1 127 && (Cw c.errs 0 16 && JF c.code 16)))))
def AX.flat (c:AX) (X:List Int):List Int:=X.flatMap fun x=>c.code.stm x.toNat
def IU (c:AX) (block:List Int):List Int:=c.mark++c.flat (Cx c.seed block)
def Zw (c:AX) (d:List Int):List Int:=if c.ok=true then if spE c.L c.P c.Q d=0 then IU c (Tn c.L c.P c.Q d) else [] else []
def oc (c:AX) (d:List Int):Int:=if c.ok=true then if spE c.L c.P c.Q d=0 then 0 else 51 else 130
noncomputable def Uy (c:AX) (sy:List (Option Nat)):List Int:=od c.L c.P c.Q (Cx c.seed (NL sy)) (ni (bC sy))
noncomputable def RI (c:AX) (sy:List (Option Nat)):Int:=pL c.L c.P c.Q (Cx c.seed (NL sy)) (ni (bC sy))
def Mp (bits:List Int):Bool:=decide (bits.length<=1000) && Ao bits
noncomputable def Vn (c:AX) (bits:List Int):Int:=if c.ok=true then if Mp bits=true then match c.find bits with
 |none=>3
 |some a=>RI c (c.syL bits a)
 else 131 else 130
noncomputable def S5 (c:AX) (bits:List Int):List Int:=if c.ok=true then if Mp bits=true then match c.find bits with
 |none=>[]
 |some a=>Uy c (c.syL bits a)
 else [] else []
noncomputable def Vo (c:AX) (bits:List Int):Int:=if c.ok=true then if Mp bits=true then match c.find bits with
 |none=>0
 |some a=>if RI c (c.syL bits a)=0 then a else 0
 else 0 else 0
theorem We {α:Type}(a b:List α) (n:Nat):(a++b).drop (a.length+n)=b.drop n:=by
 rw[List.drop_append,List.drop_eq_nil_of_le (by omega),List.nil_append,show a.length+n-a.length=n by omega]
theorem TE {α:Type}{f:α->List Int}{m:Nat}(hf:∀x,(f x).length=m):∀(l:List α) (i:Nat) (h:i<l.length),((l.flatMap f).drop (i*m)).take m=f l[i]
 |[],_,h=>by cases h
 |x::l,0,_=>by
  rw[Nat.zero_mul,List.drop_zero,List.flatMap_cons]
  exact List.take_left' (hf x)
 |x::l,i+1,h=>by
  rw[List.flatMap_cons,show (i+1)*m=(f x).length+i*m by rw[hf,Nat.succ_mul];omega,We]
  exact TE hf l i (by simpa using h)
theorem WM {α:Type}{f:α->List Int}{m:Nat}(hf:∀x,(f x).length=m):∀l:List α,(l.flatMap f).length=l.length*m
 |[]=>by simp
 |x::l=>by rw[List.flatMap_cons,List.length_append,hf,WM hf l,List.length_cons,Nat.succ_mul];omega
theorem PW (c:AX) (X:List Int):(c.flat X).length=X.length*c.code.sz:=WM (fun x=>Eb ..) X
theorem T3 (c:AX) (b:List Int):(IU c b).length=c.mark.length+b.length*c.code.sz:=by
 unfold IU;rw[List.length_append,PW,Dv]
theorem dm (c:AX) (X rest:List Int) (i:Nat) (h:i<X.length):c.part (c.mark++c.flat X++rest) 0 i=c.code.stm (X[i]?.getD 0).toNat:=by
 unfold AX.part
 rw[Nat.zero_add,List.append_assoc,We]
 have h1:=PW c X
 have h2:(i+1)*c.code.sz<=X.length*c.code.sz:=Nat.mul_le_mul_right _ h
 rw[Nat.succ_mul] at h2
 rw[List.drop_append_of_le_length (by rw[h1];omega),List.take_append_of_le_length (by rw[List.length_drop,h1];omega)]
 have:=TE (f:=fun x:Int=>c.code.stm x.toNat) (fun x=>Eb ..) X i h
 rw[List.getElem?_eq_getElem h]
 exact this
end Go.Pw
end
section
open Go Go.Pw Go.Proofs
namespace Go.Pw
set_option maxRecDepth 100000
set_option maxHeartbeats 800000
attribute [local congr] Bl A_ A' Ar Bm Ay A0 Az Aq Ak Ae Aa Av Af Aw BL BP BN BO BM BQ BF Ai Ax Aj BD BX Ah BJ BK BE BG BI BH BB BC A9 Bn BA Au Ag
attribute [local irreducible] IntKind.wrap A4 Option.getD and or
abbrev Gx:=List (Ip×Int)
def qE (e:Ip×Int):D×D:=(ly e.1,.int .i64 e.2)
def qg (m:Gx):List (D×D):=m.map qE
def ey (k:Ip):Gx->Option Int
 |[]=>none
 |e::m=>if k=e.1 then some e.2 else ey k m
def oz (k:Ip) (v:Int):Gx->Gx
 |[]=>[(k,v)]
 |e::m=>if k=e.1 then (e.1,v)::m else e::oz k v m
def AR.apW (c:AR) (rec:Int->List Int->Gx->Int×Gx) (s first:Int) (mark:List Int):Nat->Int->Int->Gx->Int×Gx
 |0,_,least,m=>(least,m)
 |k+1,w,least,m =>
  let bits:=(Cu c.out.toNat (c.wrd s w)).drop first.toNat
  let n:=min mark.length bits.length
  let r:=rec (c.nxt s w) (mark.drop n) m
  c.apW rec s first mark k (w+1) (min least (B5 (mark.take n) bits+r.1)) r.2
def AR.apM (c:AR):Nat->Int->Int->List Int->Gx->Int×Gx
 |0,_,_,_,m=>(0,m)
 |n+1,s,first,mark,m =>
  if mark=[] then (0,m) else
  match ey (s,mark.length) m with
  |some v=>if first=0 then (v,m) else c.apW (fun s' mk m'=>c.apM n s' 0 mk m') s first mark c.W 0 16 m
  |none=>let r:=c.apW (fun s' mk m'=>c.apM n s' 0 mk m') s first mark c.W 0 16 m
   if first=0 then (r.1,oz (s,mark.length) r.1 r.2) else r
def qr (m:Gx):Prop:=∀e,e∈m->0<=e.2/\e.2<=16
theorem HY:∀(xs ys:List Int),0<=B5 xs ys/\B5 xs ys<=xs.length
 |[],_=>by simp[B5]
 |_::_,[]=>by simp[B5];omega
 |x::xs,y::ys=>by
  have:=HY xs ys
  simp only[B5,List.length_cons]
  split<;>omega
theorem F0 {xs:List Int}(h:Ao xs=true) (n:Nat):Ao (xs.take n)=true:=by
 simp only[Ao,List.all_eq_true] at *
 exact fun x hx=>h x (List.mem_of_mem_take hx)
theorem AR.W_eq' (c:AR):(c.W:Int)=2^c.bits.toNat:=by simp[AR.W]
abbrev qt:NM:=(true,[some .i64,some .i64])
end Go.Pw
end
section
open Go Go.Pw Go.Proofs
namespace Go.Pw
set_option maxRecDepth 100000
set_option maxHeartbeats 800000
attribute [local congr] Bl A_ A' Ar Bm Ay A0 Az Aq Ak Ae Aa Av Af Aw BL BP BN BO BM BQ BF Ai Ax Aj BD BX Ah BJ BK BE BG BI BH BB BC A9 Bn BA Au Ag
attribute [local irreducible] IntKind.wrap A4 Option.getD and or
def AR.apFirst (c:AR) (mark:List Int) (s:Int):Nat->Int->Int->Gx->Int×Gx
 |0,_,least,m=>(least,m)
 |k+1,f,least,m=>c.apFirst mark s k (f+1) (min least (c.apM 16 s f mark m).1) (c.apM 16 s f mark m).2
def AR.apStates (c:AR) (mark:List Int):Nat->Int->Int->Gx->Int×Gx
 |0,_,least,m=>(least,m)
 |k+1,s,least,m=>c.apStates mark k (s+1) (c.apFirst mark s c.out.toNat 0 least m).1 (c.apFirst mark s c.out.toNat 0 least m).2
def AR.apart (c:AR) (mark:List Int):Int:=(c.apStates mark c.words.length 0 16 []).1
def AR.apartR (c:AR) (mark:List Int):Int×Int:=if !c.ok then (0,40) else if !Co mark then (0,1) else (c.apart mark,0)
theorem HN (n1 n2:Bool) (xs ys:List Int) (at_:Int) (h0:0<=at_) (hl:at_+xs.length<=ys.length) (h128:xs.length<=1000000) (h129:ys.length<=1000000) :
  CE E0 JS [.list n1 (Am xs),.list n2 (Am ys),.int .i64 at_] (.int .i64 (B5 xs (ys.drop at_.toNat))):=by
 refine AP Mx Ap (by simp) fun hwf=>?_
 rw[AW];unfold H5
 simp -implicitDefEqProofs only[go_sem]
 obtain⟨Y,hY⟩:∃Y,ys.drop at_.toNat=Y:=⟨_,rfl⟩
 have hYl:Y.length=ys.length-at_.toNat:=by rw[←hY];simp
 rw[hY]
 refine AY (α:=Int×Int) (l0:=?l1) (m0:=?m1) (fun x=>[(8,.d (.int .i64 x.1)),(7,.d (.int .i64 x.2))]) (fun x=>[]) (fun x=>0<=x.1/\x.1<=xs.length/\0<=x.2/\x.2<=x.1/\x.2+B5 (xs.drop x.1.toNat) (Y.drop x.1.toNat)=B5 xs Y) (fun x=>(xs.length-x.1).toNat) (?a1_0,?a1_1) ?h01 ?he1 ?he21 ?hI1 ?step1
 case h01=>(simp -implicitDefEqProofs only[go_sem];rfl)
 case he1=>rfl
 case he21=>rfl
 case' step1=>(rintro⟨i,n⟩ hI;try dsimp only at hI)
 case' hI1=>try dsimp only
 ·simp
 ·obtain⟨hi0,hi1,hn0,hn1,heq⟩:=hI
  by_cases hi:i<xs.length
  ·have hg:Y[i.toNat]?.getD 0=ys[(at_+i).toNat]?.getD 0:=by
    rw[←hY,List.getElem?_drop,show at_.toNat+i.toNat=(at_+i).toNat by omega]
   have hd:B5 (xs.drop i.toNat) (Y.drop i.toNat)=(if xs[i.toNat]?.getD 0=ys[(at_+i).toNat]?.getD 0 then 0 else 1)+B5 (xs.drop (i+1).toNat) (Y.drop (i+1).toNat):=by
    rw[Fv (xs:=xs) (i:=i.toNat) (by omega),Fv (xs:=Y) (i:=i.toNat) (by omega),B5,hg,show (i+1).toNat=i.toNat+1 by omega]
   rw[hd] at heq
   have hwr:IntKind.i64.wrap (at_+i)=at_+i:=AZ _ (by omega)
   (try (simp -implicitDefEqProofs only[go_sem,hwr]));repeat' first|(with_reducible first|exact tI|refine aI ?_ ?_|intro _)|((first|with_reducible refine AO ?_ ?_<;>intro _)<;>try (simp -implicitDefEqProofs only[go_sem,hwr]))|simp (disch:=omega) only[Al]|((with_reducible refine Ab ?_);refine⟨(_,_),rfl,?_,?_⟩)
   all_goals first|omega|(simp;done)|(simp;omega)|skip
   all_goals simp_all
   all_goals omega
  ·(try (simp -implicitDefEqProofs only[go_sem]));repeat' first|(with_reducible first|exact tI|refine aI ?_ ?_|intro _)|((first|with_reducible refine AO ?_ ?_<;>intro _)<;>try (simp -implicitDefEqProofs only[go_sem]))|simp (disch:=omega) only[Al]|((with_reducible refine Ab ?_);refine⟨(_,_),rfl,?_,?_⟩)
   all_goals first|omega|(simp;done)|(simp;omega)|skip
   have h0:xs.drop i.toNat=[]:=List.drop_eq_nil_of_le (by omega)
   rw[h0,show B5 [] (Y.drop i.toNat)=0 by simp[B5]] at heq
   rw[←heq];simp
theorem O5 (nl:Bool) (xs:List Int):CE E0 Le [.list nl (Am xs)] (.bool (Co xs)):=by
 refine AP PK Ap (by simp) fun hwf=>?_
 rw[AW];unfold J7
 (try (simp -implicitDefEqProofs only[go_sem]));repeat' first|(with_reducible first|exact tI|refine aI ?_ ?_|intro _)|((first|with_reducible refine AO ?_ ?_<;>intro _|(with_reducible refine isCall ?_);first|refine AE (DI _ _ _) ?_|refine AE (Nf nl xs) ?_)<;>try (simp -implicitDefEqProofs only[go_sem]))|simp (disch:=omega) only[Al]
 all_goals simp_all[Co]
def mS (bits:List Int):List Int->List Int->List Int
 |out,[]=>out
 |out,s::l=>mS bits (if 0<=s/\s<bits.length then out.set s.toNat (1-bits[s.toNat]?.getD 0) else out) l
end Go.Pw
end
