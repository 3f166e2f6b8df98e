/- A part of the proof. -/
import Derived.Test.YtibkjeolahobbaaGreatDoorChPC
import Derived.Test.YtibkjeolahobbaaGreatDoorPgChrV
import Derived.Test.YtibkjeolahobbaaGreatDoorPgChcJ
import Derived.Test.YtibkjeolahobbaaGreatDoorPgChcA
import Derived.Test.YtibkjeolahobbaaGreatDoorChcSpec2
set_option linter.all false
open Go Go.Pw Go.Proofs
namespace Go.Pw
set_option maxRecDepth 100000
set_option maxHeartbeats 3200000
def Hi:PC :=
 .seq (.reg [] (AD 3 .box 0::AG 6 .mov [.k (.d (.list true []))]::AJ 7 0::[]) [1,2,3]) (.seq (.reg [] (AD 18 (.load true 3) 3::AA 19 1::AG 20 (.call 78) [.t 18,.t 19,.k (.fn 121 [])]::AA 17 20::A2 21 0 17::A2 22 1 17::AG 8 (.zero [.int .i64 0,.int .i64 0,.int .i64 0]) []::Bs (.store 3) [.t 8,.t 21]::AA 9 22::[]) [1,2,8,9]) (.seq (.seq (.reg [] (AA 23 9::AM 24 (.bin .neq) 23 0::[]) [1,2,8,9,24]) (.cond (.t 24) (.seq (.reg [] (AA 25 9::AG 6 .mov [.k (.d (.list true []))]::AA 7 25::[]) [6,7]) (.ret)) (.skip))) (.seq (.seq (.reg [] (AA 26 2::AA 27 1::AD 28 (.len false) 27::AB 29 (.call 122) 26 28::AD 30 (.un .not) 29::[]) [1,2,8,30]) (.cond (.t 30) (.seq (.reg [] (AG 6 .mov [.k (.d (.list true []))]::AJ 7 1::[]) [6,7]) (.ret)) (.skip))) (.seq (.reg [] (AG 10 .mov [.k (.d (.list true []))]::[]) [1,2,8,10]) (.seq (.seq (.reg [] (AQ 31 2 8::AF 32 1 31::AJ 33 0::[]) [1,2,8,10,32,33]) (.block 0 (.loop [.own 10 76 110 1] [1,2,8,10,32,33] [8,20,76,10020,900001,900002,901001,901002] (.seq (.reg [] (AB 34 (.bin .lss) 33 32::[]) [1,2,8,10,32,33,34]) (.seq (.cond (.t 34) (.skip) (.exit 0)) (.seq (.block 1 (.seq (.reg [] (AA 35 33::AA 11 35::[]) [1,2,8,10,11,32,33]) (.seq (.reg [] (AG 12 .mov [.k (.d (.list true []))]::[]) [1,2,8,10,11,12,32,33]) (.seq (.seq (.reg [] (AA 36 2::AD 37 (.len false) 36::AJ 38 0::[]) [1,2,8,10,11,12,32,33,36,37,38]) (.block 2 (.loop [.own 10 76 110 1,.own 12 54 3 1] [1,2,8,10,11,12,32,33,36,37,38] [8,20,54,76,10020,900001,900002,901001,901002] (.seq (.reg [] (AB 39 (.bin .lss) 38 37::[]) [1,2,8,10,11,12,32,33,36,37,38,39]) (.seq (.cond (.t 39) (.skip) (.exit 2)) (.seq (.block 3 (.seq (.reg [] (AB 40 (.iaddrS 1) 36 38::AF 41 1 40::AA 14 41::[]) [1,2,8,10,11,12,14,32,33,36,37,38]) (.seq (.reg [] (AA 42 14::AQ 43 2 8::AF 44 1 43::AB 45 (.bin .rem) 42 44::AA 46 11::AB 47 (.bin .eql) 45 46::[]) [1,2,8,10,11,12,14,32,33,36,37,38,47]) (.cond (.t 47) (.reg [] (AA 48 12::AA 49 14::AQ 50 2 8::AF 51 1 50::AB 52 (.bin .quo) 49 51::AD 53 (.mkrow 1 (.int .i64 0) 1 [0]) 52::AB 54 (.app 3 1 none true) 48 53::AA 12 54::[]) [1,2,8,10,11,12,32,33,36,37,38]) (.skip))))) (.reg [] (AM 55 (.bin .add) 38 1::AA 38 55::[]) [1,2,8,10,11,12,32,33,36,37,38]))))))) (.seq (.draw [.freeze 12] ((AQ 57 0 8,[])::(AD 58 (.load true 2) 57,[])::(AD 59 (.load true 3) 8,[])::(AA 60 1,[])::(AA 61 11,[])::(AG 62 (.call 81) [.t 59,.t 60,.t 61],[1])::(AA 63 12,[])::(AG 64 (.call 123) [.t 58,.t 62,.t 63],[])::(AA 56 64,[])::(A2 65 0 56,[])::(A2 66 1 56,[])::(AA 15 65,[])::(AA 16 66,[])::[]) [1,2,8,10,15,16,32,33]) (.seq (.seq (.reg [] (AA 67 16::AD 68 (.un .not) 67::[]) [1,2,8,10,15,32,33,68]) (.cond (.t 68) (.seq (.reg [] (AG 6 .mov [.k (.d (.list true []))]::AJ 7 52::[]) [6,7]) (.ret)) (.skip))) (.reg [] (AA 69 10::AA 70 15::AQ 71 0 8::AD 72 (.load true 2) 71::AD 73 (.call 79) 72::AB 74 (.slice 1 false true false) 70 73::AD 75 (.mkrow 1 (.list true []) 1 [0]) 74::AB 76 (.app 110 1 none true) 69 75::AA 10 76::[]) [1,2,8,10,32,33]))))))) (.reg [] (AM 77 (.bin .add) 33 1::AA 33 77::[]) [1,2,8,10,32,33]))))))) (.seq (.reg [.freeze 10] (AD 78 (.load true 3) 8::AA 79 10::AB 80 (.call 82) 78 79::AA 6 80::AJ 7 0::[]) [6,7]) (.ret)))))))
theorem Mf:CO E0 Jo Hi [.t 6,.t 7] 81:=AI (fl:=[]) (by kernel_rfl)
def JD:PC :=
 .seq (.reg [] (AD 3 .box 0::AG 6 .mov [.k (.d (.list true []))]::AJ 7 0::[]) [1,2,3]) (.seq (.seq (.reg [] (AD 16 (.load true 3) 3::AD 17 (.call 51) 16::AM 18 (.bin .neq) 17 0::[]) [1,2,3,18]) (.cond (.t 18) (.seq (.reg [] (AG 6 .mov [.k (.d (.list true []))]::AJ 7 50::[]) [6,7]) (.ret)) (.skip))) (.seq (.seq (.reg [] (AA 19 1::AQ 20 2 3::AF 21 1 20::AQ 22 0 3::AQ 23 0 22::AF 24 1 23::AB 25 (.bin .mul) 21 24::AB 26 (.call 37) 19 25::AD 27 (.un .not) 26::[]) [1,2,3,27]) (.cond (.t 27) (.seq (.reg [] (AG 6 .mov [.k (.d (.list true []))]::AJ 7 51::[]) [6,7]) (.ret)) (.skip))) (.seq (.seq (.reg [] (AA 28 2::AA 29 1::AD 30 (.len false) 29::AB 31 (.call 98) 28 30::AD 32 (.un .not) 31::[]) [1,2,3,32]) (.cond (.t 32) (.seq (.reg [] (AG 6 .mov [.k (.d (.list true []))]::AJ 7 1::[]) [6,7]) (.ret)) (.skip))) (.seq (.reg [] (AQ 33 0 3::AQ 34 0 33::AF 35 1 34::AQ 36 0 3::AQ 37 1 36::AF 38 1 37::AB 39 (.bin .sub) 35 38::AA 8 39::[]) [1,2,3,8]) (.seq (.reg [] (AQ 40 2 3::AF 41 1 40::AA 42 8::AB 43 (.bin .mul) 41 42::AB 44 (.mksl 3 1 (.int .i64 0) true) 43 43::AA 9 44::[]) [1,2,3,8,9]) (.seq (.seq (.reg [] (AJ 10 0::[]) [1,2,3,8,9,10]) (.block 0 (.loop [] [1,2,3,8,9,10] [3,44,10085,900000,900001,900002,901000,901001,901002] (.seq (.seq (.reg [] (AA 45 10::AQ 46 2 3::AF 47 1 46::AB 48 (.bin .lss) 45 47::[]) [1,2,3,8,9,10,48]) (.cond (.t 48) (.skip) (.exit 0))) (.seq (.block 1 (.seq (.reg [] (AG 11 .mov [.k (.d (.list true []))]::[]) [1,2,3,8,9,10,11]) (.seq (.seq (.reg [] (AJ 12 0::[]) [1,2,3,8,9,10,11,12]) (.block 2 (.loop [.own 11 75 3 1] [1,2,3,8,9,10,11,12] [3,44,75,10085,900000,900001,900002,901000,901001,901002] (.seq (.seq (.reg [] (AA 51 12::AA 52 2::AD 53 (.len false) 52::AB 54 (.bin .lss) 51 53::[]) [1,2,3,8,9,10,11,12,54]) (.cond (.t 54) (.skip) (.exit 2))) (.seq (.block 3 (.seq (.draw [] ((AA 57 2,[])::(AA 58 12,[])::(AB 59 (.iaddrS 1) 57 58,[])::(AF 60 1 59,[])::(AQ 61 2 3,[])::(AF 62 1 61,[])::(AB 63 (.bin .rem) 60 62,[])::(AA 64 10,[])::(AB 65 (.bin .eql) 63 64,[])::[]) [1,2,3,8,9,10,11,12,65]) (.cond (.t 65) (.draw [] ((AA 66 11,[])::(AA 67 2,[])::(AA 68 12,[])::(AB 69 (.iaddrS 1) 67 68,[])::(AF 70 1 69,[])::(AQ 71 2 3,[])::(AF 72 1 71,[])::(AB 73 (.bin .quo) 70 72,[])::(AD 74 (.mkrow 1 (.int .i64 0) 1 [0]) 73,[])::(AB 75 (.app 3 1 none true) 66 74,[])::(AA 11 75,[])::[]) [1,2,3,8,9,10,11,12]) (.skip)))) (.reg [] (AA 55 12::AM 56 (.bin .add) 55 1::AA 12 56::[]) [1,2,3,8,9,10,11,12])))))) (.seq (.draw [.freeze 11] ((AQ 77 0 3,[])::(AD 78 (.load true 2) 77,[])::(AA 79 1,[])::(AQ 80 2 3,[])::(AF 81 1 80,[])::(AA 82 10,[])::(AG 83 (.call 95) [.t 79,.t 81,.t 82],[1])::(AA 84 11,[])::(AG 85 (.call 99) [.t 78,.t 83,.t 84],[])::(AA 76 85,[])::(A2 86 0 76,[])::(A2 87 1 76,[])::(AA 13 86,[])::(AA 14 87,[])::[]) [1,2,3,8,9,10,13,14]) (.seq (.seq (.reg [] (AA 88 14::AD 89 (.un .not) 88::[]) [1,2,3,8,9,10,13,89]) (.cond (.t 89) (.seq (.reg [] (AG 6 .mov [.k (.d (.list true []))]::AJ 7 52::[]) [6,7]) (.ret)) (.skip))) (.seq (.reg [] (AJ 15 0::[]) [1,2,3,8,9,10,13,15]) (.block 4 (.loop [] [1,2,3,8,9,10,13,15] [3,44,85,10085,900000,900001,900002,901000,901001,901002] (.seq (.seq (.reg [] (AA 90 15::AA 91 8::AB 92 (.bin .lss) 90 91::[]) [1,2,3,8,9,10,13,15,92]) (.cond (.t 92) (.skip) (.exit 4))) (.seq (.block 5 (.draw [] ((AA 95 9,[])::(AA 96 15,[])::(AQ 97 2 3,[])::(AF 98 1 97,[])::(AB 99 (.bin .mul) 96 98,[])::(AA 100 10,[])::(AB 101 (.bin .add) 99 100,[])::(AA 102 13,[])::(AA 103 15,[])::(AB 104 (.iaddrS 1) 102 103,[])::(AF 105 1 104,[])::(AB 106 (.iaddrS 1) 95 101,[])::(Bs (.store 1) [.t 106,.t 105],[])::[]) [1,2,3,8,9,10,13,15])) (.reg [] (AA 93 15::AM 94 (.bin .add) 93 1::AA 15 94::[]) [1,2,3,8,9,10,13,15]))))))))))) (.reg [] (AA 49 10::AM 50 (.bin .add) 49 1::AA 10 50::[]) [1,2,3,8,9,10])))))) (.seq (.reg [] (AA 107 9::AA 6 107::AJ 7 0::[]) [6,7]) (.ret))))))))
theorem Om:CO E0 L4 JD [.t 6,.t 7] 108:=AI (fl:=[75]) (by kernel_rfl)
section
def jg (l:List (List F)):List D:=l.map fun r=>.list false (us r)
theorem jt (l:List (List F)):(jg l).length=l.length:=by simp[jg]
theorem ei (l:List (List F)) (r:List F):jg l++[.list false (us r)]=jg (l++[r]):=by simp[jg]
theorem cf {ls:List (List F)}{i:Nat}{A:D->Prop}:BW (jg ls)[i]? A=(i<ls.length/\A (.list false (us (ls[i]?.getD [])))):=by
 unfold jg
 rw[List.getElem?_map]
 by_cases h:i<ls.length
 ·simp[h,BW]
 ·have:ls[i]?=none:=List.getElem?_eq_none (by omega)
  simp[this,h,BW]
attribute [go_sem] jt ei cf
theorem UO (m q k j:Nat) (b:List F) (h:j<m):(CI m q k b).take j++[b[j*q+k]?.getD 0]=(CI m q k b).take (j+1):=by
 rw[←JS j h,Bb _ 0 j (by rw[B'];exact h)]
theorem nJ {m q k j n:Nat}(hk:k<q) (hn:n=m*q) (h:j<m):k+j*q<n:=by have:=Oj hk h;omega
theorem nK {m q k n:Nat}(hn:n=m*q):¬k+m*q<n:=by omega
theorem SV {m q:Nat}(hm:m<=15) (hq:q<=8):m*q<=120:=Nat.mul_le_mul hm hq
def Yb (q:Nat) (W:Nat->List F):List (List F):=(List.range q).map W
theorem RL (q:Nat) (W:Nat->List F):(Yb q W).length=q:=by simp[Yb]
theorem Uy {q:Nat}{W:Nat->List F}{k:Nat}(h:k<q):(Yb q W)[k]?.getD []=W k:=by simp[Yb,h]
theorem WO {q:Nat}{W:Nat->List F}{k:Nat}(h:k<q):(Yb q W).take k++[W k]=(Yb q W).take (k+1):=by
 have:=Bb (Yb q W) [] k (by rw[RL];exact h)
 rwa [Uy h] at this
theorem jM {m q i k:Nat}{W:Nat->List F}(hi:i<m) (hk:k<q):(GW m q W).take (i*q+k)++[(W k)[i]?.getD 0]=(GW m q W).take (i*q+(k+1)):=by
 have h:=Oj hk hi
 rw[←Nat.add_assoc,←Bb _ 0 (i*q+k) (by rw[F0];exact h),TB _ h,Vx hk,Sl hk]
theorem eJ (b:Bool):(b && decide ((0:Nat)=0))=b:=by simp
theorem TE (b:Bool) {k:Nat}(h:k≠0):(b && decide (k=0))=false:=by simp[h]
def Yc (L P Q:Int) (xs:List Int):Int:=if C2 L P Q=true then if CP xs (Q*(L-P))=true then 0 else 51 else 50
def Tc (L P Q:Int) (xs:List Int):List Int:=if C2 L P Q=true then if CP xs (Q*(L-P))=true then iv (aU L.toNat P.toNat Q.toNat (fs xs)) else [] else []
noncomputable def le (L P Q:Int) (xs ms:List Int):Int:=if C2 L P Q=true then if CP xs (Q*L)=true then if Da ms xs.length=true then oE (bE L.toNat P.toNat Q.toNat (fs xs) (nt ms)) else 1 else 51 else 50
noncomputable def g_ (L P Q:Int) (xs ms:List Int):List Int:=if C2 L P Q=true then if CP xs (Q*L)=true then if Da ms xs.length=true then iv (oL (bE L.toNat P.toNat Q.toNat (fs xs) (nt ms))) else [] else [] else []
theorem IB {L P Q:Int}(h:C2 L P Q=true):∃l p q:Nat,L=(l:Int)/\P=(p:Int)/\Q=(q:Int)/\2<=l/\l<=15/\1<=p/\p<=8/\p<l/\1<=q/\q<=8/\EM (l:Int) (p:Int)=true:=by
 obtain⟨hc,h1,h2⟩:=WQ h
 obtain⟨l,p,rfl,rfl,b1,b2,b3,b4,b5⟩:=eF hc
 exact⟨l,p,Q.toNat,rfl,rfl,by omega,b1,b2,b3,b4,b5,by omega,by omega,hc⟩
theorem OW {n m q:Nat}(h:(n:Int)=(q:Int)*(m:Int)):n=m*q:=by
 rw[Nat.mul_comm];exact_mod_cast h
theorem XP (q k i:Nat) (ms:List Nat) (h:i<ms.length):OU q k (ms.take (i+1))=if (ms[i]?.getD 0)%q=k then OU q k (ms.take i)++[(ms[i]?.getD 0)/q] else OU q k (ms.take i):=by
 rw[←Bb ms 0 i h,XQ]
attribute [local congr] Bm A' BA Au Bn Az A1 A0 Ar Al Af Aa Aw Ag Ax BM BQ BO BP BN BR BG Aj Ay Ak BE BX Ai BK BL BF BH BJ BI BC BD A_ Bp BB Av Ah
attribute [local irreducible] IntKind.wrap A3 Option.getD and or
theorem Ja (L P q m k:Nat) (n:Bool) (b:List F) (hm:m<=15) (hm1:1<=m) (hq:q<=8) (hk:k<q) (hb:b.length=m*q) :
  CA E0 Gw [.agg [.int .i64 (L:Int),.int .i64 (P:Int),.int .i64 (q:Int)],.list n (Ab (iv b)),.int .i64 (k:Int)] (.list false (us (CI m q k b))):=by
 have hmq:=SV hm hq
 have hpl:=B' m q k b
 refine AL J8 An (by simp) fun hwf=>?_
 rw[AR];unfold GH
 (try (simp -implicitDefEqProofs only[go_sem]));repeat' first|(with_reducible first|exact tI|refine aI ?_ ?_|intro _)|((first|with_reducible refine AK ?_ ?_<;>intro _)<;>try (simp -implicitDefEqProofs only[go_sem]))|simp (disch:=omega) only[Ae]|((with_reducible refine Ao ?_);refine⟨(_,_,_),rfl,?_,?_⟩)
 all_goals first|omega|(simp<;>omega)|skip
 refine AX (α:=Nat×Nat×Bool) (l0:=?l1) (m0:=?m1) (fun x=>[(8,.d (.int .i64 (x.2.1:Int)))]) (fun x=>[(25,.row 135 1 x.2.2 (us ((CI m q k b).take x.1)))]) (fun x=>x.1<=m/\x.2.1=k+x.1*q/\x.2.2=decide (x.1=0)) (fun x=>m-x.1) (0,k,true) ?h01 ?he1 ?he21 ?hI1 ?step1
 case h01=>(simp -implicitDefEqProofs only[go_sem];rfl)
 case he1=>rfl
 case he21=>rfl
 case' step1=>(rintro⟨j,s,e⟩ hI;try dsimp only at hI)
 case' hI1=>try dsimp only
 ·exact⟨Nat.zero_le _,by simp,rfl⟩
 ·obtain⟨h1,hs,h2⟩:=hI
  change e=decide (j=0) at h2
  subst h2
  have hjq:=Nat.mul_le_mul_right q h1
  by_cases h:j<m
  ·have h0:=nJ hk hb h
   rw[←hs] at h0
   have h':(s:Int)<(b.length:Int):=by omega
   have hs2:s+q=k+(j+1)*q:=by rw[Nat.add_mul,Nat.one_mul];omega
   have hwj:IntKind.i64.wrap ((s:Int)+(q:Int))=((s+q:Nat):Int):=by rw[AZ _ (by omega)];omega
   have hst:=UO m q k j b h
   rw[Nat.add_comm (j*q) k,←hs] at hst
   (try (simp -implicitDefEqProofs only[go_sem,h0,h',hwj,hst,m_]));repeat' first|(with_reducible first|exact tI|refine aI ?_ ?_|intro _)|((first|with_reducible refine AK ?_ ?_<;>intro _)<;>try (simp -implicitDefEqProofs only[go_sem,h0,h',hwj,hst,m_]))|simp (disch:=omega) only[Ae]|((with_reducible refine Ao ?_);refine⟨(_,_,_),rfl,?_,?_⟩)
   all_goals first|omega|(simp<;>omega)|skip
   all_goals first|exact⟨hs2,rfl⟩|exact hs2|rfl|skip
  ·have hje:j=m:=by omega
   subst hje
   have h0:=nK (k:=k) hb
   have h':¬(s:Int)<(b.length:Int):=by omega
   have htk:(CI j q k b).take j=CI j q k b:=List.take_of_length_le (by omega)
   have hj0:decide (j=0)=false:=decide_eq_false (by omega)
   rw[htk,hj0]
   (try (simp -implicitDefEqProofs only[go_sem,h']));repeat' first|(with_reducible first|exact tI|refine aI ?_ ?_|intro _)|((first|with_reducible refine AK ?_ ?_<;>intro _)<;>try (simp -implicitDefEqProofs only[go_sem,h']))|simp (disch:=omega) only[Ae]|((with_reducible refine Ao ?_);refine⟨(_,_,_),rfl,?_,?_⟩)
   all_goals first|omega|(simp<;>omega)|skip
   all_goals first|rfl|skip
theorem Jb (x:D) (q m:Nat) (W:Nat->List F) (hm:m<=15) (hm1:1<=m) (hq:q<=8) (hq1:1<=q) (hW:∀k,k<q->(W k).length=m) (hx:∃a b c,x=.agg [.int .i64 a,.int .i64 b,.int .i64 c]) :
  CA E0 Gx [x,.list false (jg (Yb q W))] (.list false (Ab (iv (GW m q W)))):=by
 obtain⟨a,b,c,rfl⟩:=hx
 have hmq:=SV hm hq
 have hbl:=F0 m q W
 have hwl:=RL q W
 have h0:0<(Yb q W).length:=by omega
 have hw0:(Yb q W)[0]?.getD []=W 0:=Uy (by omega)
 have hl0:=hW 0 (by omega)
 refine AL J9 An (by simp) fun hwf=>?_
 rw[AR];unfold GI
 (try (simp -implicitDefEqProofs only[go_sem,h0,hw0,hl0]));repeat' first|(with_reducible first|exact tI|refine aI ?_ ?_|intro _)|((first|with_reducible refine AK ?_ ?_<;>intro _)<;>try (simp -implicitDefEqProofs only[go_sem,h0,hw0,hl0]))|simp (disch:=omega) only[Ae]|((with_reducible refine Ao ?_);refine⟨(_,_,_),rfl,?_,?_⟩)
 all_goals first|omega|(simp<;>omega)|skip
 refine AX (α:=Nat×Nat×Bool) (l0:=?l2) (m0:=?m2) (fun x=>[(13,.d (.int .i64 (x.1:Int)))]) (fun x=>[(29,.row 3 1 x.2.2 (Ab (iv ((GW m q W).take x.2.1))))]) (fun x=>x.1<=m/\x.2.1=x.1*q/\x.2.2=decide (x.1=0)) (fun x=>m-x.1) (0,0,true) ?h02 ?he2 ?he22 ?hI2 ?step2
 case h02=>(simp -implicitDefEqProofs only[go_sem];rfl)
 case he2=>rfl
 case he22=>rfl
 case' step2=>(rintro⟨i,n,e⟩ hI;try dsimp only at hI)
 case' hI2=>try dsimp only
 ·exact⟨Nat.zero_le _,by simp,rfl⟩
 ·obtain⟨i1,hn,i2⟩:=hI
  change e=decide (i=0) at i2
  subst i2
  have hiq:=Nat.mul_le_mul_right q i1
  by_cases h:i<m
  ·have h':(i:Int)<(m:Int):=by omega
   have hwi:IntKind.i64.wrap ((i:Int)+1)=((i+1:Nat):Int):=by rw[AZ _ (by omega)];omega
   have hbs:=fun k hk=>@jM m q i k W h hk
   have hend:i*q+q=(i+1)*q:=by rw[Nat.add_mul];omega
   (try (simp -implicitDefEqProofs only[go_sem,h',hwl]));repeat' first|(with_reducible first|exact tI|refine aI ?_ ?_|intro _)|((first|with_reducible refine AK ?_ ?_<;>intro _)<;>try (simp -implicitDefEqProofs only[go_sem,h',hwl]))|simp (disch:=omega) only[Ae]|((with_reducible refine Ao ?_);refine⟨(_,_,_),rfl,?_,?_⟩)
   all_goals first|omega|(simp<;>omega)|skip
   refine AX (α:=Nat×Nat×Bool) (l0:=?l3) (m0:=?m3) (fun x=>[(18,.d (.int .i64 (x.1:Int)))]) (fun x=>[(29,.row 3 1 x.2.2 (Ab (iv ((GW m q W).take x.2.1))))]) (fun x=>x.1<=q/\x.2.1=i*q+x.1/\x.2.2=(decide (i=0) && decide (x.1=0))) (fun x=>q-x.1) (0,n,(decide (i=0))) ?h03 ?he3 ?he23 ?hI3 ?step3
   case h03=>(simp -implicitDefEqProofs only[go_sem];rfl)
   case he3=>rfl
   case he23=>rfl
   case' step3=>(rintro⟨k,n2,e2⟩ hI2;try dsimp only at hI2)
   case' hI3=>try dsimp only
   ·exact⟨Nat.zero_le _,hn,(eJ _).symm⟩
   ·obtain⟨k1,hn2,k2⟩:=hI2
    change e2=(decide (i=0) && decide (k=0)) at k2
    by_cases hk:k<q
    ·have hk':(k:Int)<(q:Int):=by omega
     have hwk:IntKind.i64.wrap ((k:Int)+1)=((k+1:Nat):Int):=by rw[AZ _ (by omega)];omega
     have hg:=Uy (W:=W) hk
     have hkl:=hW k hk
     have hst:=hbs k hk
     have hn3:n2+1=i*q+(k+1):=by omega
     rw[←hn2,←hn3] at hst
     have hfe:false=(decide (i=0) && decide (k+1=0)):=(TE _ (by omega)).symm
     have hnl:n2<=120:=by have:=Oj hk h;omega
     (try (simp -implicitDefEqProofs only[go_sem,hk',hwk,hwl,hk,hg,hkl,hst,h,eW]));repeat' first|(with_reducible first|exact tI|refine aI ?_ ?_|intro _)|((first|with_reducible refine AK ?_ ?_<;>intro _)<;>try (simp -implicitDefEqProofs only[go_sem,hk',hwk,hwl,hk,hg,hkl,hst,h,eW]))|simp (disch:=omega) only[Ae]|((with_reducible refine Ao ?_);refine⟨(_,_,_),rfl,?_,?_⟩)
     all_goals first|omega|(simp<;>omega)|skip
     all_goals first|exact⟨hn3,hfe⟩|exact hn3|exact hfe|rfl|(simp;done)|skip
    ·have hk':¬(k:Int)<(q:Int):=by omega
     have hke:k=q:=by omega
     have hn3:n2=(i+1)*q:=by omega
     have hfe:e2=decide (i+1=0):=by rw[k2,TE _ (by omega),decide_eq_false (by omega)]
     (try (simp -implicitDefEqProofs only[go_sem,hk',hwl,hwi]));repeat' first|(with_reducible first|exact tI|refine aI ?_ ?_|intro _)|((first|with_reducible refine AK ?_ ?_<;>intro _)<;>try (simp -implicitDefEqProofs only[go_sem,hk',hwl,hwi]))|simp (disch:=omega) only[Ae]|((with_reducible refine Ao ?_);refine⟨(_,_,_),rfl,?_,?_⟩)
     all_goals first|omega|(simp<;>omega)|skip
     all_goals first|exact⟨hn3,hfe⟩|exact hn3|exact hfe|rfl|(simp;done)|skip
  ·have h':¬(i:Int)<(m:Int):=by omega
   have hie:i=m:=by omega
   subst hie
   have htk:(GW i q W).take n=GW i q W:=List.take_of_length_le (by omega)
   have hi0:decide (i=0)=false:=decide_eq_false (by omega)
   rw[htk,hi0]
   (try (simp -implicitDefEqProofs only[go_sem,h']));repeat' first|(with_reducible first|exact tI|refine aI ?_ ?_|intro _)|((first|with_reducible refine AK ?_ ?_<;>intro _)<;>try (simp -implicitDefEqProofs only[go_sem,h']))|simp (disch:=omega) only[Ae]|((with_reducible refine Ao ?_);refine⟨(_,_,_),rfl,?_,?_⟩)
   all_goals first|omega|(simp<;>omega)|skip
   all_goals first|rfl|skip
theorem Nt (L P Q:Int) (n:Bool) (xs:List Int):CA E0 Jn [.agg [.int .i64 L,.int .i64 P,.int .i64 Q],.list n (Ab xs)] (.tup [.list (Tc L P Q xs).isEmpty (Ab (Tc L P Q xs)),.int .i64 (Yc L P Q xs)]):=by
 refine AL Nl An (by simp) fun hwf=>?_
 rw[AR];unfold IP Tc Yc
 cases hw:C2 L P Q with
 |false =>
  have c1:=D5 L P Q n xs DG (if EM L P=true then L-P else 0) Ul (by
   split
   ·rename_i hc;have:=Lp hc;omega
   ·omega) fun hc=>by rw[if_pos hc];have:=Lp hc;exact GU L P (by omega)
  unfold nF at c1
  rw[hw] at c1
  simp only[Bool.false_eq_true,if_false] at c1 ⊢
  rw[SP] at c1
  (try (simp -implicitDefEqProofs only[go_sem]));repeat' first|(with_reducible first|exact tI|refine aI ?_ ?_|intro _)|((first|with_reducible refine AK ?_ ?_<;>intro _|(with_reducible refine isCall ?_);first|refine AE c1 ?_)<;>try (simp -implicitDefEqProofs only[go_sem]))|simp (disch:=omega) only[Ae]|((with_reducible refine Ap ?_);refine⟨(_,_),rfl,?_,?_⟩)
  all_goals first|rfl|(simp;done)|skip
 |true =>
  obtain⟨l,p,q,rfl,rfl,rfl,b1,b2,b3,b4,b5,b6,b7,hc⟩:=IB hw
  have c1:=D5 l p q n xs DG ((l:Int)-(p:Int)) Ul (by omega) fun hc=>GU l p (by omega)
  unfold nF at c1
  rw[hw] at c1
  simp only[if_true] at c1 ⊢
  cases hs:CP xs ((q:Int)*((l:Int)-(p:Int))) with
  |false =>
   rw[hs] at c1
   simp only[Bool.false_eq_true,if_false] at c1 ⊢
   rw[ZA] at c1
   (try (simp -implicitDefEqProofs only[go_sem]));repeat' first|(with_reducible first|exact tI|refine aI ?_ ?_|intro _)|((first|with_reducible refine AK ?_ ?_<;>intro _|(with_reducible refine isCall ?_);first|refine AE c1 ?_)<;>try (simp -implicitDefEqProofs only[go_sem]))|simp (disch:=omega) only[Ae]|((with_reducible refine Ap ?_);refine⟨(_,_),rfl,?_,?_⟩)
   all_goals first|rfl|(simp;done)|skip
  |true =>
   rw[hs] at c1
   simp only[if_true] at c1 ⊢
   rw[al] at c1
   obtain⟨hl,hf⟩:=K6 hs
   obtain⟨d,hd⟩:∃d,fs xs=d:=⟨_,rfl⟩
   rw[hd] at hf ⊢
   subst hf
   rw[G6,show ((l:Int)-(p:Int))=((l-p:Nat):Int) by omega] at hl
   have hdl:=OW hl
   simp only[Int.toNat_natCast]
   have c2:=fun k hk=>Ja l p q (l-p) k n d (by omega) (by omega) b7 hk hdl
   have hW0:aU l p q d=GW l q fun k=>Fl p (CI (l-p) q k d):=rfl
   have c3:=fun k=>Nr l p false (CI (l-p) q k d) b2 b3 (by rw[B'];omega) (by rw[B'];omega) rfl
   have hWl:∀k,k<q->(Fl p (CI (l-p) q k d)).length=l:=fun k _=>by rw[Gp,B'];omega
   obtain⟨W,hW⟩:∃W:Nat->List F,(fun k=>Fl p (CI (l-p) q k d))=W:=⟨_,rfl⟩
   have hWk:∀k,Fl p (CI (l-p) q k d)=W k:=fun k=>by rw[←hW]
   simp only[hWk] at c3 hWl
   rw[hW] at hW0
   rw[hW0]
   have c4:=Jb (.agg [.int .i64 (l:Int),.int .i64 (p:Int),.int .i64 (q:Int)]) q l W b2 (by omega) b7 b6 hWl ⟨_,_,_,rfl⟩
   have hB:0<(GW l q W).length:=by rw[F0];exact Nat.mul_pos (by omega) (by omega)
   rw[J4 hB]
   have hst:=fun k hk=>@WO q W k hk
   have hwl:=RL q W
   (try (simp -implicitDefEqProofs only[go_sem]));repeat' first|(with_reducible first|exact tI|refine aI ?_ ?_|intro _)|((first|with_reducible refine AK ?_ ?_<;>intro _|(with_reducible refine isCall ?_);first|refine AE c1 ?_)<;>try (simp -implicitDefEqProofs only[go_sem]))|simp (disch:=omega) only[Ae]|((with_reducible refine Ap ?_);refine⟨(_,_),rfl,?_,?_⟩)
   all_goals first|omega|(simp<;>omega)|skip
   refine AX (α:=Nat×Bool) (l0:=?l4) (m0:=?m4) (fun x=>[(21,.d (.int .i64 (x.1:Int)))]) (fun x=>[(33,.row 110 1 x.2 (jg ((Yb q W).take x.1)))]) (fun x=>x.1<=q/\x.2=decide (x.1=0)) (fun x=>q-x.1) (0,true) ?h04 ?he4 ?he24 ?hI4 ?step4
   case h04=>(simp -implicitDefEqProofs only[go_sem];rfl)
   case he4=>rfl
   case he24=>rfl
   case' step4=>(rintro⟨k,e⟩ hI;try dsimp only at hI)
   case' hI4=>try dsimp only
   ·exact⟨Nat.zero_le _,rfl⟩
   ·obtain⟨k1,k2⟩:=hI
    change e=decide (k=0) at k2
    subst k2
    by_cases hk:k<q
    ·have hk':(k:Int)<(q:Int):=by omega
     have hwk:IntKind.i64.wrap ((k:Int)+1)=((k+1:Nat):Int):=by rw[AZ _ (by omega)];omega
     have c5:=c2 k hk
     have c6:=c3 k
     have hst2:=hst k hk
     rw[Bc] at c6
     (try (simp -implicitDefEqProofs only[go_sem,hk',hwk,hst2]));repeat' first|(with_reducible first|exact tI|refine aI ?_ ?_|intro _)|((first|with_reducible refine AK ?_ ?_<;>intro _|(with_reducible refine isCall ?_);first|refine AE c5 ?_|refine AE c6 ?_)<;>try (simp -implicitDefEqProofs only[go_sem,hk',hwk,hst2]))|simp (disch:=omega) only[Ae]|((with_reducible refine Ap ?_);refine⟨(_,_),rfl,?_,?_⟩)
     all_goals first|omega|(simp<;>omega)|skip
     all_goals first|rfl|skip
    ·have hk':¬(k:Int)<(q:Int):=by omega
     have hke:k=q:=by omega
     have hk0:decide (k=0)=false:=decide_eq_false (by omega)
     have htk:(Yb q W).take k=Yb q W:=List.take_of_length_le (by omega)
     rw[hk0,htk]
     (try (simp -implicitDefEqProofs only[go_sem,hk']));repeat' first|(with_reducible first|exact tI|refine aI ?_ ?_|intro _)|((first|with_reducible refine AK ?_ ?_<;>intro _|(with_reducible refine isCall ?_);first|refine AE c4 ?_)<;>try (simp -implicitDefEqProofs only[go_sem,hk']))|simp (disch:=omega) only[Ae]|((with_reducible refine Ap ?_);refine⟨(_,_),rfl,?_,?_⟩)
     all_goals first|rfl|omega|(simp;done)|skip
end
theorem d7 {L:Nat}{r w v:List F}{mk:List Nat}(h:∀j,j<L->j∉mk->w[j]?.getD 0=v[j]?.getD 0):Ra L r w mk=Ra L r v mk:=by
 unfold Ra
 refine List.filter_congr fun j hj=>?_
 have hj':j<L:=by simpa using hj
 by_cases hm:j∈mk
 ·simp[hm]
 ·rw[h j hj' hm]
theorem d8 {L P:Nat}(hL:L<=15) {w v:List F}{mk:List Nat}(hw:w.length=L) (hv:v.length=L) (hm:Yd L mk) (h:∀j,j<L->j∉mk->w[j]?.getD 0=v[j]?.getD 0):G9 L P w mk=G9 L P v mk:=by
 have go:∀{w v:List F}{r:List F},w.length=L->v.length=L->(∀j,j<L->j∉mk->w[j]?.getD 0=v[j]?.getD 0)->G9 L P w mk=some r->G9 L P v mk=some r:=fun {w v r} hw hv h hd=>by
  obtain⟨h1,h2,h3⟩:=Lg hw hm hd
  exact iz hL hv h2 hm h1 (by rw[←d7 h];exact h3)
 cases hd:G9 L P w mk with
 |some r=>rw[go hw hv h hd]
 |none=>cases he:G9 L P v mk with
  |none=>rfl
  |some r=>rw[go hv hw (fun j h1 h2=>(h j h1 h2).symm) he] at hd;cases hd
theorem g8 {L P q:Nat}(hL:L<=15) (hq:0<q) {B C:List F}{ms:List Nat}(hm:Yd (L*q) ms) (h:∀i,i<L*q->i∉ms->B[i]?.getD 0=C[i]?.getD 0):bE L P q B ms=bE L P q C ms:=by
 have h0:∀k,k<q->Ve L P q B ms k=Ve L P q C ms k:=fun k hk=>by
  unfold Ve
  refine d8 hL (B' ..) (B' ..) (RU hq hm) fun j hj hn=>?_
  rw[JS j hj,JS j hj]
  exact h _ (Oj hk hj) fun hh=>hn ((aw hk).2 hh)
 by_cases ha:∀k,k<q->(Ve L P q B ms k).isSome=true
 ·rw[SY ha,SY (fun k hk=>by rw[←h0 k hk];exact ha k hk)]
  congr 1
  refine TC hq fun k hk=>?_
  unfold bD;rw[h0 k hk]
 ·unfold bE
  rw[if_neg ha,if_neg fun hh=>ha fun k hk=>by rw[h0 k hk];exact hh k hk]
def AY.ok (c:AY):Bool:=c.code.ok && (C2 c.L c.P c.Q && (decide (c.Q*c.L<=32) && (Cx c.mark && (C1 c.seed 1 127 && (C1 c.errs 0 16 && JV c.code 16)))))
def AY.flat (c:AY) (X:List Int):List Int:=X.flatMap fun x=>c.code.stm x.toNat
def MZ (c:AY) (block:List Int):List Int:=c.mark++c.flat (CG c.seed block)
def eP (c:AY) (d:List Int):List Int:=if c.ok=true then if Yc c.L c.P c.Q d=0 then MZ c (Tc c.L c.P c.Q d) else [] else []
def jf (c:AY) (d:List Int):Int:=if c.ok=true then if Yc c.L c.P c.Q d=0 then 0 else 51 else 130
noncomputable def bC (c:AY) (sy:List (Option Nat)):List Int:=g_ c.L c.P c.Q (CG c.seed (HJ sy)) (ni (Na sy))
noncomputable def Zd (c:AY) (sy:List (Option Nat)):Int:=le c.L c.P c.Q (CG c.seed (HJ sy)) (ni (Na sy))
def Ps (bits:List Int):Bool:=decide (bits.length<=1000) && A8 bits
noncomputable def UL (c:AY) (bits:List Int):Int:=if c.ok=true then if Ps bits=true then match c.find bits with
 |none=>3
 |some a=>Zd c (c.syL bits a)
 else 131 else 130
noncomputable def SJ (c:AY) (bits:List Int):List Int:=if c.ok=true then if Ps bits=true then match c.find bits with
 |none=>[]
 |some a=>bC c (c.syL bits a)
 else [] else []
noncomputable def UM (c:AY) (bits:List Int):Int:=if c.ok=true then if Ps bits=true then match c.find bits with
 |none=>0
 |some a=>if Zd c (c.syL bits a)=0 then a else 0
 else 0 else 0
theorem X2 {α:Type}(a b:List α) (n:Nat):(a++b).drop (a.length+n)=b.drop n:=by
 rw[List.drop_append,List.drop_eq_nil_of_le (by omega),List.nil_append,show a.length+n-a.length=n by omega]
theorem UY {α:Type}{f:α->List Int}{m:Nat}(hf:∀x,(f x).length=m):∀(l:List α) (i:Nat) (h:i<l.length),((l.flatMap f).drop (i*m)).take m=f l[i]
 |[],_,h=>by cases h
 |x::l,0,_=>by
  rw[Nat.zero_mul,List.drop_zero,List.flatMap_cons]
  exact List.take_left' (hf x)
 |x::l,i+1,h=>by
  rw[List.flatMap_cons,show (i+1)*m=(f x).length+i*m by rw[hf,Nat.succ_mul];omega,X2]
  exact UY hf l i (by simpa using h)
theorem Xl {α:Type}{f:α->List Int}{m:Nat}(hf:∀x,(f x).length=m):∀l:List α,(l.flatMap f).length=l.length*m
 |[]=>by simp
 |x::l=>by rw[List.flatMap_cons,List.length_append,hf,Xl hf l,List.length_cons,Nat.succ_mul];omega
theorem MW (c:AY) (X:List Int):(c.flat X).length=X.length*c.code.sz:=Xl (fun x=>Jx ..) X
theorem aY (c:AY) (b:List Int):(MZ c b).length=c.mark.length+b.length*c.code.sz:=by
 unfold MZ;rw[List.length_append,MW,CX]
theorem fL (c:AY) (X rest:List Int) (i:Nat) (h:i<X.length):c.part (c.mark++c.flat X++rest) 0 i=c.code.stm (X[i]?.getD 0).toNat:=by
 unfold AY.part
 rw[Nat.zero_add,List.append_assoc,X2]
 have h1:=MW c X
 have h2:(i+1)*c.code.sz<=X.length*c.code.sz:=Nat.mul_le_mul_right _ h
 rw[Nat.succ_mul] at h2
 rw[List.drop_append_of_le_length (by rw[h1];omega),List.take_append_of_le_length (by rw[List.length_drop,h1];omega)]
 have:=UY (f:=fun x:Int=>c.code.stm x.toNat) (fun x=>Jx ..) X i h
 rw[List.getElem?_eq_getElem h]
 exact this
section
attribute [local congr] Bm A' BA Au Bn Az A1 A0 Ar Al Af Aa Aw Ag Ax BM BQ BO BP BN BR BG Aj Ay Ak BE BX Ai BK BL BF BH BJ BI BC BD A_ Bp BB Av Ah
attribute [local irreducible] IntKind.wrap A3 Option.getD and or
abbrev G_:=List (I1×Int)
def rH (e:I1×Int):D×D:=(nE e.1,.int .i64 e.2)
def r3 (m:G_):List (D×D):=m.map rH
def gN (k:I1):G_->Option Int
 |[]=>none
 |e::m=>if k=e.1 then some e.2 else gN k m
def qE (k:I1) (v:Int):G_->G_
 |[]=>[(k,v)]
 |e::m=>if k=e.1 then (e.1,v)::m else e::qE k v m
def AW.apW (c:AW) (rec:Int->List Int->G_->Int×G_) (s first:Int) (mark:List Int):Nat->Int->Int->G_->Int×G_
 |0,_,least,m=>(least,m)
 |k+1,w,least,m =>
  let bits:=(C5 c.out.toNat (c.wrd s w)).drop first.toNat
  let n:=min mark.length bits.length
  let r:=rec (c.nxt s w) (mark.drop n) m
  c.apW rec s first mark k (w+1) (min least (Cs (mark.take n) bits+r.1)) r.2
def AW.apM (c:AW):Nat->Int->Int->List Int->G_->Int×G_
 |0,_,_,_,m=>(0,m)
 |n+1,s,first,mark,m =>
  if mark=[] then (0,m) else
  match gN (s,mark.length) m with
  |some v=>if first=0 then (v,m) else c.apW (fun s' mk m'=>c.apM n s' 0 mk m') s first mark c.W 0 16 m
  |none=>let r:=c.apW (fun s' mk m'=>c.apM n s' 0 mk m') s first mark c.W 0 16 m
   if first=0 then (r.1,qE (s,mark.length) r.1 r.2) else r
def sF (m:G_):Prop:=∀e,e∈m->0<=e.2/\e.2<=16
theorem Ng:∀(xs ys:List Int),0<=Cs xs ys/\Cs xs ys<=xs.length
 |[],_=>by simp[Cs]
 |_::_,[]=>by simp[Cs];omega
 |x::xs,y::ys=>by
  have:=Ng xs ys
  simp only[Cs,List.length_cons]
  split<;>omega
theorem E1 {xs:List Int}(h:A8 xs=true) (n:Nat):A8 (xs.take n)=true:=by
 simp only[A8,List.all_eq_true] at *
 exact fun x hx=>h x (List.mem_of_mem_take hx)
theorem AW.W_eq' (c:AW):(c.W:Int)=2^c.bits.toNat:=by simp[AW.W]
abbrev sG:N4:=(true,[some .i64,some .i64])
end
section
attribute [local congr] Bm A' BA Au Bn Az A1 A0 Ar Al Af Aa Aw Ag Ax BM BQ BO BP BN BR BG Aj Ay Ak BE BX Ai BK BL BF BH BJ BI BC BD A_ Bp BB Av Ah
attribute [local irreducible] IntKind.wrap A3 Option.getD and or
def AW.apFirst (c:AW) (mark:List Int) (s:Int):Nat->Int->Int->G_->Int×G_
 |0,_,least,m=>(least,m)
 |k+1,f,least,m=>c.apFirst mark s k (f+1) (min least (c.apM 16 s f mark m).1) (c.apM 16 s f mark m).2
def AW.apStates (c:AW) (mark:List Int):Nat->Int->Int->G_->Int×G_
 |0,_,least,m=>(least,m)
 |k+1,s,least,m=>c.apStates mark k (s+1) (c.apFirst mark s c.out.toNat 0 least m).1 (c.apFirst mark s c.out.toNat 0 least m).2
def AW.apart (c:AW) (mark:List Int):Int:=(c.apStates mark c.words.length 0 16 []).1
def AW.apartR (c:AW) (mark:List Int):Int×Int:=if !c.ok then (0,40) else if !Cx mark then (0,1) else (c.apart mark,0)
theorem NW (n1 n2:Bool) (xs ys:List Int) (at_:Int) (h0:0<=at_) (hl:at_+xs.length<=ys.length) (h128:xs.length<=1000000) (h129:ys.length<=1000000) :
  CA E0 Jl [.list n1 (Ab xs),.list n2 (Ab ys),.int .i64 at_] (.int .i64 (Cs xs (ys.drop at_.toNat))):=by
 refine AL Nj An (by simp) fun hwf=>?_
 rw[AR];unfold IL
 simp -implicitDefEqProofs only[go_sem]
 obtain⟨Y,hY⟩:∃Y,ys.drop at_.toNat=Y:=⟨_,rfl⟩
 have hYl:Y.length=ys.length-at_.toNat:=by rw[←hY];simp
 rw[hY]
 refine AX (α:=Int×Int) (l0:=?l1) (m0:=?m1) (fun x=>[(8,.d (.int .i64 x.1)),(7,.d (.int .i64 x.2))]) (fun x=>[]) (fun x=>0<=x.1/\x.1<=xs.length/\0<=x.2/\x.2<=x.1/\x.2+Cs (xs.drop x.1.toNat) (Y.drop x.1.toNat)=Cs xs Y) (fun x=>(xs.length-x.1).toNat) (?a1_0,?a1_1) ?h01 ?he1 ?he21 ?hI1 ?step1
 case h01=>(simp -implicitDefEqProofs only[go_sem];rfl)
 case he1=>rfl
 case he21=>rfl
 case' step1=>(rintro⟨i,n⟩ hI;try dsimp only at hI)
 case' hI1=>try dsimp only
 ·simp
 ·obtain⟨hi0,hi1,hn0,hn1,heq⟩:=hI
  by_cases hi:i<xs.length
  ·have hg:Y[i.toNat]?.getD 0=ys[(at_+i).toNat]?.getD 0:=by
    rw[←hY,List.getElem?_drop,show at_.toNat+i.toNat=(at_+i).toNat by omega]
   have hd:Cs (xs.drop i.toNat) (Y.drop i.toNat)=(if xs[i.toNat]?.getD 0=ys[(at_+i).toNat]?.getD 0 then 0 else 1)+Cs (xs.drop (i+1).toNat) (Y.drop (i+1).toNat):=by
    rw[FJ (xs:=xs) (i:=i.toNat) (by omega),FJ (xs:=Y) (i:=i.toNat) (by omega),Cs,hg,show (i+1).toNat=i.toNat+1 by omega]
   rw[hd] at heq
   have hwr:IntKind.i64.wrap (at_+i)=at_+i:=AZ _ (by omega)
   (try (simp -implicitDefEqProofs only[go_sem,hwr]));repeat' first|(with_reducible first|exact tI|refine aI ?_ ?_|intro _)|((first|with_reducible refine AK ?_ ?_<;>intro _)<;>try (simp -implicitDefEqProofs only[go_sem,hwr]))|simp (disch:=omega) only[Ae]|((with_reducible refine Ap ?_);refine⟨(_,_),rfl,?_,?_⟩)
   all_goals first|omega|(simp<;>omega)|skip
   all_goals simp_all
   all_goals omega
  ·(try (simp -implicitDefEqProofs only[go_sem]));repeat' first|(with_reducible first|exact tI|refine aI ?_ ?_|intro _)|((first|with_reducible refine AK ?_ ?_<;>intro _)<;>try (simp -implicitDefEqProofs only[go_sem]))|simp (disch:=omega) only[Ae]|((with_reducible refine Ap ?_);refine⟨(_,_),rfl,?_,?_⟩)
   all_goals first|omega|(simp<;>omega)|skip
   have h0:xs.drop i.toNat=[]:=List.drop_eq_nil_of_le (by omega)
   rw[h0,show Cs [] (Y.drop i.toNat)=0 by simp[Cs]] at heq
   rw[←heq];simp
theorem Pq (nl:Bool) (xs:List Int):CA E0 L8 [.list nl (Ab xs)] (.bool (Cx xs)):=by
 refine AL QC An (by simp) fun hwf=>?_
 rw[AR];unfold KX
 (try (simp -implicitDefEqProofs only[go_sem]));repeat' first|(with_reducible first|exact tI|refine aI ?_ ?_|intro _)|((first|with_reducible refine AK ?_ ?_<;>intro _|(with_reducible refine isCall ?_);first|refine AE (Co _ _ _) ?_|refine AE (Fq nl xs) ?_)<;>try (simp -implicitDefEqProofs only[go_sem]))|simp (disch:=omega) only[Ae]
 all_goals simp_all[Cx]
def n9 (bits:List Int):List Int->List Int->List Int
 |out,[]=>out
 |out,s::l=>n9 bits (if 0<=s/\s<bits.length then out.set s.toNat (1-bits[s.toNat]?.getD 0) else out) l
end
end Go.Pw
