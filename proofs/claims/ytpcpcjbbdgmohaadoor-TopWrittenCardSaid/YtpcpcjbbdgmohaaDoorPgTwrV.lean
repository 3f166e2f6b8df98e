/- A part of the proof. -/
import Derived.Test.YtpcpcjbbdgmohaaDoorPgTwrN
import Derived.Test.YtpcpcjbbdgmohaaDoorTwPC
set_option linter.all false
section
open Go Go.Pw Go.Proofs
namespace Go.Pw
set_option maxRecDepth 100000
set_option maxHeartbeats 3200000
def ft (l:List Nat):D:=.list l.isEmpty (A4 (ni l))
def gq (ls:List (List Nat)):List D:=ls.map ft
attribute [local congr] Bx A9 A_ Au Bz A0 A2 A1 Ar An Ai Ab Av Aj Ax BG BK BI BJ BH BL BD Ay Aw Al Az Am BB BT Ak BE BF BC A' BA B1
attribute [local irreducible] IntKind.wrap BM Option.getD and or
end Go.Pw
end
section
open Go Go.Pw Go.Proofs
namespace Go.Pw
set_option maxRecDepth 100000
set_option maxHeartbeats 3200000
theorem get_mem {l:List Nat}{i:Nat}(h:i<l.length):l[i]?.getD 0∈l:=by rw[Up _ _ h];exact List.getElem_mem h
def gn (w:List F) (at_:List Nat):List F:=EA w at_ (List.replicate at_.length 0)
end Go.Pw
end
section
open Go Go.Pw Go.Proofs
namespace Go.Pw
set_option maxRecDepth 100000
set_option maxHeartbeats 3200000
attribute [local congr] Bx A9 A_ Au Bz A0 A2 A1 Ar An Ai Ab Av Aj Ax BG BK BI BJ BH BL BD Ay Aw Al Az Am BB BT Ak BE BF BC A' BA B1
attribute [local irreducible] IntKind.wrap BM Option.getD and or
end Go.Pw
end
section
open Go Go.Pw Go.Proofs
namespace Go.Pw
set_option maxRecDepth 100000
set_option maxHeartbeats 3200000
def gu (o:Option (List F)):D:=match o with
 |some r=>.tup [.list false (A4 (iv r)),.bool true]
 |none=>.tup [.list true [],.bool false]
attribute [local congr] Bx A9 A_ Au Bz A0 A2 A1 Ar An Ai Ab Av Aj Ax BG BK BI BJ BH BL BD Ay Aw Al Az Am BB BT Ak BE BF BC A' BA B1
attribute [local irreducible] IntKind.wrap BM Option.getD and or
end Go.Pw
end
section
open Go Go.Pw Go.Proofs
namespace Go.Pw
set_option maxRecDepth 100000
set_option maxHeartbeats 3200000
attribute [local congr] Bx A9 A_ Au Bz A0 A2 A1 Ar An Ai Ab Av Aj Ax BG BK BI BJ BH BL BD Ay Aw Al Az Am BB BT Ak BE BF BC A' BA B1
attribute [local irreducible] IntKind.wrap BM Option.getD and or
def gw (L P:Int) (ws ms:List Int):Int:=if DI L P=true then if CX ws L=true then if ER ms L=true then 0 else 1 else 51 else 50
end Go.Pw
end
section
open Go Go.Pw Go.Proofs
namespace Go.Pw
set_option maxRecDepth 100000
set_option maxHeartbeats 3200000
attribute [local congr] Bx A9 A_ Au Bz A0 A2 A1 Ar An Ai Ab Av Aj Ax BG BK BI BJ BH BL BD Ay Aw Al Az Am BB BT Ak BE BF BC A' BA B1
attribute [local irreducible] IntKind.wrap BM Option.getD and or
end Go.Pw
end
section
open Go Go.Pw Go.Proofs
namespace Go.Pw
set_option maxRecDepth 100000
def GZ:PC :=
 .seq (.reg [] (AD 3 .box 0::AK 6 .mov [.k (.d (.list true []))]::AQ 7 0::[]) [1,2,3]) (.seq (.reg [] (AD 18 (.load true 3) 3::AA 19 1::AK 20 (.call 63) [.t 18,.t 19,.k (.fn 78 [])]::AA 17 20::BZ 21 0 17::BZ 22 1 17::AK 8 (.zero [.int .i64 0,.int .i64 0,.int .i64 0]) []::Bn (.store 3) [.t 8,.t 21]::AA 9 22::[]) [1,2,8,9]) (.seq (.seq (.reg [] (AA 23 9::AO 24 (.bin .neq) 23 0::[]) [1,2,8,9,24]) (.cond (.t 24) (.seq (.reg [] (AA 25 9::AK 6 .mov [.k (.d (.list true []))]::AA 7 25::[]) [6,7]) (.ret)) (.skip))) (.seq (.seq (.reg [] (AA 26 2::AA 27 1::AD 28 (.len false) 27::AB 29 (.call 79) 26 28::AD 30 (.un .not) 29::[]) [1,2,8,30]) (.cond (.t 30) (.seq (.reg [] (AK 6 .mov [.k (.d (.list true []))]::AQ 7 1::[]) [6,7]) (.ret)) (.skip))) (.seq (.reg [] (AK 10 .mov [.k (.d (.list true []))]::[]) [1,2,8,10]) (.seq (.seq (.reg [] (AY 31 2 8::AJ 32 1 31::AQ 33 0::[]) [1,2,8,10,32,33]) (.block 0 (.loop [.own 10 76 133 1] [1,2,8,10,32,33] [8,20,76,10020,900001,900002,901001,901002] (.seq (.reg [] (AB 34 (.bin .lss) 33 32::[]) [1,2,8,10,32,33,34]) (.seq (.cond (.t 34) (.skip) (.exit 0)) (.seq (.block 1 (.seq (.reg [] (AA 35 33::AA 11 35::[]) [1,2,8,10,11,32,33]) (.seq (.reg [] (AK 12 .mov [.k (.d (.list true []))]::[]) [1,2,8,10,11,12,32,33]) (.seq (.seq (.reg [] (AA 36 2::AD 37 (.len false) 36::AQ 38 0::[]) [1,2,8,10,11,12,32,33,36,37,38]) (.block 2 (.loop [.own 10 76 133 1,.own 12 54 3 1] [1,2,8,10,11,12,32,33,36,37,38] [8,20,54,76,10020,900001,900002,901001,901002] (.seq (.reg [] (AB 39 (.bin .lss) 38 37::[]) [1,2,8,10,11,12,32,33,36,37,38,39]) (.seq (.cond (.t 39) (.skip) (.exit 2)) (.seq (.block 3 (.seq (.reg [] (AB 40 (.iaddrS 1) 36 38::AJ 41 1 40::AA 14 41::[]) [1,2,8,10,11,12,14,32,33,36,37,38]) (.seq (.reg [] (AA 42 14::AY 43 2 8::AJ 44 1 43::AB 45 (.bin .rem) 42 44::AA 46 11::AB 47 (.bin .eql) 45 46::[]) [1,2,8,10,11,12,14,32,33,36,37,38,47]) (.cond (.t 47) (.reg [] (AA 48 12::AA 49 14::AY 50 2 8::AJ 51 1 50::AB 52 (.bin .quo) 49 51::AD 53 (.mkrow 1 (.int .i64 0) 1 [0]) 52::AB 54 (.app 3 1 none true) 48 53::AA 12 54::[]) [1,2,8,10,11,12,32,33,36,37,38]) (.skip))))) (.reg [] (AO 55 (.bin .add) 38 1::AA 38 55::[]) [1,2,8,10,11,12,32,33,36,37,38]))))))) (.seq (.draw [.freeze 12] ((AY 57 0 8,[])::(AD 58 (.load true 2) 57,[])::(AD 59 (.load true 3) 8,[])::(AA 60 1,[])::(AA 61 11,[])::(AK 62 (.call 66) [.t 59,.t 60,.t 61],[1])::(AA 63 12,[])::(AK 64 (.call 80) [.t 58,.t 62,.t 63],[])::(AA 56 64,[])::(BZ 65 0 56,[])::(BZ 66 1 56,[])::(AA 15 65,[])::(AA 16 66,[])::[]) [1,2,8,10,15,16,32,33]) (.seq (.seq (.reg [] (AA 67 16::AD 68 (.un .not) 67::[]) [1,2,8,10,15,32,33,68]) (.cond (.t 68) (.seq (.reg [] (AK 6 .mov [.k (.d (.list true []))]::AQ 7 52::[]) [6,7]) (.ret)) (.skip))) (.reg [] (AA 69 10::AA 70 15::AY 71 0 8::AD 72 (.load true 2) 71::AD 73 (.call 64) 72::AB 74 (.slice 1 false true false) 70 73::AD 75 (.mkrow 1 (.list true []) 1 [0]) 74::AB 76 (.app 133 1 none true) 69 75::AA 10 76::[]) [1,2,8,10,32,33]))))))) (.reg [] (AO 77 (.bin .add) 33 1::AA 33 77::[]) [1,2,8,10,32,33]))))))) (.seq (.reg [.freeze 10] (AD 78 (.load true 3) 8::AA 79 10::AB 80 (.call 67) 78 79::AA 6 80::AQ 7 0::[]) [6,7]) (.ret)))))))
theorem KG:Dx E0 H0 GZ [.t 6,.t 7] 81:=AM (fl:=[]) (by kernel_rfl)
end Go.Pw
end
section
open Go Go.Pw Go.Proofs
namespace Go.Pw
set_option maxRecDepth 100000
set_option maxHeartbeats 3200000
def Zn (l:List (List F)):List D:=l.map fun r=>.list false (us r)
theorem Zv (l:List (List F)):(Zn l).length=l.length:=by simp[Zn]
theorem XD (l:List (List F)) (r:List F):Zn l++[.list false (us r)]=Zn (l++[r]):=by simp[Zn]
theorem Vp {ls:List (List F)}{i:Nat}{A:D->Prop}:Aq (Zn ls)[i]? A=(i<ls.length/\A (.list false (us (ls[i]?.getD [])))):=by
 unfold Zn
 rw[List.getElem?_map]
 by_cases h:i<ls.length
 ·simp[h,Aq]
 ·have:ls[i]?=none:=List.getElem?_eq_none (by omega)
  simp[this,h,Aq]
attribute [go_sem] Zv XD Vp
theorem Vm (m q k j:Nat) (b:List F) (h:j<m):(C3 m q k b).take j++[b[j*q+k]?.getD 0]=(C3 m q k b).take (j+1):=by
 rw[←ML j h,Bi _ 0 j (by rw[DJ];exact h)]
theorem fD {m q k j n:Nat}(hk:k<q) (hn:n=m*q) (h:j<m):k+j*q<n:=by have:=Pt hk h;omega
theorem fE {m q k n:Nat}(hn:n=m*q):¬k+m*q<n:=by omega
theorem YI {m q:Nat}(hm:m<=15) (hq:q<=8):m*q<=120:=Nat.mul_le_mul hm hq
def Sv (q:Nat) (W:Nat->List F):List (List F):=(List.range q).map W
theorem NJ (q:Nat) (W:Nat->List F):(Sv q W).length=q:=by simp[Sv]
theorem P_ {q:Nat}{W:Nat->List F}{k:Nat}(h:k<q):(Sv q W)[k]?.getD []=W k:=by simp[Sv,h]
theorem RG {q:Nat}{W:Nat->List F}{k:Nat}(h:k<q):(Sv q W).take k++[W k]=(Sv q W).take (k+1):=by
 have:=Bi (Sv q W) [] k (by rw[NJ];exact h)
 rwa [P_ h] at this
theorem ZS {m q i k:Nat}{W:Nat->List F}(hi:i<m) (hk:k<q):(Gy m q W).take (i*q+k)++[(W k)[i]?.getD 0]=(Gy m q W).take (i*q+(k+1)):=by
 have h:=Pt hk hi
 rw[←Nat.add_assoc,←Bi _ 0 (i*q+k) (by rw[Gm];exact h),OZ _ h,UO hk,Qq hk]
theorem Wv (b:Bool):(b && decide ((0:Nat)=0))=b:=by simp
theorem Ob (b:Bool) {k:Nat}(h:k≠0):(b && decide (k=0))=false:=by simp[h]
def eX (L P Q:Int) (xs:List Int):Int:=if GB L P Q=true then if CX xs (Q*(L-P))=true then 0 else 51 else 50
def Z8 (L P Q:Int) (xs:List Int):List Int:=if GB L P Q=true then if CX xs (Q*(L-P))=true then iv (XQ L.toNat P.toNat Q.toNat (fs xs)) else [] else []
noncomputable def fg (L P Q:Int) (xs ms:List Int):Int:=if GB L P Q=true then if CX xs (Q*L)=true then if ER ms xs.length=true then oE (cY L.toNat P.toNat Q.toNat (fs xs) (nt ms)) else 1 else 51 else 50
noncomputable def fF (L P Q:Int) (xs ms:List Int):List Int:=if GB L P Q=true then if CX xs (Q*L)=true then if ER ms xs.length=true then iv (oL (cY L.toNat P.toNat Q.toNat (fs xs) (nt ms))) else [] else [] else []
theorem LA {L P Q:Int}(h:GB L P Q=true):∃l p q:Nat,L=(l:Int)/\P=(p:Int)/\Q=(q:Int)/\2<=l/\l<=15/\1<=p/\p<=8/\p<l/\1<=q/\q<=8/\DI (l:Int) (p:Int)=true:=by
 obtain⟨hc,h1,h2⟩:=W6 h
 obtain⟨l,p,rfl,rfl,b1,b2,b3,b4,b5⟩:=P0 hc
 exact⟨l,p,Q.toNat,rfl,rfl,by omega,b1,b2,b3,b4,b5,by omega,by omega,hc⟩
theorem QZ {n m q:Nat}(h:(n:Int)=(q:Int)*(m:Int)):n=m*q:=by
 rw[Nat.mul_comm];exact_mod_cast h
theorem YM (q k i:Nat) (ms:List Nat) (h:i<ms.length):NO q k (ms.take (i+1))=if (ms[i]?.getD 0)%q=k then NO q k (ms.take i)++[(ms[i]?.getD 0)/q] else NO q k (ms.take i):=by
 rw[←Bi ms 0 i h,R6]
attribute [local congr] Bx A9 A_ Au Bz A0 A2 A1 Ar An Ai Ab Av Aj Ax BG BK BI BJ BH BL BD Ay Aw Al Az Am BB BT Ak BE BF BC A' BA B1
attribute [local irreducible] IntKind.wrap BM Option.getD and or
theorem Hq (L P q m k:Nat) (n:Bool) (b:List F) (hm:m<=15) (hm1:1<=m) (hq:q<=8) (hk:k<q) (hb:b.length=m*q) :
  DE E0 F0 [.agg [.int .i64 (L:Int),.int .i64 (P:Int),.int .i64 (q:Int)],.list n (A4 (iv b)),.int .i64 (k:Int)] (.list false (us (C3 m q k b))):=by
 have hmq:=YI hm hq
 have hpl:=DJ m q k b
 refine AP IK A5 (by simp) fun hwf=>?_
 rw[AU];unfold FU
 (try (simp -implicitDefEqProofs only[go_sem]));repeat' first|(with_reducible first|exact tI|refine aI ?_ ?_|intro _)|((first|with_reducible refine AN ?_ ?_<;>intro _)<;>try (simp -implicitDefEqProofs only[go_sem]))|simp (disch:=omega) only[Ap]|((with_reducible refine Ad ?_);refine⟨(_,_,_),rfl,?_,?_⟩)
 all_goals first|omega|(simp<;>omega)|skip
 refine AX (α:=Nat×Nat×Bool) (l0:=?l1) (m0:=?m1) (fun x=>[(8,.d (.int .i64 (x.2.1:Int)))]) (fun x=>[(25,.row 173 1 x.2.2 (us ((C3 m q k b).take x.1)))]) (fun x=>x.1<=m/\x.2.1=k+x.1*q/\x.2.2=decide (x.1=0)) (fun x=>m-x.1) (0,k,true) ?h01 ?he1 ?he21 ?hI1 ?step1
 case h01=>(simp -implicitDefEqProofs only[go_sem];rfl)
 case he1=>rfl
 case he21=>rfl
 case' step1=>(rintro⟨j,s,e⟩ hI;try dsimp only at hI)
 case' hI1=>try dsimp only
 ·exact⟨Nat.zero_le _,by simp,rfl⟩
 ·obtain⟨h1,hs,h2⟩:=hI
  change e=decide (j=0) at h2
  subst h2
  have hjq:=Nat.mul_le_mul_right q h1
  by_cases h:j<m
  ·have h0:=fD hk hb h
   rw[←hs] at h0
   have h':(s:Int)<(b.length:Int):=by omega
   have hs2:s+q=k+(j+1)*q:=by rw[Nat.add_mul,Nat.one_mul];omega
   have hwj:IntKind.i64.wrap ((s:Int)+(q:Int))=((s+q:Nat):Int):=by rw[Af _ (by omega)];omega
   have hst:=Vm m q k j b h
   rw[Nat.add_comm (j*q) k,←hs] at hst
   (try (simp -implicitDefEqProofs only[go_sem,h0,h',hwj,hst,Ud]));repeat' first|(with_reducible first|exact tI|refine aI ?_ ?_|intro _)|((first|with_reducible refine AN ?_ ?_<;>intro _)<;>try (simp -implicitDefEqProofs only[go_sem,h0,h',hwj,hst,Ud]))|simp (disch:=omega) only[Ap]|((with_reducible refine Ad ?_);refine⟨(_,_,_),rfl,?_,?_⟩)
   all_goals first|omega|(simp<;>omega)|skip
   all_goals first|exact⟨hs2,rfl⟩|exact hs2|rfl|skip
  ·have hje:j=m:=by omega
   subst hje
   have h0:=fE (k:=k) hb
   have h':¬(s:Int)<(b.length:Int):=by omega
   have htk:(C3 j q k b).take j=C3 j q k b:=List.take_of_length_le (by omega)
   have hj0:decide (j=0)=false:=decide_eq_false (by omega)
   rw[htk,hj0]
   (try (simp -implicitDefEqProofs only[go_sem,h']));repeat' first|(with_reducible first|exact tI|refine aI ?_ ?_|intro _)|((first|with_reducible refine AN ?_ ?_<;>intro _)<;>try (simp -implicitDefEqProofs only[go_sem,h']))|simp (disch:=omega) only[Ap]|((with_reducible refine Ad ?_);refine⟨(_,_,_),rfl,?_,?_⟩)
   all_goals first|omega|(simp<;>omega)|skip
   all_goals first|rfl|skip
theorem Hr (x:D) (q m:Nat) (W:Nat->List F) (hm:m<=15) (hm1:1<=m) (hq:q<=8) (hq1:1<=q) (hW:∀k,k<q->(W k).length=m) (hx:∃a b c,x=.agg [.int .i64 a,.int .i64 b,.int .i64 c]) :
  DE E0 F1 [x,.list false (Zn (Sv q W))] (.list false (A4 (iv (Gy m q W)))):=by
 obtain⟨a,b,c,rfl⟩:=hx
 have hmq:=YI hm hq
 have hbl:=Gm m q W
 have hwl:=NJ q W
 have h0:0<(Sv q W).length:=by omega
 have hw0:(Sv q W)[0]?.getD []=W 0:=P_ (by omega)
 have hl0:=hW 0 (by omega)
 refine AP IL A5 (by simp) fun hwf=>?_
 rw[AU];unfold FV
 (try (simp -implicitDefEqProofs only[go_sem,h0,hw0,hl0]));repeat' first|(with_reducible first|exact tI|refine aI ?_ ?_|intro _)|((first|with_reducible refine AN ?_ ?_<;>intro _)<;>try (simp -implicitDefEqProofs only[go_sem,h0,hw0,hl0]))|simp (disch:=omega) only[Ap]|((with_reducible refine Ad ?_);refine⟨(_,_,_),rfl,?_,?_⟩)
 all_goals first|omega|(simp<;>omega)|skip
 refine AX (α:=Nat×Nat×Bool) (l0:=?l2) (m0:=?m2) (fun x=>[(13,.d (.int .i64 (x.1:Int)))]) (fun x=>[(29,.row 3 1 x.2.2 (A4 (iv ((Gy m q W).take x.2.1))))]) (fun x=>x.1<=m/\x.2.1=x.1*q/\x.2.2=decide (x.1=0)) (fun x=>m-x.1) (0,0,true) ?h02 ?he2 ?he22 ?hI2 ?step2
 case h02=>(simp -implicitDefEqProofs only[go_sem];rfl)
 case he2=>rfl
 case he22=>rfl
 case' step2=>(rintro⟨i,n,e⟩ hI;try dsimp only at hI)
 case' hI2=>try dsimp only
 ·exact⟨Nat.zero_le _,by simp,rfl⟩
 ·obtain⟨i1,hn,i2⟩:=hI
  change e=decide (i=0) at i2
  subst i2
  have hiq:=Nat.mul_le_mul_right q i1
  by_cases h:i<m
  ·have h':(i:Int)<(m:Int):=by omega
   have hwi:IntKind.i64.wrap ((i:Int)+1)=((i+1:Nat):Int):=by rw[Af _ (by omega)];omega
   have hbs:=fun k hk=>@ZS m q i k W h hk
   have hend:i*q+q=(i+1)*q:=by rw[Nat.add_mul];omega
   (try (simp -implicitDefEqProofs only[go_sem,h',hwl]));repeat' first|(with_reducible first|exact tI|refine aI ?_ ?_|intro _)|((first|with_reducible refine AN ?_ ?_<;>intro _)<;>try (simp -implicitDefEqProofs only[go_sem,h',hwl]))|simp (disch:=omega) only[Ap]|((with_reducible refine Ad ?_);refine⟨(_,_,_),rfl,?_,?_⟩)
   all_goals first|omega|(simp<;>omega)|skip
   refine AX (α:=Nat×Nat×Bool) (l0:=?l3) (m0:=?m3) (fun x=>[(18,.d (.int .i64 (x.1:Int)))]) (fun x=>[(29,.row 3 1 x.2.2 (A4 (iv ((Gy m q W).take x.2.1))))]) (fun x=>x.1<=q/\x.2.1=i*q+x.1/\x.2.2=(decide (i=0) && decide (x.1=0))) (fun x=>q-x.1) (0,n,(decide (i=0))) ?h03 ?he3 ?he23 ?hI3 ?step3
   case h03=>(simp -implicitDefEqProofs only[go_sem];rfl)
   case he3=>rfl
   case he23=>rfl
   case' step3=>(rintro⟨k,n2,e2⟩ hI2;try dsimp only at hI2)
   case' hI3=>try dsimp only
   ·exact⟨Nat.zero_le _,hn,(Wv _).symm⟩
   ·obtain⟨k1,hn2,k2⟩:=hI2
    change e2=(decide (i=0) && decide (k=0)) at k2
    by_cases hk:k<q
    ·have hk':(k:Int)<(q:Int):=by omega
     have hwk:IntKind.i64.wrap ((k:Int)+1)=((k+1:Nat):Int):=by rw[Af _ (by omega)];omega
     have hg:=P_ (W:=W) hk
     have hkl:=hW k hk
     have hst:=hbs k hk
     have hn3:n2+1=i*q+(k+1):=by omega
     rw[←hn2,←hn3] at hst
     have hfe:false=(decide (i=0) && decide (k+1=0)):=(Ob _ (by omega)).symm
     have hnl:n2<=120:=by have:=Pt hk h;omega
     (try (simp -implicitDefEqProofs only[go_sem,hk',hwk,hwl,hk,hg,hkl,hst,h,P']));repeat' first|(with_reducible first|exact tI|refine aI ?_ ?_|intro _)|((first|with_reducible refine AN ?_ ?_<;>intro _)<;>try (simp -implicitDefEqProofs only[go_sem,hk',hwk,hwl,hk,hg,hkl,hst,h,P']))|simp (disch:=omega) only[Ap]|((with_reducible refine Ad ?_);refine⟨(_,_,_),rfl,?_,?_⟩)
     all_goals first|omega|(simp<;>omega)|skip
     all_goals first|exact⟨hn3,hfe⟩|exact hn3|exact hfe|rfl|(simp;done)|skip
    ·have hk':¬(k:Int)<(q:Int):=by omega
     have hke:k=q:=by omega
     have hn3:n2=(i+1)*q:=by omega
     have hfe:e2=decide (i+1=0):=by rw[k2,Ob _ (by omega),decide_eq_false (by omega)]
     (try (simp -implicitDefEqProofs only[go_sem,hk',hwl,hwi]));repeat' first|(with_reducible first|exact tI|refine aI ?_ ?_|intro _)|((first|with_reducible refine AN ?_ ?_<;>intro _)<;>try (simp -implicitDefEqProofs only[go_sem,hk',hwl,hwi]))|simp (disch:=omega) only[Ap]|((with_reducible refine Ad ?_);refine⟨(_,_,_),rfl,?_,?_⟩)
     all_goals first|omega|(simp<;>omega)|skip
     all_goals first|exact⟨hn3,hfe⟩|exact hn3|exact hfe|rfl|(simp;done)|skip
  ·have h':¬(i:Int)<(m:Int):=by omega
   have hie:i=m:=by omega
   subst hie
   have htk:(Gy i q W).take n=Gy i q W:=List.take_of_length_le (by omega)
   have hi0:decide (i=0)=false:=decide_eq_false (by omega)
   rw[htk,hi0]
   (try (simp -implicitDefEqProofs only[go_sem,h']));repeat' first|(with_reducible first|exact tI|refine aI ?_ ?_|intro _)|((first|with_reducible refine AN ?_ ?_<;>intro _)<;>try (simp -implicitDefEqProofs only[go_sem,h']))|simp (disch:=omega) only[Ap]|((with_reducible refine Ad ?_);refine⟨(_,_,_),rfl,?_,?_⟩)
   all_goals first|omega|(simp<;>omega)|skip
   all_goals first|rfl|skip
theorem Gi (L P Q:Int) (n:Bool) (xs:List Int):DE E0 Hz [.agg [.int .i64 L,.int .i64 P,.int .i64 Q],.list n (A4 xs)] (.tup [.list (Z8 L P Q xs).isEmpty (A4 (Z8 L P Q xs)),.int .i64 (eX L P Q xs)]):=by
 refine AP Kx A5 (by simp) fun hwf=>?_
 rw[AU];unfold G5 Z8 eX
 cases hw:GB L P Q with
 |false =>
  have c1:=EY L P Q n xs Cv (if DI L P=true then L-P else 0) P2 (by
   split
   ·rename_i hc;have:=Jj hc;omega
   ·omega) fun hc=>by rw[if_pos hc];have:=Jj hc;exact Fd L P (by omega)
  unfold df at c1
  rw[hw] at c1
  simp only[Bool.false_eq_true,if_false] at c1 ⊢
  rw[QU] at c1
  (try (simp -implicitDefEqProofs only[go_sem]));repeat' first|(with_reducible first|exact tI|refine aI ?_ ?_|intro _)|((first|with_reducible refine AN ?_ ?_<;>intro _|(with_reducible refine isCall ?_);first|refine AG c1 ?_)<;>try (simp -implicitDefEqProofs only[go_sem]))|simp (disch:=omega) only[Ap]|((with_reducible refine AZ ?_);refine⟨(_,_),rfl,?_,?_⟩)
  all_goals first|rfl|(simp;done)|skip
 |true =>
  obtain⟨l,p,q,rfl,rfl,rfl,b1,b2,b3,b4,b5,b6,b7,hc⟩:=LA hw
  have c1:=EY l p q n xs Cv ((l:Int)-(p:Int)) P2 (by omega) fun hc=>Fd l p (by omega)
  unfold df at c1
  rw[hw] at c1
  simp only[if_true] at c1 ⊢
  cases hs:CX xs ((q:Int)*((l:Int)-(p:Int))) with
  |false =>
   rw[hs] at c1
   simp only[Bool.false_eq_true,if_false] at c1 ⊢
   rw[TQ] at c1
   (try (simp -implicitDefEqProofs only[go_sem]));repeat' first|(with_reducible first|exact tI|refine aI ?_ ?_|intro _)|((first|with_reducible refine AN ?_ ?_<;>intro _|(with_reducible refine isCall ?_);first|refine AG c1 ?_)<;>try (simp -implicitDefEqProofs only[go_sem]))|simp (disch:=omega) only[Ap]|((with_reducible refine AZ ?_);refine⟨(_,_),rfl,?_,?_⟩)
   all_goals first|rfl|(simp;done)|skip
  |true =>
   rw[hs] at c1
   simp only[if_true] at c1 ⊢
   rw[X7] at c1
   obtain⟨hl,hf⟩:=HU hs
   obtain⟨d,hd⟩:∃d,fs xs=d:=⟨_,rfl⟩
   rw[hd] at hf ⊢
   subst hf
   rw[Kt,show ((l:Int)-(p:Int))=((l-p:Nat):Int) by omega] at hl
   have hdl:=QZ hl
   simp only[Int.toNat_natCast]
   have c2:=fun k hk=>Hq l p q (l-p) k n d (by omega) (by omega) b7 hk hdl
   have hW0:XQ l p q d=Gy l q fun k=>GN p (C3 (l-p) q k d):=rfl
   have c3:=fun k=>Gh l p false (C3 (l-p) q k d) b2 b3 (by rw[DJ];omega) (by rw[DJ];omega) rfl
   have hWl:∀k,k<q->(GN p (C3 (l-p) q k d)).length=l:=fun k _=>by rw[FL,DJ];omega
   obtain⟨W,hW⟩:∃W:Nat->List F,(fun k=>GN p (C3 (l-p) q k d))=W:=⟨_,rfl⟩
   have hWk:∀k,GN p (C3 (l-p) q k d)=W k:=fun k=>by rw[←hW]
   simp only[hWk] at c3 hWl
   rw[hW] at hW0
   rw[hW0]
   have c4:=Hr (.agg [.int .i64 (l:Int),.int .i64 (p:Int),.int .i64 (q:Int)]) q l W b2 (by omega) b7 b6 hWl ⟨_,_,_,rfl⟩
   have hB:0<(Gy l q W).length:=by rw[Gm];exact Nat.mul_pos (by omega) (by omega)
   rw[Ks hB]
   have hst:=fun k hk=>@RG q W k hk
   have hwl:=NJ q W
   (try (simp -implicitDefEqProofs only[go_sem]));repeat' first|(with_reducible first|exact tI|refine aI ?_ ?_|intro _)|((first|with_reducible refine AN ?_ ?_<;>intro _|(with_reducible refine isCall ?_);first|refine AG c1 ?_)<;>try (simp -implicitDefEqProofs only[go_sem]))|simp (disch:=omega) only[Ap]|((with_reducible refine AZ ?_);refine⟨(_,_),rfl,?_,?_⟩)
   all_goals first|omega|(simp<;>omega)|skip
   refine AX (α:=Nat×Bool) (l0:=?l4) (m0:=?m4) (fun x=>[(21,.d (.int .i64 (x.1:Int)))]) (fun x=>[(33,.row 133 1 x.2 (Zn ((Sv q W).take x.1)))]) (fun x=>x.1<=q/\x.2=decide (x.1=0)) (fun x=>q-x.1) (0,true) ?h04 ?he4 ?he24 ?hI4 ?step4
   case h04=>(simp -implicitDefEqProofs only[go_sem];rfl)
   case he4=>rfl
   case he24=>rfl
   case' step4=>(rintro⟨k,e⟩ hI;try dsimp only at hI)
   case' hI4=>try dsimp only
   ·exact⟨Nat.zero_le _,rfl⟩
   ·obtain⟨k1,k2⟩:=hI
    change e=decide (k=0) at k2
    subst k2
    by_cases hk:k<q
    ·have hk':(k:Int)<(q:Int):=by omega
     have hwk:IntKind.i64.wrap ((k:Int)+1)=((k+1:Nat):Int):=by rw[Af _ (by omega)];omega
     have c5:=c2 k hk
     have c6:=c3 k
     have hst2:=hst k hk
     rw[Bj] at c6
     (try (simp -implicitDefEqProofs only[go_sem,hk',hwk,hst2]));repeat' first|(with_reducible first|exact tI|refine aI ?_ ?_|intro _)|((first|with_reducible refine AN ?_ ?_<;>intro _|(with_reducible refine isCall ?_);first|refine AG c5 ?_|refine AG c6 ?_)<;>try (simp -implicitDefEqProofs only[go_sem,hk',hwk,hst2]))|simp (disch:=omega) only[Ap]|((with_reducible refine AZ ?_);refine⟨(_,_),rfl,?_,?_⟩)
     all_goals first|omega|(simp<;>omega)|skip
     all_goals first|rfl|skip
    ·have hk':¬(k:Int)<(q:Int):=by omega
     have hke:k=q:=by omega
     have hk0:decide (k=0)=false:=decide_eq_false (by omega)
     have htk:(Sv q W).take k=Sv q W:=List.take_of_length_le (by omega)
     rw[hk0,htk]
     (try (simp -implicitDefEqProofs only[go_sem,hk']));repeat' first|(with_reducible first|exact tI|refine aI ?_ ?_|intro _)|((first|with_reducible refine AN ?_ ?_<;>intro _|(with_reducible refine isCall ?_);first|refine AG c4 ?_)<;>try (simp -implicitDefEqProofs only[go_sem,hk']))|simp (disch:=omega) only[Ap]|((with_reducible refine AZ ?_);refine⟨(_,_),rfl,?_,?_⟩)
     all_goals first|rfl|omega|(simp;done)|skip
end Go.Pw
end
section
open Go Go.Pw Go.Proofs
namespace Go.Pw
set_option maxRecDepth 100000
set_option maxHeartbeats 3200000
theorem XS {α:Type}(l:List α) (x:α):false=(l++[x]).isEmpty:=by cases l<;>rfl
attribute [local congr] Bx A9 A_ Au Bz A0 A2 A1 Ar An Ai Ab Av Aj Ax BG BK BI BJ BH BL BD Ay Aw Al Az Am BB BT Ak BE BF BC A' BA B1
attribute [local irreducible] IntKind.wrap BM Option.getD and or
theorem Gj (L P Q:Int) (n n2:Bool) (xs ms:List Int) (hxl:xs.length<=1000):DE E0 H0 [.agg [.int .i64 L,.int .i64 P,.int .i64 Q],.list n (A4 xs),.list n2 (A4 ms)] (.tup [.list (fF L P Q xs ms).isEmpty (A4 (fF L P Q xs ms)),.int .i64 (fg L P Q xs ms)]):=by
 refine AP KG A5 (by simp) fun hwf=>?_
 rw[AU];unfold GZ fF fg
 cases hw:GB L P Q with
 |false =>
  have c1:=EY L P Q n xs DB (if DI L P=true then L else 0) Se (by
   split
   ·rename_i hc;have:=Jj hc;omega
   ·omega) fun hc=>by rw[if_pos hc];exact Iu L P
  unfold df at c1
  rw[hw] at c1
  simp only[Bool.false_eq_true,if_false] at c1 ⊢
  rw[QU] at c1
  (try (simp -implicitDefEqProofs only[go_sem]));repeat' first|(with_reducible first|exact tI|refine aI ?_ ?_|intro _)|((first|with_reducible refine AN ?_ ?_<;>intro _|(with_reducible refine isCall ?_);first|refine AG c1 ?_)<;>try (simp -implicitDefEqProofs only[go_sem]))|simp (disch:=omega) only[Ap]|((with_reducible refine Ad ?_);refine⟨(_,_,_),rfl,?_,?_⟩)|((with_reducible refine AZ ?_);refine⟨(_,_),rfl,?_,?_⟩)
  all_goals first|rfl|(simp;done)|skip
 |true =>
  obtain⟨l,p,q,rfl,rfl,rfl,b1,b2,b3,b4,b5,b6,b7,hc⟩:=LA hw
  have c1:=EY l p q n xs DB (l:Int) Se (by omega) fun hc=>Iu l p
  unfold df at c1
  rw[hw] at c1
  simp only[if_true] at c1 ⊢
  cases hs:CX xs ((q:Int)*(l:Int)) with
  |false =>
   rw[hs] at c1
   simp only[Bool.false_eq_true,if_false] at c1 ⊢
   rw[TQ] at c1
   (try (simp -implicitDefEqProofs only[go_sem]));repeat' first|(with_reducible first|exact tI|refine aI ?_ ?_|intro _)|((first|with_reducible refine AN ?_ ?_<;>intro _|(with_reducible refine isCall ?_);first|refine AG c1 ?_)<;>try (simp -implicitDefEqProofs only[go_sem]))|simp (disch:=omega) only[Ap]|((with_reducible refine Ad ?_);refine⟨(_,_,_),rfl,?_,?_⟩)|((with_reducible refine AZ ?_);refine⟨(_,_),rfl,?_,?_⟩)
   all_goals first|rfl|(simp;done)|skip
  |true =>
   rw[hs] at c1
   simp only[if_true] at c1 ⊢
   rw[X7] at c1
   have cp:=K3 n2 ms xs.length
   cases hm:ER ms xs.length with
   |false =>
    rw[hm] at cp
    simp only[Bool.false_eq_true,if_false]
    (try (simp -implicitDefEqProofs only[go_sem]));repeat' first|(with_reducible first|exact tI|refine aI ?_ ?_|intro _)|((first|with_reducible refine AN ?_ ?_<;>intro _|(with_reducible refine isCall ?_);first|refine AG c1 ?_|refine AG cp ?_)<;>try (simp -implicitDefEqProofs only[go_sem]))|simp (disch:=omega) only[Ap]|((with_reducible refine Ad ?_);refine⟨(_,_,_),rfl,?_,?_⟩)|((with_reducible refine AZ ?_);refine⟨(_,_),rfl,?_,?_⟩)
    all_goals first|rfl|(simp;done)|skip
   |true =>
    rw[hm] at cp
    simp only[if_true]
    obtain⟨hl,hf⟩:=HU hs
    obtain⟨d,hd⟩:∃d,fs xs=d:=⟨_,rfl⟩
    rw[hd] at hf ⊢
    subst hf
    have hmk:=dl hm
    have hmf:=ey hm
    obtain⟨mk,hMK⟩:∃mk,nt ms=mk:=⟨_,rfl⟩
    rw[hMK] at hmk hmf ⊢
    subst hmf
    rw[Kt] at hl hmk hxl cp
    have hdl:=QZ hl
    rw[hdl] at hmk
    have hmq:=YI b2 b7
    have hml:=YJ hmk
    simp only[Int.toNat_natCast]
    have c2:=fun k hk=>Hq l p q l k n d (by omega) (by omega) b7 hk hdl
    have hpm:=fun k=>@Uu l q k (by omega) mk hmk
    have c3:=fun k b=>K4 l p false b (C3 l q k d) (NO q k mk) b2 (by omega) b3 (by omega) (DJ ..) (hpm k) (by have:=YJ (hpm k);omega) rfl
    have hO:∀k,Ly l p (C3 l q k d) (NO q k mk)=Yr l p q d mk k:=fun k=>rfl
    simp only[hO] at c3
    have c4:=Fd l p (by omega)
    have w1:(l:Int)-(p:Int)=((l-p:Nat):Int):=by omega
    rw[w1] at c4
    have hst:=fun k hk=>@RG q (Wy l p q d mk) k hk
    have hwl:=NJ q (Wy l p q d mk)
    (try (simp -implicitDefEqProofs only[go_sem]));repeat' first|(with_reducible first|exact tI|refine aI ?_ ?_|intro _)|((first|with_reducible refine AN ?_ ?_<;>intro _|(with_reducible refine isCall ?_);first|refine AG c1 ?_|refine AG cp ?_)<;>try (simp -implicitDefEqProofs only[go_sem]))|simp (disch:=omega) only[Ap]|((with_reducible refine Ad ?_);refine⟨(_,_,_),rfl,?_,?_⟩)|((with_reducible refine AZ ?_);refine⟨(_,_),rfl,?_,?_⟩)
    all_goals first|omega|(simp<;>omega)|skip
    refine AX (α:=Nat×Bool) (l0:=?l1) (m0:=?m1) (fun x=>[(33,.d (.int .i64 (x.1:Int)))]) (fun x=>[(76,.row 133 1 x.2 (Zn ((Sv q (Wy l p q d mk)).take x.1)))]) (fun x=>x.1<=q/\x.2=decide (x.1=0)/\∀i,i<x.1->(Yr l p q d mk i).isSome=true) (fun x=>q-x.1) (0,true) ?h01 ?he1 ?he21 ?hI1 ?step1
    case h01=>(simp -implicitDefEqProofs only[go_sem];rfl)
    case he1=>rfl
    case he21=>rfl
    case' step1=>(rintro⟨k,e⟩ hI;try dsimp only at hI)
    case' hI1=>try dsimp only
    ·exact⟨Nat.zero_le _,rfl,fun i hi=>absurd hi (by omega)⟩
    ·obtain⟨k1,k2,k3⟩:=hI
     change e=decide (k=0) at k2
     subst k2
     by_cases hk:k<q
     ·have hk':(k:Int)<(q:Int):=by omega
      have hwk:IntKind.i64.wrap ((k:Int)+1)=((k+1:Nat):Int):=by rw[Af _ (by omega)];omega
      have hq0:¬(q:Int)=0:=by omega
      (try (simp -implicitDefEqProofs only[go_sem,hk']));repeat' first|(with_reducible first|exact tI|refine aI ?_ ?_|intro _)|((first|with_reducible refine AN ?_ ?_<;>intro _)<;>try (simp -implicitDefEqProofs only[go_sem,hk']))|simp (disch:=omega) only[Ap]|((with_reducible refine Ad ?_);refine⟨(_,_,_),rfl,?_,?_⟩)|((with_reducible refine AZ ?_);refine⟨(_,_),rfl,?_,?_⟩)
      all_goals first|omega|(simp<;>omega)|skip
      refine AX (α:=Nat×Bool×(List Nat)) (l0:=?l2) (m0:=?m2) (fun x=>[(38,.d (.int .i64 (x.1:Int)))]) (fun x=>[(54,.row 3 1 x.2.1 (A4 (ni x.2.2)))]) (fun x=>x.1<=mk.length/\x.2.1=x.2.2.isEmpty/\x.2.2=NO q k (mk.take x.1)) (fun x=>mk.length-x.1) (0,true,[]) ?h02 ?he2 ?he22 ?hI2 ?step2
      case h02=>(simp -implicitDefEqProofs only[go_sem];rfl)
      case he2=>rfl
      case he22=>rfl
      case' step2=>(rintro⟨i,e,mm⟩ hI2;try dsimp only at hI2)
      case' hI2=>try dsimp only
      ·exact⟨Nat.zero_le _,rfl,rfl⟩
      ·obtain⟨i1,i2,i3⟩:=hI2
       change e=mm.isEmpty at i2
       have hmml:mm.length<=1000:=by
        have h1:mm.length<=(mk.take i).length:=by
         rw[i3];unfold NO;rw[List.length_map];exact List.length_filter_le ..
        rw[List.length_take] at h1;omega
       by_cases hi:i<mk.length
       ·have hi':(i:Int)<(mk.length:Int):=by omega
        have hwi:IntKind.i64.wrap ((i:Int)+1)=((i+1:Nat):Int):=by rw[Af _ (by omega)];omega
        have hx:=YM q k i mk hi
        have hxl2:=hmk.lt (mk[i]?.getD 0) (get_mem hi)
        obtain⟨x,hxx⟩:∃x,mk[i]?.getD 0=x:=⟨_,rfl⟩
        rw[hxx] at hx hxl2
        have t1:Int.tmod (x:Int) (q:Int)=((x%q:Nat):Int):=XJ x q
        have t2:Int.tdiv (x:Int) (q:Int)=((x/q:Nat):Int):=XL x q
        have hdv:=Nat.div_le_self x q
        by_cases hxk:x%q=k
        ·have hxk':((x%q:Nat):Int)=(k:Int):=by omega
         rw[if_pos hxk,←i3] at hx
         have hse:=XS mm (x/q)
         obtain⟨y,hy⟩:∃y,x/q=y:=⟨_,rfl⟩
         rw[hy] at t2 hx hdv hse
         have w2:IntKind.i64.wrap (y:Int)=(y:Int):=Af _ (by omega)
         (try (simp -implicitDefEqProofs only[go_sem,hi',hi,hwi,hxx,t1,t2,w2,hxk',hq0]));repeat' first|(with_reducible first|exact tI|refine aI ?_ ?_|intro _)|((first|with_reducible refine AN ?_ ?_<;>intro _)<;>try (simp -implicitDefEqProofs only[go_sem,hi',hi,hwi,hxx,t1,t2,w2,hxk',hq0]))|simp (disch:=omega) only[Ap]|((with_reducible refine Ad ?_);refine⟨(_,_,_),rfl,?_,?_⟩)|((with_reducible refine AZ ?_);refine⟨(_,_),rfl,?_,?_⟩)
         all_goals first|omega|(simp<;>omega)|skip
         all_goals first|exact⟨hse,hx.symm⟩|exact hx.symm|exact hse|skip
        ·have hxk':¬((x%q:Nat):Int)=(k:Int):=by omega
         rw[if_neg hxk,←i3] at hx
         (try (simp -implicitDefEqProofs only[go_sem,hi',hi,hwi,hxx,t1,t2,hxk',hq0]));repeat' first|(with_reducible first|exact tI|refine aI ?_ ?_|intro _)|((first|with_reducible refine AN ?_ ?_<;>intro _)<;>try (simp -implicitDefEqProofs only[go_sem,hi',hi,hwi,hxx,t1,t2,hxk',hq0]))|simp (disch:=omega) only[Ap]|((with_reducible refine Ad ?_);refine⟨(_,_,_),rfl,?_,?_⟩)|((with_reducible refine AZ ?_);refine⟨(_,_),rfl,?_,?_⟩)
         all_goals first|omega|(simp<;>omega)|skip
         all_goals first|exact⟨i2,hx.symm⟩|exact hx.symm|exact i2|skip
       ·have hi':¬(i:Int)<(mk.length:Int):=by omega
        have htk:mk.take i=mk:=List.take_of_length_le (by omega)
        rw[htk] at i3
        subst i3
        have c5:=c2 k hk
        have c6:=c3 k e
        rw[Bj] at c6
        have hsome:=fun r=>@N7 l p q d mk k r
        have hno:=@d8 l p q d mk k hk
        have hdec:=fun r h=>@OH l p (C3 l q k d) r (NO q k mk) (DJ ..) (hpm k) h
        simp only[hO] at hdec
        have hst2:=hst k hk
        obtain⟨O,hOO⟩:∃O,Yr l p q d mk k=O:=⟨_,rfl⟩
        rw[hOO] at c6 hsome hno hdec
        cases O with
        |none =>
         rw[Pv] at c6
         rw[hno rfl,ao,am]
         (try (simp -implicitDefEqProofs only[go_sem,hi']));repeat' first|(with_reducible first|exact tI|refine aI ?_ ?_|intro _)|((first|with_reducible refine AN ?_ ?_<;>intro _|(with_reducible refine isCall ?_);first|refine AG c5 ?_|refine AG c6 ?_)<;>try (simp -implicitDefEqProofs only[go_sem,hi']))|simp (disch:=omega) only[Ap]|((with_reducible refine Ad ?_);refine⟨(_,_,_),rfl,?_,?_⟩)|((with_reducible refine AZ ?_);refine⟨(_,_),rfl,?_,?_⟩)
         all_goals first|rfl|omega|(simp;done)|skip
        |some r =>
         rw[Pu] at c6
         have hrl:=(hdec r rfl).2.1
         have hWr:=hsome r rfl
         rw[hWr] at hst2
         have hk3:∀i,i<k+1->(Yr l p q d mk i).isSome=true:=fun i hi=>by
          rcases Nat.lt_succ_iff_lt_or_eq.1 hi with hi|rfl
          ·exact k3 i hi
          ·rw[hOO];rfl
         have hle:l-p<=r.length:=by omega
         (try (simp -implicitDefEqProofs only[go_sem,hi',hwk,hst2,hle]));repeat' first|(with_reducible first|exact tI|refine aI ?_ ?_|intro _)|((first|with_reducible refine AN ?_ ?_<;>intro _|(with_reducible refine isCall ?_);first|refine AG c5 ?_|refine AG c6 ?_|refine AG c4 ?_)<;>try (simp -implicitDefEqProofs only[go_sem,hi',hwk,hst2,hle]))|simp (disch:=omega) only[Ap]|((with_reducible refine Ad ?_);refine⟨(_,_,_),rfl,?_,?_⟩)|((with_reducible refine AZ ?_);refine⟨(_,_),rfl,?_,?_⟩)
         all_goals first|omega|(simp<;>omega)|skip
         all_goals first|exact hk3|exact hk3 _ (by assumption)|skip
     ·have hk':¬(k:Int)<(q:Int):=by omega
      have hke:k=q:=by omega
      have hk0:decide (k=0)=false:=decide_eq_false (by omega)
      have htk:(Sv q (Wy l p q d mk)).take k=Sv q (Wy l p q d mk):=List.take_of_length_le (by omega)
      have hgs:=@Yq l p q d mk fun i hi=>k3 i (by omega)
      rw[hk0,htk,hgs,an,al]
      have hWl:∀i,i<q->(Wy l p q d mk i).length=l-p:=fun i hi=>by
       have h1:=k3 i (by omega)
       obtain⟨O,hOO⟩:∃O,Yr l p q d mk i=O:=⟨_,rfl⟩
       rw[hOO] at h1
       cases O with
       |none=>cases h1
       |some r =>
        rw[N7 hOO,List.length_take,(OH (DJ ..) (hpm i) hOO).2.1];omega
      have c7:=Hr (.agg [.int .i64 (l:Int),.int .i64 (p:Int),.int .i64 (q:Int)]) q (l-p) (Wy l p q d mk) (by omega) (by omega) b7 b6 hWl ⟨_,_,_,rfl⟩
      have hB:0<(Gy (l-p) q (Wy l p q d mk)).length:=by rw[Gm];exact Nat.mul_pos (by omega) (by omega)
      rw[Ks hB]
      (try (simp -implicitDefEqProofs only[go_sem,hk']));repeat' first|(with_reducible first|exact tI|refine aI ?_ ?_|intro _)|((first|with_reducible refine AN ?_ ?_<;>intro _|(with_reducible refine isCall ?_);first|refine AG c7 ?_)<;>try (simp -implicitDefEqProofs only[go_sem,hk']))|simp (disch:=omega) only[Ap]|((with_reducible refine Ad ?_);refine⟨(_,_,_),rfl,?_,?_⟩)|((with_reducible refine AZ ?_);refine⟨(_,_),rfl,?_,?_⟩)
      all_goals first|rfl|omega|(simp;done)|skip
end Go.Pw
end
section
open Go Go.Pw Go.Proofs
namespace Go.Pw
set_option maxRecDepth 100000
set_option maxHeartbeats 3200000
def gM (m q:Nat) (W:Nat->List F) (k j:Nat):List F:=(List.range (m*q)).map fun i=>if i%q<k\/(i%q=k/\i/q<j) then (W (i%q))[i/q]?.getD 0 else 0
attribute [local congr] Bx A9 A_ Au Bz A0 A2 A1 Ar An Ai Ab Av Aj Ax BG BK BI BJ BH BL BD Ay Aw Al Az Am BB BT Ak BE BF BC A' BA B1
attribute [local irreducible] IntKind.wrap BM Option.getD and or
theorem Fo (L P Q:Int):DE E0 Gr [.agg [.int .i64 L,.int .i64 P,.int .i64 Q]] (.int .i64 (if GB L P Q=true then 0 else 50)):=by
 have c1:=Ib L P
 have c2:=Fb Q 1 8
 refine AP Jd A5 (by simp) fun hwf=>?_
 rw[AU];unfold GC GB
 cases hc:DI L P with
 |false =>
  rw[hc] at c1
  simp only[Bool.false_eq_true,if_false,Bool.false_and] at c1 ⊢
  (try (simp -implicitDefEqProofs only[go_sem]));repeat' first|(with_reducible first|exact tI|refine aI ?_ ?_|intro _)|((first|with_reducible refine AN ?_ ?_<;>intro _|(with_reducible refine isCall ?_);first|refine AG c1 ?_)<;>try (simp -implicitDefEqProofs only[go_sem]))|simp (disch:=omega) only[Ap]
  all_goals first|rfl|(simp;done)|skip
 |true =>
  rw[hc] at c1
  simp only[if_true,Bool.true_and] at c1 ⊢
  by_cases h:1<=Q/\Q<=8
  ·rw[decide_eq_true h] at c2 ⊢
   (try (simp -implicitDefEqProofs only[go_sem]));repeat' first|(with_reducible first|exact tI|refine aI ?_ ?_|intro _)|((first|with_reducible refine AN ?_ ?_<;>intro _|(with_reducible refine isCall ?_);first|refine AG c1 ?_|refine AG c2 ?_)<;>try (simp -implicitDefEqProofs only[go_sem]))|simp (disch:=omega) only[Ap]
   all_goals first|rfl|(simp;done)|skip
  ·rw[decide_eq_false h] at c2 ⊢
   (try (simp -implicitDefEqProofs only[go_sem]));repeat' first|(with_reducible first|exact tI|refine aI ?_ ?_|intro _)|((first|with_reducible refine AN ?_ ?_<;>intro _|(with_reducible refine isCall ?_);first|refine AG c1 ?_|refine AG c2 ?_)<;>try (simp -implicitDefEqProofs only[go_sem]))|simp (disch:=omega) only[Ap]
   all_goals first|rfl|(simp;done)|skip
end Go.Pw
end
