/- A part of the proof. -/
import Derived.Test.YtibkjeolahobbaaDoorPgCdChrN
import Derived.Test.YtibkjeolahobbaaDoorPgCdChcJ
import Derived.Test.YtibkjeolahobbaaDoorPgCdChcA
import Derived.Test.YtibkjeolahobbaaDoorCdChcSpec2
import Derived.Test.YtibkjeolahobbaaDoorPgCdChcD
set_option linter.all false
section
open Go Go.Pw Go.Proofs
namespace Go.Pw
set_option maxRecDepth 100000
set_option maxHeartbeats 3200000
def fB (l:List (List F)):List D:=l.map fun r=>.list false (us r)
theorem fO (l:List (List F)):(fB l).length=l.length:=by simp[fB]
theorem bG (l:List (List F)) (r:List F):fB l++[.list false (us r)]=fB (l++[r]):=by simp[fB]
theorem ZV {ls:List (List F)}{i:Nat}{A:D->Prop}:BP (fB ls)[i]? A=(i<ls.length/\A (.list false (us (ls[i]?.getD [])))):=by
 unfold fB
 rw[List.getElem?_map]
 by_cases h:i<ls.length
 ·simp[h,BP]
 ·have:ls[i]?=none:=List.getElem?_eq_none (by omega)
  simp[this,h,BP]
attribute [go_sem] fO bG ZV
theorem ZP (m q k j:Nat) (b:List F) (h:j<m):(CS m q k b).take j++[b[j*q+k]?.getD 0]=(CS m q k b).take (j+1):=by
 rw[←OP j h,Bt _ 0 j (by rw[CZ];exact h)]
theorem mG {m q k j n:Nat}(hk:k<q) (hn:n=m*q) (h:j<m):k+j*q<n:=by have:=PE hk h;omega
theorem mH {m q k n:Nat}(hn:n=m*q):¬k+m*q<n:=by omega
theorem cq {m q:Nat}(hm:m<=15) (hq:q<=8):m*q<=120:=Nat.mul_le_mul hm hq
def WA (q:Nat) (W:Nat->List F):List (List F):=(List.range q).map W
theorem Ph (q:Nat) (W:Nat->List F):(WA q W).length=q:=by simp[WA]
theorem Se {q:Nat}{W:Nat->List F}{k:Nat}(h:k<q):(WA q W)[k]?.getD []=W k:=by simp[WA,h]
theorem T3 {q:Nat}{W:Nat->List F}{k:Nat}(h:k<q):(WA q W).take k++[W k]=(WA q W).take (k+1):=by
 have:=Bt (WA q W) [] k (by rw[Ph];exact h)
 rwa [Se h] at this
theorem eY {m q i k:Nat}{W:Nat->List F}(hi:i<m) (hk:k<q):(Hn m q W).take (i*q+k)++[(W k)[i]?.getD 0]=(Hn m q W).take (i*q+(k+1)):=by
 have h:=PE hk hi
 rw[←Nat.add_assoc,←Bt _ 0 (i*q+k) (by rw[HY];exact h),Nx _ h,Td hk,Qd hk]
theorem ah (b:Bool):(b && decide ((0:Nat)=0))=b:=by simp
theorem Qy (b:Bool) {k:Nat}(h:k≠0):(b && decide (k=0))=false:=by simp[h]
def spE (L P Q:Int) (xs:List Int):Int:=if Cv L P Q=true then if CR xs (Q*(L-P))=true then 0 else 51 else 50
def Rt (L P Q:Int) (xs:List Int):List Int:=if Cv L P Q=true then if CR xs (Q*(L-P))=true then iv (Rs L.toNat P.toNat Q.toNat (fs xs)) else [] else []
noncomputable def mL (L P Q:Int) (xs ms:List Int):Int:=if Cv L P Q=true then if CR xs (Q*L)=true then if EO ms xs.length=true then oE (XF L.toNat P.toNat Q.toNat (fs xs) (nt ms)) else 1 else 51 else 50
noncomputable def lW (L P Q:Int) (xs ms:List Int):List Int:=if Cv L P Q=true then if CR xs (Q*L)=true then if EO ms xs.length=true then iv (oL (XF L.toNat P.toNat Q.toNat (fs xs) (nt ms))) else [] else [] else []
theorem LS {L P Q:Int}(h:Cv L P Q=true):∃l p q:Nat,L=(l:Int)/\P=(p:Int)/\Q=(q:Int)/\2<=l/\l<=15/\1<=p/\p<=8/\p<l/\1<=q/\q<=8/\ED (l:Int) (p:Int)=true:=by
 obtain⟨hc,h1,h2⟩:=T6 h
 obtain⟨l,p,rfl,rfl,b1,b2,b3,b4,b5⟩:=aY hc
 exact⟨l,p,Q.toNat,rfl,rfl,by omega,b1,b2,b3,b4,b5,by omega,by omega,hc⟩
theorem TJ {n m q:Nat}(h:(n:Int)=(q:Int)*(m:Int)):n=m*q:=by
 rw[Nat.mul_comm];exact_mod_cast h
theorem ct (q k i:Nat) (ms:List Nat) (h:i<ms.length):O9 q k (ms.take (i+1))=if (ms[i]?.getD 0)%q=k then O9 q k (ms.take i)++[(ms[i]?.getD 0)/q] else O9 q k (ms.take i):=by
 rw[←Bt ms 0 i h,U_]
attribute [local congr] Bi A9 A_ Aq Bj Ax Az Ay Ap Aj Ad AY Au Ae Av BH BL BJ BK BI BM BE Ah Aw Ai BC BS Ag BF BG BD BA BB A8 Bl A' Ar Af
attribute [local irreducible] IntKind.wrap A3 Option.getD and or
theorem I3 (L P q m k:Nat) (n:Bool) (b:List F) (hm:m<=15) (hm1:1<=m) (hq:q<=8) (hk:k<q) (hb:b.length=m*q) :
  CK E0 Gf [.agg [.int .i64 (L:Int),.int .i64 (P:Int),.int .i64 (q:Int)],.list n (Al (iv b)),.int .i64 (k:Int)] (.list false (us (CS m q k b))):=by
 have hmq:=cq hm hq
 have hpl:=CZ m q k b
 refine AM JU A0 (by simp) fun hwf=>?_
 rw[AU];unfold F5
 (try (simp -implicitDefEqProofs only[go_sem]));repeat' first|(with_reducible first|exact tI|refine aI ?_ ?_|intro _)|((first|with_reducible refine AO ?_ ?_<;>intro _)<;>try (simp -implicitDefEqProofs only[go_sem]))|simp (disch:=omega) only[An]|((with_reducible refine BU ?_);refine⟨(_,_,_),rfl,?_,?_⟩)
 all_goals first|omega|(simp;done)|(simp;omega)|skip
 refine AZ (α:=Nat×Nat×Bool) (l0:=?l1) (m0:=?m1) (fun x=>[(8,.d (.int .i64 (x.2.1:Int)))]) (fun x=>[(25,.row 111 1 x.2.2 (us ((CS m q k b).take x.1)))]) (fun x=>x.1<=m/\x.2.1=k+x.1*q/\x.2.2=decide (x.1=0)) (fun x=>m-x.1) (0,k,true) ?h01 ?he1 ?he21 ?hI1 ?step1
 case h01=>(simp -implicitDefEqProofs only[go_sem];rfl)
 case he1=>rfl
 case he21=>rfl
 case' step1=>(rintro⟨j,s,e⟩ hI;try dsimp only at hI)
 case' hI1=>try dsimp only
 ·exact⟨Nat.zero_le _,by simp,rfl⟩
 ·obtain⟨h1,hs,h2⟩:=hI
  change e=decide (j=0) at h2
  subst h2
  have hjq:=Nat.mul_le_mul_right q h1
  by_cases h:j<m
  ·have h0:=mG hk hb h
   rw[←hs] at h0
   have h':(s:Int)<(b.length:Int):=by omega
   have hs2:s+q=k+(j+1)*q:=by rw[Nat.add_mul,Nat.one_mul];omega
   have hwj:IntKind.i64.wrap ((s:Int)+(q:Int))=((s+q:Nat):Int):=by rw[Ak _ (by omega)];omega
   have hst:=ZP m q k j b h
   rw[Nat.add_comm (j*q) k,←hs] at hst
   (try (simp -implicitDefEqProofs only[go_sem,h0,h',hwj,hst,jP]));repeat' first|(with_reducible first|exact tI|refine aI ?_ ?_|intro _)|((first|with_reducible refine AO ?_ ?_<;>intro _)<;>try (simp -implicitDefEqProofs only[go_sem,h0,h',hwj,hst,jP]))|simp (disch:=omega) only[An]|((with_reducible refine BU ?_);refine⟨(_,_,_),rfl,?_,?_⟩)
   all_goals first|omega|(simp;done)|(simp;omega)|skip
   all_goals first|exact⟨hs2,rfl⟩|exact hs2|rfl|skip
  ·have hje:j=m:=by omega
   subst hje
   have h0:=mH (k:=k) hb
   have h':¬(s:Int)<(b.length:Int):=by omega
   have htk:(CS j q k b).take j=CS j q k b:=List.take_of_length_le (by omega)
   have hj0:decide (j=0)=false:=decide_eq_false (by omega)
   rw[htk,hj0]
   (try (simp -implicitDefEqProofs only[go_sem,h']));repeat' first|(with_reducible first|exact tI|refine aI ?_ ?_|intro _)|((first|with_reducible refine AO ?_ ?_<;>intro _)<;>try (simp -implicitDefEqProofs only[go_sem,h']))|simp (disch:=omega) only[An]|((with_reducible refine BU ?_);refine⟨(_,_,_),rfl,?_,?_⟩)
   all_goals first|omega|(simp;done)|(simp;omega)|skip
   all_goals first|rfl|skip
theorem I4 (x:D) (q m:Nat) (W:Nat->List F) (hm:m<=15) (hm1:1<=m) (hq:q<=8) (hq1:1<=q) (hW:∀k,k<q->(W k).length=m) (hx:∃a b c,x=.agg [.int .i64 a,.int .i64 b,.int .i64 c]) :
  CK E0 Gg [x,.list false (fB (WA q W))] (.list false (Al (iv (Hn m q W)))):=by
 obtain⟨a,b,c,rfl⟩:=hx
 have hmq:=cq hm hq
 have hbl:=HY m q W
 have hwl:=Ph q W
 have h0:0<(WA q W).length:=by omega
 have hw0:(WA q W)[0]?.getD []=W 0:=Se (by omega)
 have hl0:=hW 0 (by omega)
 refine AM JV A0 (by simp) fun hwf=>?_
 rw[AU];unfold F6
 (try (simp -implicitDefEqProofs only[go_sem,h0,hw0,hl0]));repeat' first|(with_reducible first|exact tI|refine aI ?_ ?_|intro _)|((first|with_reducible refine AO ?_ ?_<;>intro _)<;>try (simp -implicitDefEqProofs only[go_sem,h0,hw0,hl0]))|simp (disch:=omega) only[An]|((with_reducible refine BU ?_);refine⟨(_,_,_),rfl,?_,?_⟩)
 all_goals first|omega|(simp;done)|(simp;omega)|skip
 refine AZ (α:=Nat×Nat×Bool) (l0:=?l2) (m0:=?m2) (fun x=>[(13,.d (.int .i64 (x.1:Int)))]) (fun x=>[(29,.row 3 1 x.2.2 (Al (iv ((Hn m q W).take x.2.1))))]) (fun x=>x.1<=m/\x.2.1=x.1*q/\x.2.2=decide (x.1=0)) (fun x=>m-x.1) (0,0,true) ?h02 ?he2 ?he22 ?hI2 ?step2
 case h02=>(simp -implicitDefEqProofs only[go_sem];rfl)
 case he2=>rfl
 case he22=>rfl
 case' step2=>(rintro⟨i,n,e⟩ hI;try dsimp only at hI)
 case' hI2=>try dsimp only
 ·exact⟨Nat.zero_le _,by simp,rfl⟩
 ·obtain⟨i1,hn,i2⟩:=hI
  change e=decide (i=0) at i2
  subst i2
  have hiq:=Nat.mul_le_mul_right q i1
  by_cases h:i<m
  ·have h':(i:Int)<(m:Int):=by omega
   have hwi:IntKind.i64.wrap ((i:Int)+1)=((i+1:Nat):Int):=by rw[Ak _ (by omega)];omega
   have hbs:=fun k hk=>@eY m q i k W h hk
   have hend:i*q+q=(i+1)*q:=by rw[Nat.add_mul];omega
   (try (simp -implicitDefEqProofs only[go_sem,h',hwl]));repeat' first|(with_reducible first|exact tI|refine aI ?_ ?_|intro _)|((first|with_reducible refine AO ?_ ?_<;>intro _)<;>try (simp -implicitDefEqProofs only[go_sem,h',hwl]))|simp (disch:=omega) only[An]|((with_reducible refine BU ?_);refine⟨(_,_,_),rfl,?_,?_⟩)
   all_goals first|omega|(simp;done)|(simp;omega)|skip
   refine AZ (α:=Nat×Nat×Bool) (l0:=?l3) (m0:=?m3) (fun x=>[(18,.d (.int .i64 (x.1:Int)))]) (fun x=>[(29,.row 3 1 x.2.2 (Al (iv ((Hn m q W).take x.2.1))))]) (fun x=>x.1<=q/\x.2.1=i*q+x.1/\x.2.2=(decide (i=0) && decide (x.1=0))) (fun x=>q-x.1) (0,n,(decide (i=0))) ?h03 ?he3 ?he23 ?hI3 ?step3
   case h03=>(simp -implicitDefEqProofs only[go_sem];rfl)
   case he3=>rfl
   case he23=>rfl
   case' step3=>(rintro⟨k,n2,e2⟩ hI2;try dsimp only at hI2)
   case' hI3=>try dsimp only
   ·exact⟨Nat.zero_le _,hn,(ah _).symm⟩
   ·obtain⟨k1,hn2,k2⟩:=hI2
    change e2=(decide (i=0) && decide (k=0)) at k2
    by_cases hk:k<q
    ·have hk':(k:Int)<(q:Int):=by omega
     have hwk:IntKind.i64.wrap ((k:Int)+1)=((k+1:Nat):Int):=by rw[Ak _ (by omega)];omega
     have hg:=Se (W:=W) hk
     have hkl:=hW k hk
     have hst:=hbs k hk
     have hn3:n2+1=i*q+(k+1):=by omega
     rw[←hn2,←hn3] at hst
     have hfe:false=(decide (i=0) && decide (k+1=0)):=(Qy _ (by omega)).symm
     have hnl:n2<=120:=by have:=PE hk h;omega
     (try (simp -implicitDefEqProofs only[go_sem,hk',hwk,hwl,hk,hg,hkl,hst,h,a8]));repeat' first|(with_reducible first|exact tI|refine aI ?_ ?_|intro _)|((first|with_reducible refine AO ?_ ?_<;>intro _)<;>try (simp -implicitDefEqProofs only[go_sem,hk',hwk,hwl,hk,hg,hkl,hst,h,a8]))|simp (disch:=omega) only[An]|((with_reducible refine BU ?_);refine⟨(_,_,_),rfl,?_,?_⟩)
     all_goals first|omega|(simp;done)|(simp;omega)|skip
     all_goals first|exact⟨hn3,hfe⟩|exact hn3|exact hfe|rfl|(simp;done)|skip
    ·have hk':¬(k:Int)<(q:Int):=by omega
     have hke:k=q:=by omega
     have hn3:n2=(i+1)*q:=by omega
     have hfe:e2=decide (i+1=0):=by rw[k2,Qy _ (by omega),decide_eq_false (by omega)]
     (try (simp -implicitDefEqProofs only[go_sem,hk',hwl,hwi]));repeat' first|(with_reducible first|exact tI|refine aI ?_ ?_|intro _)|((first|with_reducible refine AO ?_ ?_<;>intro _)<;>try (simp -implicitDefEqProofs only[go_sem,hk',hwl,hwi]))|simp (disch:=omega) only[An]|((with_reducible refine BU ?_);refine⟨(_,_,_),rfl,?_,?_⟩)
     all_goals first|omega|(simp;done)|(simp;omega)|skip
     all_goals first|exact⟨hn3,hfe⟩|exact hn3|exact hfe|rfl|(simp;done)|skip
  ·have h':¬(i:Int)<(m:Int):=by omega
   have hie:i=m:=by omega
   subst hie
   have htk:(Hn i q W).take n=Hn i q W:=List.take_of_length_le (by omega)
   have hi0:decide (i=0)=false:=decide_eq_false (by omega)
   rw[htk,hi0]
   (try (simp -implicitDefEqProofs only[go_sem,h']));repeat' first|(with_reducible first|exact tI|refine aI ?_ ?_|intro _)|((first|with_reducible refine AO ?_ ?_<;>intro _)<;>try (simp -implicitDefEqProofs only[go_sem,h']))|simp (disch:=omega) only[An]|((with_reducible refine BU ?_);refine⟨(_,_,_),rfl,?_,?_⟩)
   all_goals first|omega|(simp;done)|(simp;omega)|skip
   all_goals first|rfl|skip
theorem HT (L P Q:Int) (n:Bool) (xs:List Int):CK E0 I' [.agg [.int .i64 L,.int .i64 P,.int .i64 Q],.list n (Al xs)] (.tup [.list (Rt L P Q xs).isEmpty (Al (Rt L P Q xs)),.int .i64 (spE L P Q xs)]):=by
 refine AM MT A0 (by simp) fun hwf=>?_
 rw[AU];unfold Hx Rt spE
 cases hw:Cv L P Q with
 |false =>
  have c1:=D0 L P Q n xs C3 (if ED L P=true then L-P else 0) SU (by
   split
   ·rename_i hc;have:=K7 hc;omega
   ·omega) fun hc=>by rw[if_pos hc];have:=K7 hc;exact GF L P (by omega)
  unfold jU at c1
  rw[hw] at c1
  simp only[Bool.false_eq_true,if_false] at c1 ⊢
  rw[QL] at c1
  (try (simp -implicitDefEqProofs only[go_sem]));repeat' first|(with_reducible first|exact tI|refine aI ?_ ?_|intro _)|((first|with_reducible refine AO ?_ ?_<;>intro _|(with_reducible refine isCall ?_);first|refine AE c1 ?_)<;>try (simp -implicitDefEqProofs only[go_sem]))|simp (disch:=omega) only[An]|((with_reducible refine Ao ?_);refine⟨(_,_),rfl,?_,?_⟩)
  all_goals first|rfl|(simp;done)|skip
 |true =>
  obtain⟨l,p,q,rfl,rfl,rfl,b1,b2,b3,b4,b5,b6,b7,hc⟩:=LS hw
  have c1:=D0 l p q n xs C3 ((l:Int)-(p:Int)) SU (by omega) fun hc=>GF l p (by omega)
  unfold jU at c1
  rw[hw] at c1
  simp only[if_true] at c1 ⊢
  cases hs:CR xs ((q:Int)*((l:Int)-(p:Int))) with
  |false =>
   rw[hs] at c1
   simp only[Bool.false_eq_true,if_false] at c1 ⊢
   rw[Wm] at c1
   (try (simp -implicitDefEqProofs only[go_sem]));repeat' first|(with_reducible first|exact tI|refine aI ?_ ?_|intro _)|((first|with_reducible refine AO ?_ ?_<;>intro _|(with_reducible refine isCall ?_);first|refine AE c1 ?_)<;>try (simp -implicitDefEqProofs only[go_sem]))|simp (disch:=omega) only[An]|((with_reducible refine Ao ?_);refine⟨(_,_),rfl,?_,?_⟩)
   all_goals first|rfl|(simp;done)|skip
  |true =>
   rw[hs] at c1
   simp only[if_true] at c1 ⊢
   rw[YG] at c1
   obtain⟨hl,hf⟩:=P2 hs
   obtain⟨d,hd⟩:∃d,fs xs=d:=⟨_,rfl⟩
   rw[hd] at hf ⊢
   subst hf
   rw[JQ,show ((l:Int)-(p:Int))=((l-p:Nat):Int) by omega] at hl
   have hdl:=TJ hl
   simp only[Int.toNat_natCast]
   have c2:=fun k hk=>I3 l p q (l-p) k n d (by omega) (by omega) b7 hk hdl
   have hW0:Rs l p q d=Hn l q fun k=>GZ p (CS (l-p) q k d):=rfl
   have c3:=fun k=>Ma l p false (CS (l-p) q k d) b2 b3 (by rw[CZ];omega) (by rw[CZ];omega) rfl
   have hWl:∀k,k<q->(GZ p (CS (l-p) q k d)).length=l:=fun k _=>by rw[HK,CZ];omega
   obtain⟨W,hW⟩:∃W:Nat->List F,(fun k=>GZ p (CS (l-p) q k d))=W:=⟨_,rfl⟩
   have hWk:∀k,GZ p (CS (l-p) q k d)=W k:=fun k=>by rw[←hW]
   simp only[hWk] at c3 hWl
   rw[hW] at hW0
   rw[hW0]
   have c4:=I4 (.agg [.int .i64 (l:Int),.int .i64 (p:Int),.int .i64 (q:Int)]) q l W b2 (by omega) b7 b6 hWl ⟨_,_,_,rfl⟩
   have hB:0<(Hn l q W).length:=by rw[HY];exact Nat.mul_pos (by omega) (by omega)
   rw[QQ hB]
   have hst:=fun k hk=>@T3 q W k hk
   have hwl:=Ph q W
   (try (simp -implicitDefEqProofs only[go_sem]));repeat' first|(with_reducible first|exact tI|refine aI ?_ ?_|intro _)|((first|with_reducible refine AO ?_ ?_<;>intro _|(with_reducible refine isCall ?_);first|refine AE c1 ?_)<;>try (simp -implicitDefEqProofs only[go_sem]))|simp (disch:=omega) only[An]|((with_reducible refine Ao ?_);refine⟨(_,_),rfl,?_,?_⟩)
   all_goals first|omega|(simp;done)|(simp;omega)|skip
   refine AZ (α:=Nat×Bool) (l0:=?l4) (m0:=?m4) (fun x=>[(21,.d (.int .i64 (x.1:Int)))]) (fun x=>[(33,.row 83 1 x.2 (fB ((WA q W).take x.1)))]) (fun x=>x.1<=q/\x.2=decide (x.1=0)) (fun x=>q-x.1) (0,true) ?h04 ?he4 ?he24 ?hI4 ?step4
   case h04=>(simp -implicitDefEqProofs only[go_sem];rfl)
   case he4=>rfl
   case he24=>rfl
   case' step4=>(rintro⟨k,e⟩ hI;try dsimp only at hI)
   case' hI4=>try dsimp only
   ·exact⟨Nat.zero_le _,rfl⟩
   ·obtain⟨k1,k2⟩:=hI
    change e=decide (k=0) at k2
    subst k2
    by_cases hk:k<q
    ·have hk':(k:Int)<(q:Int):=by omega
     have hwk:IntKind.i64.wrap ((k:Int)+1)=((k+1:Nat):Int):=by rw[Ak _ (by omega)];omega
     have c5:=c2 k hk
     have c6:=c3 k
     have hst2:=hst k hk
     rw[B1] at c6
     (try (simp -implicitDefEqProofs only[go_sem,hk',hwk,hst2]));repeat' first|(with_reducible first|exact tI|refine aI ?_ ?_|intro _)|((first|with_reducible refine AO ?_ ?_<;>intro _|(with_reducible refine isCall ?_);first|refine AE c5 ?_|refine AE c6 ?_)<;>try (simp -implicitDefEqProofs only[go_sem,hk',hwk,hst2]))|simp (disch:=omega) only[An]|((with_reducible refine Ao ?_);refine⟨(_,_),rfl,?_,?_⟩)
     all_goals first|omega|(simp;done)|(simp;omega)|skip
     all_goals first|rfl|skip
    ·have hk':¬(k:Int)<(q:Int):=by omega
     have hke:k=q:=by omega
     have hk0:decide (k=0)=false:=decide_eq_false (by omega)
     have htk:(WA q W).take k=WA q W:=List.take_of_length_le (by omega)
     rw[hk0,htk]
     (try (simp -implicitDefEqProofs only[go_sem,hk']));repeat' first|(with_reducible first|exact tI|refine aI ?_ ?_|intro _)|((first|with_reducible refine AO ?_ ?_<;>intro _|(with_reducible refine isCall ?_);first|refine AE c4 ?_)<;>try (simp -implicitDefEqProofs only[go_sem,hk']))|simp (disch:=omega) only[An]|((with_reducible refine Ao ?_);refine⟨(_,_),rfl,?_,?_⟩)
     all_goals first|rfl|omega|(simp;done)|skip
end Go.Pw
end
section
open Go Go.Pw
namespace Go.Pw
end Go.Pw
end
section
open Go Go.Pw
namespace Go.Pw
def AX.ok (c:AX):Bool:=c.code.ok && (Cv c.L c.P c.Q && (decide (c.Q*c.L<=32) && (Cl c.mark && (Cq c.seed 1 127 && (Cq c.errs 0 16 && Ky c.code 16)))))
def AX.flat (c:AX) (X:List Int):List Int:=X.flatMap fun x=>c.code.stm x.toNat
def DL (c:AX) (block:List Int):List Int:=c.mark++c.flat (CQ c.seed block)
def T4 (c:AX) (d:List Int):List Int:=if c.ok=true then if spE c.L c.P c.Q d=0 then DL c (Rt c.L c.P c.Q d) else [] else []
def lV (c:AX) (d:List Int):Int:=if c.ok=true then if spE c.L c.P c.Q d=0 then 0 else 51 else 130
noncomputable def VH (c:AX) (sy:List (Option Nat)):List Int:=lW c.L c.P c.Q (CQ c.seed (Mo sy)) (ni (Zf sy))
noncomputable def RE (c:AX) (sy:List (Option Nat)):Int:=mL c.L c.P c.Q (CQ c.seed (Mo sy)) (ni (Zf sy))
def Hi (bits:List Int):Bool:=decide (bits.length<=1000) && Ab bits
noncomputable def YC (c:AX) (bits:List Int):Int:=if c.ok=true then if Hi bits=true then match c.find bits with
 |none=>3
 |some a=>RE c (c.syL bits a)
 else 131 else 130
noncomputable def Uv (c:AX) (bits:List Int):List Int:=if c.ok=true then if Hi bits=true then match c.find bits with
 |none=>[]
 |some a=>VH c (c.syL bits a)
 else [] else []
noncomputable def YD (c:AX) (bits:List Int):Int:=if c.ok=true then if Hi bits=true then match c.find bits with
 |none=>0
 |some a=>if RE c (c.syL bits a)=0 then a else 0
 else 0 else 0
theorem Vf {α:Type}(a b:List α) (n:Nat):(a++b).drop (a.length+n)=b.drop n:=by
 rw[List.drop_append,List.drop_eq_nil_of_le (by omega),List.nil_append,show a.length+n-a.length=n by omega]
theorem SJ {α:Type}{f:α->List Int}{m:Nat}(hf:∀x,(f x).length=m):∀(l:List α) (i:Nat) (h:i<l.length),((l.flatMap f).drop (i*m)).take m=f l[i]
 |[],_,h=>by cases h
 |x::l,0,_=>by
  rw[Nat.zero_mul,List.drop_zero,List.flatMap_cons]
  exact List.take_left' (hf x)
 |x::l,i+1,h=>by
  rw[List.flatMap_cons,show (i+1)*m=(f x).length+i*m by rw[hf,Nat.succ_mul];omega,Vf]
  exact SJ hf l i (by simpa using h)
theorem VN {α:Type}{f:α->List Int}{m:Nat}(hf:∀x,(f x).length=m):∀l:List α,(l.flatMap f).length=l.length*m
 |[]=>by simp
 |x::l=>by rw[List.flatMap_cons,List.length_append,hf,VN hf l,List.length_cons,Nat.succ_mul];omega
theorem Ot (c:AX) (X:List Int):(c.flat X).length=X.length*c.code.sz:=VN (fun x=>LU ..) X
theorem JN (c:AX) (b:List Int):(DL c b).length=c.mark.length+b.length*c.code.sz:=by
 unfold DL;rw[List.length_append,Ot,Ce]
theorem QA (c:AX) (X rest:List Int) (i:Nat) (h:i<X.length):c.part (c.mark++c.flat X++rest) 0 i=c.code.stm (X[i]?.getD 0).toNat:=by
 unfold AX.part
 rw[Nat.zero_add,List.append_assoc,Vf]
 have h1:=Ot c X
 have h2:(i+1)*c.code.sz<=X.length*c.code.sz:=Nat.mul_le_mul_right _ h
 rw[Nat.succ_mul] at h2
 rw[List.drop_append_of_le_length (by rw[h1];omega),List.take_append_of_le_length (by rw[List.length_drop,h1];omega)]
 have:=SJ (f:=fun x:Int=>c.code.stm x.toNat) (fun x=>LU ..) X i h
 rw[List.getElem?_eq_getElem h]
 exact this
end Go.Pw
end
section
open Go Go.Pw Go.Proofs
namespace Go.Pw
set_option maxRecDepth 100000
set_option maxHeartbeats 800000
attribute [local congr] Bi A9 A_ Aq Bj Ax Az Ay Ap Aj Ad AY Au Ae Av BH BL BJ BK BI BM BE Ah Aw Ai BC BS Ag BF BG BD BA BB A8 Bl A' Ar Af
attribute [local irreducible] IntKind.wrap A3 Option.getD and or
abbrev Gp:=List (IT×Int)
def nG (e:IT×Int):D×D:=(jT e.1,.int .i64 e.2)
def n_ (m:Gp):List (D×D):=m.map nG
def dC (k:IT):Gp->Option Int
 |[]=>none
 |e::m=>if k=e.1 then some e.2 else dC k m
def lp (k:IT) (v:Int):Gp->Gp
 |[]=>[(k,v)]
 |e::m=>if k=e.1 then (e.1,v)::m else e::lp k v m
def AQ.apW (c:AQ) (rec:Int->List Int->Gp->Int×Gp) (s first:Int) (mark:List Int):Nat->Int->Int->Gp->Int×Gp
 |0,_,least,m=>(least,m)
 |k+1,w,least,m =>
  let bits:=(Cr c.out.toNat (c.wrd s w)).drop first.toNat
  let n:=min mark.length bits.length
  let r:=rec (c.nxt s w) (mark.drop n) m
  c.apW rec s first mark k (w+1) (min least (Bv (mark.take n) bits+r.1)) r.2
def AQ.apM (c:AQ):Nat->Int->Int->List Int->Gp->Int×Gp
 |0,_,_,_,m=>(0,m)
 |n+1,s,first,mark,m =>
  if mark=[] then (0,m) else
  match dC (s,mark.length) m with
  |some v=>if first=0 then (v,m) else c.apW (fun s' mk m'=>c.apM n s' 0 mk m') s first mark c.W 0 16 m
  |none=>let r:=c.apW (fun s' mk m'=>c.apM n s' 0 mk m') s first mark c.W 0 16 m
   if first=0 then (r.1,lp (s,mark.length) r.1 r.2) else r
def oS (m:Gp):Prop:=∀e,e∈m->0<=e.2/\e.2<=16
theorem HM:∀(xs ys:List Int),0<=Bv xs ys/\Bv xs ys<=xs.length
 |[],_=>by simp[Bv]
 |_::_,[]=>by simp[Bv];omega
 |x::xs,y::ys=>by
  have:=HM xs ys
  simp only[Bv,List.length_cons]
  split<;>omega
theorem Et {xs:List Int}(h:Ab xs=true) (n:Nat):Ab (xs.take n)=true:=by
 simp only[Ab,List.all_eq_true] at *
 exact fun x hx=>h x (List.mem_of_mem_take hx)
theorem AQ.W_eq' (c:AQ):(c.W:Int)=2^c.bits.toNat:=by simp[AQ.W]
abbrev oU:Mp:=(true,[some .i64,some .i64])
end Go.Pw
end
section
open Go Go.Pw Go.Proofs
namespace Go.Pw
set_option maxRecDepth 100000
set_option maxHeartbeats 800000
attribute [local congr] Bi A9 A_ Aq Bj Ax Az Ay Ap Aj Ad AY Au Ae Av BH BL BJ BK BI BM BE Ah Aw Ai BC BS Ag BF BG BD BA BB A8 Bl A' Ar Af
attribute [local irreducible] IntKind.wrap A3 Option.getD and or
def AQ.apFirst (c:AQ) (mark:List Int) (s:Int):Nat->Int->Int->Gp->Int×Gp
 |0,_,least,m=>(least,m)
 |k+1,f,least,m=>c.apFirst mark s k (f+1) (min least (c.apM 16 s f mark m).1) (c.apM 16 s f mark m).2
def AQ.apStates (c:AQ) (mark:List Int):Nat->Int->Int->Gp->Int×Gp
 |0,_,least,m=>(least,m)
 |k+1,s,least,m=>c.apStates mark k (s+1) (c.apFirst mark s c.out.toNat 0 least m).1 (c.apFirst mark s c.out.toNat 0 least m).2
def AQ.apart (c:AQ) (mark:List Int):Int:=(c.apStates mark c.words.length 0 16 []).1
def AQ.apartR (c:AQ) (mark:List Int):Int×Int:=if !c.ok then (0,40) else if !Cl mark then (0,1) else (c.apart mark,0)
theorem OK (nl:Bool) (xs:List Int):CK E0 LH [.list nl (Al xs)] (.bool (Cl xs)):=by
 refine AM Od A0 (by simp) fun hwf=>?_
 rw[AU];unfold Jq
 (try (simp -implicitDefEqProofs only[go_sem]));repeat' first|(with_reducible first|exact tI|refine aI ?_ ?_|intro _)|((first|with_reducible refine AO ?_ ?_<;>intro _|(with_reducible refine isCall ?_);first|refine AE (C_ _ _ _) ?_|refine AE (Hv nl xs) ?_)<;>try (simp -implicitDefEqProofs only[go_sem]))|simp (disch:=omega) only[An]
 all_goals simp_all[Cl]
def jq (bits:List Int):List Int->List Int->List Int
 |out,[]=>out
 |out,s::l=>jq bits (if 0<=s/\s<bits.length then out.set s.toNat (1-bits[s.toNat]?.getD 0) else out) l
end Go.Pw
end
section
open Go Go.Pw Go.Proofs
namespace Go.Pw
set_option maxRecDepth 100000
set_option maxHeartbeats 1600000
attribute [local congr] Bi A9 A_ Aq Bj Ax Az Ay Ap Aj Ad AY Au Ae Av BH BL BJ BK BI BM BE Ah Aw Ai BC BS Ag BF BG BD BA BB A8 Bl A' Ar Af
attribute [local irreducible] IntKind.wrap A3 Option.getD and or
def AQ.decW (c:AQ) (rec:Int->Gp->Option (List Int)×Gp) (s:Int) (own:List Int):Nat->Int->Gp->Option (List Int)×Gp
 |0,_,m=>(none,m)
 |n+1,w,m =>
  if own=Cr c.out.toNat (c.wrd s w) then
   match (rec (c.nxt s w) m).1 with
   |some l=>(some (w::l),(rec (c.nxt s w) m).2)
   |none=>c.decW rec s own n (w+1) (rec (c.nxt s w) m).2
  else c.decW rec s own n (w+1) m
def AQ.decM (c:AQ) (bits:List Int):Nat->Int->Int->Gp->Option (List Int)×Gp
 |0,_,_,m=>(some [],m)
 |k+1,s,p,m =>
  if dC (s,p) m=none then
   match (c.decW (fun s' m'=>c.decM bits k s' (p+1) m') s ((bits.drop (p*c.out).toNat).take c.out.toNat) c.W 0 m).1 with
   |some l=>(some l,(c.decW (fun s' m'=>c.decM bits k s' (p+1) m') s ((bits.drop (p*c.out).toNat).take c.out.toNat) c.W 0 m).2)
   |none=>(none,(c.decW (fun s' m'=>c.decM bits k s' (p+1) m') s ((bits.drop (p*c.out).toNat).take c.out.toNat) c.W 0 m).2++[((s,p),1)])
  else (none,m)
def AQ.Tab (c:AQ) (m:Gp):Prop:=(m.map (·.1)).Nodup/\∀e,e∈m->e.2=1/\c.isState e.1.1=true/\0<=e.1.2/\e.1.2<=24
def nk (p:Int) (m m':Gp):Prop:=∀e,e∈m'->e∈m\/p<=e.1.2
def nz (o:Option (List Int)):D:=match o with|some l=>.list false (Al l)|none=>.list true []
theorem Jz (n1 n2:Bool) (xs ys:List Int):CK E0 Fs [.list n1 (Al xs),.list n2 (Al ys)] (.bool (decide (xs=ys))):=by
 refine AM IE A0 (by simp) fun hwf=>?_
 simp only[EM,DU,DT,DI,Ed,Ec,GL,Eb,Bq,B3,B4,DY,CI,List.length_map,CB,true_and,and_true] at hwf
 rw[AU];unfold FR
 by_cases hl:xs.length=ys.length
 ·(try (simp -implicitDefEqProofs only[go_sem]));repeat' first|(with_reducible first|exact tI|refine aI ?_ ?_|intro _)|((first|with_reducible refine AO ?_ ?_<;>intro _)<;>try (simp -implicitDefEqProofs only[go_sem]))|simp (disch:=omega) only[An]|((with_reducible refine A5 ?_);refine⟨_,rfl,?_,?_⟩)
  all_goals first|omega|(simp;done)|(simp;omega)|skip
  refine AZ (α:=Int) (l0:=?l1) (m0:=?m1) (fun x=>[(13,.d (.int .i64 x))]) (fun x=>[]) (fun x=>0<=x/\x<=xs.length/\xs.take x.toNat=ys.take x.toNat) (fun x=>(xs.length-x).toNat) ?a1_0 ?h01 ?he1 ?he21 ?hI1 ?step1
  case h01=>(simp -implicitDefEqProofs only[go_sem];rfl)
  case he1=>rfl
  case he21=>rfl
  case' step1=>(rintro i hI;try dsimp only at hI)
  case' hI1=>try dsimp only
  ·simp
  ·obtain⟨hi0,hi1,heq⟩:=hI
   by_cases hi:i<xs.length
   ·have hx:=take_get (xs:=xs) (i:=i.toNat) (by omega)
    have hy:=take_get (xs:=ys) (i:=i.toNat) (by omega)
    have hii:(i+1).toNat=i.toNat+1:=by omega
    by_cases he:xs[i.toNat]?.getD 0=ys[i.toNat]?.getD 0
    ·(try (simp -implicitDefEqProofs only[go_sem]));repeat' first|(with_reducible first|exact tI|refine aI ?_ ?_|intro _)|((first|with_reducible refine AO ?_ ?_<;>intro _)<;>try (simp -implicitDefEqProofs only[go_sem]))|simp (disch:=omega) only[An]|((with_reducible refine A5 ?_);refine⟨_,rfl,?_,?_⟩)
     all_goals (try simp (disch:=omega) only[An] at *)
     all_goals first|omega|(simp;done)|(simp;omega)|skip
     all_goals (rw[hii,hx,hy,heq,he])
    ·have hne:¬xs=ys:=fun e=>he (by rw[e])
     (try (simp -implicitDefEqProofs only[go_sem]));repeat' first|(with_reducible first|exact tI|refine aI ?_ ?_|intro _)|((first|with_reducible refine AO ?_ ?_<;>intro _)<;>try (simp -implicitDefEqProofs only[go_sem]))|simp (disch:=omega) only[An]|((with_reducible refine A5 ?_);refine⟨_,rfl,?_,?_⟩)
     all_goals first|omega|(simp;done)|(simp;omega)|skip
     all_goals first|(exfalso;omega)|simp[hne]
   ·have hxy:xs=ys:=by
     have h1:xs.take i.toNat=xs:=List.take_of_length_le (by omega)
     have h2:ys.take i.toNat=ys:=List.take_of_length_le (by omega)
     rw[←h1,heq,h2]
    (try (simp -implicitDefEqProofs only[go_sem]));repeat' first|(with_reducible first|exact tI|refine aI ?_ ?_|intro _)|((first|with_reducible refine AO ?_ ?_<;>intro _)<;>try (simp -implicitDefEqProofs only[go_sem]))|simp (disch:=omega) only[An]|((with_reducible refine A5 ?_);refine⟨_,rfl,?_,?_⟩)
    all_goals first|omega|(simp;done)|(simp;omega)|skip
    all_goals simp[hxy]
 ·have hne:¬xs=ys:=fun e=>hl (by rw[e])
  (try (simp -implicitDefEqProofs only[go_sem]));repeat' first|(with_reducible first|exact tI|refine aI ?_ ?_|intro _)|((first|with_reducible refine AO ?_ ?_<;>intro _)<;>try (simp -implicitDefEqProofs only[go_sem]))|simp (disch:=omega) only[An]|((with_reducible refine A5 ?_);refine⟨_,rfl,?_,?_⟩)
  all_goals first|(exfalso;omega)|simp[hne]
def AQ.decR (c:AQ) (s:Int) (bits:List Int):Option (List Int)×Int :=
 if !c.ok then (none,40) else if !c.isState s then (none,41)
 else if !(Ab bits && decide ((bits.length:Int).tmod c.out=0) && decide ((bits.length:Int)<=c.out*24)) then (none,1)
 else match (c.decM bits (bits.length/c.out.toNat) s 0 []).1 with
  |some l=>(some l,0)
  |none=>(none,3)
end Go.Pw
end
section
open Go Go.Pw Go.Proofs
namespace Go.Pw
def AQ.apPW (c:AQ) (rec:Int->List Int->Int) (s first:Int) (mark:List Int):Nat->Int->Int->Int
 |0,_,least=>least
 |k+1,w,least =>
  let bits:=(Cr c.out.toNat (c.wrd s w)).drop first.toNat
  let n:=min mark.length bits.length
  c.apPW rec s first mark k (w+1) (min least (Bv (mark.take n) bits+rec (c.nxt s w) (mark.drop n)))
def AQ.apP (c:AQ):Nat->Int->Int->List Int->Int
 |0,_,_,_=>0
 |n+1,s,first,mark=>if mark=[] then 0 else c.apPW (fun s' mk=>c.apP n s' 0 mk) s first mark c.W 0 16
def AQ.MemGood (c:AQ) (M:List Int) (m:Gp):Prop:=∀e,e∈m->0<=e.1.2/\e.1.2<=M.length/\e.2=c.apP e.1.2.toNat e.1.1 0 (M.drop (M.length-e.1.2.toNat))
theorem Vi:∀(xs ys:List Int) (i:Nat) (v:Int),Bv xs ys-1<=Bv xs (ys.set i v)/\Bv xs (ys.set i v)<=Bv xs ys+1
 |[],ys,i,v=>by simp[Bv]
 |x::xs,[],i,v=>by simp[Bv]
 |x::xs,y::ys,0,v=>by simp only[List.set_cons_zero,Bv];split<;>split<;>omega
 |x::xs,y::ys,i+1,v=>by
  have:=Vi xs ys i v
  simp only[List.set_cons_succ,Bv];omega
theorem RX (xs ys:List Int) (a i:Nat) (v:Int):Bv xs (ys.drop a)-1<=Bv xs ((ys.set i v).drop a)/\Bv xs ((ys.set i v).drop a)<=Bv xs (ys.drop a)+1:=by
 by_cases h:a<=i
 ·rw[List.drop_set,if_neg (by omega)];exact Vi xs _ _ v
 ·rw[List.drop_set,if_pos (by omega)];omega
theorem PI {xs:List Int}(h:Ab xs=true) (i:Nat) {v:Int}(hv:Cq v 0 1=true):Ab (xs.set i v)=true:=by
 simp only[Ab,List.all_eq_true] at *
 intro x hx
 rcases List.mem_or_eq_of_mem_set hx with h1|rfl
 ·exact h x h1
 ·exact hv
end Go.Pw
end
section
open Go Go.Pw Go.Proofs
namespace Go.Pw
def AQ.ownB (c:AQ) (bits:List Int) (p:Int):List Int:=(bits.drop (p*c.out).toNat).take c.out.toNat
def AQ.decPW (c:AQ) (rec:Int->Option (List Int)) (s:Int) (own:List Int):Nat->Int->Option (List Int)
 |0,_=>none
 |n+1,w =>
  if own=Cr c.out.toNat (c.wrd s w) then
   match rec (c.nxt s w) with
   |some l=>some (w::l)
   |none=>c.decPW rec s own n (w+1)
  else c.decPW rec s own n (w+1)
def AQ.decP (c:AQ) (bits:List Int):Nat->Int->Int->Option (List Int)
 |0,_,_=>some []
 |k+1,s,p=>c.decPW (fun s'=>c.decP bits k s' (p+1)) s (c.ownB bits p) c.W 0
def AQ.TabOk (c:AQ) (bits:List Int) (K:Int) (m:Gp):Prop:=∀e,e∈m->c.decP bits (K-e.1.2).toNat e.1.1 e.1.2=none
end Go.Pw
end
section
open Go Go.Pw Go.Proofs
namespace Go.Pw
def AQ.lev (c:AQ):Nat->List IT
 |0=>c.pairs0
 |j+1=>c.level (c.lev j) (decide ((j:Int)+1=1))
theorem AQ.wrd_range (c:AQ) (h:c.ok=true) {s w:Int}(hs:c.isState s=true) (hw:c.isWord w=true):0<=c.wrd s w/\c.wrd s w<=2^c.out.toNat-1:=by
 have hd:=AQ.ok_head h
 have hWe:=AQ.W_eq' c
 simp only[AQ.isState,AQ.isWord,Cq,decide_eq_true_eq] at hs hw
 obtain⟨h1,h2⟩:=AQ.ok_words h s.toNat (by omega)
 refine h2 _ (DS ?_)
 rw[h1]
 have:((2^c.bits.toNat:Nat):Int)=2^c.bits.toNat:=by simp
 omega
end Go.Pw
end
section
open Go Go.Pw Go.Proofs
namespace Go.Pw
set_option maxRecDepth 100000
set_option maxHeartbeats 1600000
attribute [local congr] Bi A9 A_ Aq Bj Ax Az Ay Ap Aj Ad AY Au Ae Av BH BL BJ BK BI BM BE Ah Aw Ai BC BS Ag BF BG BD BA BB A8 Bl A' Ar Af
attribute [local irreducible] IntKind.wrap A3 Option.getD and or
theorem OJ (c:AQ) (y0:Int) (h:0<=c.out/\c.out<=5) (hx:0<=y0/\y0<=1000):CK E0 LG [HV c,.int .i64 y0] (.list (Cr c.out.toNat y0).isEmpty (Al (Cr c.out.toNat y0))):=by
 refine AM Oc A0 (by simp) fun hwf=>?_
 rw[AU];unfold Jp
 (try (simp -implicitDefEqProofs only[go_sem,BO,A6,BN]));repeat' first|(with_reducible first|exact tI|refine aI ?_ ?_|intro _)|((first|with_reducible refine AO ?_ ?_<;>intro _)<;>try (simp -implicitDefEqProofs only[go_sem,BO,A6,BN]))|simp (disch:=omega) only[An]|((with_reducible refine BU ?_);refine⟨(_,_,_),rfl,?_,?_⟩)
 all_goals (try simp (disch:=omega) only[An] at *)
 refine AZ (α:=Int×Bool×(List Int)) (l0:=?l1) (m0:=?m1) (fun x=>[(6,.d (.int .i64 x.1))]) (fun x=>[(21,.row SZ 1 x.2.1 (Al x.2.2))]) (fun x=>-1<=x.1/\x.1<c.out/\x.2.2.length+x.1=c.out-1/\x.2.1=x.2.2.isEmpty/\x.2.2++Cr (x.1+1).toNat y0=Cr c.out.toNat y0) (fun x=>(x.1+1).toNat) (?a1_0,?a1_1,[]) ?h01 ?he1 ?he21 ?hI1 ?step1
 case h01=>(simp -implicitDefEqProofs only[go_sem];rfl)
 case he1=>rfl
 case he21=>rfl
 case' step1=>(rintro⟨i,nl,acc⟩ hI;try dsimp only at hI)
 case' hI1=>try dsimp only
 ·simp;(try omega)
 ·obtain⟨h1,h2,h3,h4,h5⟩:=hI
  by_cases hi:0<=i
  ·have hb:Cr (i+1).toNat y0=(y0/2^i.toNat%2)::Cr i.toNat y0:=by rw[show (i+1).toNat=i.toNat+1 by omega,Cr]
   rw[hb] at h5
   have hu:IntKind.u64.wrap i=i:=jO _ (by omega)
   (try (simp -implicitDefEqProofs only[go_sem,hu]));repeat' first|(with_reducible first|exact tI|refine aI ?_ ?_|intro _)|((first|with_reducible refine AO ?_ ?_<;>intro _)<;>try (simp -implicitDefEqProofs only[go_sem,hu]))|simp (disch:=omega) only[An]|((with_reducible refine BU ?_);refine⟨(_,_,_),rfl,?_,?_⟩)
   all_goals (try simp (disch:=omega) only[An] at *)
   all_goals first|omega|(simp;done)|(simp;omega)|skip
   all_goals (rw[←h5,show (i-1+1).toNat=i.toNat by omega];simp)
  ·have h0:(i+1).toNat=0:=by omega
   rw[h0,Cr,List.append_nil] at h5
   (try (simp -implicitDefEqProofs only[go_sem]));repeat' first|(with_reducible first|exact tI|refine aI ?_ ?_|intro _)|((first|with_reducible refine AO ?_ ?_<;>intro _)<;>try (simp -implicitDefEqProofs only[go_sem]))|simp (disch:=omega) only[An]|((with_reducible refine BU ?_);refine⟨(_,_,_),rfl,?_,?_⟩)
   all_goals first|omega|(simp;done)|(simp;omega)|skip
   all_goals (rw[←h5,h4])
theorem OI (c:AQ) (h:c.ok=true) (s:Int) (nl:Bool) (l:List Int) (hs:c.isState s=true) (hw:∀w,w∈l->c.isWord w=true) (hl:l.length<=24) :
  CK E0 LF [HV c,.int .i64 s,.list nl (Al l)] (.tup [.list (c.stream s l).1.isEmpty (Al (c.stream s l).1),.int .i64 (c.stream s l).2]):=by
 refine AM Ob A0 (by simp) fun hwf=>?_
 have hd:=AQ.ok_head h
 rw[AU];unfold Jo
 (try (simp -implicitDefEqProofs only[go_sem,BO,A6,BN]));repeat' first|(with_reducible first|exact tI|refine aI ?_ ?_|intro _)|((first|with_reducible refine AO ?_ ?_<;>intro _)<;>try (simp -implicitDefEqProofs only[go_sem,BO,A6,BN]))|simp (disch:=omega) only[An]|((with_reducible refine Cb ?_);refine⟨(_,_,_,_),rfl,?_,?_⟩)
 refine AZ (α:=Int×Int×Bool×(List Int)) (l0:=?l2) (m0:=?m2) (fun x=>[(8,.d (.int .i64 x.1)),(1,.d (.int .i64 x.2.1))]) (fun x=>[(29,.row SZ 1 x.2.2.1 (Al x.2.2.2))]) (fun x=>0<=x.1/\x.1<=l.length/\c.isState x.2.1=true/\x.2.2.1=x.2.2.2.isEmpty/\x.2.2.2.length<=5*x.1/\(x.2.2.2++(c.stream x.2.1 (l.drop x.1.toNat)).1,(c.stream x.2.1 (l.drop x.1.toNat)).2)=c.stream s l) (fun x=>(l.length-x.1).toNat) (?a2_0,s,?a2_2,[]) ?h02 ?he2 ?he22 ?hI2 ?step2
 case h02=>(simp -implicitDefEqProofs only[go_sem];rfl)
 case he2=>rfl
 case he22=>rfl
 case' step2=>(rintro⟨i,t,n2,acc⟩ hI;try dsimp only at hI)
 case' hI2=>try dsimp only
 ·simp[hs]
 ·obtain⟨hi0,hi1,ht,hn,ha,heq⟩:=hI
  by_cases hi:i<l.length
  ·have hiw:c.isWord (l[i.toNat]?.getD 0)=true:=hw _ (DS (by omega))
   have hr:=AQ.wrd_range c h ht hiw
   have hp5:(2:Int)^c.out.toNat<=32:=by
    have:c.out.toNat=1\/c.out.toNat=2\/c.out.toNat=3\/c.out.toNat=4\/c.out.toNat=5:=by omega
    rcases this with h|h|h|h|h<;>rw[h]<;>decide
   have hst:=AQ.nxt_state h ht hiw
   have cs:=OJ c (c.wrd t (l[i.toNat]?.getD 0)) (by omega) (by omega)
   have hbl:=IQ c.out.toNat (c.wrd t (l[i.toNat]?.getD 0))
   have hdr:l.drop i.toNat=(l[i.toNat]?.getD 0)::l.drop (i+1).toNat:=by rw[HL (xs:=l) (i:=i.toNat) (by omega),show (i+1).toNat=i.toNat+1 by omega]
   rw[hdr] at heq
   simp only[AQ.stream] at heq
   have ht':=ht
   have hiw':=hiw
   simp only[AQ.isState,AQ.isWord,Cq,decide_eq_true_eq] at ht' hiw'
   have hr1:=AQ.ok_words h t.toNat (by omega)
   have hr2:=AQ.ok_next h t.toNat (by omega)
   have hnc:((2^c.bits.toNat:Nat):Int)=2^c.bits.toNat:=by simp
   generalize hw0:l[i.toNat]?.getD 0=w at *
   generalize Cr c.out.toNat (c.wrd t w)=B at *
   have hBe:B.isEmpty=false:=by cases B with
    |nil=>simp at hbl;omega
    |cons _ _=>rfl
   (try (simp -implicitDefEqProofs only[go_sem,BO,A6,BN,DJ,c.nxt_eq,c.wrd_eq,hw0]));repeat' first|(with_reducible first|exact tI|refine aI ?_ ?_|intro _)|((first|with_reducible refine AO ?_ ?_<;>intro _|(with_reducible refine isCall ?_);first|refine AE cs ?_)<;>try (simp -implicitDefEqProofs only[go_sem,BO,A6,BN,DJ,c.nxt_eq,c.wrd_eq,hw0]))|simp (disch:=omega) only[An]|((with_reducible refine Cb ?_);refine⟨(_,_,_,_),rfl,?_,?_⟩)
   all_goals (try simp (disch:=omega) only[An] at *)
   all_goals first|omega|(simp;done)|(simp;omega)|skip
   all_goals first|exact hst|(rw[c.nxt_eq,←heq];simp;done)|(simp;omega)|(subst hn;cases acc<;>cases B<;>simp_all;done)|skip
  ·have h0:l.drop i.toNat=[]:=List.drop_eq_nil_of_le (by omega)
   rw[h0] at heq
   simp only[AQ.stream,List.append_nil] at heq
   (try (simp -implicitDefEqProofs only[go_sem]));repeat' first|(with_reducible first|exact tI|refine aI ?_ ?_|intro _)|((first|with_reducible refine AO ?_ ?_<;>intro _)<;>try (simp -implicitDefEqProofs only[go_sem]))|simp (disch:=omega) only[An]|((with_reducible refine Cb ?_);refine⟨(_,_,_,_),rfl,?_,?_⟩)
   all_goals first|omega|(simp;done)|(simp;omega)|skip
   all_goals (rw[←heq];try simp[hn])
def ny (o:Option (List Int)):D:=match o with|some l=>.list l.isEmpty (Al l)|none=>.list true []
def n8 (o:Option (List Int)):D:=.bool o.isSome
abbrev oQ:=List (Option (List Int))
def AQ.tbl (c:AQ) (bits:List Int) (K:Nat) (q:Nat):oQ:=(List.range c.words.length).map fun(s:Nat)=>c.decP bits (K-q) (s:Int) (q:Int)
end Go.Pw
end
section
open Go Go.Pw Go.Proofs
namespace Go.Pw
set_option maxRecDepth 100000
set_option maxHeartbeats 12800000
attribute [local congr] Bi A9 A_ Aq Bj Ax Az Ay Ap Aj Ad AY Au Ae Av BH BL BJ BK BI BM BE Ah Aw Ai BC BS Ag BF BG BD BA BB A8 Bl A' Ar Af
attribute [local irreducible] IntKind.wrap A3 Option.getD and or
end Go.Pw
end
section
open Go Go.Pw Go.Proofs
namespace Go.Pw
set_option maxRecDepth 100000
set_option maxHeartbeats 3200000
attribute [local congr] Bi A9 A_ Aq Bj Ax Az Ay Ap Aj Ad AY Au Ae Av BH BL BJ BK BI BM BE Ah Aw Ai BC BS Ag BF BG BD BA BB A8 Bl A' Ar Af
attribute [local irreducible] IntKind.wrap A3 Option.getD and or
def nH (r:Bool×List Int):Bool×List Int:=(false,r.2)
def ne (c:AQ):AQ:=⟨c.bits,c.out,c.least,c.most,c.words.isEmpty,c.words.map nH,c.next.isEmpty,c.next.map nH⟩
end Go.Pw
end
section
open Go Go.Pw Go.Proofs
namespace Go.Pw
set_option maxRecDepth 100000
set_option maxHeartbeats 3200000
attribute [local congr] Bi A9 A_ Aq Bj Ax Az Ay Ap Aj Ad AY Au Ae Av BH BL BJ BK BI BM BE Ah Aw Ai BC BS Ag BF BG BD BA BB A8 Bl A' Ar Af
attribute [local irreducible] IntKind.wrap A3 Option.getD and or
def oc (l:Rows) (n:Nat):Rows:=(l.take n).map nH
end Go.Pw
end
