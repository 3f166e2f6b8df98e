/- A part of the proof. -/
import Derived.Test.YtibkjeolahobbaaGreatDoorPgChrV
import Derived.Test.YtibkjeolahobbaaGreatDoorPgChcJ
import Derived.Test.YtibkjeolahobbaaGreatDoorPgChcA
import Derived.Test.YtibkjeolahobbaaGreatDoorChcSpec2
import Derived.Test.YtibkjeolahobbaaGreatDoorPgChcD
set_option linter.all false
open Go Go.Pw Go.Proofs
namespace Go.Pw
set_option maxRecDepth 100000
set_option maxHeartbeats 12800000
section
def jL (l:List (List F)):List D:=l.map fun r=>.list false (us r)
theorem jf (l:List (List F)):(jL l).length=l.length:=by simp[jL]
theorem dn (l:List (List F)) (r:List F):jL l++[.list false (us r)]=jL (l++[r]):=by simp[jL]
theorem bH {ls:List (List F)}{i:Nat}{A:D->Prop}:Av (jL ls)[i]? A=(i<ls.length/\A (.list false (us (ls[i]?.getD [])))):=by
 unfold jL
 rw[List.getElem?_map]
 by_cases h:i<ls.length
 ·simp[h,Av]
 ·have:ls[i]?=none:=List.getElem?_eq_none (by omega)
  simp[this,h,Av]
attribute [go_sem] jf dn bH
theorem TF (m q k j:Nat) (b:List F) (h:j<m):(Bw m q k b).take j++[b[j*q+k]?.getD 0]=(Bw m q k b).take (j+1):=by
 rw[←IY j h,Az _ 0 j (by rw[Bn];exact h)]
theorem nQ {m q k j n:Nat}(hk:k<q) (hn:n=m*q) (h:j<m):k+j*q<n:=by have:=Pg hk h;omega
theorem nR {m q k n:Nat}(hn:n=m*q):¬k+m*q<n:=by omega
theorem TJ {m q:Nat}(hm:m<=15) (hq:q<=8):m*q<=120:=Nat.mul_le_mul hm hq
def XS (q:Nat) (W:Nat->List F):List (List F):=(List.range q).map W
theorem QE (q:Nat) (W:Nat->List F):(XS q W).length=q:=by simp[XS]
theorem Tn {q:Nat}{W:Nat->List F}{k:Nat}(h:k<q):(XS q W)[k]?.getD []=W k:=by simp[XS,h]
theorem VE {q:Nat}{W:Nat->List F}{k:Nat}(h:k<q):(XS q W).take k++[W k]=(XS q W).take (k+1):=by
 have:=Az (XS q W) [] k (by rw[QE];exact h)
 rwa [Tn h] at this
theorem iq {m q i k:Nat}{W:Nat->List F}(hi:i<m) (hk:k<q):(GL m q W).take (i*q+k)++[(W k)[i]?.getD 0]=(GL m q W).take (i*q+(k+1)):=by
 have h:=Pg hk hi
 rw[←Nat.add_assoc,←Az _ 0 (i*q+k) (by rw[F8];exact h),SC _ h,Up hk,Rm hk]
theorem dM (b:Bool):(b && decide ((0:Nat)=0))=b:=by simp
theorem SE (b:Bool) {k:Nat}(h:k≠0):(b && decide (k=0))=false:=by simp[h]
def d6 (L P Q:Int) (xs:List Int):Int:=if CL L P Q=true then if Bl xs (Q*(L-P))=true then 0 else 51 else 50
def aW (L P Q:Int) (xs:List Int):List Int:=if CL L P Q=true then if Bl xs (Q*(L-P))=true then iv (aV L.toNat P.toNat Q.toNat (fs xs)) else [] else []
noncomputable def jP (L P Q:Int) (xs ms:List Int):Int:=if CL L P Q=true then if Bl xs (Q*L)=true then if Cq ms xs.length=true then oE (Zz L.toNat P.toNat Q.toNat (fs xs) (nt ms)) else 1 else 51 else 50
noncomputable def dU (L P Q:Int) (xs ms:List Int):List Int:=if CL L P Q=true then if Bl xs (Q*L)=true then if Cq ms xs.length=true then iv (oL (Zz L.toNat P.toNat Q.toNat (fs xs) (nt ms))) else [] else [] else []
theorem I7 {L P Q:Int}(h:CL L P Q=true):∃l p q:Nat,L=(l:Int)/\P=(p:Int)/\Q=(q:Int)/\2<=l/\l<=15/\1<=p/\p<=8/\p<l/\1<=q/\q<=8/\DY (l:Int) (p:Int)=true:=by
 obtain⟨hc,h1,h2⟩:=VG h
 obtain⟨l,p,rfl,rfl,b1,b2,b3,b4,b5⟩:=dB hc
 exact⟨l,p,Q.toNat,rfl,rfl,by omega,b1,b2,b3,b4,b5,by omega,by omega,hc⟩
theorem QO {n m q:Nat}(h:(n:Int)=(q:Int)*(m:Int)):n=m*q:=by
 rw[Nat.mul_comm];exact_mod_cast h
theorem WD (q k i:Nat) (ms:List Nat) (h:i<ms.length):NS q k (ms.take (i+1))=if (ms[i]?.getD 0)%q=k then NS q k (ms.take i)++[(ms[i]?.getD 0)/q] else NS q k (ms.take i):=by
 rw[←Az ms 0 i h,WE]
attribute [local irreducible] IntKind.wrap Ai Option.getD and or
theorem Il (L P q m k:Nat) (n:Bool) (b:List F) (hm:m<=15) (hm1:1<=m) (hq:q<=8) (hk:k<q) (hb:b.length=m*q) :
  BR E0 GB [.agg [.int .i64 (L:Int),.int .i64 (P:Int),.int .i64 (q:Int)],.list n (Aa (iv b)),.int .i64 (k:Int)] (.list false (us (Bw m q k b))):=by
 have hmq:=TJ hm hq
 have hpl:=Bn m q k b
 refine AM JI Af (by simp) fun hwf=>?_
 rw[AQ];unfold FV
 (try (simp -implicitDefEqProofs only[go_sem]));repeat' first|(with_reducible first|exact tI|refine aI ?_ ?_|intro _|refine AJ ?_ ?_<;>intro _<;>try simp -implicitDefEqProofs only[go_sem])|simp (disch:=omega) only[Ad]|((with_reducible apply Ag);exact rfl)
 all_goals first|omega|(simp<;>omega)|skip
 refine AU (α:=Nat×Nat×Bool) (l0:=?l1) (m0:=?m1) (fun x=>[(8,.d (.int .i64 (x.2.1:Int)))]) (fun x=>[(25,.row 135 1 x.2.2 (us ((Bw m q k b).take x.1)))]) (fun x=>x.1<=m/\x.2.1=k+x.1*q/\x.2.2=decide (x.1=0)) (fun x=>m-x.1) (0,k,true) ?h01 ?he1 ?he21 ?hI1 ?step1
 case h01=>(simp -implicitDefEqProofs only[go_sem];rfl)
 case he1=>rfl
 case he21=>rfl
 case' step1=>(rintro⟨j,s,e⟩ hI;try dsimp only at hI)
 case' hI1=>try dsimp only
 ·exact⟨Nat.zero_le _,by simp,rfl⟩
 ·obtain⟨h1,hs,h2⟩:=hI
  change e=decide (j=0) at h2
  subst h2
  have hjq:=Nat.mul_le_mul_right q h1
  by_cases h:j<m
  ·have h0:=nQ hk hb h
   rw[←hs] at h0
   have h':(s:Int)<(b.length:Int):=by omega
   have hs2:s+q=k+(j+1)*q:=by rw[Nat.add_mul,Nat.one_mul];omega
   have hwj:IntKind.i64.wrap ((s:Int)+(q:Int))=((s+q:Nat):Int):=by rw[AZ _ (by omega)];omega
   have hst:=TF m q k j b h
   rw[Nat.add_comm (j*q) k,←hs] at hst
   (try (simp -implicitDefEqProofs only[go_sem,h0,h',hwj,hst,nG]));repeat' first|(with_reducible first|exact tI|refine aI ?_ ?_|intro _|refine AJ ?_ ?_<;>intro _<;>try simp -implicitDefEqProofs only[go_sem,h0,h',hwj,hst,nG])|simp (disch:=omega) only[Ad]|((with_reducible apply Ag);exact rfl)
   all_goals first|omega|(simp<;>omega)|skip
   all_goals first|exact⟨hs2,rfl⟩|exact hs2|rfl|skip
  ·have hje:j=m:=by omega
   subst hje
   have h0:=nR (k:=k) hb
   have h':¬(s:Int)<(b.length:Int):=by omega
   have htk:(Bw j q k b).take j=Bw j q k b:=List.take_of_length_le (by omega)
   have hj0:decide (j=0)=false:=decide_eq_false (by omega)
   rw[htk,hj0]
   (try (simp -implicitDefEqProofs only[go_sem,h']));repeat' first|(with_reducible first|exact tI|refine aI ?_ ?_|intro _|refine AJ ?_ ?_<;>intro _<;>try simp -implicitDefEqProofs only[go_sem,h'])|simp (disch:=omega) only[Ad]|((with_reducible apply Ag);exact rfl)
   all_goals first|omega|(simp<;>omega)|skip
   all_goals first|rfl|skip
theorem Im (x:D) (q m:Nat) (W:Nat->List F) (hm:m<=15) (hm1:1<=m) (hq:q<=8) (hq1:1<=q) (hW:∀k,k<q->(W k).length=m) (hx:∃a b c,x=.agg [.int .i64 a,.int .i64 b,.int .i64 c]) :
  BR E0 GC [x,.list false (jL (XS q W))] (.list false (Aa (iv (GL m q W)))):=by
 obtain⟨a,b,c,rfl⟩:=hx
 have hmq:=TJ hm hq
 have hbl:=F8 m q W
 have hwl:=QE q W
 have h0:0<(XS q W).length:=by omega
 have hw0:(XS q W)[0]?.getD []=W 0:=Tn (by omega)
 have hl0:=hW 0 (by omega)
 refine AM JK Af (by simp) fun hwf=>?_
 rw[AQ];unfold FW
 (try (simp -implicitDefEqProofs only[go_sem,h0,hw0,hl0]));repeat' first|(with_reducible first|exact tI|refine aI ?_ ?_|intro _|refine AJ ?_ ?_<;>intro _<;>try simp -implicitDefEqProofs only[go_sem,h0,hw0,hl0])|simp (disch:=omega) only[Ad]|((with_reducible apply Ag);exact rfl)
 all_goals first|omega|(simp<;>omega)|skip
 refine AU (α:=Nat×Nat×Bool) (l0:=?l2) (m0:=?m2) (fun x=>[(13,.d (.int .i64 (x.1:Int)))]) (fun x=>[(29,.row 3 1 x.2.2 (Aa (iv ((GL m q W).take x.2.1))))]) (fun x=>x.1<=m/\x.2.1=x.1*q/\x.2.2=decide (x.1=0)) (fun x=>m-x.1) (0,0,true) ?h02 ?he2 ?he22 ?hI2 ?step2
 case h02=>(simp -implicitDefEqProofs only[go_sem];rfl)
 case he2=>rfl
 case he22=>rfl
 case' step2=>(rintro⟨i,n,e⟩ hI;try dsimp only at hI)
 case' hI2=>try dsimp only
 ·exact⟨Nat.zero_le _,by simp,rfl⟩
 ·obtain⟨i1,hn,i2⟩:=hI
  change e=decide (i=0) at i2
  subst i2
  have hiq:=Nat.mul_le_mul_right q i1
  by_cases h:i<m
  ·have h':(i:Int)<(m:Int):=by omega
   have hwi:IntKind.i64.wrap ((i:Int)+1)=((i+1:Nat):Int):=by rw[AZ _ (by omega)];omega
   have hbs:=fun k hk=>@iq m q i k W h hk
   have hend:i*q+q=(i+1)*q:=by rw[Nat.add_mul];omega
   (try (simp -implicitDefEqProofs only[go_sem,h',hwl]));repeat' first|(with_reducible first|exact tI|refine aI ?_ ?_|intro _|refine AJ ?_ ?_<;>intro _<;>try simp -implicitDefEqProofs only[go_sem,h',hwl])|simp (disch:=omega) only[Ad]|((with_reducible apply Ag);exact rfl)
   all_goals first|omega|(simp<;>omega)|skip
   refine AU (α:=Nat×Nat×Bool) (l0:=?l3) (m0:=?m3) (fun x=>[(18,.d (.int .i64 (x.1:Int)))]) (fun x=>[(29,.row 3 1 x.2.2 (Aa (iv ((GL m q W).take x.2.1))))]) (fun x=>x.1<=q/\x.2.1=i*q+x.1/\x.2.2=(decide (i=0) && decide (x.1=0))) (fun x=>q-x.1) (0,n,(decide (i=0))) ?h03 ?he3 ?he23 ?hI3 ?step3
   case h03=>(simp -implicitDefEqProofs only[go_sem];rfl)
   case he3=>rfl
   case he23=>rfl
   case' step3=>(rintro⟨k,n2,e2⟩ hI2;try dsimp only at hI2)
   case' hI3=>try dsimp only
   ·exact⟨Nat.zero_le _,hn,(dM _).symm⟩
   ·obtain⟨k1,hn2,k2⟩:=hI2
    change e2=(decide (i=0) && decide (k=0)) at k2
    by_cases hk:k<q
    ·have hk':(k:Int)<(q:Int):=by omega
     have hwk:IntKind.i64.wrap ((k:Int)+1)=((k+1:Nat):Int):=by rw[AZ _ (by omega)];omega
     have hg:=Tn (W:=W) hk
     have hkl:=hW k hk
     have hst:=hbs k hk
     have hn3:n2+1=i*q+(k+1):=by omega
     rw[←hn2,←hn3] at hst
     have hfe:false=(decide (i=0) && decide (k+1=0)):=(SE _ (by omega)).symm
     have hnl:n2<=120:=by have:=Pg hk h;omega
     (try (simp -implicitDefEqProofs only[go_sem,hk',hwk,hwl,hk,hg,hkl,hst,h,db]));repeat' first|(with_reducible first|exact tI|refine aI ?_ ?_|intro _|refine AJ ?_ ?_<;>intro _<;>try simp -implicitDefEqProofs only[go_sem,hk',hwk,hwl,hk,hg,hkl,hst,h,db])|simp (disch:=omega) only[Ad]|((with_reducible apply Ag);exact rfl)
     all_goals first|omega|(simp<;>omega)|skip
     all_goals first|exact⟨hn3,hfe⟩|exact hn3|exact hfe|rfl|(simp;done)|skip
    ·have hk':¬(k:Int)<(q:Int):=by omega
     have hke:k=q:=by omega
     have hn3:n2=(i+1)*q:=by omega
     have hfe:e2=decide (i+1=0):=by rw[k2,SE _ (by omega),decide_eq_false (by omega)]
     (try (simp -implicitDefEqProofs only[go_sem,hk',hwl,hwi]));repeat' first|(with_reducible first|exact tI|refine aI ?_ ?_|intro _|refine AJ ?_ ?_<;>intro _<;>try simp -implicitDefEqProofs only[go_sem,hk',hwl,hwi])|simp (disch:=omega) only[Ad]|((with_reducible apply Ag);exact rfl)
     all_goals first|omega|(simp<;>omega)|skip
     all_goals first|exact⟨hn3,hfe⟩|exact hn3|exact hfe|rfl|(simp;done)|skip
  ·have h':¬(i:Int)<(m:Int):=by omega
   have hie:i=m:=by omega
   subst hie
   have htk:(GL i q W).take n=GL i q W:=List.take_of_length_le (by omega)
   have hi0:decide (i=0)=false:=decide_eq_false (by omega)
   rw[htk,hi0]
   (try (simp -implicitDefEqProofs only[go_sem,h']));repeat' first|(with_reducible first|exact tI|refine aI ?_ ?_|intro _|refine AJ ?_ ?_<;>intro _<;>try simp -implicitDefEqProofs only[go_sem,h'])|simp (disch:=omega) only[Ad]|((with_reducible apply Ag);exact rfl)
   all_goals first|omega|(simp<;>omega)|skip
   all_goals first|rfl|skip
theorem Mt (L P Q:Int) (n:Bool) (xs:List Int):BR E0 I1 [.agg [.int .i64 L,.int .i64 P,.int .i64 Q],.list n (Aa xs)] (.tup [.list (aW L P Q xs).isEmpty (Aa (aW L P Q xs)),.int .i64 (d6 L P Q xs)]):=by
 refine AM Ml Af (by simp) fun hwf=>?_
 rw[AQ];unfold HZ aW d6
 cases hw:CL L P Q with
 |false =>
  have c1:=DH L P Q n xs CT (if DY L P=true then L-P else 0) TZ (by
   split
   ·rename_i hc;have:=Kx hc;omega
   ·omega) fun hc=>by rw[if_pos hc];have:=Kx hc;exact Fk L P (by omega)
  unfold nM at c1
  rw[hw] at c1
  simp only[Bool.false_eq_true,if_false] at c1 ⊢
  rw[RP] at c1
  (try (simp -implicitDefEqProofs only[go_sem]));repeat' first|(with_reducible first|exact tI|refine aI ?_ ?_|intro _)|((first|with_reducible refine AJ ?_ ?_<;>intro _|(with_reducible refine isCall ?_);first|refine AE c1 ?_)<;>try (simp -implicitDefEqProofs only[go_sem]))|simp (disch:=omega) only[Ad]|((with_reducible apply Ae);exact rfl)
  all_goals first|rfl|(simp;done)|skip
 |true =>
  obtain⟨l,p,q,rfl,rfl,rfl,b1,b2,b3,b4,b5,b6,b7,hc⟩:=I7 hw
  have c1:=DH l p q n xs CT ((l:Int)-(p:Int)) TZ (by omega) fun hc=>Fk l p (by omega)
  unfold nM at c1
  rw[hw] at c1
  simp only[if_true] at c1 ⊢
  cases hs:Bl xs ((q:Int)*((l:Int)-(p:Int))) with
  |false =>
   rw[hs] at c1
   simp only[Bool.false_eq_true,if_false] at c1 ⊢
   rw[X6] at c1
   (try (simp -implicitDefEqProofs only[go_sem]));repeat' first|(with_reducible first|exact tI|refine aI ?_ ?_|intro _)|((first|with_reducible refine AJ ?_ ?_<;>intro _|(with_reducible refine isCall ?_);first|refine AE c1 ?_)<;>try (simp -implicitDefEqProofs only[go_sem]))|simp (disch:=omega) only[Ad]|((with_reducible apply Ae);exact rfl)
   all_goals first|rfl|(simp;done)|skip
  |true =>
   rw[hs] at c1
   simp only[if_true] at c1 ⊢
   rw[Zh] at c1
   obtain⟨hl,hf⟩:=NC hs
   obtain⟨d,hd⟩:∃d,fs xs=d:=⟨_,rfl⟩
   rw[hd] at hf ⊢
   subst hf
   rw[Gx,show ((l:Int)-(p:Int))=((l-p:Nat):Int) by omega] at hl
   have hdl:=QO hl
   simp only[Int.toNat_natCast]
   have c2:=fun k hk=>Il l p q (l-p) k n d (by omega) (by omega) b7 hk hdl
   have hW0:aV l p q d=GL l q fun k=>Hp p (Bw (l-p) q k d):=rfl
   have c3:=fun k=>Mr l p false (Bw (l-p) q k d) b2 b3 (by rw[Bn];omega) (by rw[Bn];omega) rfl
   have hWl:∀k,k<q->(Hp p (Bw (l-p) q k d)).length=l:=fun k _=>by rw[Ia,Bn];omega
   obtain⟨W,hW⟩:∃W:Nat->List F,(fun k=>Hp p (Bw (l-p) q k d))=W:=⟨_,rfl⟩
   have hWk:∀k,Hp p (Bw (l-p) q k d)=W k:=fun k=>by rw[←hW]
   simp only[hWk] at c3 hWl
   rw[hW] at hW0
   rw[hW0]
   have c4:=Im (.agg [.int .i64 (l:Int),.int .i64 (p:Int),.int .i64 (q:Int)]) q l W b2 (by omega) b7 b6 hWl ⟨_,_,_,rfl⟩
   have hB:0<(GL l q W).length:=by rw[F8];exact Nat.mul_pos (by omega) (by omega)
   rw[Mc hB]
   have hst:=fun k hk=>@VE q W k hk
   have hwl:=QE q W
   (try (simp -implicitDefEqProofs only[go_sem]));repeat' first|(with_reducible first|exact tI|refine aI ?_ ?_|intro _)|((first|with_reducible refine AJ ?_ ?_<;>intro _|(with_reducible refine isCall ?_);first|refine AE c1 ?_)<;>try (simp -implicitDefEqProofs only[go_sem]))|simp (disch:=omega) only[Ad]|((with_reducible apply Ae);exact rfl)
   all_goals first|omega|(simp<;>omega)|skip
   refine AU (α:=Nat×Bool) (l0:=?l4) (m0:=?m4) (fun x=>[(21,.d (.int .i64 (x.1:Int)))]) (fun x=>[(33,.row 110 1 x.2 (jL ((XS q W).take x.1)))]) (fun x=>x.1<=q/\x.2=decide (x.1=0)) (fun x=>q-x.1) (0,true) ?h04 ?he4 ?he24 ?hI4 ?step4
   case h04=>(simp -implicitDefEqProofs only[go_sem];rfl)
   case he4=>rfl
   case he24=>rfl
   case' step4=>(rintro⟨k,e⟩ hI;try dsimp only at hI)
   case' hI4=>try dsimp only
   ·exact⟨Nat.zero_le _,rfl⟩
   ·obtain⟨k1,k2⟩:=hI
    change e=decide (k=0) at k2
    subst k2
    by_cases hk:k<q
    ·have hk':(k:Int)<(q:Int):=by omega
     have hwk:IntKind.i64.wrap ((k:Int)+1)=((k+1:Nat):Int):=by rw[AZ _ (by omega)];omega
     have c5:=c2 k hk
     have c6:=c3 k
     have hst2:=hst k hk
     rw[A4] at c6
     (try (simp -implicitDefEqProofs only[go_sem,hk',hwk,hst2]));repeat' first|(with_reducible first|exact tI|refine aI ?_ ?_|intro _)|((first|with_reducible refine AJ ?_ ?_<;>intro _|(with_reducible refine isCall ?_);first|refine AE c5 ?_|refine AE c6 ?_)<;>try (simp -implicitDefEqProofs only[go_sem,hk',hwk,hst2]))|simp (disch:=omega) only[Ad]|((with_reducible apply Ae);exact rfl)
     all_goals first|omega|(simp<;>omega)|skip
     all_goals first|rfl|skip
    ·have hk':¬(k:Int)<(q:Int):=by omega
     have hke:k=q:=by omega
     have hk0:decide (k=0)=false:=decide_eq_false (by omega)
     have htk:(XS q W).take k=XS q W:=List.take_of_length_le (by omega)
     rw[hk0,htk]
     (try (simp -implicitDefEqProofs only[go_sem,hk']));repeat' first|(with_reducible first|exact tI|refine aI ?_ ?_|intro _)|((first|with_reducible refine AJ ?_ ?_<;>intro _|(with_reducible refine isCall ?_);first|refine AE c4 ?_)<;>try (simp -implicitDefEqProofs only[go_sem,hk']))|simp (disch:=omega) only[Ad]|((with_reducible apply Ae);exact rfl)
     all_goals first|rfl|omega|(simp;done)|skip
end
theorem ct {L:Nat}{r w v:List F}{mk:List Nat}(h:∀j,j<L->j∉mk->w[j]?.getD 0=v[j]?.getD 0):QR L r w mk=QR L r v mk:=by
 unfold QR
 refine List.filter_congr fun j hj=>?_
 have hj':j<L:=by simpa using hj
 by_cases hm:j∈mk
 ·simp[hm]
 ·rw[h j hj' hm]
theorem cu {L P:Nat}(hL:L<=15) {w v:List F}{mk:List Nat}(hw:w.length=L) (hv:v.length=L) (hm:XV L mk) (h:∀j,j<L->j∉mk->w[j]?.getD 0=v[j]?.getD 0):GK L P w mk=GK L P v mk:=by
 have go:∀{w v:List F}{r:List F},w.length=L->v.length=L->(∀j,j<L->j∉mk->w[j]?.getD 0=v[j]?.getD 0)->GK L P w mk=some r->GK L P v mk=some r:=fun {w v r} hw hv h hd=>by
  obtain⟨h1,h2,h3⟩:=Kn hw hm hd
  exact iK hL hv h2 hm h1 (by rw[←ct h];exact h3)
 cases hd:GK L P w mk with
 |some r=>rw[go hw hv h hd]
 |none=>cases he:GK L P v mk with
  |none=>rfl
  |some r=>rw[go hv hw (fun j h1 h2=>(h j h1 h2).symm) he] at hd;cases hd
theorem gN {L P q:Nat}(hL:L<=15) (hq:0<q) {B C:List F}{ms:List Nat}(hm:XV (L*q) ms) (h:∀i,i<L*q->i∉ms->B[i]?.getD 0=C[i]?.getD 0):Zz L P q B ms=Zz L P q C ms:=by
 have h0:∀k,k<q->UV L P q B ms k=UV L P q C ms k:=fun k hk=>by
  unfold UV
  refine cu hL (Bn ..) (Bn ..) (QM hq hm) fun j hj hn=>?_
  rw[IY j hj,IY j hj]
  exact h _ (Pg hk hj) fun hh=>hn ((Zq hk).2 hh)
 by_cases ha:∀k,k<q->(UV L P q B ms k).isSome=true
 ·rw[Ra ha,Ra (fun k hk=>by rw[←h0 k hk];exact ha k hk)]
  congr 1
  refine SD hq fun k hk=>?_
  unfold Zy;rw[h0 k hk]
 ·unfold Zz
  rw[if_neg ha,if_neg fun hh=>ha fun k hk=>by rw[h0 k hk];exact hh k hk]
def AX.ok (c:AX):Bool:=c.code.ok && (CL c.L c.P c.Q && (decide (c.Q*c.L<=32) && (CE c.mark && (B_ c.seed 1 127 && (B_ c.errs 0 16 && Ib c.code 16)))))
def AX.flat (c:AX) (X:List Int):List Int:=X.flatMap fun x=>c.code.stm x.toNat
def Q5 (c:AX) (block:List Int):List Int:=c.mark++c.flat (Bd c.seed block)
def qU (c:AX) (d:List Int):List Int:=if c.ok=true then if d6 c.L c.P c.Q d=0 then Q5 c (aW c.L c.P c.Q d) else [] else []
def rZ (c:AX) (d:List Int):Int:=if c.ok=true then if d6 c.L c.P c.Q d=0 then 0 else 51 else 130
noncomputable def YW (c:AX) (sy:List (Option Nat)):List Int:=dU c.L c.P c.Q (Bd c.seed (GV sy)) (ni (J_ sy))
noncomputable def XU (c:AX) (sy:List (Option Nat)):Int:=jP c.L c.P c.Q (Bd c.seed (GV sy)) (ni (J_ sy))
def Dr (bits:List Int):Bool:=decide (bits.length<=1000) && Al bits
noncomputable def ej (c:AX) (bits:List Int):Int:=if c.ok=true then if Dr bits=true then match c.find bits with
 |none=>3
 |some a=>XU c (c.syL bits a)
 else 131 else 130
noncomputable def Zd (c:AX) (bits:List Int):List Int:=if c.ok=true then if Dr bits=true then match c.find bits with
 |none=>[]
 |some a=>YW c (c.syL bits a)
 else [] else []
noncomputable def em (c:AX) (bits:List Int):Int:=if c.ok=true then if Dr bits=true then match c.find bits with
 |none=>0
 |some a=>if XU c (c.syL bits a)=0 then a else 0
 else 0 else 0
theorem Wp {α:Type}(a b:List α) (n:Nat):(a++b).drop (a.length+n)=b.drop n:=by
 rw[List.drop_append,List.drop_eq_nil_of_le (by omega),List.nil_append,show a.length+n-a.length=n by omega]
theorem TN {α:Type}{f:α->List Int}{m:Nat}(hf:∀x,(f x).length=m):∀(l:List α) (i:Nat) (h:i<l.length),((l.flatMap f).drop (i*m)).take m=f l[i]
 |[],_,h=>by cases h
 |x::l,0,_=>by
  rw[Nat.zero_mul,List.drop_zero,List.flatMap_cons]
  exact List.take_left' (hf x)
 |x::l,i+1,h=>by
  rw[List.flatMap_cons,show (i+1)*m=(f x).length+i*m by rw[hf,Nat.succ_mul];omega,Wp]
  exact TN hf l i (by simpa using h)
theorem WY {α:Type}{f:α->List Int}{m:Nat}(hf:∀x,(f x).length=m):∀l:List α,(l.flatMap f).length=l.length*m
 |[]=>by simp
 |x::l=>by rw[List.flatMap_cons,List.length_append,hf,WY hf l,List.length_cons,Nat.succ_mul];omega
theorem PE (c:AX) (X:List Int):(c.flat X).length=X.length*c.code.sz:=WY (fun x=>LO ..) X
theorem j9 (c:AX) (b:List Int):(Q5 c b).length=c.mark.length+b.length*c.code.sz:=by
 unfold Q5;rw[List.length_append,PE,Bm]
theorem eM (c:AX) (X rest:List Int) (i:Nat) (h:i<X.length):c.part (c.mark++c.flat X++rest) 0 i=c.code.stm (X[i]?.getD 0).toNat:=by
 unfold AX.part
 rw[Nat.zero_add,List.append_assoc,Wp]
 have h1:=PE c X
 have h2:(i+1)*c.code.sz<=X.length*c.code.sz:=Nat.mul_le_mul_right _ h
 rw[Nat.succ_mul] at h2
 rw[List.drop_append_of_le_length (by rw[h1];omega),List.take_append_of_le_length (by rw[List.length_drop,h1];omega)]
 have:=TN (f:=fun x:Int=>c.code.stm x.toNat) (fun x=>LO ..) X i h
 rw[List.getElem?_eq_getElem h]
 exact this
section
attribute [local irreducible] IntKind.wrap Ai Option.getD and or
abbrev GM:=List (H4×Int)
def r8 (e:H4×Int):D×D:=(nL e.1,.int .i64 e.2)
def sm (m:GM):List (D×D):=m.map r8
def fY (k:H4):GM->Option Int
 |[]=>none
 |e::m=>if k=e.1 then some e.2 else fY k m
def qf (k:H4) (v:Int):GM->GM
 |[]=>[(k,v)]
 |e::m=>if k=e.1 then (e.1,v)::m else e::qf k v m
def AW.apW (c:AW) (rec:Int->List Int->GM->Int×GM) (s first:Int) (mark:List Int):Nat->Int->Int->GM->Int×GM
 |0,_,least,m=>(least,m)
 |k+1,w,least,m =>
  let bits:=(CH c.out.toNat (c.wrd s w)).drop first.toNat
  let n:=min mark.length bits.length
  let r:=rec (c.nxt s w) (mark.drop n) m
  c.apW rec s first mark k (w+1) (min least (B' (mark.take n) bits+r.1)) r.2
def AW.apM (c:AW):Nat->Int->Int->List Int->GM->Int×GM
 |0,_,_,_,m=>(0,m)
 |n+1,s,first,mark,m =>
  if mark=[] then (0,m) else
  match fY (s,mark.length) m with
  |some v=>if first=0 then (v,m) else c.apW (fun s' mk m'=>c.apM n s' 0 mk m') s first mark c.W 0 16 m
  |none=>let r:=c.apW (fun s' mk m'=>c.apM n s' 0 mk m') s first mark c.W 0 16 m
   if first=0 then (r.1,qf (s,mark.length) r.1 r.2) else r
def s8 (m:GM):Prop:=∀e,e∈m->0<=e.2/\e.2<=16
theorem Mg:∀(xs ys:List Int),0<=B' xs ys/\B' xs ys<=xs.length
 |[],_=>by simp[B']
 |_::_,[]=>by simp[B'];omega
 |x::xs,y::ys=>by
  have:=Mg xs ys
  simp only[B',List.length_cons]
  split<;>omega
theorem EB {xs:List Int}(h:Al xs=true) (n:Nat):Al (xs.take n)=true:=by
 simp only[Al,List.all_eq_true] at *
 exact fun x hx=>h x (List.mem_of_mem_take hx)
theorem AW.W_eq' (c:AW):(c.W:Int)=2^c.bits.toNat:=by simp[AW.W]
abbrev s_:qQ:=(true,[some .i64,some .i64])
end
section
attribute [local irreducible] IntKind.wrap Ai Option.getD and or
def AW.apFirst (c:AW) (mark:List Int) (s:Int):Nat->Int->Int->GM->Int×GM
 |0,_,least,m=>(least,m)
 |k+1,f,least,m=>c.apFirst mark s k (f+1) (min least (c.apM 16 s f mark m).1) (c.apM 16 s f mark m).2
def AW.apStates (c:AW) (mark:List Int):Nat->Int->Int->GM->Int×GM
 |0,_,least,m=>(least,m)
 |k+1,s,least,m=>c.apStates mark k (s+1) (c.apFirst mark s c.out.toNat 0 least m).1 (c.apFirst mark s c.out.toNat 0 least m).2
def AW.apart (c:AW) (mark:List Int):Int:=(c.apStates mark c.words.length 0 16 []).1
def AW.apartR (c:AW) (mark:List Int):Int×Int:=if !c.ok then (0,40) else if !CE mark then (0,1) else (c.apart mark,0)
theorem MY (n1 n2:Bool) (xs ys:List Int) (at_:Int) (h0:0<=at_) (hl:at_+xs.length<=ys.length) (h128:xs.length<=1000000) (h129:ys.length<=1000000) :
  BR E0 Iz [.list n1 (Aa xs),.list n2 (Aa ys),.int .i64 at_] (.int .i64 (B' xs (ys.drop at_.toNat))):=by
 refine AM Mj Af (by simp) fun hwf=>?_
 rw[AQ];unfold HX
 simp -implicitDefEqProofs only[go_sem]
 obtain⟨Y,hY⟩:∃Y,ys.drop at_.toNat=Y:=⟨_,rfl⟩
 have hYl:Y.length=ys.length-at_.toNat:=by rw[←hY];simp
 rw[hY]
 refine AU (α:=Int×Int) (l0:=?l1) (m0:=?m1) (fun x=>[(8,.d (.int .i64 x.1)),(7,.d (.int .i64 x.2))]) (fun x=>[]) (fun x=>0<=x.1/\x.1<=xs.length/\0<=x.2/\x.2<=x.1/\x.2+B' (xs.drop x.1.toNat) (Y.drop x.1.toNat)=B' xs Y) (fun x=>(xs.length-x.1).toNat) (?a1_0,?a1_1) ?h01 ?he1 ?he21 ?hI1 ?step1
 case h01=>(simp -implicitDefEqProofs only[go_sem];rfl)
 case he1=>rfl
 case he21=>rfl
 case' step1=>(rintro⟨i,n⟩ hI;try dsimp only at hI)
 case' hI1=>try dsimp only
 ·simp
 ·obtain⟨hi0,hi1,hn0,hn1,heq⟩:=hI
  by_cases hi:i<xs.length
  ·have hg:Y[i.toNat]?.getD 0=ys[(at_+i).toNat]?.getD 0:=by
    rw[←hY,List.getElem?_drop,show at_.toNat+i.toNat=(at_+i).toNat by omega]
   have hd:B' (xs.drop i.toNat) (Y.drop i.toNat)=(if xs[i.toNat]?.getD 0=ys[(at_+i).toNat]?.getD 0 then 0 else 1)+B' (xs.drop (i+1).toNat) (Y.drop (i+1).toNat):=by
    rw[ER (xs:=xs) (i:=i.toNat) (by omega),ER (xs:=Y) (i:=i.toNat) (by omega),B',hg,show (i+1).toNat=i.toNat+1 by omega]
   rw[hd] at heq
   have hwr:IntKind.i64.wrap (at_+i)=at_+i:=AZ _ (by omega)
   (try (simp -implicitDefEqProofs only[go_sem,hwr]));repeat' first|(with_reducible first|exact tI|refine aI ?_ ?_|intro _|refine AJ ?_ ?_<;>intro _<;>try simp -implicitDefEqProofs only[go_sem,hwr])|simp (disch:=omega) only[Ad]|((with_reducible apply Ae);exact rfl)
   all_goals first|omega|(simp<;>omega)|skip
   all_goals simp_all
   all_goals omega
  ·(try (simp -implicitDefEqProofs only[go_sem]));repeat' first|(with_reducible first|exact tI|refine aI ?_ ?_|intro _|refine AJ ?_ ?_<;>intro _<;>try simp -implicitDefEqProofs only[go_sem])|simp (disch:=omega) only[Ad]|((with_reducible apply Ae);exact rfl)
   all_goals first|omega|(simp<;>omega)|skip
   have h0:xs.drop i.toNat=[]:=List.drop_eq_nil_of_le (by omega)
   rw[h0,show B' [] (Y.drop i.toNat)=0 by simp[B']] at heq
   rw[←heq];simp
theorem Og (nl:Bool) (xs:List Int):BR E0 LB [.list nl (Aa xs)] (.bool (CE xs)):=by
 refine AM O2 Af (by simp) fun hwf=>?_
 rw[AQ];unfold Jg
 (try (simp -implicitDefEqProofs only[go_sem]));repeat' first|(with_reducible first|exact tI|refine aI ?_ ?_|intro _)|((first|with_reducible refine AJ ?_ ?_<;>intro _|(with_reducible refine isCall ?_);first|refine AE (B7 _ _ _) ?_|refine AE (E4 nl xs) ?_)<;>try (simp -implicitDefEqProofs only[go_sem]))|simp (disch:=omega) only[Ad]
 all_goals simp_all[CE]
def oS (bits:List Int):List Int->List Int->List Int
 |out,[]=>out
 |out,s::l=>oS bits (if 0<=s/\s<bits.length then out.set s.toNat (1-bits[s.toNat]?.getD 0) else out) l
end
section
attribute [local irreducible] IntKind.wrap Ai Option.getD and or
def AW.decW (c:AW) (rec:Int->GM->Option (List Int)×GM) (s:Int) (own:List Int):Nat->Int->GM->Option (List Int)×GM
 |0,_,m=>(none,m)
 |n+1,w,m =>
  if own=CH c.out.toNat (c.wrd s w) then
   match (rec (c.nxt s w) m).1 with
   |some l=>(some (w::l),(rec (c.nxt s w) m).2)
   |none=>c.decW rec s own n (w+1) (rec (c.nxt s w) m).2
  else c.decW rec s own n (w+1) m
def AW.decM (c:AW) (bits:List Int):Nat->Int->Int->GM->Option (List Int)×GM
 |0,_,_,m=>(some [],m)
 |k+1,s,p,m =>
  if fY (s,p) m=none then
   match (c.decW (fun s' m'=>c.decM bits k s' (p+1) m') s ((bits.drop (p*c.out).toNat).take c.out.toNat) c.W 0 m).1 with
   |some l=>(some l,(c.decW (fun s' m'=>c.decM bits k s' (p+1) m') s ((bits.drop (p*c.out).toNat).take c.out.toNat) c.W 0 m).2)
   |none=>(none,(c.decW (fun s' m'=>c.decM bits k s' (p+1) m') s ((bits.drop (p*c.out).toNat).take c.out.toNat) c.W 0 m).2++[((s,p),1)])
  else (none,m)
def AW.Tab (c:AW) (m:GM):Prop:=(m.map (·.1)).Nodup/\∀e,e∈m->e.2=1/\c.isState e.1.1=true/\0<=e.1.2/\e.1.2<=24
def sX (p:Int) (m m':GM):Prop:=∀e,e∈m'->e∈m\/p<=e.1.2
def sh (o:Option (List Int)):D:=match o with|some l=>.list false (Aa l)|none=>.list true []
theorem Jo (n1 n2:Bool) (xs ys:List Int):BR E0 FF [.list n1 (Aa xs),.list n2 (Aa ys)] (.bool (decide (xs=ys))):=by
 refine AM Hr Af (by simp) fun hwf=>?_
 simp only[CU,Bu,Bt,Bq,Cd,Cc,Dt,Cb,A2,A9,A_,Bz,BG,List.length_map,BH,true_and,and_true] at hwf
 rw[AQ];unfold Ef
 by_cases hl:xs.length=ys.length
 ·(try (simp -implicitDefEqProofs only[go_sem]));repeat' first|(with_reducible first|exact tI|refine aI ?_ ?_|intro _|refine AJ ?_ ?_<;>intro _<;>try simp -implicitDefEqProofs only[go_sem])|simp (disch:=omega) only[Ad]|((with_reducible apply Ab);exact rfl)
  all_goals first|omega|(simp<;>omega)|skip
  refine AU (α:=Int) (l0:=?l1) (m0:=?m1) (fun x=>[(13,.d (.int .i64 x))]) (fun x=>[]) (fun x=>0<=x/\x<=xs.length/\xs.take x.toNat=ys.take x.toNat) (fun x=>(xs.length-x).toNat) ?a1_0 ?h01 ?he1 ?he21 ?hI1 ?step1
  case h01=>(simp -implicitDefEqProofs only[go_sem];rfl)
  case he1=>rfl
  case he21=>rfl
  case' step1=>(rintro i hI;try dsimp only at hI)
  case' hI1=>try dsimp only
  ·simp
  ·obtain⟨hi0,hi1,heq⟩:=hI
   by_cases hi:i<xs.length
   ·have hx:=take_get (xs:=xs) (i:=i.toNat) (by omega)
    have hy:=take_get (xs:=ys) (i:=i.toNat) (by omega)
    have hii:(i+1).toNat=i.toNat+1:=by omega
    by_cases he:xs[i.toNat]?.getD 0=ys[i.toNat]?.getD 0
    ·(try (simp -implicitDefEqProofs only[go_sem]));repeat' first|(with_reducible first|exact tI|refine aI ?_ ?_|intro _|refine AJ ?_ ?_<;>intro _<;>try simp -implicitDefEqProofs only[go_sem])|simp (disch:=omega) only[Ad]|((with_reducible apply Ab);exact rfl)
     all_goals (try simp (disch:=omega) only[Ad] at *)
     all_goals first|omega|(simp<;>omega)|skip
     all_goals (rw[hii,hx,hy,heq,he])
    ·have hne:¬xs=ys:=fun e=>he (by rw[e])
     (try (simp -implicitDefEqProofs only[go_sem]));repeat' first|(with_reducible first|exact tI|refine aI ?_ ?_|intro _|refine AJ ?_ ?_<;>intro _<;>try simp -implicitDefEqProofs only[go_sem])|simp (disch:=omega) only[Ad]|((with_reducible apply Ab);exact rfl)
     all_goals first|omega|(simp<;>omega)|skip
     all_goals first|(exfalso;omega)|simp[hne]
   ·have hxy:xs=ys:=by
     have h1:xs.take i.toNat=xs:=List.take_of_length_le (by omega)
     have h2:ys.take i.toNat=ys:=List.take_of_length_le (by omega)
     rw[←h1,heq,h2]
    (try (simp -implicitDefEqProofs only[go_sem]));repeat' first|(with_reducible first|exact tI|refine aI ?_ ?_|intro _|refine AJ ?_ ?_<;>intro _<;>try simp -implicitDefEqProofs only[go_sem])|simp (disch:=omega) only[Ad]|((with_reducible apply Ab);exact rfl)
    all_goals first|omega|(simp<;>omega)|skip
    all_goals simp[hxy]
 ·have hne:¬xs=ys:=fun e=>hl (by rw[e])
  (try (simp -implicitDefEqProofs only[go_sem]));repeat' first|(with_reducible first|exact tI|refine aI ?_ ?_|intro _|refine AJ ?_ ?_<;>intro _<;>try simp -implicitDefEqProofs only[go_sem])|simp (disch:=omega) only[Ad]|((with_reducible apply Ab);exact rfl)
  all_goals first|(exfalso;omega)|simp[hne]
def AW.decR (c:AW) (s:Int) (bits:List Int):Option (List Int)×Int :=
 if !c.ok then (none,40) else if !c.isState s then (none,41)
 else if !(Al bits && decide ((bits.length:Int).tmod c.out=0) && decide ((bits.length:Int)<=c.out*24)) then (none,1)
 else match (c.decM bits (bits.length/c.out.toNat) s 0 []).1 with
  |some l=>(some l,0)
  |none=>(none,3)
end
def AW.apPW (c:AW) (rec:Int->List Int->Int) (s first:Int) (mark:List Int):Nat->Int->Int->Int
 |0,_,least=>least
 |k+1,w,least =>
  let bits:=(CH c.out.toNat (c.wrd s w)).drop first.toNat
  let n:=min mark.length bits.length
  c.apPW rec s first mark k (w+1) (min least (B' (mark.take n) bits+rec (c.nxt s w) (mark.drop n)))
def AW.apP (c:AW):Nat->Int->Int->List Int->Int
 |0,_,_,_=>0
 |n+1,s,first,mark=>if mark=[] then 0 else c.apPW (fun s' mk=>c.apP n s' 0 mk) s first mark c.W 0 16
def AW.MemGood (c:AW) (M:List Int) (m:GM):Prop:=∀e,e∈m->0<=e.1.2/\e.1.2<=M.length/\e.2=c.apP e.1.2.toNat e.1.1 0 (M.drop (M.length-e.1.2.toNat))
def AW.ownB (c:AW) (bits:List Int) (p:Int):List Int:=(bits.drop (p*c.out).toNat).take c.out.toNat
def AW.decPW (c:AW) (rec:Int->Option (List Int)) (s:Int) (own:List Int):Nat->Int->Option (List Int)
 |0,_=>none
 |n+1,w =>
  if own=CH c.out.toNat (c.wrd s w) then
   match rec (c.nxt s w) with
   |some l=>some (w::l)
   |none=>c.decPW rec s own n (w+1)
  else c.decPW rec s own n (w+1)
def AW.decP (c:AW) (bits:List Int):Nat->Int->Int->Option (List Int)
 |0,_,_=>some []
 |k+1,s,p=>c.decPW (fun s'=>c.decP bits k s' (p+1)) s (c.ownB bits p) c.W 0
def AW.TabOk (c:AW) (bits:List Int) (K:Int) (m:GM):Prop:=∀e,e∈m->c.decP bits (K-e.1.2).toNat e.1.1 e.1.2=none
def AW.lev (c:AW):Nat->List H4
 |0=>c.pairs0
 |j+1=>c.level (c.lev j) (decide ((j:Int)+1=1))
theorem AW.wrd_range (c:AW) (h:c.ok=true) {s w:Int}(hs:c.isState s=true) (hw:c.isWord w=true):0<=c.wrd s w/\c.wrd s w<=2^c.out.toNat-1:=by
 have hd:=AW.ok_head h
 have hWe:=AW.W_eq' c
 simp only[AW.isState,AW.isWord,B_,decide_eq_true_eq] at hs hw
 obtain⟨h1,h2⟩:=AW.ok_words h s.toNat (by omega)
 refine h2 _ (Cs ?_)
 rw[h1]
 have:((2^c.bits.toNat:Nat):Int)=2^c.bits.toNat:=by simp
 omega
section
attribute [local irreducible] IntKind.wrap Ai Option.getD and or
theorem Oe (c:AW) (y0:Int) (h:0<=c.out/\c.out<=5) (hx:0<=y0/\y0<=1000):BR E0 LA [FE c,.int .i64 y0] (.list (CH c.out.toNat y0).isEmpty (Aa (CH c.out.toNat y0))):=by
 refine AM O1 Af (by simp) fun hwf=>?_
 rw[AQ];unfold Jf
 (try (simp -implicitDefEqProofs only[go_sem,Au,Aq,Ao]));repeat' first|(with_reducible first|exact tI|refine aI ?_ ?_|intro _|refine AJ ?_ ?_<;>intro _<;>try simp -implicitDefEqProofs only[go_sem,Au,Aq,Ao])|simp (disch:=omega) only[Ad]|((with_reducible apply Ag);exact rfl)
 all_goals (try simp (disch:=omega) only[Ad] at *)
 refine AU (α:=Int×Bool×(List Int)) (l0:=?l1) (m0:=?m1) (fun x=>[(6,.d (.int .i64 x.1))]) (fun x=>[(21,.row SR 1 x.2.1 (Aa x.2.2))]) (fun x=>-1<=x.1/\x.1<c.out/\x.2.2.length+x.1=c.out-1/\x.2.1=x.2.2.isEmpty/\x.2.2++CH (x.1+1).toNat y0=CH c.out.toNat y0) (fun x=>(x.1+1).toNat) (?a1_0,?a1_1,[]) ?h01 ?he1 ?he21 ?hI1 ?step1
 case h01=>(simp -implicitDefEqProofs only[go_sem];rfl)
 case he1=>rfl
 case he21=>rfl
 case' step1=>(rintro⟨i,nl,acc⟩ hI;try dsimp only at hI)
 case' hI1=>try dsimp only
 ·simp;(try omega)
 ·obtain⟨h1,h2,h3,h4,h5⟩:=hI
  by_cases hi:0<=i
  ·have hb:CH (i+1).toNat y0=(y0/2^i.toNat%2)::CH i.toNat y0:=by rw[show (i+1).toNat=i.toNat+1 by omega,CH]
   rw[hb] at h5
   have hu:IntKind.u64.wrap i=i:=da _ (by omega)
   (try (simp -implicitDefEqProofs only[go_sem,hu]));repeat' first|(with_reducible first|exact tI|refine aI ?_ ?_|intro _|refine AJ ?_ ?_<;>intro _<;>try simp -implicitDefEqProofs only[go_sem,hu])|simp (disch:=omega) only[Ad]|((with_reducible apply Ag);exact rfl)
   all_goals (try simp (disch:=omega) only[Ad] at *)
   all_goals first|omega|(simp<;>omega)|skip
   all_goals (rw[←h5,show (i-1+1).toNat=i.toNat by omega];simp)
  ·have h0:(i+1).toNat=0:=by omega
   rw[h0,CH,List.append_nil] at h5
   (try (simp -implicitDefEqProofs only[go_sem]));repeat' first|(with_reducible first|exact tI|refine aI ?_ ?_|intro _|refine AJ ?_ ?_<;>intro _<;>try simp -implicitDefEqProofs only[go_sem])|simp (disch:=omega) only[Ad]|((with_reducible apply Ag);exact rfl)
   all_goals first|omega|(simp<;>omega)|skip
   all_goals (rw[←h5,h4])
theorem Od (c:AW) (h:c.ok=true) (s:Int) (nl:Bool) (l:List Int) (hs:c.isState s=true) (hw:∀w,w∈l->c.isWord w=true) (hl:l.length<=24) :
  BR E0 K_ [FE c,.int .i64 s,.list nl (Aa l)] (.tup [.list (c.stream s l).1.isEmpty (Aa (c.stream s l).1),.int .i64 (c.stream s l).2]):=by
 refine AM O0 Af (by simp) fun hwf=>?_
 have hd:=AW.ok_head h
 rw[AQ];unfold Je
 (try (simp -implicitDefEqProofs only[go_sem,Au,Aq,Ao]));repeat' first|(with_reducible first|exact tI|refine aI ?_ ?_|intro _|refine AJ ?_ ?_<;>intro _<;>try simp -implicitDefEqProofs only[go_sem,Au,Aq,Ao])|simp (disch:=omega) only[Ad]|((with_reducible apply A8);exact rfl)
 refine AU (α:=Int×Int×Bool×(List Int)) (l0:=?l2) (m0:=?m2) (fun x=>[(8,.d (.int .i64 x.1)),(1,.d (.int .i64 x.2.1))]) (fun x=>[(29,.row SR 1 x.2.2.1 (Aa x.2.2.2))]) (fun x=>0<=x.1/\x.1<=l.length/\c.isState x.2.1=true/\x.2.2.1=x.2.2.2.isEmpty/\x.2.2.2.length<=5*x.1/\(x.2.2.2++(c.stream x.2.1 (l.drop x.1.toNat)).1,(c.stream x.2.1 (l.drop x.1.toNat)).2)=c.stream s l) (fun x=>(l.length-x.1).toNat) (?a2_0,s,?a2_2,[]) ?h02 ?he2 ?he22 ?hI2 ?step2
 case h02=>(simp -implicitDefEqProofs only[go_sem];rfl)
 case he2=>rfl
 case he22=>rfl
 case' step2=>(rintro⟨i,t,n2,acc⟩ hI;try dsimp only at hI)
 case' hI2=>try dsimp only
 ·simp[hs]
 ·obtain⟨hi0,hi1,ht,hn,ha,heq⟩:=hI
  by_cases hi:i<l.length
  ·have hiw:c.isWord (l[i.toNat]?.getD 0)=true:=hw _ (Cs (by omega))
   have hr:=AW.wrd_range c h ht hiw
   have hp5:(2:Int)^c.out.toNat<=32:=by
    have:c.out.toNat=1\/c.out.toNat=2\/c.out.toNat=3\/c.out.toNat=4\/c.out.toNat=5:=by omega
    rcases this with h|h|h|h|h<;>rw[h]<;>decide
   have hst:=AW.nxt_state h ht hiw
   have cs:=Oe c (c.wrd t (l[i.toNat]?.getD 0)) (by omega) (by omega)
   have hbl:=H2 c.out.toNat (c.wrd t (l[i.toNat]?.getD 0))
   have hdr:l.drop i.toNat=(l[i.toNat]?.getD 0)::l.drop (i+1).toNat:=by rw[ER (xs:=l) (i:=i.toNat) (by omega),show (i+1).toNat=i.toNat+1 by omega]
   rw[hdr] at heq
   simp only[AW.stream] at heq
   have ht':=ht
   have hiw':=hiw
   simp only[AW.isState,AW.isWord,B_,decide_eq_true_eq] at ht' hiw'
   have hr1:=AW.ok_words h t.toNat (by omega)
   have hr2:=AW.ok_next h t.toNat (by omega)
   have hnc:((2^c.bits.toNat:Nat):Int)=2^c.bits.toNat:=by simp
   generalize hw0:l[i.toNat]?.getD 0=w at *
   generalize CH c.out.toNat (c.wrd t w)=B at *
   have hBe:B.isEmpty=false:=by cases B with
    |nil=>simp at hbl;omega
    |cons _ _=>rfl
   (try (simp -implicitDefEqProofs only[go_sem,Au,Aq,Ao,B3,c.nxt_eq,c.wrd_eq,hw0]));repeat' first|(with_reducible first|exact tI|refine aI ?_ ?_|intro _)|((first|with_reducible refine AJ ?_ ?_<;>intro _|(with_reducible refine isCall ?_);first|refine AE cs ?_)<;>try (simp -implicitDefEqProofs only[go_sem,Au,Aq,Ao,B3,c.nxt_eq,c.wrd_eq,hw0]))|simp (disch:=omega) only[Ad]|((with_reducible apply A8);exact rfl)
   all_goals (try simp (disch:=omega) only[Ad] at *)
   all_goals first|omega|(simp<;>omega)|skip
   all_goals first|exact hst|(rw[c.nxt_eq,←heq];simp;done)|(simp;omega)|(subst hn;cases acc<;>cases B<;>simp_all;done)|skip
  ·have h0:l.drop i.toNat=[]:=List.drop_eq_nil_of_le (by omega)
   rw[h0] at heq
   simp only[AW.stream,List.append_nil] at heq
   (try (simp -implicitDefEqProofs only[go_sem]));repeat' first|(with_reducible first|exact tI|refine aI ?_ ?_|intro _|refine AJ ?_ ?_<;>intro _<;>try simp -implicitDefEqProofs only[go_sem])|simp (disch:=omega) only[Ad]|((with_reducible apply A8);exact rfl)
   all_goals first|omega|(simp<;>omega)|skip
   all_goals (rw[←heq];try simp[hn])
def sg (o:Option (List Int)):D:=match o with|some l=>.list l.isEmpty (Aa l)|none=>.list true []
def si (o:Option (List Int)):D:=.bool o.isSome
abbrev s7:=List (Option (List Int))
def AW.tbl (c:AW) (bits:List Int) (K:Nat) (q:Nat):s7:=(List.range c.words.length).map fun(s:Nat)=>c.decP bits (K-q) (s:Int) (q:Int)
end
section
attribute [local irreducible] IntKind.wrap Ai Option.getD and or
end
section
attribute [local irreducible] IntKind.wrap Ai Option.getD and or
def ne (r:Bool×List Int):Bool×List Int:=(false,r.2)
def FD (c:AW):AW:=⟨c.bits,c.out,c.least,c.most,c.words.isEmpty,c.words.map ne,c.next.isEmpty,c.next.map ne⟩
theorem iP (l:Rows) (i:Nat):((l.map ne)[i]?.getD default).2=(l[i]?.getD default).2:=by
 rw[List.getElem?_map];cases l[i]?<;>simp[ne]
theorem YU (b o l m:Int) (wn nn wn' nn':Bool) (w w' n n':Rows) (hw:w'.length=w.length) (hn:n'.length=n.length) :
  AW.head ⟨b,o,l,m,wn',w',nn',n'⟩=AW.head ⟨b,o,l,m,wn,w,nn,n⟩:=by
 simp only[AW.head];rw[hw,hn]
theorem lz (c:AW):(FD c).ok=c.ok:=by
 have h:∀(n:Nat) (hi:Int) (l:Rows),(l.map ne).all (NL n hi)=l.all (NL n hi):=by
  intro n hi l;rw[List.all_map];rfl
 have hl:∀l:Rows,(l.map ne).length=l.length:=fun l=>List.length_map ..
 have hh:(FD c).head=c.head:=YU _ _ _ _ _ _ _ _ _ _ _ _ (hl c.words) (hl c.next)
 simp only[AW.ok,hh];simp only[FD,h,hl]
theorem iQ (c:AW):(FD c).wrd=c.wrd:=by
 funext s w;simp only[AW.wrd,rj,FD,iP]
theorem iU (c:AW):(FD c).nxt=c.nxt:=by
 funext s w;simp only[AW.nxt,rj,FD,iP]
theorem Ph (c:AW):∀(l:List Int) (s:Int),(FD c).stream s l=c.stream s l
 |[],s=>rfl
 |w::l,s=>by simp only[AW.stream,iQ,iU,Ph c l];rfl
end
end Go.Pw
