/- A part of the proof. -/
import Derived.Test.YtpcpcjbbdgmohaaGreatQuZonesF
import Derived.Test.YtpcpcjbbdgmohaaGreatZonesSpec4
set_option linter.all false
section
open Go Go.Pw Go.Proofs
namespace Go.Pw
set_option maxRecDepth 100000
set_option maxHeartbeats 1600000
attribute [local congr] DX B3 B4 Bc DZ Bj Bl Bk Bb BN BF A6 Be BG Bg CD CE CF Cd Ce B9 Bf BL Bi BM B8 Cf BK CB CC B_ B6 B7 B2 DY B5 Bd BI BH BJ Bh CA
attribute [local irreducible] IntKind.wrap CK Option.getD and or
theorem En (d:AG) (h:d.ok=true):Ca E0 Hu [Cr d] (.int .i64 d.cyls):=by
 have g:=Bu h
 refine AW Le Aq (by simp) fun hwf=>?_
 have z2:=g.z2
 rw[AZ];unfold G7
 (try (simp -implicitDefEqProofs only[go_sem,AI,AD]));repeat' first|(with_reducible first|exact tI|refine aI ?_ ?_|intro _)|((first|with_reducible refine AU ?_ ?_<;>intro _)<;>try (simp -implicitDefEqProofs only[go_sem,AI,AD]))|simp (disch:=omega) only[Al]|((with_reducible refine A0 ?_);refine⟨(_,_),rfl,?_,?_⟩)
 all_goals first|omega|(simp<;>omega)|skip
 refine Ao (α:=Int×Int) (l0:=?l1) (m0:=?m1) (fun x=>[(4,.d (.int .i64 x.1)),(3,.d (.int .i64 x.2))]) (fun x=>[]) (fun x=>(0<=x.1/\x.1<=d.zones.length)/\x.2=d.base x.1.toNat) (fun x=>(d.zones.length-x.1).toNat) (?a1_0,?a1_1) ?h01 ?he1 ?he21 ?hI1 ?step1
 case h01=>(simp -implicitDefEqProofs only[go_sem,AD,AY];rfl)
 case he1=>rfl
 case he21=>rfl
 case' step1=>(rintro⟨i,n⟩ hI;try dsimp only at hI)
 case' hI1=>try dsimp only
 ·exact⟨⟨by omega,by omega⟩,by simp[AG.base]⟩
 ·obtain⟨⟨h1,h2⟩,h3⟩:=hI
  have hb:=g.base i.toNat (by omega)
  by_cases hi:i<d.zones.length
  ·have hz:=g.z i.toNat (by omega)
   obtain⟨z,hze⟩:∃z,d.zones[i.toNat]?.getD default=z:=⟨_,rfl⟩
   rw[hze] at hz
   have hn:d.base (i+1).toNat=d.base i.toNat+z.1.toNat:=by rw[show (i+1).toNat=i.toNat+1 by omega,AG.base,hze]
   have w1:IntKind.i64.wrap (i+1)=i+1:=Ad _ (by omega)
   have w2:IntKind.i64.wrap (n+z.1)=n+z.1:=Ad _ (by omega)
   (try (simp -implicitDefEqProofs only[go_sem,AD,AY,An,hze,BR,Ar,w1,w2]));repeat' first|(with_reducible first|exact tI|refine aI ?_ ?_|intro _)|((first|with_reducible refine AU ?_ ?_<;>intro _)<;>try (simp -implicitDefEqProofs only[go_sem,AD,AY,An,hze,BR,Ar,w1,w2]))|simp (disch:=omega) only[Al]|((with_reducible refine A0 ?_);refine⟨(_,_),rfl,?_,?_⟩)
   all_goals first|omega|(simp<;>omega)|skip
  ·have hie:i=d.zones.length:=by omega
   have hn:n=d.cyls:=by rw[h3,hie,←FV];simp
   (try (simp -implicitDefEqProofs only[go_sem,AD,AY,hi]));repeat' first|(with_reducible first|exact tI|refine aI ?_ ?_|intro _)|((first|with_reducible refine AU ?_ ?_<;>intro _)<;>try (simp -implicitDefEqProofs only[go_sem,AD,AY,hi]))|simp (disch:=omega) only[Al]|((with_reducible refine A0 ?_);refine⟨(_,_),rfl,?_,?_⟩)
   all_goals first|omega|(simp<;>omega)|skip
theorem GK (d:AG) (h:d.ok=true):Ca E0 MB [Cr d] (.int .i64 d.size):=by
 have g:=Bu h
 refine AW QD Aq (by simp) fun hwf=>?_
 have z2:=g.z2;have g1:=g.h1;have g2:=g.h2
 have hH:=g.hn
 rw[AZ];unfold KU
 (try (simp -implicitDefEqProofs only[go_sem,AI,AD]));repeat' first|(with_reducible first|exact tI|refine aI ?_ ?_|intro _)|((first|with_reducible refine AU ?_ ?_<;>intro _)<;>try (simp -implicitDefEqProofs only[go_sem,AI,AD]))|simp (disch:=omega) only[Al]|((with_reducible refine A0 ?_);refine⟨(_,_),rfl,?_,?_⟩)
 all_goals first|omega|(simp<;>omega)|skip
 refine Ao (α:=Int×Int) (l0:=?l2) (m0:=?m2) (fun x=>[(4,.d (.int .i64 x.1)),(3,.d (.int .i64 x.2))]) (fun x=>[]) (fun x=>(0<=x.1/\x.1<=d.zones.length)/\x.2=d.tf (d.base x.1.toNat * d.heads.toNat)) (fun x=>(d.zones.length-x.1).toNat) (?a2_0,?a2_1) ?h02 ?he2 ?he22 ?hI2 ?step2
 case h02=>(simp -implicitDefEqProofs only[go_sem,AD,AY];rfl)
 case he2=>rfl
 case he22=>rfl
 case' step2=>(rintro⟨i,n⟩ hI;try dsimp only at hI)
 case' hI2=>try dsimp only
 ·exact⟨⟨by omega,by omega⟩,by simp[AG.base,AG.tf]⟩
 ·obtain⟨⟨h1,h2⟩,h3⟩:=hI
  by_cases hi:i<d.zones.length
  ·have hz:=g.z i.toNat (by omega)
   have htf:=Yj (d:=d) (i:=i.toNat) (by omega) (d.zones[i.toNat]?.getD default).1.toNat (Nat.le_refl _)
   have hnt:d.base i.toNat * d.heads.toNat<=d.nt:=by
    have:=QT d i.toNat d.zones.length (by omega)
    rw[FV] at this
    exact Nat.mul_le_mul_right _ this
   have hb:=g.tf _ hnt
   have hn1:=g.nt
   obtain⟨z,hze⟩:∃z,d.zones[i.toNat]?.getD default=z:=⟨_,rfl⟩
   rw[hze] at hz htf
   have hn:d.base (i+1).toNat=d.base i.toNat+z.1.toNat:=by rw[show (i+1).toNat=i.toNat+1 by omega,AG.base,hze]
   rw[←hn,←h3,show ((z.1.toNat:Nat):Int)=z.1 by omega,hH,←Int.mul_assoc] at htf
   have m1:0<=z.1*z.2/\z.1*z.2<=20*16:=⟨Int.mul_nonneg (by omega) (by omega),Int.mul_le_mul (by omega) (by omega) (by omega) (by omega)⟩
   have m2:0<=z.1*z.2*d.heads/\z.1*z.2*d.heads<=20*16*4:=⟨Int.mul_nonneg (by omega) (by omega),Int.mul_le_mul (by omega) (by omega) (by omega) (by omega)⟩
   have w1:IntKind.i64.wrap (i+1)=i+1:=Ad _ (by omega)
   have w2:IntKind.i64.wrap (z.1*z.2)=z.1*z.2:=Ad _ (by omega)
   have w3:IntKind.i64.wrap (z.1*z.2*d.heads)=z.1*z.2*d.heads:=Ad _ (by omega)
   have w4:IntKind.i64.wrap (n+z.1*z.2*d.heads)=n+z.1*z.2*d.heads:=Ad _ (by omega)
   (try (simp -implicitDefEqProofs only[go_sem,AD,AY,An,hze,BR,Ar,w1,w2,w3,w4]));repeat' first|(with_reducible first|exact tI|refine aI ?_ ?_|intro _)|((first|with_reducible refine AU ?_ ?_<;>intro _)<;>try (simp -implicitDefEqProofs only[go_sem,AD,AY,An,hze,BR,Ar,w1,w2,w3,w4]))|simp (disch:=omega) only[Al]|((with_reducible refine A0 ?_);refine⟨(_,_),rfl,?_,?_⟩)
   all_goals first|omega|(simp<;>omega)|skip
  ·have hie:i=d.zones.length:=by omega
   have hn:n=d.size:=by rw[h3,hie,AG.size,AG.nt,←FV];simp
   (try (simp -implicitDefEqProofs only[go_sem,AD,AY,hi]));repeat' first|(with_reducible first|exact tI|refine aI ?_ ?_|intro _)|((first|with_reducible refine AU ?_ ?_<;>intro _)<;>try (simp -implicitDefEqProofs only[go_sem,AD,AY,hi]))|simp (disch:=omega) only[Al]|((with_reducible refine A0 ?_);refine⟨(_,_),rfl,?_,?_⟩)
   all_goals first|omega|(simp<;>omega)|skip
theorem OY (d:AG) (h:d.ok=true) (c:Int) (k:Nat) (hk:k<d.zones.length) (h1:(d.base k:Int)<=c) (h2:c<d.base (k+1)):Ca E0 K6 [Cr d,.int .i64 c] (.int .i64 k):=by
 have g:=Bu h
 refine AW Ou Aq (by simp) fun hwf=>?_
 have z2:=g.z2
 have hbk:=g.base (k+1) (by omega)
 rw[AZ];unfold Jf
 (try (simp -implicitDefEqProofs only[go_sem,AI,AD]));repeat' first|(with_reducible first|exact tI|refine aI ?_ ?_|intro _)|((first|with_reducible refine AU ?_ ?_<;>intro _)<;>try (simp -implicitDefEqProofs only[go_sem,AI,AD]))|simp (disch:=omega) only[Al]|((with_reducible refine A0 ?_);refine⟨(_,_),rfl,?_,?_⟩)
 all_goals first|omega|(simp<;>omega)|skip
 refine Ao (α:=Int×Int) (l0:=?l3) (m0:=?m3) (fun x=>[(5,.d (.int .i64 x.1)),(1,.d (.int .i64 x.2))]) (fun x=>[]) (fun x=>(0<=x.1/\x.1<=k)/\x.2=c-d.base x.1.toNat) (fun x=>(d.zones.length-x.1).toNat) (?a3_0,?a3_1) ?h03 ?he3 ?he23 ?hI3 ?step3
 case h03=>(simp -implicitDefEqProofs only[go_sem,AD,AY];rfl)
 case he3=>rfl
 case he23=>rfl
 case' step3=>(rintro⟨i,q⟩ hI;try dsimp only at hI)
 case' hI3=>try dsimp only
 ·exact⟨⟨by omega,by omega⟩,by simp[AG.base]⟩
 ·obtain⟨⟨q1,q2⟩,q3⟩:=hI
  have hi:i<d.zones.length:=by omega
  have hb0:=QT d i.toNat k (by omega)
  have hz:=g.z i.toNat (by omega)
  obtain⟨z,hze⟩:∃z,d.zones[i.toNat]?.getD default=z:=⟨_,rfl⟩
  rw[hze] at hz
  have hn:d.base (i+1).toNat=d.base i.toNat+z.1.toNat:=by rw[show (i+1).toNat=i.toNat+1 by omega,AG.base,hze]
  have w1:IntKind.i64.wrap (i+1)=i+1:=Ad _ (by omega)
  have w2:IntKind.i64.wrap (q-z.1)=q-z.1:=Ad _ (by omega)
  by_cases hq:q<z.1
  ·have hik:i=k:=by
    rcases Int.lt_or_le i k with h5|h5
    ·have:=QT d (i+1).toNat k (by omega);omega
    ·omega
   (try (simp -implicitDefEqProofs only[go_sem,AD,AY,An,hze,BR,Ar,hq]));repeat' first|(with_reducible first|exact tI|refine aI ?_ ?_|intro _)|((first|with_reducible refine AU ?_ ?_<;>intro _)<;>try (simp -implicitDefEqProofs only[go_sem,AD,AY,An,hze,BR,Ar,hq]))|simp (disch:=omega) only[Al]|((with_reducible refine A0 ?_);refine⟨(_,_),rfl,?_,?_⟩)
   all_goals first|omega|(simp<;>omega)|skip
  ·have hik:i<k:=by
    rcases Int.lt_or_le i k with h5|h5
    ·exact h5
    ·have:(i+1).toNat=k+1:=by omega
     rw[this] at hn;omega
   (try (simp -implicitDefEqProofs only[go_sem,AD,AY,An,hze,BR,Ar,hq,w1,w2]));repeat' first|(with_reducible first|exact tI|refine aI ?_ ?_|intro _)|((first|with_reducible refine AU ?_ ?_<;>intro _)<;>try (simp -implicitDefEqProofs only[go_sem,AD,AY,An,hze,BR,Ar,hq,w1,w2]))|simp (disch:=omega) only[Al]|((with_reducible refine A0 ?_);refine⟨(_,_),rfl,?_,?_⟩)
   all_goals first|omega|(simp<;>omega)|skip
theorem EN (d:AG) (h:d.ok=true) (c:Int) (h1:0<=c) (h2:c<d.cyls):Ca E0 Jt [Cr d,.int .i64 c] (.int .i64 (d.secs[c.toNat]?.getD 0)):=by
 have g:=Bu h
 obtain⟨k,hk,k1,k2⟩:=Yd (d:=d) c.toNat d.zones.length (Nat.le_refl _) (by rw[FV];omega)
 rw[Zi hk k1 k2]
 have c1:=OY d h c k hk (by omega) (by omega)
 refine AW Nm Aq (by simp) fun hwf=>?_
 have z2:=g.z2
 obtain⟨z,hze⟩:∃z,d.zones[k]?.getD default=z:=⟨_,rfl⟩
 rw[hze,AZ];unfold IG
 have hkk:(k:Int)<d.zones.length:=by omega
 (try (simp -implicitDefEqProofs only[go_sem,AI,AD,AY,An,hze,BR,Ar]));repeat' first|(with_reducible first|exact tI|refine aI ?_ ?_|intro _)|((first|with_reducible refine AU ?_ ?_<;>intro _|(with_reducible refine isCall ?_);first|refine AF c1 ?_)<;>try (simp -implicitDefEqProofs only[go_sem,AI,AD,AY,An,hze,BR,Ar]))|simp (disch:=omega) only[Al]
 all_goals first|omega|(simp<;>omega)|skip
end Go.Pw
end
section
open Go Go.Pw Go.Proofs
namespace Go.Pw
set_option maxRecDepth 100000
set_option maxHeartbeats 1600000
theorem eq (d:AG) (n:Nat) (h:0<n):(d.plsN n).isEmpty=false:=by
 cases hp:d.plsN n with
 |nil=>have:=Q3 d n;rw[hp] at this;simp at this;omega
 |cons _ _=>rfl
theorem H3 {α:Type}(l:List α) (x:α):(l++[x]).isEmpty=false:=by cases l<;>rfl
attribute [local congr] DX B3 B4 Bc DZ Bj Bl Bk Bb BN BF A6 Be BG Bg CD CE CF Cd Ce B9 Bf BL Bi BM B8 Cf BK CB CC B_ B6 B7 B2 DY B5 Bd BI BH BJ Bh CA
attribute [local irreducible] IntKind.wrap CK Option.getD and or
theorem Eg (d:AG) (h:d.ok=true):Ca E0 K7 [Cr d] (.list false (Q4 d.pls)):=by
 have g:=Bu h
 refine AW Ov Aq (by simp) fun hwf=>?_
 have z2:=g.z2;have g1:=g.h1;have g2:=g.h2;have hH:=g.hn;have hnt:=g.nt;have hcy:=g.cyls
 have hsz:=Cm g
 have c1:=En d h
 rw[AZ];unfold Jg
 (try (simp -implicitDefEqProofs only[go_sem,AI,AD]));repeat' first|(with_reducible first|exact tI|refine aI ?_ ?_|intro _)|((first|with_reducible refine AU ?_ ?_<;>intro _)<;>try (simp -implicitDefEqProofs only[go_sem,AI,AD]))|simp (disch:=omega) only[Al]|((with_reducible refine Ba ?_);refine⟨(_,_,_),rfl,?_,?_⟩)
 all_goals first|omega|(simp<;>omega)|skip
 refine Ao (α:=Int×(List (Int×Int×Int))×Bool) (l0:=?l1) (m0:=?m1) (fun x=>[(4,.d (.int .i64 x.1))]) (fun x=>[(32,.row 92 3 x.2.2 (Q4 x.2.1))]) (fun x=>(0<=x.1/\x.1<=d.cyls)/\x.2.1=d.plsN (d.tf (x.1.toNat * d.heads.toNat)).toNat/\x.2.2=x.2.1.isEmpty) (fun x=>(d.cyls-x.1).toNat) (?a1_0,[],true) ?h01 ?he1 ?he21 ?hI1 ?step1
 case h01=>(simp -implicitDefEqProofs only[go_sem,AD];rfl)
 case he1=>rfl
 case he21=>rfl
 case' step1=>(rintro⟨c,out,b⟩ hI;try dsimp only at hI)
 case' hI1=>try dsimp only
 ·exact⟨⟨by omega,by omega⟩,by simp[AG.plsN,AG.tf],rfl⟩
 ·obtain⟨⟨h1,h2⟩,h3,h4⟩:=hI
  have w1:IntKind.i64.wrap (c+1)=c+1:=Ad _ (by omega)
  by_cases hc:c<d.cyls
  ·have c2:=EN d h c h1 hc
   (try (simp -implicitDefEqProofs only[go_sem,AD,AI,hc]));repeat' first|(with_reducible first|exact tI|refine aI ?_ ?_|intro _)|((first|with_reducible refine AU ?_ ?_<;>intro _|(with_reducible refine isCall ?_);first|refine AF c1 ?_)<;>try (simp -implicitDefEqProofs only[go_sem,AD,AI,hc]))|simp (disch:=omega) only[Al]|((with_reducible refine Ba ?_);refine⟨(_,_,_),rfl,?_,?_⟩)
   all_goals first|omega|(simp<;>omega)|skip
   refine Ao (α:=Int×(List (Int×Int×Int))×Bool) (l0:=?l2) (m0:=?m2) (fun x=>[(5,.d (.int .i64 x.1))]) (fun x=>[(32,.row 92 3 x.2.2 (Q4 x.2.1))]) (fun x=>(0<=x.1/\x.1<=d.heads)/\x.2.1=d.plsN (d.tf (c.toNat * d.heads.toNat+x.1.toNat)).toNat/\x.2.2=x.2.1.isEmpty) (fun x=>(d.heads-x.1).toNat) (?a2_0,?a2_1,?a2_2) ?h02 ?he2 ?he22 ?hI2 ?step2
   case h02=>(simp -implicitDefEqProofs only[go_sem,AD];rfl)
   case he2=>rfl
   case he22=>rfl
   case' step2=>(rintro⟨k,out,b⟩ hI2;try dsimp only at hI2)
   case' hI2=>try dsimp only
   ·exact⟨⟨by omega,by omega⟩,by simpa using h3,h4⟩
   ·obtain⟨⟨q1,q2⟩,q3,q4⟩:=hI2
    have w2:IntKind.i64.wrap (k+1)=k+1:=Ad _ (by omega)
    by_cases hk:k<d.heads
    ·have hlt:c.toNat * d.heads.toNat+k.toNat<d.nt:=by
      unfold AG.nt
      calc c.toNat * d.heads.toNat+k.toNat<c.toNat * d.heads.toNat+d.heads.toNat:=by omega
       _=(c.toNat+1)*d.heads.toNat:=by rw[Nat.succ_mul]
       _<=d.cyls*d.heads.toNat:=Nat.mul_le_mul_right _ (by omega)
     have hts:=cA (d:=d) c.toNat k.toNat (by omega)
     have htc:=i5 (d:=d) c.toNat k.toNat (by omega)
     have hth:=i0 (d:=d) c.toNat k.toNat (by omega)
     have htb:=g.ts hlt
     have htf:=g.tf _ (Nat.le_of_lt hlt)
     have htn:d.tf (c.toNat * d.heads.toNat+(k+1).toNat)=d.tf (c.toNat * d.heads.toNat+k.toNat)+d.ts (c.toNat * d.heads.toNat+k.toNat):=by
      rw[show c.toNat * d.heads.toNat+(k+1).toNat=c.toNat * d.heads.toNat+k.toNat+1 by omega,AG.tf]
     obtain⟨t,ht⟩:∃t,c.toNat * d.heads.toNat+k.toNat=t:=⟨_,rfl⟩
     rw[ht] at hlt hts htc hth htb htf htn q3
     rw[←hts] at c2
     (try (simp -implicitDefEqProofs only[go_sem,AD,AI,hk]));repeat' first|(with_reducible first|exact tI|refine aI ?_ ?_|intro _)|((first|with_reducible refine AU ?_ ?_<;>intro _)<;>try (simp -implicitDefEqProofs only[go_sem,AD,AI,hk]))|simp (disch:=omega) only[Al]|((with_reducible refine Ba ?_);refine⟨(_,_,_),rfl,?_,?_⟩)
     all_goals first|omega|(simp<;>omega)|skip
     refine Ao (α:=Int×(List (Int×Int×Int))×Bool) (l0:=?l3) (m0:=?m3) (fun x=>[(6,.d (.int .i64 x.1))]) (fun x=>[(32,.row 92 3 x.2.2 (Q4 x.2.1))]) (fun x=>(0<=x.1/\x.1<=d.ts t)/\x.2.1=d.plsN (d.tf t+x.1).toNat/\x.2.2=x.2.1.isEmpty) (fun x=>(d.ts t-x.1).toNat) (?a3_0,?a3_1,?a3_2) ?h03 ?he3 ?he23 ?hI3 ?step3
     case h03=>(simp -implicitDefEqProofs only[go_sem,AD];rfl)
     case he3=>rfl
     case he23=>rfl
     case' step3=>(rintro⟨s,out,b⟩ hI3;try dsimp only at hI3)
     case' hI3=>try dsimp only
     ·exact⟨⟨by omega,by omega⟩,by simpa using q3,q4⟩
     ·obtain⟨⟨r1,r2⟩,r3,r4⟩:=hI3
      have w3:IntKind.i64.wrap (s+1)=s+1:=Ad _ (by omega)
      have hlen:=Q3 d (d.tf t+s).toNat
      rw[←r3] at hlen
      by_cases hs:s<d.ts t
      ·have hpl:=lV g hlt (s:=s) ⟨r1,hs⟩
       have hnx:d.plsN (d.tf t+(s+1)).toNat=out++[(c,k,s)]:=by
        rw[show (d.tf t+(s+1)).toNat=(d.tf t+s).toNat+1 by omega,Zt,←r3,show (((d.tf t+s).toNat:Nat):Int)=d.tf t+s by omega,hpl,htc,hth]
        simp only[List.append_cancel_left_eq,List.cons.injEq,Prod.mk.injEq,and_true];omega
       have hemp:=H3 out (c,k,s)
       (try (simp -implicitDefEqProofs only[go_sem,AD,AI,hs,DU,C_,S9,w3]));repeat' first|(with_reducible first|exact tI|refine aI ?_ ?_|intro _)|((first|with_reducible refine AU ?_ ?_<;>intro _|(with_reducible refine isCall ?_);first|refine AF c2 ?_)<;>try (simp -implicitDefEqProofs only[go_sem,AD,AI,hs,DU,C_,S9,w3]))|simp (disch:=omega) only[Al]|((with_reducible refine Ba ?_);refine⟨(_,_,_),rfl,?_,?_⟩)
       all_goals first|omega|(simp<;>omega)|skip
       all_goals exact hnx.symm
      ·have hse:s=d.ts t:=by omega
       (try (simp -implicitDefEqProofs only[go_sem,AD,AI,hs,w2]));repeat' first|(with_reducible first|exact tI|refine aI ?_ ?_|intro _)|((first|with_reducible refine AU ?_ ?_<;>intro _|(with_reducible refine isCall ?_);first|refine AF c2 ?_)<;>try (simp -implicitDefEqProofs only[go_sem,AD,AI,hs,w2]))|simp (disch:=omega) only[Al]|((with_reducible refine Ba ?_);refine⟨(_,_,_),rfl,?_,?_⟩)
       all_goals first|omega|(simp<;>omega)|skip
       all_goals (rw[htn,←hse];exact r3)
    ·have hke:k=d.heads:=by omega
     have hnn:c.toNat * d.heads.toNat+k.toNat=(c+1).toNat * d.heads.toNat:=by rw[hke,show (c+1).toNat=c.toNat+1 by omega,Nat.succ_mul]
     rw[hnn] at q3
     (try (simp -implicitDefEqProofs only[go_sem,AD,AI,hk,w1]));repeat' first|(with_reducible first|exact tI|refine aI ?_ ?_|intro _)|((first|with_reducible refine AU ?_ ?_<;>intro _)<;>try (simp -implicitDefEqProofs only[go_sem,AD,AI,hk,w1]))|simp (disch:=omega) only[Al]|((with_reducible refine Ba ?_);refine⟨(_,_,_),rfl,?_,?_⟩)
     all_goals first|omega|(simp<;>omega)|skip
  ·have hce:c=d.cyls:=by omega
   have hfin:out=d.pls:=by rw[h3,hce];simp[AG.pls,AG.size,AG.nt]
   have hb:b=false:=by rw[h4,hfin];exact eq d _ (by omega)
   (try (simp -implicitDefEqProofs only[go_sem,AD,AI,hc,hfin,hb]));repeat' first|(with_reducible first|exact tI|refine aI ?_ ?_|intro _)|((first|with_reducible refine AU ?_ ?_<;>intro _|(with_reducible refine isCall ?_);first|refine AF c1 ?_)<;>try (simp -implicitDefEqProofs only[go_sem,AD,AI,hc,hfin,hb]))|simp (disch:=omega) only[Al]|((with_reducible refine Ba ?_);refine⟨(_,_,_),rfl,?_,?_⟩)
   all_goals first|omega|(simp<;>omega)|skip
end Go.Pw
end
section
open Go Go.Pw Go.Proofs
namespace Go.Pw
set_option maxRecDepth 100000
set_option maxHeartbeats 1600000
theorem M7 {d:AG}(i:Int) (h0:0<=i) (h1:i<d.size):d.pls[i.toNat]?.getD default=d.pl i:=by
 unfold AG.pls;rw[dK _ _ _ (by omega),show ((i.toNat:Nat):Int)=i by omega]
theorem QP (d:AG):d.pls.length=d.size.toNat:=Q3 d _
theorem Vd {d:AG}(g:d.Good) {n:Int}{k:Nat}(h:d.kOf n=some k):d.pl n=(d.tc k,d.th k,n-d.tf k):=by unfold AG.pl;rw[h]
theorem iz {d:AG}(g:d.Good):∀k,d.to k=(d.tc k*d.cskew+(d.tc k*(d.heads-1)+d.th k)*d.hskew)%d.turn
 |0=>by simp[AG.to,AG.tc,AG.th]
 |k+1=>by
  obtain⟨n1,n2⟩:=U6 g k
  rw[AG.to,iz g k]
  by_cases h:d.th k=d.heads-1
  ·have h1:=n1 h
   have h2:d.th (k+1)=0:=by
    have hp:=g.hp;have hn:=g.hn
    have e1:=Nat.div_add_mod (k+1) d.heads.toNat
    have e2:=Nat.div_add_mod k d.heads.toNat
    unfold AG.tc at h1;unfold AG.th at h ⊢
    have:(k+1)/d.heads.toNat=k/d.heads.toNat+1:=by omega
    rw[this,Nat.mul_add] at e1
    omega
   rw[if_pos h,h1,h2,h,Int.emod_add_emod]
   congr 1
   generalize d.heads-1=m
   simp only[Int.add_mul,Int.one_mul,Int.add_zero];omega
  ·obtain⟨h1,h2⟩:=n2 h
   rw[if_neg h,h1,h2,Int.emod_add_emod]
   congr 1
   simp only[Int.add_mul,Int.one_mul];omega
theorem Yk {d:AG}(k:Nat):0<=d.tc k:=Int.natCast_nonneg _
def AG.csec (d:AG) (n:Int):Int:=if d.ok then (if FR n 0 (d.size-1) then 0 else 1) else 10
attribute [local congr] DX B3 B4 Bc DZ Bj Bl Bk Bb BN BF A6 Be BG Bg CD CE CF Cd Ce B9 Bf BL Bi BM B8 Cf BK CB CC B_ B6 B7 B2 DY B5 Bd BI BH BJ Bh CA
attribute [local irreducible] IntKind.wrap CK Option.getD and or
theorem G1 (d:AG) (h:d.ok=true) (n:Int):Ca E0 Ir [Cr d,.int .i64 n] (.bool (FR n 0 (d.size-1))):=by
 refine AW Me Aq (by simp) fun hwf=>?_
 have g:=Bu h
 have hsz:=Cm g
 have c1:=GK d h
 have c2:=Bq n 0 (d.size-1)
 have w1:IntKind.i64.wrap (d.size-1)=d.size-1:=Ad _ (by omega)
 rw[AZ];unfold Hf
 cases hb:FR n 0 (d.size-1) with
 |false=>rw[hb] at c2;(try (simp -implicitDefEqProofs only[go_sem,AI,AD,w1]));repeat' first|(with_reducible first|exact tI|refine aI ?_ ?_|intro _)|((first|with_reducible refine AU ?_ ?_<;>intro _|(with_reducible refine isCall ?_);first|refine AF c1 ?_|refine AF c2 ?_)<;>try (simp -implicitDefEqProofs only[go_sem,AI,AD,w1]))|simp (disch:=omega) only[Al]
 |true=>rw[hb] at c2;(try (simp -implicitDefEqProofs only[go_sem,AI,AD,w1]));repeat' first|(with_reducible first|exact tI|refine aI ?_ ?_|intro _)|((first|with_reducible refine AU ?_ ?_<;>intro _|(with_reducible refine isCall ?_);first|refine AF c1 ?_|refine AF c2 ?_)<;>try (simp -implicitDefEqProofs only[go_sem,AI,AD,w1]))|simp (disch:=omega) only[Al]
theorem J0 (d:AG) (n:Int):Ca E0 Ga [Cr d,.int .i64 n] (.int .i64 (d.csec n)):=by
 refine AW J2 Aq (by simp) fun hwf=>?_
 have c1:=D_ d
 rw[AZ];unfold GB
 unfold AG.check AG.csec at *
 cases h:d.ok with
 |false =>
  rw[h] at c1
  (try (simp -implicitDefEqProofs only[go_sem,AI,AD]));repeat' first|(with_reducible first|exact tI|refine aI ?_ ?_|intro _)|((first|with_reducible refine AU ?_ ?_<;>intro _|(with_reducible refine isCall ?_);first|refine AF c1 ?_)<;>try (simp -implicitDefEqProofs only[go_sem,AI,AD]))|simp (disch:=omega) only[Al]
  all_goals first|omega|(simp<;>omega)|skip
 |true =>
  rw[h] at c1
  have c2:=G1 d h n
  cases hb:FR n 0 (d.size-1) with
  |false =>
   rw[hb] at c2
   (try (simp -implicitDefEqProofs only[go_sem,AI,AD]));repeat' first|(with_reducible first|exact tI|refine aI ?_ ?_|intro _)|((first|with_reducible refine AU ?_ ?_<;>intro _|(with_reducible refine isCall ?_);first|refine AF c1 ?_|refine AF c2 ?_)<;>try (simp -implicitDefEqProofs only[go_sem,AI,AD]))|simp (disch:=omega) only[Al]
   all_goals first|omega|(simp<;>omega)|skip
  |true =>
   rw[hb] at c2
   (try (simp -implicitDefEqProofs only[go_sem,AI,AD]));repeat' first|(with_reducible first|exact tI|refine aI ?_ ?_|intro _)|((first|with_reducible refine AU ?_ ?_<;>intro _|(with_reducible refine isCall ?_);first|refine AF c1 ?_|refine AF c2 ?_)<;>try (simp -implicitDefEqProofs only[go_sem,AI,AD]))|simp (disch:=omega) only[Al]
   all_goals first|omega|(simp<;>omega)|skip
theorem YR (d:AG) (n:Int):(d.ok=false/\d.csec n=10)\/(d.ok=true/\d.kOf n=none/\d.csec n=1)\/(d.ok=true/\(0<=n/\n<d.size)/\d.csec n=0/\∃k,d.kOf n=some k):=by
 unfold AG.csec
 cases h:d.ok with
 |false=>left;simp
 |true =>
  right
  have g:=Bu h
  by_cases hb:0<=n/\n<d.size
  ·right
   exact⟨rfl,hb,by rw[Di.2 (by omega)];simp,Option.isSome_iff_exists.1 ((LP g n).2 hb)⟩
  ·left
   refine⟨rfl,?_,by rw[Xx.2 (by omega)];simp⟩
   cases hk:d.kOf n with
   |none=>rfl
   |some k=>exact absurd ((LP g n).1 (by rw[hk];rfl)) hb
theorem OW (d:AG) (h:d.ok=true) (k:Nat) (hk:k<d.nt):Ca E0 K4 [Cr d,.int .i64 (d.tc k),.int .i64 (d.th k)] (.int .i64 (d.to k)):=by
 refine AW Oq Aq (by simp) fun hwf=>?_
 have g:=Bu h
 have t1:=g.t1;have t2:=g.t2;have g1:=g.h1;have g2:=g.h2;have k1:=g.k1;have k2:=g.k2;have c1:=g.c1;have c2:=g.c2
 have h1:=Yl hk
 have h2:=g.cyls
 have h3:0<=d.tc k:=Yk k
 have h4:0<=d.th k/\d.th k<4:=by
  unfold AG.th
  have:=Nat.mod_lt k g.hp
  have:=g.hn
  omega
 rw[iz g,AZ];unfold Jd
 generalize d.tc k=a at *
 generalize d.th k=b at *
 have m1:0<=a*d.cskew/\a*d.cskew<=80*1000:=⟨Int.mul_nonneg (by omega) (by omega),Int.mul_le_mul (by omega) (by omega) (by omega) (by omega)⟩
 have m2:0<=a*(d.heads-1)/\a*(d.heads-1)<=80*3:=⟨Int.mul_nonneg (by omega) (by omega),Int.mul_le_mul (by omega) (by omega) (by omega) (by omega)⟩
 have m3:0<=(a*(d.heads-1)+b)*d.hskew/\(a*(d.heads-1)+b)*d.hskew<=300*1000:=⟨Int.mul_nonneg (by omega) (by omega),Int.mul_le_mul (by omega) (by omega) (by omega) (by omega)⟩
 have w0:IntKind.i64.wrap (d.heads-1)=d.heads-1:=Ad _ (by omega)
 have w1:IntKind.i64.wrap (a*d.cskew)=a*d.cskew:=Ad _ (by omega)
 have w2:IntKind.i64.wrap (a*(d.heads-1))=a*(d.heads-1):=Ad _ (by omega)
 have w3:IntKind.i64.wrap (a*(d.heads-1)+b)=a*(d.heads-1)+b:=Ad _ (by omega)
 have w4:IntKind.i64.wrap ((a*(d.heads-1)+b)*d.hskew)=(a*(d.heads-1)+b)*d.hskew:=Ad _ (by omega)
 have w5:IntKind.i64.wrap (a*d.cskew+(a*(d.heads-1)+b)*d.hskew)=a*d.cskew+(a*(d.heads-1)+b)*d.hskew:=Ad _ (by omega)
 have w6:(a*d.cskew+(a*(d.heads-1)+b)*d.hskew).tmod d.turn=(a*d.cskew+(a*(d.heads-1)+b)*d.hskew)%d.turn:=Int.tmod_eq_emod_of_nonneg (by omega)
 have hne:¬d.turn=0:=by omega
 (try (simp -implicitDefEqProofs only[go_sem,AI,AD,w0,w1,w2,w3,w4,w5,w6,hne]));repeat' first|(with_reducible first|exact tI|refine aI ?_ ?_|intro _)|((first|with_reducible refine AU ?_ ?_<;>intro _)<;>try (simp -implicitDefEqProofs only[go_sem,AI,AD,w0,w1,w2,w3,w4,w5,w6,hne]))|simp (disch:=omega) only[Al]
 all_goals first|omega|(simp<;>omega)|skip
theorem OX (d:AG) (h:d.ok=true) (n:Int) (k:Nat) (hk:d.kOf n=some k):Ca E0 K5 [Cr d,.agg [.int .i64 (d.tc k),.int .i64 (d.th k),.int .i64 (n-d.tf k)]] (.int .i64 ((d.to k+(n-d.tf k)*d.own k)%d.turn)):=by
 refine AW Ot Aq (by simp) fun hwf=>?_
 have g:=Bu h
 have t1:=g.t1;have t2:=g.t2
 obtain⟨k1,k2⟩:=E3 hk
 have c1:=OW d h k k1
 have h1:=Yl k1
 have h3:0<=d.tc k:=Yk k
 have c2:=EN d h (d.tc k) h3 h1
 rw[←Tt] at c2
 have ha:=Wj g k1 k2
 have ho:=g.own k1
 have hts:=g.ts k1
 have hto:=g.to k
 have hw3:IntKind.i64.wrap ((n-d.tf k)*d.own k)=(n-d.tf k)*d.own k:=Ad _ (by omega)
 have hw4:IntKind.i64.wrap (d.to k+(n-d.tf k)*d.own k)=d.to k+(n-d.tf k)*d.own k:=Ad _ (by omega)
 have hw2:IntKind.i64.wrap (d.own k)=d.own k:=Ad _ (by omega)
 have hm:(d.to k+(n-d.tf k)*d.own k).tmod d.turn=(d.to k+(n-d.tf k)*d.own k)%d.turn:=Int.tmod_eq_emod_of_nonneg (by omega)
 have hne:¬d.ts k=0:=by omega
 have hne2:¬d.turn=0:=by omega
 have hq:=ho.2.2.2
 rw[AZ];unfold Je
 (try (simp -implicitDefEqProofs only[go_sem,AI,AD,hw2,hw3,hw4,hm,hne,hne2,hq]));repeat' first|(with_reducible first|exact tI|refine aI ?_ ?_|intro _)|((first|with_reducible refine AU ?_ ?_<;>intro _|(with_reducible refine isCall ?_);first|refine AF c1 ?_|refine AF c2 ?_)<;>try (simp -implicitDefEqProofs only[go_sem,AI,AD,hw2,hw3,hw4,hm,hne,hne2,hq]))|simp (disch:=omega) only[Al]
 all_goals first|omega|(simp<;>omega)|skip
theorem Pz (d:AG) (n:Int):Ca E0 MD [Cr d,.int .i64 n] (.tup [.int .i64 (d.angle n).1,.int .i64 (d.angle n).2.1,.int .i64 (d.angle n).2.2]):=by
 refine AW QF Aq (by simp) fun hwf=>?_
 have c1:=J0 d n
 rw[AZ];unfold KW AG.angle
 rcases YR d n with⟨h1,h2⟩|⟨h1,h2,h3⟩|⟨h1,h2,h3,k,h4⟩
 ·rw[h1];rw[h2] at c1
  (try (simp -implicitDefEqProofs only[go_sem,AI,AD]));repeat' first|(with_reducible first|exact tI|refine aI ?_ ?_|intro _)|((first|with_reducible refine AU ?_ ?_<;>intro _|(with_reducible refine isCall ?_);first|refine AF c1 ?_)<;>try (simp -implicitDefEqProofs only[go_sem,AI,AD]))|simp (disch:=omega) only[Al]
  all_goals first|omega|(simp<;>omega)|skip
 ·rw[h1,h2];rw[h3] at c1
  (try (simp -implicitDefEqProofs only[go_sem,AI,AD]));repeat' first|(with_reducible first|exact tI|refine aI ?_ ?_|intro _)|((first|with_reducible refine AU ?_ ?_<;>intro _|(with_reducible refine isCall ?_);first|refine AF c1 ?_)<;>try (simp -implicitDefEqProofs only[go_sem,AI,AD]))|simp (disch:=omega) only[Al]
  all_goals first|omega|(simp<;>omega)|skip
 ·rw[h1,h4];rw[h3] at c1
  have g:=Bu h1
  obtain⟨k1,k2⟩:=E3 h4
  have c2:=Eg d h1
  have c3:=OX d h1 n k h4
  have e1:=Yl k1
  have e3:0<=d.tc k:=Yk k
  have c4:=EN d h1 (d.tc k) e3 e1
  rw[←Tt] at c4
  have ho:=g.own k1
  have hts:=g.ts k1
  have t2:=g.t2
  have hq:=ho.2.2.2
  have hw2:IntKind.i64.wrap (d.own k)=d.own k:=Ad _ (by omega)
  have hne:¬d.ts k=0:=by omega
  have hget:=M7 (d:=d) n h2.1 h2.2
  have hlen:=QP d
  have hil:n<d.pls.length:=by omega
  have h0:=h2.1
  rw[Vd g h4] at hget
  (try (simp -implicitDefEqProofs only[go_sem,AI,AD,DU,DG,hget,Hz,C_,hil,h0,hq,hw2,hne]));repeat' first|(with_reducible first|exact tI|refine aI ?_ ?_|intro _)|((first|with_reducible refine AU ?_ ?_<;>intro _|(with_reducible refine isCall ?_);first|refine AF c1 ?_|refine AF c2 ?_|refine AF c3 ?_|refine AF c4 ?_)<;>try (simp -implicitDefEqProofs only[go_sem,AI,AD,DU,DG,hget,Hz,C_,hil,h0,hq,hw2,hne]))|simp (disch:=omega) only[Al]
  all_goals first|omega|(simp<;>omega)|skip
theorem JY (d:AG) (g:d.Good) (time a:Int) (h1:0<=time/\time<=1000000000) (h2:0<=a/\a<=1000000000):Ca E0 ME [Cr d,.int .i64 time,.int .i64 a] (.int .i64 ((a-time)%d.turn)):=by
 refine AW QG Aq (by simp) fun hwf=>?_
 have t1:=g.t1;have t2:=g.t2
 have hb1:=Int.lt_tmod_of_pos (a-time) (b:=d.turn) (by omega)
 have hb2:=Int.tmod_lt_of_pos (a-time) (b:=d.turn) (by omega)
 have w1:IntKind.i64.wrap (a-time)=a-time:=Ad _ (by omega)
 have w2:IntKind.i64.wrap ((a-time).tmod d.turn+d.turn)=(a-time).tmod d.turn+d.turn:=Ad _ (by omega)
 have w3:((a-time).tmod d.turn+d.turn).tmod d.turn=(a-time)%d.turn:=by
  rw[Int.tmod_eq_emod_of_nonneg (by omega),Int.add_emod_right]
  have h3:=Int.mul_tdiv_add_tmod (a-time) d.turn
  have h4:(a-time).tmod d.turn=(a-time)+d.turn*(-(a-time).tdiv d.turn):=by rw[Int.mul_neg];omega
  rw[h4,Int.add_mul_emod_self_left]
 have hne2:¬d.turn=0:=by omega
 rw[AZ];unfold KX
 (try (simp -implicitDefEqProofs only[go_sem,AI,AD,w1,w2,w3,hne2]));repeat' first|(with_reducible first|exact tI|refine aI ?_ ?_|intro _)|((first|with_reducible refine AU ?_ ?_<;>intro _)<;>try (simp -implicitDefEqProofs only[go_sem,AI,AD,w1,w2,w3,hne2]))|simp (disch:=omega) only[Al]
 all_goals first|omega|(simp<;>omega)|skip
end Go.Pw
end
