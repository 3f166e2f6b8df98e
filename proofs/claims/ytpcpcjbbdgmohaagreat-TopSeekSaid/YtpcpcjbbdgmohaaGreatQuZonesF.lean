/- A part of the proof. -/
import Derived.Test.YtpcpcjbbdgmohaaGreatQuZonesE
import Derived.Test.YtpcpcjbbdgmohaaGreatZonesSpec3
set_option linter.all false
open Go Go.Pw Go.Proofs
namespace Go.Pw
set_option maxRecDepth 100000
set_option maxHeartbeats 1600000
attribute [local congr] DX B3 B4 Bc DZ Bj Bl Bk Bb BN BF A6 Be BG Bg CD CE CF Cd Ce B9 Bf BL Bi BM B8 Cf BK CB CC B_ B6 B7 B2 DY B5 Bd BI BH BJ Bh CA
attribute [local irreducible] IntKind.wrap CK Option.getD and or
theorem Rz (d:AG) (h:d.ok=true) (a c:Int) (ha:0<=a) (hc:1<=c) (hs:a+c<=d.size) :
  Ca E0 Il [Cr d,.int .i64 a,.int .i64 c] (.tup [.int .i64 (d.ticksR a c.toNat),.agg [.int .i64 (d.swR 1 a c.toNat),.int .i64 (d.swR 2 a c.toNat)]]):=by
 refine AW MZ Aq (by simp) fun hwf=>?_
 have g:=Bu h
 have hz:=Cm g
 have t1:=g.t1;have t2:=g.t2;have g1:=g.h1;have g2:=g.h2
 rw[AZ];unfold Ha
 (try (simp -implicitDefEqProofs only[go_sem,AI,AD]));repeat' first|(with_reducible first|exact tI|refine aI ?_ ?_|intro _)|((first|with_reducible refine AU ?_ ?_<;>intro _)<;>try (simp -implicitDefEqProofs only[go_sem,AI,AD]))|simp (disch:=omega) only[Al]|((with_reducible refine Jo ?_);refine⟨(_,_,_),rfl,?_⟩)
 all_goals first|omega|(simp<;>omega)|skip
 refine LJ (α:=Int×Int×Int) (so:=HU) (l0:=?l1) (m0:=?m1) (fun x=>[(5000006,.cells [.d (.int .i64 x.1)]),(5000007,.cells [.d (.int .i64 x.2.1),.d (.int .i64 x.2.2)])]) (fun n x=>x.1=d.tks a c n/\x.2.1=d.sws 1 a c n/\x.2.2=d.sws 2 a c n) (fun e x=>False) (?a1_0,?a1_1,?a1_2) (Fl d h) D5 ?h01 ?he1 (by simp[PC.noR]) ?hw1 ?hI1 ?step1 ?hend1 ?hjump1
 case h01=>(simp -implicitDefEqProofs only[go_sem,AI,AD];(try simp only[or_true,true_or,true_and]);first|rfl|(refine⟨.inl ⟨_,rfl,rfl⟩,?_⟩<;>rfl)|exact⟨.inl ⟨⟨_,rfl,rfl⟩,rfl⟩,rfl⟩|exact⟨.inr ⟨rfl,rfl⟩,rfl⟩)
 case he1=>rfl
 case hw1=>simp -implicitDefEqProofs only[go_sem]
 case' hjump1=>(rintro e ⟨t,p,q⟩ hI;try dsimp only at hI)
 case' hend1=>(rintro⟨t,p,q⟩ hI;try dsimp only at hI)
 case' step1=>(rintro n ⟨t,p,q⟩ ds hds hI;try dsimp only at hI)
 case' hI1=>try dsimp only
 ·exact⟨(ct ha 1).1.symm,(ct ha 1).2.symm,(ct ha 2).2.symm⟩
 ·obtain⟨i1,i2,i3⟩:=hI
  obtain⟨hn,rfl⟩:=MO hds
  refine⟨rfl,?_⟩
  have h2:=g.tf n (by omega)
  have h3:=g.ts hn
  have h4:=g.nt
  have h5:=g.own hn
  have b1:0<=t/\t<=5120*1000:=by
   have:=E8 (f:=d.ownN) (a:=a) (M:=1000) (d.cov a c n) fun i _=>Q9 g _
   have hcv:d.cov a c n<=5120:=by unfold AG.cov;omega
   unfold AG.tks at i1;omega
  have b2:0<=p/\p<=5120:=by
   have:=E8 (f:=d.isK 1) (a:=a+1) (M:=1) (max 0 (min (d.tf n-a) (c-1))).toNat fun i _=>Oe 1 _
   unfold AG.sws at i2;omega
  have b3:0<=q/\q<=5120:=by
   have:=E8 (f:=d.isK 2) (a:=a+1) (M:=1) (max 0 (min (d.tf n-a) (c-1))).toNat fun i _=>Oe 2 _
   unfold AG.sws at i3;omega
  have w1:IntKind.i64.wrap (a+c)=a+c:=Ad _ (by omega)
  have w2:IntKind.i64.wrap (d.tf n+d.ts n)=d.tf n+d.ts n:=Ad _ (by omega)
  have w3:IntKind.i64.wrap (min (a+c) (d.tf n+d.ts n)-1)=min (a+c) (d.tf n+d.ts n)-1:=Ad _ (by omega)
  have w8:IntKind.i64.wrap (d.heads-1)=d.heads-1:=Ad _ (by omega)
  have w9:IntKind.i64.wrap (a+c-1)=a+c-1:=Ad _ (by omega)
  have hq:=h5.2.2.2
  have hne:¬d.ts n=0:=by omega
  obtain⟨f,hf⟩:∃f,max a (d.tf n)=f:=⟨_,rfl⟩
  obtain⟨l,hl⟩:∃l,min (a+c) (d.tf n+d.ts n)-1=l:=⟨_,rfl⟩
  rw[hl] at w3
  by_cases hfl:l<f
  ·have k1:=VS (d:=d) (a:=a) (c:=c) (k:=n) hc (by omega) (by omega) 1
   have k2:=VS (d:=d) (a:=a) (c:=c) (k:=n) hc (by omega) (by omega) 2
   (try (simp -implicitDefEqProofs only[go_sem,A_,BA,AG.track,w1,w2,w3,hf,hl,hfl]));repeat' first|(with_reducible first|exact tI|refine aI ?_ ?_|intro _)|((first|with_reducible refine AU ?_ ?_<;>intro _)<;>try (simp -implicitDefEqProofs only[go_sem,A_,BA,AG.track,w1,w2,w3,hf,hl,hfl]))|simp (disch:=omega) only[Al]|((with_reducible refine Jo ?_);refine⟨(_,_,_),rfl,?_⟩)
   all_goals first|omega|(simp<;>omega)|skip
  ·have hm:0<=(l-f+1)*d.own n/\(l-f+1)*d.own n<=16*1000:=⟨Int.mul_nonneg (by omega) (by omega),Int.mul_le_mul (by omega) (by omega) (by omega) (by omega)⟩
   have w4:IntKind.i64.wrap (l-f)=l-f:=Ad _ (by omega)
   have w5:IntKind.i64.wrap (l-f+1)=l-f+1:=Ad _ (by omega)
   have w6:IntKind.i64.wrap ((l-f+1)*d.own n)=(l-f+1)*d.own n:=Ad _ (by omega)
   have w7:IntKind.i64.wrap (t+(l-f+1)*d.own n)=t+(l-f+1)*d.own n:=Ad _ (by omega)
   have w10:IntKind.i64.wrap (d.own n)=d.own n:=Ad _ (by omega)
   have k1:=Zj g (a:=a) (c:=c) hn (by omega)
   rw[hl,hf] at k1
   have wp:IntKind.i64.wrap (p+1)=p+1:=Ad _ (by omega)
   have wq:IntKind.i64.wrap (q+1)=q+1:=Ad _ (by omega)
   by_cases hlast:l=a+c-1
   ·have k2:=VU g (a:=a) (c:=c) hn hc (by omega) (by omega) 1 (by omega)
    have k3:=VU g (a:=a) (c:=c) hn hc (by omega) (by omega) 2 (by omega)
    (try (simp -implicitDefEqProofs only[go_sem,A_,BA,AG.track,w1,w2,w3,hf,hl,hfl,w4,w5,w6,w7,w10,hq,hne,w9,eq_true hlast]));repeat' first|(with_reducible first|exact tI|refine aI ?_ ?_|intro _)|((first|with_reducible refine AU ?_ ?_<;>intro _)<;>try (simp -implicitDefEqProofs only[go_sem,A_,BA,AG.track,w1,w2,w3,hf,hl,hfl,w4,w5,w6,w7,w10,hq,hne,w9,eq_true hlast]))|simp (disch:=omega) only[Al]|((with_reducible refine Jo ?_);refine⟨(_,_,_),rfl,?_⟩)
    all_goals first|omega|(simp<;>omega)|skip
   ·have k2:=VT g (a:=a) (c:=c) hn hc (by omega) (by omega) hs 1 (by omega)
    have k3:=VT g (a:=a) (c:=c) hn hc (by omega) (by omega) hs 2 (by omega)
    by_cases hth:d.th n=d.heads-1
    ·rw[if_pos hth] at k2 k3
     (try (simp -implicitDefEqProofs only[go_sem,A_,BA,AG.track,w1,w2,w3,hf,hl,hfl,w4,w5,w6,w7,w10,hq,hne,w9,hlast,w8,hth,wp,wq]));repeat' first|(with_reducible first|exact tI|refine aI ?_ ?_|intro _)|((first|with_reducible refine AU ?_ ?_<;>intro _)<;>try (simp -implicitDefEqProofs only[go_sem,A_,BA,AG.track,w1,w2,w3,hf,hl,hfl,w4,w5,w6,w7,w10,hq,hne,w9,hlast,w8,hth,wp,wq]))|simp (disch:=omega) only[Al]|((with_reducible refine Jo ?_);refine⟨(_,_,_),rfl,?_⟩)
     all_goals first|omega|(simp<;>omega)|skip
    ·rw[if_neg hth] at k2 k3
     (try (simp -implicitDefEqProofs only[go_sem,A_,BA,AG.track,w1,w2,w3,hf,hl,hfl,w4,w5,w6,w7,w10,hq,hne,w9,hlast,w8,hth,wp,wq]));repeat' first|(with_reducible first|exact tI|refine aI ?_ ?_|intro _)|((first|with_reducible refine AU ?_ ?_<;>intro _)<;>try (simp -implicitDefEqProofs only[go_sem,A_,BA,AG.track,w1,w2,w3,hf,hl,hfl,w4,w5,w6,w7,w10,hq,hne,w9,hlast,w8,hth,wp,wq]))|simp (disch:=omega) only[Al]|((with_reducible refine Jo ?_);refine⟨(_,_,_),rfl,?_⟩)
     all_goals first|omega|(simp<;>omega)|skip
 ·obtain⟨i1,i2,i3⟩:=hI
  rw[Iz] at i1 i2 i3
  have k1:=cr (d:=d) (a:=a) (c:=c) hc hs 1
  have k2:=cr (d:=d) (a:=a) (c:=c) hc hs 2
  rw[k1.1] at i1;rw[k1.2] at i2;rw[k2.2] at i3
  (try (simp -implicitDefEqProofs only[go_sem,i1,i2,i3]));repeat' first|(with_reducible first|exact tI|refine aI ?_ ?_|intro _)|((first|with_reducible refine AU ?_ ?_<;>intro _)<;>try (simp -implicitDefEqProofs only[go_sem,i1,i2,i3]))|simp (disch:=omega) only[Al]|((with_reducible refine Jo ?_);refine⟨(_,_,_),rfl,?_⟩)
  all_goals first|omega|(simp<;>omega)|skip
def AG.low (d:AG) (a:Int) (m:Nat):Int:=d.ticksR a m+De d.turn d.hskew d.hlo*d.swR 1 a m+De d.turn d.cskew d.clo*d.swR 2 a m
def AG.high (d:AG) (a:Int) (m:Nat):Int:=d.ticksR a m+De d.turn d.hskew d.hhi*d.swR 1 a m+De d.turn d.cskew d.chi*d.swR 2 a m
def AG.turns (d:AG) (a:Int) (m:Nat):Int:=Fe d.turn d.hskew d.hhi*d.swR 1 a m+Fe d.turn d.cskew d.chi*d.swR 2 a m
theorem LT {t s k x:Int}(ht:1<=t/\t<=1000) (hs:0<=s/\s<t) (hk:0<=k/\k<=2000) (hx:0<=x/\x<=5120) :
  (0<=De t s k/\De t s k<=2001000)/\(0<=Fe t s k/\Fe t s k<=2000)/\(0<=De t s k*x/\De t s k*x<=2001000*5120)/\(0<=Fe t s k*x/\Fe t s k*x<=2000*5120):=by
 obtain⟨k0,k1,k2⟩:=Fv (t:=t) (skew:=s) (ticks:=k) (by omega)
 have hle:=UY (t:=t) (skew:=s) (ticks:=k) (by omega) hk.2 hs.1
 have h1:0<=Fe t s k*t/\Fe t s k*t<=2000*1000:=⟨Int.mul_nonneg (by omega) (by omega),Int.mul_le_mul (by omega) (by omega) (by omega) (by omega)⟩
 have h2:0<=De t s k/\De t s k<=2001000:=by unfold De;omega
 exact⟨h2,⟨k0,hle⟩,⟨Int.mul_nonneg (by omega) (by omega),Int.mul_le_mul (by omega) (by omega) (by omega) (by omega)⟩,⟨Int.mul_nonneg (by omega) (by omega),Int.mul_le_mul (by omega) (by omega) (by omega) (by omega)⟩⟩
theorem QX (d:AG) (h:d.ok=true) (a c:Int) (ha:0<=a) (hc:1<=c) (hs:a+c<=d.size) :
  Ca E0 Hq [Cr d,.int .i64 a,.int .i64 c] (.tup [.agg [.int .i64 (d.low a c.toNat),.int .i64 (d.high a c.toNat)],.int .i64 (d.turns a c.toNat)]):=by
 refine AW La Aq (by simp) fun hwf=>?_
 have g:=Bu h
 have hz:=Cm g
 have t1:=g.t1;have t2:=g.t2
 have s0:=g.k1;have s00:=g.k2;have s01:=g.c1;have s02:=g.c2
 have s1:=g.s1;have s2:=g.s2;have s3:=g.s3;have s4:=g.s4;have s5:=g.s5;have s6:=g.s6
 have c1:=Rz d h a c ha hc hs
 have c2:=Mo d
 have e1:=F1 d g d.hskew d.hlo (by omega) (by omega)
 have e2:=F1 d g d.hskew d.hhi (by omega) (by omega)
 have e3:=F1 d g d.cskew d.clo (by omega) (by omega)
 have e4:=F1 d g d.cskew d.chi (by omega) (by omega)
 have q0:=Gc g a c.toNat
 have q1:=LH (d:=d) 1 a c.toNat
 have q2:=LH (d:=d) 2 a c.toNat
 have r1:=LT (t:=d.turn) (s:=d.hskew) (k:=d.hlo) (x:=d.swR 1 a c.toNat) (by omega) (by omega) (by omega) (by omega)
 have r2:=LT (t:=d.turn) (s:=d.hskew) (k:=d.hhi) (x:=d.swR 1 a c.toNat) (by omega) (by omega) (by omega) (by omega)
 have r3:=LT (t:=d.turn) (s:=d.cskew) (k:=d.clo) (x:=d.swR 2 a c.toNat) (by omega) (by omega) (by omega) (by omega)
 have r4:=LT (t:=d.turn) (s:=d.cskew) (k:=d.chi) (x:=d.swR 2 a c.toNat) (by omega) (by omega) (by omega) (by omega)
 rw[AZ];unfold G3 AG.low AG.high AG.turns
 generalize d.ticksR a c.toNat=t at *
 generalize d.swR 1 a c.toNat=sx at *
 generalize d.swR 2 a c.toNat=sy at *
 generalize De d.turn d.hskew d.hlo=v1 at *
 generalize De d.turn d.hskew d.hhi=v2 at *
 generalize De d.turn d.cskew d.clo=v3 at *
 generalize De d.turn d.cskew d.chi=v4 at *
 generalize Fe d.turn d.hskew d.hhi=m2 at *
 generalize Fe d.turn d.cskew d.chi=m4 at *
 have w1:IntKind.i64.wrap (v1*sx)=v1*sx:=Ad _ (by omega)
 have w2:IntKind.i64.wrap (v2*sx)=v2*sx:=Ad _ (by omega)
 have w3:IntKind.i64.wrap (v3*sy)=v3*sy:=Ad _ (by omega)
 have w4:IntKind.i64.wrap (v4*sy)=v4*sy:=Ad _ (by omega)
 have w5:IntKind.i64.wrap (m2*sx)=m2*sx:=Ad _ (by omega)
 have w6:IntKind.i64.wrap (m4*sy)=m4*sy:=Ad _ (by omega)
 have x1:IntKind.i64.wrap (t+v1*sx)=t+v1*sx:=Ad _ (by omega)
 have x2:IntKind.i64.wrap (t+v2*sx)=t+v2*sx:=Ad _ (by omega)
 have x3:IntKind.i64.wrap (t+v1*sx+v3*sy)=t+v1*sx+v3*sy:=Ad _ (by omega)
 have x4:IntKind.i64.wrap (t+v2*sx+v4*sy)=t+v2*sx+v4*sy:=Ad _ (by omega)
 have x5:IntKind.i64.wrap (0+m2*sx)=m2*sx:=by rw[Int.zero_add];exact w5
 have x6:IntKind.i64.wrap (m2*sx+m4*sy)=m2*sx+m4*sy:=Ad _ (by omega)
 (try (simp -implicitDefEqProofs only[go_sem,AI,AD]));repeat' first|(with_reducible first|exact tI|refine aI ?_ ?_|intro _)|((first|with_reducible refine AU ?_ ?_<;>intro _|(with_reducible refine isCall ?_);first|refine AF c1 ?_|refine AF c2 ?_)<;>try (simp -implicitDefEqProofs only[go_sem,AI,AD]))|simp (disch:=omega) only[Al]|((with_reducible refine Kj ?_);refine⟨(_,_,_,_),rfl,?_,?_⟩)
 all_goals first|omega|(simp<;>omega)|skip
 refine Ao (α:=Int×Int×Int×Int) (l0:=?l2) (m0:=?m2) (fun x=>[(28,.d (.int .i64 x.1)),(7,.d (.int .i64 x.2.2.2))]) (fun x=>[(6,.cells [.d (.int .i64 x.2.1),.d (.int .i64 x.2.2.1)])]) (fun x=>(x.1=0/\x.2.1=t/\x.2.2.1=t/\x.2.2.2=0)\/(x.1=1/\x.2.1=t+v1*sx/\x.2.2.1=t+v2*sx/\x.2.2.2=m2*sx)\/(x.1=2/\x.2.1=t+v1*sx+v3*sy/\x.2.2.1=t+v2*sx+v4*sy/\x.2.2.2=m2*sx+m4*sy)) (fun x=>(2-x.1).toNat) (?a2_0,?a2_1,?a2_2,?a2_3) ?h02 ?he2 ?he22 ?hI2 ?step2
 case h02=>(simp -implicitDefEqProofs only[go_sem,AD];rfl)
 case he2=>rfl
 case he22=>rfl
 case' step2=>(rintro⟨i,lo,hi,n⟩ hI;try dsimp only at hI)
 case' hI2=>try dsimp only
 ·exact .inl ⟨rfl,rfl,rfl,rfl⟩
 ·rcases hI with⟨rfl,rfl,rfl,rfl⟩|⟨rfl,rfl,rfl,rfl⟩|⟨rfl,rfl,rfl,rfl⟩
  ·(try (simp -implicitDefEqProofs only[go_sem,AD,AI,w1,w2,w5,x1,x2,x5]));repeat' first|(with_reducible first|exact tI|refine aI ?_ ?_|intro _)|((first|with_reducible refine AU ?_ ?_<;>intro _|(with_reducible refine isCall ?_);first|refine AF e1 ?_|refine AF e2 ?_)<;>try (simp -implicitDefEqProofs only[go_sem,AD,AI,w1,w2,w5,x1,x2,x5]))|simp (disch:=omega) only[Al]|((with_reducible refine Kj ?_);refine⟨(_,_,_,_),rfl,?_,?_⟩)
   all_goals first|omega|(simp<;>omega)|skip
  ·(try (simp -implicitDefEqProofs only[go_sem,AD,AI,w3,w4,w6,x3,x4,x6]));repeat' first|(with_reducible first|exact tI|refine aI ?_ ?_|intro _)|((first|with_reducible refine AU ?_ ?_<;>intro _|(with_reducible refine isCall ?_);first|refine AF e3 ?_|refine AF e4 ?_)<;>try (simp -implicitDefEqProofs only[go_sem,AD,AI,w3,w4,w6,x3,x4,x6]))|simp (disch:=omega) only[Al]|((with_reducible refine Kj ?_);refine⟨(_,_,_,_),rfl,?_,?_⟩)
   all_goals first|omega|(simp<;>omega)|skip
  ·(try (simp -implicitDefEqProofs only[go_sem,AD,AI]));repeat' first|(with_reducible first|exact tI|refine aI ?_ ?_|intro _)|((first|with_reducible refine AU ?_ ?_<;>intro _)<;>try (simp -implicitDefEqProofs only[go_sem,AD,AI]))|simp (disch:=omega) only[Al]|((with_reducible refine Kj ?_);refine⟨(_,_,_,_),rfl,?_,?_⟩)
   all_goals first|omega|(simp<;>omega)|skip
def AG.isRun (d:AG) (a c:Int):Prop:=(0<=a/\1<=c)/\a+c<=d.size
instance (d:AG) (a c:Int):Decidable (d.isRun a c):=by unfold AG.isRun;infer_instance
def AG.run (d:AG) (a c:Int):(Int×Int)×Int:=if d.ok then (if d.isRun a c then ((d.low a c.toNat,d.high a c.toNat),0) else ((0,0),1)) else ((0,0),10)
theorem R0 (d:AG) (a c:Int):Ca E0 Ph [Cr d,.int .i64 a,.int .i64 c] (.tup [.agg [.int .i64 (d.run a c).1.1,.int .i64 (d.run a c).1.2],.int .i64 (d.run a c).2]):=by
 refine AW SJ Aq (by simp) fun hwf=>?_
 have c1:=Gp d
 rw[AZ];unfold M8
 unfold AG.check at c1
 unfold AG.run
 cases h:d.ok with
 |false =>
  rw[h] at c1
  (try (simp -implicitDefEqProofs only[go_sem,AI,AD]));repeat' first|(with_reducible first|exact tI|refine aI ?_ ?_|intro _)|((first|with_reducible refine AU ?_ ?_<;>intro _|(with_reducible refine isCall ?_);first|refine AF c1 ?_)<;>try (simp -implicitDefEqProofs only[go_sem,AI,AD]))|simp (disch:=omega) only[Al]
  all_goals first|omega|(simp<;>omega)|skip
 |true =>
  rw[h] at c1
  have g:=Bu h
  have hz:=Cm g
  have c2:=GS d h
  by_cases hr:d.isRun a c
  ·obtain⟨⟨r1,r2⟩,r3⟩:=hr
   have c3:=QX d h a c r1 r2 r3
   rw[if_pos (show d.isRun a c from ⟨⟨r1,r2⟩,r3⟩)]
   have hw:IntKind.i64.wrap (d.size-c)=d.size-c:=Ad _ (by omega)
   have e1:¬a<0:=by omega
   have e2:¬c<1:=by omega
   have e3:¬d.size<c:=by omega
   have e4:¬d.size-c<a:=by omega
   (try (simp -implicitDefEqProofs only[go_sem,AI,AD,hw,e1,e2,e3,e4]));repeat' first|(with_reducible first|exact tI|refine aI ?_ ?_|intro _)|((first|with_reducible refine AU ?_ ?_<;>intro _|(with_reducible refine isCall ?_);first|refine AF c1 ?_|refine AF c2 ?_|refine AF c3 ?_)<;>try (simp -implicitDefEqProofs only[go_sem,AI,AD,hw,e1,e2,e3,e4]))|simp (disch:=omega) only[Al]
   all_goals first|omega|(simp<;>omega)|skip
  ·rw[if_neg hr]
   unfold AG.isRun at hr
   by_cases hc:1<=c/\c<=d.size
   ·have hw:IntKind.i64.wrap (d.size-c)=d.size-c:=Ad _ (by omega)
    (try (simp -implicitDefEqProofs only[go_sem,AI,AD,hw]));repeat' first|(with_reducible first|exact tI|refine aI ?_ ?_|intro _)|((first|with_reducible refine AU ?_ ?_<;>intro _|(with_reducible refine isCall ?_);first|refine AF c1 ?_|refine AF c2 ?_)<;>try (simp -implicitDefEqProofs only[go_sem,AI,AD,hw]))|simp (disch:=omega) only[Al]
    all_goals first|omega|(simp<;>omega)|skip
   ·have hcc:c<1\/d.size<c:=by omega
    (try (simp -implicitDefEqProofs only[go_sem,AI,AD]));repeat' first|(with_reducible first|exact tI|refine aI ?_ ?_|intro _)|((first|with_reducible refine AU ?_ ?_<;>intro _|(with_reducible refine isCall ?_);first|refine AF c1 ?_|refine AF c2 ?_)<;>try (simp -implicitDefEqProofs only[go_sem,AI,AD]))|simp (disch:=omega) only[Al]
    all_goals first|omega|(simp<;>omega)|skip
def AG.lost (d:AG):Int×Int:=if d.ok then (d.turns 0 d.size.toNat,0) else (0,10)
end Go.Pw
