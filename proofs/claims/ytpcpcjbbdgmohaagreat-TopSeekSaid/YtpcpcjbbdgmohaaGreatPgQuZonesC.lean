/- A part of the proof. -/
import Derived.Test.YtpcpcjbbdgmohaaGreatPgQuZonesA
import Derived.Test.YtpcpcjbbdgmohaaGreatPwYa
set_option linter.all false
section
open Go Go.Pw Go.Proofs
namespace Go.Pw
set_option maxRecDepth 100000
set_option maxHeartbeats 1600000
theorem Gv {E:CU} {rs o els s}:XN E rs o els .ret s=(Ev E s rs (fun _=>True)/\FS els (s.V.ob o)):=rfl
theorem F9 {E:CU} {rs o els s}:XN E rs o els .normal s=(Ev E s rs (fun _=>True)/\FS els (s.V.ob o)):=rfl
theorem Cp {els g e n st}:FS els (some (g,.hist e n st))=(e=els/\(st=true\/n=els.length)):=rfl
structure mF (d:AG) (i j n:Nat):Prop where
 hi:i<d.zones.length
 hj:j<(d.zones[i]?.getD default).1.toNat
 hn:n=(d.base i+j)*d.heads.toNat
theorem cB {d:AG}(g:d.Good) {i j h:Nat}(hi:i<d.zones.length) (hj:j<(d.zones[i]?.getD default).1.toNat) (hh:h<d.heads.toNat) :
  (d.base i+j)*d.heads.toNat+h<d.nt/\d.ts ((d.base i+j)*d.heads.toNat+h)=(d.zones[i]?.getD default).2/\d.tc ((d.base i+j)*d.heads.toNat+h)=((d.base i+j:Nat):Int)/\d.th ((d.base i+j)*d.heads.toNat+h)=h:=by
 have h1:=UF d i j hi hj
 have h2:d.base i+j<d.cyls:=(List.getElem?_eq_some_iff.1 h1).1
 refine⟨?_,by rw[cA _ _ hh,h1,Option.getD_some],i5 _ _ hh,i0 _ _ hh⟩
 unfold AG.nt
 calc (d.base i+j)*d.heads.toNat+h<(d.base i+j)*d.heads.toNat+d.heads.toNat:=by omega
  _=(d.base i+j+1)*d.heads.toNat:=by rw[Nat.succ_mul]
  _<=d.cyls*d.heads.toNat:=Nat.mul_le_mul_right _ h2
theorem W3:ES.noR=true:=by rfl
theorem fa {d:AG}(g:d.Good) (n:Nat):d.to (n+1)=(d.to n+(if d.th n=d.heads-1 then d.cskew else d.hskew)).tmod d.turn:=by
 have h1:=g.to n;have h2:=g.k1;have h3:=g.c1
 rw[AG.to,Int.tmod_eq_emod_of_nonneg]
 split<;>omega
attribute [local congr] DX B3 B4 Bc DZ Bj Bl Bk Bb BN BF A6 Be BG Bg CD CE CF Cd Ce B9 Bf BL Bi BM B8 Cf BK CB CC B_ B6 B7 B2 DY B5 Bd BI BH BJ Bh CA
attribute [local irreducible] IntKind.wrap CK Option.getD and or
theorem Fl (d:AG) (hok:d.ok=true):Ru E0 Eo [Cr d] [] d.tracks:=by
 have g:=Bu hok
 have g1:=g.h1;have g2:=g.h2;have g3:=g.t1;have g4:=g.t2;have g5:=g.z1;have g6:=g.z2
 have hcy:=g.cyls
 refine I4 J1 Aq W3 (by simp) fun hwf _=>?_
 rw[Dv];unfold ES
 (try (simp -implicitDefEqProofs only[go_sem,AI,AD,AY]));repeat' first|(with_reducible first|exact tI|refine aI ?_ ?_|intro _)|((first|with_reducible refine AU ?_ ?_<;>intro _)<;>try (simp -implicitDefEqProofs only[go_sem,AI,AD,AY]))|simp (disch:=omega) only[Al]|((with_reducible refine PP ?_);refine⟨(_,_,_,_,_,_,_),rfl,?_,?_⟩)|((with_reducible refine PQ ?_);refine⟨(_,_,_,_,_,_),rfl,?_,?_⟩)
 all_goals first|omega|(simp<;>omega)|skip
 refine Ao (α:=Int×Int×Int×Int×Int×Int×Nat) (l0:=?l1) (m0:=?m1) (fun x=>[(11,.d (.int .i64 x.1))]) (fun x=>[(4,.cells [.d (.int .i64 x.2.1),.d (.int .i64 x.2.2.1),.d (.int .i64 x.2.2.2.1),.d (.int .i64 x.2.2.2.2.1),.d (.int .i64 x.2.2.2.2.2.1)]),(900001,.hist d.tracks x.2.2.2.2.2.2 false)]) (fun x=>0<=x.1/\x.1<=d.zones.length/\x.2.2.2.2.2.2=d.base x.1.toNat * d.heads.toNat/\x.2.1=d.base x.1.toNat/\x.2.2.2.2.1=d.tf x.2.2.2.2.2.2/\x.2.2.2.2.2.1=d.to x.2.2.2.2.2.2) (fun x=>(d.zones.length-x.1).toNat) (?a1_0,?a1_1,?a1_2,?a1_3,?a1_4,?a1_5,?a1_6) ?h01 ?he1 ?he21 ?hI1 ?step1
 case h01=>(simp -implicitDefEqProofs only[go_sem,AY,AD];rfl)
 case he1=>rfl
 case he21=>rfl
 case' step1=>(rintro⟨i,c,e,s,f,o,n⟩ hI;try dsimp only at hI)
 case' hI1=>try dsimp only
 ·exact⟨by omega,by omega,by simp[AG.base],by simp[AG.base],rfl,rfl⟩
 ·obtain⟨h1,h2,h3,h4,h5,h6⟩:=hI
  by_cases hi:i<d.zones.length
  ·have hz:=g.z i.toNat (by omega)
   obtain⟨z,hze⟩:∃z,d.zones[i.toNat]?.getD default=z:=⟨_,rfl⟩
   rw[hze] at hz
   have hi1:IntKind.i64.wrap (i+1)=i+1:=Ad _ (by omega)
   (try (simp -implicitDefEqProofs only[go_sem,AY,An,hze,BR,AD,Ar]));repeat' first|(with_reducible first|exact tI|refine aI ?_ ?_|intro _)|((first|with_reducible refine AU ?_ ?_<;>intro _)<;>try (simp -implicitDefEqProofs only[go_sem,AY,An,hze,BR,AD,Ar]))|simp (disch:=omega) only[Al]|((with_reducible refine PP ?_);refine⟨(_,_,_,_,_,_,_),rfl,?_,?_⟩)|((with_reducible refine PQ ?_);refine⟨(_,_,_,_,_,_),rfl,?_,?_⟩)
   all_goals first|omega|(simp<;>omega)|skip
   refine Ao (α:=Int×Int×Int×Int×Int×Int×Nat) (l0:=?l2) (m0:=?m2) (fun x=>[(17,.d (.int .i64 x.1))]) (fun x=>[(4,.cells [.d (.int .i64 x.2.1),.d (.int .i64 x.2.2.1),.d (.int .i64 x.2.2.2.1),.d (.int .i64 x.2.2.2.2.1),.d (.int .i64 x.2.2.2.2.2.1)]),(900001,.hist d.tracks x.2.2.2.2.2.2 false)]) (fun x=>0<=x.1/\x.1<=z.1/\x.2.2.2.2.2.2=(d.base i.toNat+x.1.toNat)*d.heads.toNat/\x.2.1=d.base i.toNat+x.1/\x.2.2.2.2.1=d.tf x.2.2.2.2.2.2/\x.2.2.2.2.2.1=d.to x.2.2.2.2.2.2) (fun x=>(z.1-x.1).toNat) (?a2_0,?a2_1,?a2_2,?a2_3,?a2_4,?a2_5,?a2_6) ?h02 ?he2 ?he22 ?hI2 ?step2
   case h02=>(simp -implicitDefEqProofs only[go_sem,AY,AD];rfl)
   case he2=>rfl
   case he22=>rfl
   case' step2=>(rintro⟨j,c,e,s,f,o,n⟩ hI2;try dsimp only at hI2)
   case' hI2=>try dsimp only
   ·exact⟨by omega,by omega,by simpa using h3,by omega,h5,h6⟩
   ·obtain⟨q1,q2,q3,q4,q5,q6⟩:=hI2
    have hw1:IntKind.i64.wrap (c+1)=c+1:=Ad _ (by have:=g.base i.toNat (by omega);omega)
    have hj1:IntKind.i64.wrap (j+1)=j+1:=Ad _ (by omega)
    by_cases hj:j<z.1
    ·(try (simp -implicitDefEqProofs only[go_sem,AD]));repeat' first|(with_reducible first|exact tI|refine aI ?_ ?_|intro _)|((first|with_reducible refine AU ?_ ?_<;>intro _)<;>try (simp -implicitDefEqProofs only[go_sem,AD]))|simp (disch:=omega) only[Al]|((with_reducible refine PP ?_);refine⟨(_,_,_,_,_,_,_),rfl,?_,?_⟩)|((with_reducible refine PQ ?_);refine⟨(_,_,_,_,_,_),rfl,?_,?_⟩)
     all_goals first|omega|(simp<;>omega)|skip
     refine Ao (α:=Int×Int×Int×Int×Int×Nat) (l0:=?l3) (m0:=?m3) (fun x=>[(22,.d (.int .i64 x.1))]) (fun x=>[(4,.cells [.d (.int .i64 c),.d (.int .i64 x.2.1),.d (.int .i64 x.2.2.1),.d (.int .i64 x.2.2.2.1),.d (.int .i64 x.2.2.2.2.1)]),(900001,.hist d.tracks x.2.2.2.2.2 false)]) (fun x=>0<=x.1/\x.1<=d.heads/\x.2.2.2.2.2=(d.base i.toNat+j.toNat)*d.heads.toNat+x.1.toNat/\x.2.2.2.1=d.tf x.2.2.2.2.2/\x.2.2.2.2.1=d.to x.2.2.2.2.2) (fun x=>(d.heads-x.1).toNat) (?a3_0,?a3_1,?a3_2,?a3_3,?a3_4,?a3_5) ?h03 ?he3 ?he23 ?hI3 ?step3
     case h03=>(simp -implicitDefEqProofs only[go_sem,AD];rfl)
     case he3=>rfl
     case he23=>rfl
     case' step3=>(rintro⟨k,e,s,f,o,n⟩ hI3;try dsimp only at hI3)
     case' hI3=>try dsimp only
     ·exact⟨by omega,by omega,by simpa using q3,q5,q6⟩
     ·obtain⟨r1,r2,r3,r4,r5⟩:=hI3
      by_cases hk:k<d.heads
      ·have ht:=cB g (i:=i.toNat) (j:=j.toNat) (h:=k.toNat) (by omega) (by rw[hze];omega) (by omega)
       rw[←r3,hze] at ht
       obtain⟨t1,t2,t3,t4⟩:=ht
       have hat:=ZL t1
       have htf:=g.tf n (by omega)
       have hto:=g.to n
       have hnt:=g.nt
       have hwf1:IntKind.i64.wrap (f+z.2)=f+z.2:=Ad _ (by omega)
       have htn:d.tf (n+1)=f+z.2:=by rw[AG.tf,t2,←r4]
       have hon:=fa g n
       have hk1:IntKind.i64.wrap (k+1)=k+1:=Ad _ (by omega)
       have hh1:IntKind.i64.wrap (d.heads-1)=d.heads-1:=Ad _ (by omega)
       have hc2:=g.c1;have hc3:=g.c2;have hs2:=g.k1;have hs3:=g.k2
       have wc:IntKind.i64.wrap (o+d.cskew)=o+d.cskew:=Ad _ (by omega)
       have ws:IntKind.i64.wrap (o+d.hskew)=o+d.hskew:=Ad _ (by omega)
       have htr:OP (d.track n)=.agg [.int .i64 c,.int .i64 k,.int .i64 z.2,.int .i64 f,.int .i64 o]:=by
        rw[A_,BA,AG.track];simp only
        rw[t2,t3,t4,←r4,←r5,show ((d.base i.toNat+j.toNat:Nat):Int)=c by omega,show ((k.toNat:Nat):Int)=k by omega]
       rw[htr] at hat
       have hne:¬d.turn=0:=by omega
       by_cases hl:k=d.heads-1
       ·rw[if_pos (by omega),←r5] at hon
        have c1:=GR d true
        rw[if_pos rfl] at c1
        (try (simp -implicitDefEqProofs only[go_sem,AD,AI,hwf1,wc,hon.symm,hh1,hne,hk1,hat,Gv,Cp]));repeat' first|(with_reducible first|exact tI|refine aI ?_ ?_|intro _)|((first|with_reducible refine AU ?_ ?_<;>intro _|(with_reducible refine isCall ?_);first|refine AF c1 ?_)<;>try (simp -implicitDefEqProofs only[go_sem,AD,AI,hwf1,wc,hon.symm,hh1,hne,hk1,hat,Gv,Cp]))|simp (disch:=omega) only[Al]|((with_reducible refine PP ?_);refine⟨(_,_,_,_,_,_,_),rfl,?_,?_⟩)|((with_reducible refine PQ ?_);refine⟨(_,_,_,_,_,_),rfl,?_,?_⟩)
        all_goals first|omega|(simp<;>omega)|skip
        all_goals rfl
       ·rw[if_neg (by omega),←r5] at hon
        have c1:=GR d false
        rw[if_neg (by simp)] at c1
        (try (simp -implicitDefEqProofs only[go_sem,AD,AI,hwf1,ws,hon.symm,hh1,hne,hk1,hat,Gv,Cp]));repeat' first|(with_reducible first|exact tI|refine aI ?_ ?_|intro _)|((first|with_reducible refine AU ?_ ?_<;>intro _|(with_reducible refine isCall ?_);first|refine AF c1 ?_)<;>try (simp -implicitDefEqProofs only[go_sem,AD,AI,hwf1,ws,hon.symm,hh1,hne,hk1,hat,Gv,Cp]))|simp (disch:=omega) only[Al]|((with_reducible refine PP ?_);refine⟨(_,_,_,_,_,_,_),rfl,?_,?_⟩)|((with_reducible refine PQ ?_);refine⟨(_,_,_,_,_,_),rfl,?_,?_⟩)
        all_goals first|omega|(simp<;>omega)|skip
        all_goals rfl
      ·have hke:k=d.heads:=by omega
       subst hke
       have hnn:n=(d.base i.toNat+(j+1).toNat)*d.heads.toNat:=by rw[r3,show d.base i.toNat+(j+1).toNat=d.base i.toNat+j.toNat+1 by omega,Nat.succ_mul]
       (try (simp -implicitDefEqProofs only[go_sem,AD,hw1,hj1]));repeat' first|(with_reducible first|exact tI|refine aI ?_ ?_|intro _)|((first|with_reducible refine AU ?_ ?_<;>intro _)<;>try (simp -implicitDefEqProofs only[go_sem,AD,hw1,hj1]))|simp (disch:=omega) only[Al]|((with_reducible refine PP ?_);refine⟨(_,_,_,_,_,_,_),rfl,?_,?_⟩)|((with_reducible refine PQ ?_);refine⟨(_,_,_,_,_,_),rfl,?_,?_⟩)
       all_goals first|omega|(simp<;>omega)|skip
    ·have hje:j=z.1:=by omega
     subst hje
     have hbn:d.base (i+1).toNat=d.base i.toNat+z.1.toNat:=by rw[show (i+1).toNat=i.toNat+1 by omega,AG.base,hze]
     have hnn:n=d.base (i+1).toNat * d.heads.toNat:=by rw[hbn];exact q3
     have hcc:c=d.base (i+1).toNat:=by rw[hbn];omega
     (try (simp -implicitDefEqProofs only[go_sem,AD,hi1]));repeat' first|(with_reducible first|exact tI|refine aI ?_ ?_|intro _)|((first|with_reducible refine AU ?_ ?_<;>intro _)<;>try (simp -implicitDefEqProofs only[go_sem,AD,hi1]))|simp (disch:=omega) only[Al]|((with_reducible refine PP ?_);refine⟨(_,_,_,_,_,_,_),rfl,?_,?_⟩)|((with_reducible refine PQ ?_);refine⟨(_,_,_,_,_,_),rfl,?_,?_⟩)
     all_goals first|omega|(simp<;>omega)|skip
  ·have hie:i=d.zones.length:=by omega
   have hnn:n=d.tracks.length:=by rw[Iz,h3,hie,AG.nt,←FV];simp
   (try (simp -implicitDefEqProofs only[go_sem,AD,hi,AY,F9,Cp]));repeat' first|(with_reducible first|exact tI|refine aI ?_ ?_|intro _)|((first|with_reducible refine AU ?_ ?_<;>intro _)<;>try (simp -implicitDefEqProofs only[go_sem,AD,hi,AY,F9,Cp]))|simp (disch:=omega) only[Al]|((with_reducible refine PP ?_);refine⟨(_,_,_,_,_,_,_),rfl,?_,?_⟩)|((with_reducible refine PQ ?_);refine⟨(_,_,_,_,_,_),rfl,?_,?_⟩)
   all_goals first|omega|(simp<;>omega)|skip
end Go.Pw
end
section
open Go Go.Pw Go.Proofs
namespace Go.Pw
set_option maxRecDepth 100000
set_option maxHeartbeats 1600000
attribute [local congr] DX B3 B4 Bc DZ Bj Bl Bk Bb BN BF A6 Be BG Bg CD CE CF Cd Ce B9 Bf BL Bi BM B8 Cf BK CB CC B_ B6 B7 B2 DY B5 Bd BI BH BJ Bh CA
attribute [local irreducible] IntKind.wrap CK Option.getD and or
theorem GS (d:AG) (hok:d.ok=true):Ca E0 Hs [Cr d] (.int .i64 d.size):=by
 have g:=Bu hok
 refine AW Lc Aq (by simp) fun hwf=>?_
 rw[AZ];unfold G5
 (try (simp -implicitDefEqProofs only[go_sem,AI,AD]));repeat' first|(with_reducible first|exact tI|refine aI ?_ ?_|intro _)|((first|with_reducible refine AU ?_ ?_<;>intro _)<;>try (simp -implicitDefEqProofs only[go_sem,AI,AD]))|simp (disch:=omega) only[Al]|((with_reducible refine d7 ?_);refine⟨_,rfl,?_⟩)
 refine LJ (α:=Int) (so:=HU) (l0:=?l1) (m0:=?m1) (fun x=>[(5000002,.cells [.d (.int .i64 x)])]) (fun n x=>x=d.tf n) (fun e x=>False) 0 (Fl d hok) D5 ?h01 ?he1 (by simp[PC.noR]) ?hw1 ?hI1 ?step1 ?hend1 ?hjump1
 case h01=>(simp -implicitDefEqProofs only[go_sem,AI,AD];(try simp only[or_true,true_or,true_and]);first|rfl|(refine⟨.inl ⟨_,rfl,rfl⟩,?_⟩<;>rfl)|exact⟨.inl ⟨⟨_,rfl,rfl⟩,rfl⟩,rfl⟩|exact⟨.inr ⟨rfl,rfl⟩,rfl⟩)
 case he1=>rfl
 case hw1=>simp -implicitDefEqProofs only[go_sem]
 case' hjump1=>(rintro e x hI;try dsimp only at hI)
 case' hend1=>(rintro x hI;try dsimp only at hI)
 case' step1=>(rintro n x ds hds hI;try dsimp only at hI)
 case' hI1=>try dsimp only
 ·rfl
 ·obtain⟨hn,rfl⟩:=MO hds
  refine⟨rfl,?_⟩
  have h1:=g.tf n (by omega)
  have h2:=g.ts hn
  have h3:=g.nt
  have hw:IntKind.i64.wrap (x+d.ts n)=x+d.ts n:=Ad _ (by omega)
  (try (simp -implicitDefEqProofs only[go_sem,A_,BA,AG.track,hw]));repeat' first|(with_reducible first|exact tI|refine aI ?_ ?_|intro _)|((first|with_reducible refine AU ?_ ?_<;>intro _)<;>try (simp -implicitDefEqProofs only[go_sem,A_,BA,AG.track,hw]))|simp (disch:=omega) only[Al]|((with_reducible refine d7 ?_);refine⟨_,rfl,?_⟩)
  all_goals first|omega|(simp<;>omega)|skip
  all_goals (rw[hI];rfl)
 ·rw[Iz] at hI
  (try (simp -implicitDefEqProofs only[go_sem,hI]));repeat' first|(with_reducible first|exact tI|refine aI ?_ ?_|intro _)|((first|with_reducible refine AU ?_ ?_<;>intro _)<;>try (simp -implicitDefEqProofs only[go_sem,hI]))|simp (disch:=omega) only[Al]|((with_reducible refine d7 ?_);refine⟨_,rfl,?_⟩)
  rfl
theorem Gp (d:AG):Ca E0 N7 [Cr d] (.tup [Cr d,.int .i64 d.check]):=by
 refine AW RP Aq (by simp) fun hwf=>?_
 have c1:=JS d
 rw[AI,AD] at c1
 rw[AZ];unfold Lp
 (try (simp -implicitDefEqProofs only[go_sem,AI,AD]));repeat' first|(with_reducible first|exact tI|refine aI ?_ ?_|intro _)|((first|with_reducible refine AU ?_ ?_<;>intro _|(with_reducible refine isCall ?_);first|refine AF c1 ?_)<;>try (simp -implicitDefEqProofs only[go_sem,AI,AD]))|simp (disch:=omega) only[Al]
 all_goals first|omega|(simp<;>omega)|skip
theorem QY (d:AG):Ca E0 N9 [Cr d] (.tup [.int .i64 (if d.ok then d.size else 0),.int .i64 d.check]):=by
 refine AW RR Aq (by simp) fun hwf=>?_
 have c1:=Gp d
 rw[AZ];unfold Lr
 unfold AG.check at *
 cases h:d.ok with
 |false =>
  rw[h] at c1
  (try (simp -implicitDefEqProofs only[go_sem,AI,AD]));repeat' first|(with_reducible first|exact tI|refine aI ?_ ?_|intro _)|((first|with_reducible refine AU ?_ ?_<;>intro _|(with_reducible refine isCall ?_);first|refine AF c1 ?_)<;>try (simp -implicitDefEqProofs only[go_sem,AI,AD]))|simp (disch:=omega) only[Al]
  all_goals first|omega|(simp<;>omega)|skip
 |true =>
  rw[h] at c1
  have c2:=GS d h
  (try (simp -implicitDefEqProofs only[go_sem,AI,AD]));repeat' first|(with_reducible first|exact tI|refine aI ?_ ?_|intro _)|((first|with_reducible refine AU ?_ ?_<;>intro _|(with_reducible refine isCall ?_);first|refine AF c1 ?_|refine AF c2 ?_)<;>try (simp -implicitDefEqProofs only[go_sem,AI,AD]))|simp (disch:=omega) only[Al]
  all_goals first|omega|(simp<;>omega)|skip
theorem J4 (d:AG) (m:Int):Ca E0 N8 [Cr d,.int .i64 m] (.tup [Cr d,OP (d.find m).1,.int .i64 (d.find m).2]):=by
 refine AW RQ Aq (by simp) fun hwf=>?_
 have c1:=Gp d
 rw[AZ];unfold Lq
 unfold AG.check AG.find at *
 cases h:d.ok with
 |false =>
  rw[h] at c1
  (try (simp -implicitDefEqProofs only[go_sem,AI,AD,A_,BA,D8]));repeat' first|(with_reducible first|exact tI|refine aI ?_ ?_|intro _)|((first|with_reducible refine AU ?_ ?_<;>intro _|(with_reducible refine isCall ?_);first|refine AF c1 ?_)<;>try (simp -implicitDefEqProofs only[go_sem,AI,AD,A_,BA,D8]))|simp (disch:=omega) only[Al]|((with_reducible refine Jo ?_);refine⟨(_,_,_),rfl,?_⟩)
  all_goals first|omega|(simp<;>omega)|skip
 |true =>
  rw[h] at c1
  have g:=Bu h
  (try (simp -implicitDefEqProofs only[go_sem,AI,AD]));repeat' first|(with_reducible first|exact tI|refine aI ?_ ?_|intro _)|((first|with_reducible refine AU ?_ ?_<;>intro _|(with_reducible refine isCall ?_);first|refine AF c1 ?_)<;>try (simp -implicitDefEqProofs only[go_sem,AI,AD]))|simp (disch:=omega) only[Al]|((with_reducible refine Jo ?_);refine⟨(_,_,_),rfl,?_⟩)
  all_goals first|omega|(simp<;>omega)|skip
  refine LJ (α:=(List AV)×(List AV)×(List AV)) (so:=HU) (l0:=?l2) (m0:=?m2) (fun x=>[(5000004,.cells x.1),(5000005,.cells x.2.1),(5000006,.cells x.2.2)]) (fun n x=>(∀k,k<n->¬d.holds m k)/\x.1=[.d (.int .i64 0),.d (.int .i64 0),.d (.list true []),.d (.int .i64 0),.d (.int .i64 0),.d (.int .i64 0),.d (.int .i64 0),.d (.int .i64 0),.d (.int .i64 0)]/\x.2.1=[.d (.int .i64 0),.d (.int .i64 0),.d (.int .i64 0),.d (.int .i64 0),.d (.int .i64 0)]/\x.2.2=[.d (.int .i64 0)]) (fun e x=>e=.ret/\∃k,k<d.nt/\d.holds m k/\x.1=(WP d).map .d/\x.2.1=(Tu (d.track k)).map .d/\x.2.2=[.d (.int .i64 0)]) (?a2_0,?a2_1,?a2_2) (Fl d h) D5 ?h02 ?he2 (by simp[PC.noR]) ?hw2 ?hI2 ?step2 ?hend2 ?hjump2
  case h02=>(simp -implicitDefEqProofs only[go_sem,AI,AD];(try simp only[or_true,true_or,true_and]);first|rfl|(refine⟨.inl ⟨_,rfl,rfl⟩,?_⟩<;>rfl)|exact⟨.inl ⟨⟨_,rfl,rfl⟩,rfl⟩,rfl⟩|exact⟨.inr ⟨rfl,rfl⟩,rfl⟩)
  case he2=>rfl
  case hw2=>simp -implicitDefEqProofs only[go_sem]
  case' hjump2=>(rintro e ⟨p,q,r⟩ hI;try dsimp only at hI)
  case' hend2=>(rintro⟨p,q,r⟩ hI;try dsimp only at hI)
  case' step2=>(rintro n ⟨p,q,r⟩ ds hds hI;try dsimp only at hI)
  case' hI2=>try dsimp only
  ·exact⟨fun k hk=>by omega,rfl,rfl,rfl⟩
  ·obtain⟨h1,rfl,rfl,rfl⟩:=hI
   obtain⟨hn,rfl⟩:=MO hds
   refine⟨rfl,?_⟩
   have h2:=g.tf n (by omega)
   have h3:=g.ts hn
   have h4:=g.nt
   have hw1:IntKind.i64.wrap (d.tf n+d.ts n)=d.tf n+d.ts n:=Ad _ (by omega)
   have hw2:IntKind.i64.wrap (d.tf n+d.ts n-1)=d.tf n+d.ts n-1:=Ad _ (by omega)
   have c2:=Ee m (d.tf n) (d.tf n+d.ts n-1)
   by_cases hh:d.holds m n
   ·have hb:FR m (d.tf n) (d.tf n+d.ts n-1)=true:=Di.2 (by unfold AG.holds at hh;omega)
    rw[hb] at c2
    (try (simp -implicitDefEqProofs only[go_sem,A_,BA,AG.track,hw1,hw2]));repeat' first|(with_reducible first|exact tI|refine aI ?_ ?_|intro _)|((first|with_reducible refine AU ?_ ?_<;>intro _|(with_reducible refine isCall ?_);first|refine AF c2 ?_)<;>try (simp -implicitDefEqProofs only[go_sem,A_,BA,AG.track,hw1,hw2]))|simp (disch:=omega) only[Al]|((with_reducible refine Jo ?_);refine⟨(_,_,_),rfl,?_⟩)
    all_goals first|omega|(simp<;>omega)|skip
    exact⟨n,hn,hh,rfl,rfl,trivial⟩
   ·have hb:FR m (d.tf n) (d.tf n+d.ts n-1)=false:=Xx.2 (by unfold AG.holds at hh;omega)
    rw[hb] at c2
    (try (simp -implicitDefEqProofs only[go_sem,A_,BA,AG.track,hw1,hw2]));repeat' first|(with_reducible first|exact tI|refine aI ?_ ?_|intro _)|((first|with_reducible refine AU ?_ ?_<;>intro _|(with_reducible refine isCall ?_);first|refine AF c2 ?_)<;>try (simp -implicitDefEqProofs only[go_sem,A_,BA,AG.track,hw1,hw2]))|simp (disch:=omega) only[Al]|((with_reducible refine Jo ?_);refine⟨(_,_,_),rfl,?_⟩)
    all_goals first|omega|(simp<;>omega)|skip
    rename_i k hk
    rcases (show k<n\/k=n by omega) with h5|h5
    ·exact h1 k h5
    ·rw[h5];exact hh
  ·obtain⟨h1,rfl,rfl,rfl⟩:=hI
   rw[Iz] at h1
   rw[Vv.2 h1]
   (try (simp -implicitDefEqProofs only[go_sem,AI,AD,A_,BA,D8]));repeat' first|(with_reducible first|exact tI|refine aI ?_ ?_|intro _)|((first|with_reducible refine AU ?_ ?_<;>intro _)<;>try (simp -implicitDefEqProofs only[go_sem,AI,AD,A_,BA,D8]))|simp (disch:=omega) only[Al]|((with_reducible refine Jo ?_);refine⟨(_,_,_),rfl,?_⟩)
   all_goals first|omega|(simp<;>omega)|skip
  ·obtain⟨rfl,k,h1,h2,rfl,rfl,rfl⟩:=hI
   rw[GF g h1 h2]
   (try (simp -implicitDefEqProofs only[go_sem,AI,AD,A_,BA,AG.track]));repeat' first|(with_reducible first|exact tI|refine aI ?_ ?_|intro _)|((first|with_reducible refine AU ?_ ?_<;>intro _)<;>try (simp -implicitDefEqProofs only[go_sem,AI,AD,A_,BA,AG.track]))|simp (disch:=omega) only[Al]|((with_reducible refine Jo ?_);refine⟨(_,_,_),rfl,?_⟩)
   all_goals first|omega|(simp<;>omega)|skip
def dL (c h s:Int):D:=.agg [.int .i64 c,.int .i64 h,.int .i64 s]
theorem EF (c h s:Int):dL c h s=.agg [.int .i64 c,.int .i64 h,.int .i64 s]:=rfl
end Go.Pw
end
