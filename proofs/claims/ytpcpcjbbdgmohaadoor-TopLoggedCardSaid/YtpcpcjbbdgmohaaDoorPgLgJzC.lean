/- A part of the proof. -/
import Derived.Test.YtpcpcjbbdgmohaaDoorPgLgJzA
import Derived.Test.YtpcpcjbbdgmohaaDoorPwYa
import Derived.Test.YtpcpcjbbdgmohaaDoorPgZonesSpec
set_option linter.all false
section
open Go Go.Pw Go.Proofs
namespace Go.Pw
set_option maxRecDepth 100000
set_option maxHeartbeats 1600000
theorem K7 {E:C2} {rs o els s}:aU E rs o els .ret s=(GF E s rs (fun _=>True)/\LY els (s.V.ob o)):=rfl
theorem Mi {E:C2} {rs o els s}:aU E rs o els .normal s=(GF E s rs (fun _=>True)/\LY els (s.V.ob o)):=rfl
theorem Et {els g e n st}:LY els (some (g,.hist e n st))=(e=els/\(st=true\/n=els.length)):=rfl
structure dH (d:AR) (i j n:Nat):Prop where
 hi:i<d.zones.length
 hj:j<(d.zones[i]?.getD default).1.toNat
 hn:n=(d.base i+j)*d.heads.toNat
theorem Wf {d:AR}(g:d.Good) {i j h:Nat}(hi:i<d.zones.length) (hj:j<(d.zones[i]?.getD default).1.toNat) (hh:h<d.heads.toNat) :
  (d.base i+j)*d.heads.toNat+h<d.nt/\d.ts ((d.base i+j)*d.heads.toNat+h)=(d.zones[i]?.getD default).2/\d.tc ((d.base i+j)*d.heads.toNat+h)=((d.base i+j:Nat):Int)/\d.th ((d.base i+j)*d.heads.toNat+h)=h:=by
 have h1:=UP d i j hi hj
 have h2:d.base i+j<d.cyls:=(List.getElem?_eq_some_iff.1 h1).1
 refine⟨?_,by rw[Z3 _ _ hh,h1,Option.getD_some],bt _ _ hh,br _ _ hh⟩
 unfold AR.nt
 calc (d.base i+j)*d.heads.toNat+h<(d.base i+j)*d.heads.toNat+d.heads.toNat:=by omega
  _=(d.base i+j+1)*d.heads.toNat:=by rw[Nat.succ_mul]
  _<=d.cyls*d.heads.toNat:=Nat.mul_le_mul_right _ h2
theorem Ss:Ef.noR=true:=by rfl
theorem YM {d:AR}(g:d.Good) (n:Nat):d.to (n+1)=(d.to n+(if d.th n=d.heads-1 then d.cskew else d.hskew)).tmod d.turn:=by
 have h1:=g.to n;have h2:=g.k1;have h3:=g.c1
 rw[AR.to,Int.tmod_eq_emod_of_nonneg]
 split<;>omega
attribute [local congr] DP B9 B_ Bj DR Bn Bp Bo Bi BW BQ BF Bl BR BU Bm BV CC Cg BT CE CF CD CA CB B8 DQ B' Bk BS
attribute [local irreducible] IntKind.wrap CG Option.getD and or
theorem L7 (d:AR) (hok:d.ok=true):UD E0 E2 [HJ d] [] d.tracks:=by
 have g:=GW hok
 have g1:=g.h1;have g2:=g.h2;have g3:=g.t1;have g4:=g.t2;have g5:=g.z1;have g6:=g.z2
 have hcy:=g.cyls
 refine S_ Iu A' Ss (by simp) fun hwf _=>?_
 rw[BI];unfold Ef
 (try (simp -implicitDefEqProofs only[go_sem,Ao,AU,A1]));repeat' first|(with_reducible first|exact tI|refine aI ?_ ?_|intro _)|((first|with_reducible refine Ad ?_ ?_<;>intro _)<;>try (simp -implicitDefEqProofs only[go_sem,Ao,AU,A1]))|simp (disch:=omega) only[A7]|((with_reducible refine KM ?_);refine⟨(_,_,_,_,_,_,_),rfl,?_,?_⟩)|((with_reducible refine Hk ?_);refine⟨(_,_,_,_,_,_),rfl,?_,?_⟩)
 all_goals first|omega|(simp<;>omega)|skip
 refine BZ (α:=Int×Int×Int×Int×Int×Int×Nat) (l0:=?l1) (m0:=?m1) (fun x=>[(11,.d (.int .i64 x.1))]) (fun x=>[(4,.cells [.d (.int .i64 x.2.1),.d (.int .i64 x.2.2.1),.d (.int .i64 x.2.2.2.1),.d (.int .i64 x.2.2.2.2.1),.d (.int .i64 x.2.2.2.2.2.1)]),(900001,.hist d.tracks x.2.2.2.2.2.2 false)]) (fun x=>0<=x.1/\x.1<=d.zones.length/\x.2.2.2.2.2.2=d.base x.1.toNat * d.heads.toNat/\x.2.1=d.base x.1.toNat/\x.2.2.2.2.1=d.tf x.2.2.2.2.2.2/\x.2.2.2.2.2.1=d.to x.2.2.2.2.2.2) (fun x=>(d.zones.length-x.1).toNat) (?a1_0,?a1_1,?a1_2,?a1_3,?a1_4,?a1_5,?a1_6) ?h01 ?he1 ?he21 ?hI1 ?step1
 case h01=>(simp -implicitDefEqProofs only[go_sem,A1,AU];rfl)
 case he1=>rfl
 case he21=>rfl
 case' step1=>(rintro⟨i,c,e,s,f,o,n⟩ hI;try dsimp only at hI)
 case' hI1=>try dsimp only
 ·exact⟨by omega,by omega,by simp[AR.base],by simp[AR.base],rfl,rfl⟩
 ·obtain⟨h1,h2,h3,h4,h5,h6⟩:=hI
  by_cases hi:i<d.zones.length
  ·have hz:=g.z i.toNat (by omega)
   obtain⟨z,hze⟩:∃z,d.zones[i.toNat]?.getD default=z:=⟨_,rfl⟩
   rw[hze] at hz
   have hi1:IntKind.i64.wrap (i+1)=i+1:=BN _ (by omega)
   (try (simp -implicitDefEqProofs only[go_sem,A1,B5,hze,Dw,AU,CI]));repeat' first|(with_reducible first|exact tI|refine aI ?_ ?_|intro _)|((first|with_reducible refine Ad ?_ ?_<;>intro _)<;>try (simp -implicitDefEqProofs only[go_sem,A1,B5,hze,Dw,AU,CI]))|simp (disch:=omega) only[A7]|((with_reducible refine KM ?_);refine⟨(_,_,_,_,_,_,_),rfl,?_,?_⟩)|((with_reducible refine Hk ?_);refine⟨(_,_,_,_,_,_),rfl,?_,?_⟩)
   all_goals first|omega|(simp<;>omega)|skip
   refine BZ (α:=Int×Int×Int×Int×Int×Int×Nat) (l0:=?l2) (m0:=?m2) (fun x=>[(17,.d (.int .i64 x.1))]) (fun x=>[(4,.cells [.d (.int .i64 x.2.1),.d (.int .i64 x.2.2.1),.d (.int .i64 x.2.2.2.1),.d (.int .i64 x.2.2.2.2.1),.d (.int .i64 x.2.2.2.2.2.1)]),(900001,.hist d.tracks x.2.2.2.2.2.2 false)]) (fun x=>0<=x.1/\x.1<=z.1/\x.2.2.2.2.2.2=(d.base i.toNat+x.1.toNat)*d.heads.toNat/\x.2.1=d.base i.toNat+x.1/\x.2.2.2.2.1=d.tf x.2.2.2.2.2.2/\x.2.2.2.2.2.1=d.to x.2.2.2.2.2.2) (fun x=>(z.1-x.1).toNat) (?a2_0,?a2_1,?a2_2,?a2_3,?a2_4,?a2_5,?a2_6) ?h02 ?he2 ?he22 ?hI2 ?step2
   case h02=>(simp -implicitDefEqProofs only[go_sem,A1,AU];rfl)
   case he2=>rfl
   case he22=>rfl
   case' step2=>(rintro⟨j,c,e,s,f,o,n⟩ hI2;try dsimp only at hI2)
   case' hI2=>try dsimp only
   ·exact⟨by omega,by omega,by simpa using h3,by omega,h5,h6⟩
   ·obtain⟨q1,q2,q3,q4,q5,q6⟩:=hI2
    have hw1:IntKind.i64.wrap (c+1)=c+1:=BN _ (by have:=g.base i.toNat (by omega);omega)
    have hj1:IntKind.i64.wrap (j+1)=j+1:=BN _ (by omega)
    by_cases hj:j<z.1
    ·(try (simp -implicitDefEqProofs only[go_sem,AU]));repeat' first|(with_reducible first|exact tI|refine aI ?_ ?_|intro _)|((first|with_reducible refine Ad ?_ ?_<;>intro _)<;>try (simp -implicitDefEqProofs only[go_sem,AU]))|simp (disch:=omega) only[A7]|((with_reducible refine KM ?_);refine⟨(_,_,_,_,_,_,_),rfl,?_,?_⟩)|((with_reducible refine Hk ?_);refine⟨(_,_,_,_,_,_),rfl,?_,?_⟩)
     all_goals first|omega|(simp<;>omega)|skip
     refine BZ (α:=Int×Int×Int×Int×Int×Nat) (l0:=?l3) (m0:=?m3) (fun x=>[(22,.d (.int .i64 x.1))]) (fun x=>[(4,.cells [.d (.int .i64 c),.d (.int .i64 x.2.1),.d (.int .i64 x.2.2.1),.d (.int .i64 x.2.2.2.1),.d (.int .i64 x.2.2.2.2.1)]),(900001,.hist d.tracks x.2.2.2.2.2 false)]) (fun x=>0<=x.1/\x.1<=d.heads/\x.2.2.2.2.2=(d.base i.toNat+j.toNat)*d.heads.toNat+x.1.toNat/\x.2.2.2.1=d.tf x.2.2.2.2.2/\x.2.2.2.2.1=d.to x.2.2.2.2.2) (fun x=>(d.heads-x.1).toNat) (?a3_0,?a3_1,?a3_2,?a3_3,?a3_4,?a3_5) ?h03 ?he3 ?he23 ?hI3 ?step3
     case h03=>(simp -implicitDefEqProofs only[go_sem,AU];rfl)
     case he3=>rfl
     case he23=>rfl
     case' step3=>(rintro⟨k,e,s,f,o,n⟩ hI3;try dsimp only at hI3)
     case' hI3=>try dsimp only
     ·exact⟨by omega,by omega,by simpa using q3,q5,q6⟩
     ·obtain⟨r1,r2,r3,r4,r5⟩:=hI3
      by_cases hk:k<d.heads
      ·have ht:=Wf g (i:=i.toNat) (j:=j.toNat) (h:=k.toNat) (by omega) (by rw[hze];omega) (by omega)
       rw[←r3,hze] at ht
       obtain⟨t1,t2,t3,t4⟩:=ht
       have hat:=Uv t1
       have htf:=g.tf n (by omega)
       have hto:=g.to n
       have hnt:=g.nt
       have hwf1:IntKind.i64.wrap (f+z.2)=f+z.2:=BN _ (by omega)
       have htn:d.tf (n+1)=f+z.2:=by rw[AR.tf,t2,←r4]
       have hon:=YM g n
       have hk1:IntKind.i64.wrap (k+1)=k+1:=BN _ (by omega)
       have hh1:IntKind.i64.wrap (d.heads-1)=d.heads-1:=BN _ (by omega)
       have hc2:=g.c1;have hc3:=g.c2;have hs2:=g.k1;have hs3:=g.k2
       have wc:IntKind.i64.wrap (o+d.cskew)=o+d.cskew:=BN _ (by omega)
       have ws:IntKind.i64.wrap (o+d.hskew)=o+d.hskew:=BN _ (by omega)
       have htr:Nj (d.track n)=.agg [.int .i64 c,.int .i64 k,.int .i64 z.2,.int .i64 f,.int .i64 o]:=by
        rw[L9,L_,AR.track];simp only
        rw[t2,t3,t4,←r4,←r5,show ((d.base i.toNat+j.toNat:Nat):Int)=c by omega,show ((k.toNat:Nat):Int)=k by omega]
       rw[htr] at hat
       have hne:¬d.turn=0:=by omega
       by_cases hl:k=d.heads-1
       ·rw[if_pos (by omega),←r5] at hon
        have c1:=GN d true
        rw[if_pos rfl] at c1
        (try (simp -implicitDefEqProofs only[go_sem,AU,Ao,hwf1,wc,hon.symm,hh1,hne,hk1,hat,K7,Et]));repeat' first|(with_reducible first|exact tI|refine aI ?_ ?_|intro _)|((first|with_reducible refine Ad ?_ ?_<;>intro _|(with_reducible refine isCall ?_);first|refine AH c1 ?_)<;>try (simp -implicitDefEqProofs only[go_sem,AU,Ao,hwf1,wc,hon.symm,hh1,hne,hk1,hat,K7,Et]))|simp (disch:=omega) only[A7]|((with_reducible refine KM ?_);refine⟨(_,_,_,_,_,_,_),rfl,?_,?_⟩)|((with_reducible refine Hk ?_);refine⟨(_,_,_,_,_,_),rfl,?_,?_⟩)
        all_goals first|omega|(simp<;>omega)|skip
        all_goals rfl
       ·rw[if_neg (by omega),←r5] at hon
        have c1:=GN d false
        rw[if_neg (by simp)] at c1
        (try (simp -implicitDefEqProofs only[go_sem,AU,Ao,hwf1,ws,hon.symm,hh1,hne,hk1,hat,K7,Et]));repeat' first|(with_reducible first|exact tI|refine aI ?_ ?_|intro _)|((first|with_reducible refine Ad ?_ ?_<;>intro _|(with_reducible refine isCall ?_);first|refine AH c1 ?_)<;>try (simp -implicitDefEqProofs only[go_sem,AU,Ao,hwf1,ws,hon.symm,hh1,hne,hk1,hat,K7,Et]))|simp (disch:=omega) only[A7]|((with_reducible refine KM ?_);refine⟨(_,_,_,_,_,_,_),rfl,?_,?_⟩)|((with_reducible refine Hk ?_);refine⟨(_,_,_,_,_,_),rfl,?_,?_⟩)
        all_goals first|omega|(simp<;>omega)|skip
        all_goals rfl
      ·have hke:k=d.heads:=by omega
       subst hke
       have hnn:n=(d.base i.toNat+(j+1).toNat)*d.heads.toNat:=by rw[r3,show d.base i.toNat+(j+1).toNat=d.base i.toNat+j.toNat+1 by omega,Nat.succ_mul]
       (try (simp -implicitDefEqProofs only[go_sem,AU,hw1,hj1]));repeat' first|(with_reducible first|exact tI|refine aI ?_ ?_|intro _)|((first|with_reducible refine Ad ?_ ?_<;>intro _)<;>try (simp -implicitDefEqProofs only[go_sem,AU,hw1,hj1]))|simp (disch:=omega) only[A7]|((with_reducible refine KM ?_);refine⟨(_,_,_,_,_,_,_),rfl,?_,?_⟩)|((with_reducible refine Hk ?_);refine⟨(_,_,_,_,_,_),rfl,?_,?_⟩)
       all_goals first|omega|(simp<;>omega)|skip
    ·have hje:j=z.1:=by omega
     subst hje
     have hbn:d.base (i+1).toNat=d.base i.toNat+z.1.toNat:=by rw[show (i+1).toNat=i.toNat+1 by omega,AR.base,hze]
     have hnn:n=d.base (i+1).toNat * d.heads.toNat:=by rw[hbn];exact q3
     have hcc:c=d.base (i+1).toNat:=by rw[hbn];omega
     (try (simp -implicitDefEqProofs only[go_sem,AU,hi1]));repeat' first|(with_reducible first|exact tI|refine aI ?_ ?_|intro _)|((first|with_reducible refine Ad ?_ ?_<;>intro _)<;>try (simp -implicitDefEqProofs only[go_sem,AU,hi1]))|simp (disch:=omega) only[A7]|((with_reducible refine KM ?_);refine⟨(_,_,_,_,_,_,_),rfl,?_,?_⟩)|((with_reducible refine Hk ?_);refine⟨(_,_,_,_,_,_),rfl,?_,?_⟩)
     all_goals first|omega|(simp<;>omega)|skip
  ·have hie:i=d.zones.length:=by omega
   have hnn:n=d.tracks.length:=by rw[Ni,h3,hie,AR.nt,←Jc];simp
   (try (simp -implicitDefEqProofs only[go_sem,AU,hi,A1,Mi,Et]));repeat' first|(with_reducible first|exact tI|refine aI ?_ ?_|intro _)|((first|with_reducible refine Ad ?_ ?_<;>intro _)<;>try (simp -implicitDefEqProofs only[go_sem,AU,hi,A1,Mi,Et]))|simp (disch:=omega) only[A7]|((with_reducible refine KM ?_);refine⟨(_,_,_,_,_,_,_),rfl,?_,?_⟩)|((with_reducible refine Hk ?_);refine⟨(_,_,_,_,_,_),rfl,?_,?_⟩)
   all_goals first|omega|(simp<;>omega)|skip
end Go.Pw
end
section
open Go Go.Pw Go.Proofs
namespace Go.Pw
set_option maxRecDepth 100000
set_option maxHeartbeats 1600000
attribute [local congr] DP B9 B_ Bj DR Bn Bp Bo Bi BW BQ BF Bl BR BU Bm BV CC Cg BT CE CF CD CA CB B8 DQ B' Bk BS
attribute [local irreducible] IntKind.wrap CG Option.getD and or
theorem Jy (d:AR) (hok:d.ok=true):D6 E0 HN [HJ d] (.int .i64 d.size):=by
 have g:=GW hok
 refine Ap J5 A' (by simp) fun hwf=>?_
 rw[Av];unfold Gi
 (try (simp -implicitDefEqProofs only[go_sem,Ao,AU]));repeat' first|(with_reducible first|exact tI|refine aI ?_ ?_|intro _)|((first|with_reducible refine Ad ?_ ?_<;>intro _)<;>try (simp -implicitDefEqProofs only[go_sem,Ao,AU]))|simp (disch:=omega) only[A7]|((with_reducible refine bF ?_);refine⟨_,rfl,?_⟩)
 refine Yn (α:=Int) (so:=K6) (l0:=?l1) (m0:=?m1) (fun x=>[(5000002,.cells [.d (.int .i64 x)])]) (fun n x=>x=d.tf n) (fun e x=>False) 0 (L7 d hok) IE ?h01 ?he1 (by simp[PC.noR]) ?hw1 ?hI1 ?step1 ?hend1 ?hjump1
 case h01=>(simp -implicitDefEqProofs only[go_sem,Ao,AU];simp only[or_true,true_or,true_and];first|rfl|exact⟨.inl ⟨rfl,rfl⟩,rfl⟩|exact⟨.inr ⟨rfl,rfl⟩,rfl⟩)
 case he1=>rfl
 case hw1=>simp -implicitDefEqProofs only[go_sem]
 case' hjump1=>(rintro e x hI;try dsimp only at hI)
 case' hend1=>(rintro x hI;try dsimp only at hI)
 case' step1=>(rintro n x ds hds hI;try dsimp only at hI)
 case' hI1=>try dsimp only
 ·rfl
 ·obtain⟨hn,rfl⟩:=Su hds
  refine⟨rfl,?_⟩
  have h1:=g.tf n (by omega)
  have h2:=g.ts hn
  have h3:=g.nt
  have hw:IntKind.i64.wrap (x+d.ts n)=x+d.ts n:=BN _ (by omega)
  (try (simp -implicitDefEqProofs only[go_sem,L9,L_,AR.track,hw]));repeat' first|(with_reducible first|exact tI|refine aI ?_ ?_|intro _)|((first|with_reducible refine Ad ?_ ?_<;>intro _)<;>try (simp -implicitDefEqProofs only[go_sem,L9,L_,AR.track,hw]))|simp (disch:=omega) only[A7]|((with_reducible refine bF ?_);refine⟨_,rfl,?_⟩)
  all_goals first|omega|(simp<;>omega)|skip
  all_goals (rw[hI];rfl)
 ·rw[Ni] at hI
  (try (simp -implicitDefEqProofs only[go_sem,hI]));repeat' first|(with_reducible first|exact tI|refine aI ?_ ?_|intro _)|((first|with_reducible refine Ad ?_ ?_<;>intro _)<;>try (simp -implicitDefEqProofs only[go_sem,hI]))|simp (disch:=omega) only[A7]|((with_reducible refine bF ?_);refine⟨_,rfl,?_⟩)
  rfl
theorem Na (d:AR):D6 E0 Lw [HJ d] (.tup [HJ d,.int .i64 d.check]):=by
 refine Ap OM A' (by simp) fun hwf=>?_
 have c1:=M2 d
 rw[Ao,AU] at c1
 rw[Av];unfold J'
 (try (simp -implicitDefEqProofs only[go_sem,Ao,AU]));repeat' first|(with_reducible first|exact tI|refine aI ?_ ?_|intro _)|((first|with_reducible refine Ad ?_ ?_<;>intro _|(with_reducible refine isCall ?_);first|refine AH c1 ?_)<;>try (simp -implicitDefEqProofs only[go_sem,Ao,AU]))|simp (disch:=omega) only[A7]
 all_goals first|omega|(simp<;>omega)|skip
theorem Nb (d:AR):D6 E0 Lx [HJ d] (.tup [.int .i64 (if d.ok then d.size else 0),.int .i64 d.check]):=by
 refine Ap OO A' (by simp) fun hwf=>?_
 have c1:=Na d
 rw[Av];unfold KA
 unfold AR.check at *
 cases h:d.ok with
 |false =>
  rw[h] at c1
  (try (simp -implicitDefEqProofs only[go_sem,Ao,AU]));repeat' first|(with_reducible first|exact tI|refine aI ?_ ?_|intro _)|((first|with_reducible refine Ad ?_ ?_<;>intro _|(with_reducible refine isCall ?_);first|refine AH c1 ?_)<;>try (simp -implicitDefEqProofs only[go_sem,Ao,AU]))|simp (disch:=omega) only[A7]
  all_goals first|omega|(simp<;>omega)|skip
 |true =>
  rw[h] at c1
  have c2:=Jy d h
  (try (simp -implicitDefEqProofs only[go_sem,Ao,AU]));repeat' first|(with_reducible first|exact tI|refine aI ?_ ?_|intro _)|((first|with_reducible refine Ad ?_ ?_<;>intro _|(with_reducible refine isCall ?_);first|refine AH c1 ?_|refine AH c2 ?_)<;>try (simp -implicitDefEqProofs only[go_sem,Ao,AU]))|simp (disch:=omega) only[A7]
  all_goals first|omega|(simp<;>omega)|skip
def dP (c h s:Int):D:=.agg [.int .i64 c,.int .i64 h,.int .i64 s]
end Go.Pw
end
section
open Go Go.Pw Go.Proofs
namespace Go.Pw
set_option maxRecDepth 100000
set_option maxHeartbeats 1600000
def AR.isRun (d:AR) (a c:Int):Prop:=(0<=a/\1<=c)/\a+c<=d.size
instance (d:AR) (a c:Int):Decidable (d.isRun a c):=by unfold AR.isRun;infer_instance
attribute [local congr] DP B9 B_ Bj DR Bn Bp Bo Bi BW BQ BF Bl BR BU Bm BV CC Cg BT CE CF CD CA CB B8 DQ B' Bk BS
attribute [local irreducible] IntKind.wrap CG Option.getD and or
theorem GG (d:AR) (h:d.ok=true):D6 E0 KY [HJ d] (.int .i64 d.size):=by
 have g:=GW h
 refine Ap NG A' (by simp) fun hwf=>?_
 have z2:=g.z2;have g1:=g.h1;have g2:=g.h2
 have hH:=g.hn
 rw[Av];unfold JF
 (try (simp -implicitDefEqProofs only[go_sem,Ao,AU]));repeat' first|(with_reducible first|exact tI|refine aI ?_ ?_|intro _)|((first|with_reducible refine Ad ?_ ?_<;>intro _)<;>try (simp -implicitDefEqProofs only[go_sem,Ao,AU]))|simp (disch:=omega) only[A7]|((with_reducible refine LW ?_);refine⟨(_,_),rfl,?_,?_⟩)
 all_goals first|omega|(simp<;>omega)|skip
 refine BZ (α:=Int×Int) (l0:=?l1) (m0:=?m1) (fun x=>[(4,.d (.int .i64 x.1)),(3,.d (.int .i64 x.2))]) (fun x=>[]) (fun x=>(0<=x.1/\x.1<=d.zones.length)/\x.2=d.tf (d.base x.1.toNat * d.heads.toNat)) (fun x=>(d.zones.length-x.1).toNat) (?a1_0,?a1_1) ?h01 ?he1 ?he21 ?hI1 ?step1
 case h01=>(simp -implicitDefEqProofs only[go_sem,AU,A1];rfl)
 case he1=>rfl
 case he21=>rfl
 case' step1=>(rintro⟨i,n⟩ hI;try dsimp only at hI)
 case' hI1=>try dsimp only
 ·exact⟨⟨by omega,by omega⟩,by simp[AR.base,AR.tf]⟩
 ·obtain⟨⟨h1,h2⟩,h3⟩:=hI
  by_cases hi:i<d.zones.length
  ·have hz:=g.z i.toNat (by omega)
   have htf:=UL (d:=d) (i:=i.toNat) (by omega) (d.zones[i.toNat]?.getD default).1.toNat (Nat.le_refl _)
   have hnt:d.base i.toNat * d.heads.toNat<=d.nt:=by
    have:=Uk d i.toNat d.zones.length (by omega)
    rw[Jc] at this
    exact Nat.mul_le_mul_right _ this
   have hb:=g.tf _ hnt
   have hn1:=g.nt
   obtain⟨z,hze⟩:∃z,d.zones[i.toNat]?.getD default=z:=⟨_,rfl⟩
   rw[hze] at hz htf
   have hn:d.base (i+1).toNat=d.base i.toNat+z.1.toNat:=by rw[show (i+1).toNat=i.toNat+1 by omega,AR.base,hze]
   rw[←hn,←h3,show ((z.1.toNat:Nat):Int)=z.1 by omega,hH,←Int.mul_assoc] at htf
   have m1:0<=z.1*z.2/\z.1*z.2<=20*16:=⟨Int.mul_nonneg (by omega) (by omega),Int.mul_le_mul (by omega) (by omega) (by omega) (by omega)⟩
   have m2:0<=z.1*z.2*d.heads/\z.1*z.2*d.heads<=20*16*4:=⟨Int.mul_nonneg (by omega) (by omega),Int.mul_le_mul (by omega) (by omega) (by omega) (by omega)⟩
   have w1:IntKind.i64.wrap (i+1)=i+1:=BN _ (by omega)
   have w2:IntKind.i64.wrap (z.1*z.2)=z.1*z.2:=BN _ (by omega)
   have w3:IntKind.i64.wrap (z.1*z.2*d.heads)=z.1*z.2*d.heads:=BN _ (by omega)
   have w4:IntKind.i64.wrap (n+z.1*z.2*d.heads)=n+z.1*z.2*d.heads:=BN _ (by omega)
   (try (simp -implicitDefEqProofs only[go_sem,AU,A1,B5,hze,Dw,CI,w1,w2,w3,w4]));repeat' first|(with_reducible first|exact tI|refine aI ?_ ?_|intro _)|((first|with_reducible refine Ad ?_ ?_<;>intro _)<;>try (simp -implicitDefEqProofs only[go_sem,AU,A1,B5,hze,Dw,CI,w1,w2,w3,w4]))|simp (disch:=omega) only[A7]|((with_reducible refine LW ?_);refine⟨(_,_),rfl,?_,?_⟩)
   all_goals first|omega|(simp<;>omega)|skip
  ·have hie:i=d.zones.length:=by omega
   have hn:n=d.size:=by rw[h3,hie,AR.size,AR.nt,←Jc];simp
   (try (simp -implicitDefEqProofs only[go_sem,AU,A1,hi]));repeat' first|(with_reducible first|exact tI|refine aI ?_ ?_|intro _)|((first|with_reducible refine Ad ?_ ?_<;>intro _)<;>try (simp -implicitDefEqProofs only[go_sem,AU,A1,hi]))|simp (disch:=omega) only[A7]|((with_reducible refine LW ?_);refine⟨(_,_),rfl,?_,?_⟩)
   all_goals first|omega|(simp<;>omega)|skip
theorem Kh (d:AR) (h:d.ok=true) (n:Int):D6 E0 Ht [HJ d,.int .i64 n] (.bool (EO n 0 (d.size-1))):=by
 refine Ap Kp A' (by simp) fun hwf=>?_
 have g:=GW h
 have hsz:=H0 g
 have c1:=GG d h
 have c2:=Bv n 0 (d.size-1)
 have w1:IntKind.i64.wrap (d.size-1)=d.size-1:=BN _ (by omega)
 rw[Av];unfold HC
 cases hb:EO n 0 (d.size-1) with
 |false=>rw[hb] at c2;(try (simp -implicitDefEqProofs only[go_sem,Ao,AU,w1]));repeat' first|(with_reducible first|exact tI|refine aI ?_ ?_|intro _)|((first|with_reducible refine Ad ?_ ?_<;>intro _|(with_reducible refine isCall ?_);first|refine AH c1 ?_|refine AH c2 ?_)<;>try (simp -implicitDefEqProofs only[go_sem,Ao,AU,w1]))|simp (disch:=omega) only[A7]
 |true=>rw[hb] at c2;(try (simp -implicitDefEqProofs only[go_sem,Ao,AU,w1]));repeat' first|(with_reducible first|exact tI|refine aI ?_ ?_|intro _)|((first|with_reducible refine Ad ?_ ?_<;>intro _|(with_reducible refine isCall ?_);first|refine AH c1 ?_|refine AH c2 ?_)<;>try (simp -implicitDefEqProofs only[go_sem,Ao,AU,w1]))|simp (disch:=omega) only[A7]
theorem M7 (d:AR) (h:d.ok=true) (a c:Int):D6 E0 KX [HJ d,.int .i64 a,.int .i64 c] (.bool (decide (d.isRun a c))):=by
 have g:=GW h
 refine Ap NF A' (by simp) fun hwf=>?_
 have hsz:=H0 g
 have c1:=Kh d h a
 have c2:=GG d h
 have c3:=Bv c 1 (d.size-a)
 rw[Av];unfold JE
 by_cases ha:0<=a/\a<=d.size-1
 ·have hb:EO a 0 (d.size-1)=true:=CR.2 ha
  have w1:IntKind.i64.wrap (d.size-a)=d.size-a:=BN _ (by omega)
  rw[hb] at c1
  have hd:decide (d.isRun a c)=EO c 1 (d.size-a):=by unfold EO;refine decide_eq_decide.2 ?_;unfold AR.isRun;omega
  rw[hd]
  (try (simp -implicitDefEqProofs only[go_sem,Ao,AU,w1]));repeat' first|(with_reducible first|exact tI|refine aI ?_ ?_|intro _)|((first|with_reducible refine Ad ?_ ?_<;>intro _|(with_reducible refine isCall ?_);first|refine AH c1 ?_|refine AH c2 ?_|refine AH c3 ?_)<;>try (simp -implicitDefEqProofs only[go_sem,Ao,AU,w1]))|simp (disch:=omega) only[A7]
  all_goals first|rfl|(simp_all;done)
 ·have hb:EO a 0 (d.size-1)=false:=bH.2 ha
  rw[hb] at c1
  have hd:decide (d.isRun a c)=false:=decide_eq_false (by unfold AR.isRun;omega)
  rw[hd]
  (try (simp -implicitDefEqProofs only[go_sem,Ao,AU]));repeat' first|(with_reducible first|exact tI|refine aI ?_ ?_|intro _)|((first|with_reducible refine Ad ?_ ?_<;>intro _|(with_reducible refine isCall ?_);first|refine AH c1 ?_|refine AH c2 ?_|refine AH c3 ?_)<;>try (simp -implicitDefEqProofs only[go_sem,Ao,AU]))|simp (disch:=omega) only[A7]
  all_goals first|omega|(simp<;>omega)|skip
end Go.Pw
end
