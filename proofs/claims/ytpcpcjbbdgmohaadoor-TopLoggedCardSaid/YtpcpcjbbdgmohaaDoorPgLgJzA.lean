/- A part of the proof. -/
import Derived.Test.YtpcpcjbbdgmohaaDoorLgPC
import Derived.Test.YtpcpcjbbdgmohaaDoorPwVC
import Derived.Test.YtpcpcjbbdgmohaaDoorPgZonesSpec
set_option linter.all false
section
open Go Go.Pw Go.Proofs
namespace Go.Pw
set_option maxRecDepth 100000
set_option maxHeartbeats 800000
attribute [local congr] DP B9 B_ Bj DR Bn Bp Bo Bi BW BQ BF Bl BR BU Bm BV CC Cg BT CE CF CD CA CB B8 DQ B' Bk BS
attribute [local irreducible] IntKind.wrap CG Option.getD and or
theorem FW (n lo hi:Int):D6 E0 Ot [.int .i64 n,.int .i64 lo,.int .i64 hi] (.bool (EO n lo hi)):=by
 refine Ap Qs A' (by simp) fun hwf=>?_
 rw[Av];unfold Mm EO
 (try (simp -implicitDefEqProofs only[go_sem]));repeat' first|(with_reducible first|exact tI|refine aI ?_ ?_|intro _)|((first|with_reducible refine Ad ?_ ?_<;>intro _)<;>try (simp -implicitDefEqProofs only[go_sem]))|simp (disch:=omega) only[A7]
 all_goals first|omega|(simp_all;done)|(simp_all;omega)
theorem Bv (n lo hi:Int):D6 E0 Jk [.int .i64 n,.int .i64 lo,.int .i64 hi] (.bool (EO n lo hi)):=by
 refine Ap MU A' (by simp) fun hwf=>?_
 rw[Av];unfold IW EO
 (try (simp -implicitDefEqProofs only[go_sem]));repeat' first|(with_reducible first|exact tI|refine aI ?_ ?_|intro _)|((first|with_reducible refine Ad ?_ ?_<;>intro _)<;>try (simp -implicitDefEqProofs only[go_sem]))|simp (disch:=omega) only[A7]
 all_goals first|omega|(simp_all;done)|(simp_all;omega)
theorem Kz (l h:Int):D6 E0 Ih [.agg [.int .i64 l,.int .i64 h]] (.bool (Hy l h)):=by
 refine Ap Ld A' (by simp) fun hwf=>?_
 rw[Av];unfold HX Hy
 (try (simp -implicitDefEqProofs only[go_sem]));repeat' first|(with_reducible first|exact tI|refine aI ?_ ?_|intro _)|((first|with_reducible refine Ad ?_ ?_<;>intro _)<;>try (simp -implicitDefEqProofs only[go_sem]))|simp (disch:=omega) only[A7]
 all_goals first|omega|(simp_all;done)|(simp_all;omega)
theorem GN (d:AR) (b:Bool):D6 E0 HM [HJ d,.bool b] (.int .i64 (if b then d.cskew else d.hskew)):=by
 refine Ap J4 A' (by simp) fun hwf=>?_
 rw[Av];unfold Gh
 cases b
 ·(try (simp -implicitDefEqProofs only[go_sem,Ao,AU]));repeat' first|(with_reducible first|exact tI|refine aI ?_ ?_|intro _)|((first|with_reducible refine Ad ?_ ?_<;>intro _)<;>try (simp -implicitDefEqProofs only[go_sem,Ao,AU]))|simp (disch:=omega) only[A7]
 ·(try (simp -implicitDefEqProofs only[go_sem,Ao,AU]));repeat' first|(with_reducible first|exact tI|refine aI ?_ ?_|intro _)|((first|with_reducible refine Ad ?_ ?_<;>intro _)<;>try (simp -implicitDefEqProofs only[go_sem,Ao,AU]))|simp (disch:=omega) only[A7]
end Go.Pw
end
section
open Go Go.Pw Go.Proofs
namespace Go.Pw
set_option maxRecDepth 100000
set_option maxHeartbeats 1600000
attribute [local congr] DP B9 B_ Bj DR Bn Bp Bo Bi BW BQ BF Bl BR BU Bm BV CC Cg BT CE CF CD CA CB B8 DQ B' Bk BS
attribute [local irreducible] IntKind.wrap CG Option.getD and or
theorem Q7 {d:AR}{i:Int}(h0:0<=i/\i<d.zones.length) (h:FX d.turn (d.zones[i.toNat]?.getD default)=false):d.ok=false:=by
 unfold AR.ok;rw[YB (j:=i.toNat) (by omega) h];simp
theorem UJ {d:AR}{i:Int}(h0:0<=i/\i<d.zones.length) (h3:∀(j:Nat),(j:Int)<i->FX d.turn (d.zones[j]?.getD default)=true) (h:FX d.turn (d.zones[i.toNat]?.getD default)=true):∀(j:Nat),(j:Int)<i+1->FX d.turn (d.zones[j]?.getD default)=true:=fun j hj=>by
 rcases (show (j:Int)<i\/j=i.toNat by omega) with h1|h1
 ·exact h3 j h1
 ·rw[h1];exact h
theorem M2 (d:AR):D6 E0 KT [HJ d] (.int .i64 d.check):=by
 refine Ap NB A' (by simp) fun hwf=>?_
 simp only[Fm,FB,FA,El,GD,GC,IK,GB,Cy,DF,DG,FD,Di,List.length_map,Dn,true_and,and_true,Ao,AU,A1] at hwf
 rw[Av];unfold JA AR.check
 have hb62:Cl E0.P 150=true:=by kernel_rfl
 by_cases ht:EO d.turn 1 1000=true
 ·have ht2:=CR.1 ht
  have hw:IntKind.i64.wrap (d.turn-1)=d.turn-1:=BN _ (by omega)
  (try (simp -implicitDefEqProofs only[go_sem,Ao,AU,hw,A1,hb62]));repeat' first|(with_reducible first|exact tI|refine aI ?_ ?_|intro _)|((first|with_reducible refine Ad ?_ ?_<;>intro _|(with_reducible refine isCall ?_);first|refine AH (FW _ _ _) ?_|refine AH (Kz _ _) ?_)<;>try (simp -implicitDefEqProofs only[go_sem,Ao,AU,hw,A1,hb62]))|simp (disch:=omega) only[A7]|((with_reducible refine BL ?_);refine⟨_,rfl,?_,?_⟩)
  all_goals (try (simp_all[AR.ok,AR.head];done))
  refine BZ (α:=Int) (l0:=?l1) (m0:=?m1) (fun x=>[(48,.d (.int .i64 x))]) (fun x=>[]) (fun x=>0<=x/\x<=d.zones.length/\∀(j:Nat),(j:Int)<x->FX d.turn (d.zones[j]?.getD default)=true) (fun x=>(d.zones.length-x).toNat) ?a1_0 ?h01 ?he1 ?he21 ?hI1 ?step1
  case h01=>(simp -implicitDefEqProofs only[go_sem,A1,AU];rfl)
  case he1=>rfl
  case he21=>rfl
  case' step1=>(rintro i hI;try dsimp only at hI)
  case' hI1=>try dsimp only
  ·exact⟨by omega,by omega,fun j hj=>by omega⟩
  ·obtain⟨h1,h2,h3⟩:=hI
   by_cases hi:i<d.zones.length
   ·have hbad:=Q7 (d:=d) ⟨h1,hi⟩
    have hgood:=UJ (d:=d) ⟨h1,hi⟩ h3
    have hi1:IntKind.i64.wrap (i+1)=i+1:=BN _ (by omega)
    obtain⟨w,hw2⟩:∃w,d.zones[i.toNat]?.getD default=w:=⟨_,rfl⟩
    rw[hw2] at hbad hgood
    have hwo:FX d.turn w=(EO w.1 1 20 && EO w.2 1 16 && decide (d.turn.tmod w.2=0)):=rfl
    have k1:=FW w.1 1 20
    have k2:=FW w.2 1 16
    cases b1:EO w.1 1 20 with
    |false =>
     rw[b1] at k1
     rw[hbad (by rw[hwo,b1];simp)]
     (try (simp -implicitDefEqProofs only[go_sem,A1,B5,hw2,Dw,AU,CI]));repeat' first|(with_reducible first|exact tI|refine aI ?_ ?_|intro _)|((first|with_reducible refine Ad ?_ ?_<;>intro _|(with_reducible refine isCall ?_);first|refine AH k1 ?_)<;>try (simp -implicitDefEqProofs only[go_sem,A1,B5,hw2,Dw,AU,CI]))|simp (disch:=omega) only[A7]|((with_reducible refine BL ?_);refine⟨_,rfl,?_,?_⟩)
     all_goals first|omega|(simp<;>omega)|skip
    |true =>
     rw[b1] at k1
     cases b2:EO w.2 1 16 with
     |false =>
      rw[b2] at k2
      rw[hbad (by rw[hwo,b2];simp)]
      (try (simp -implicitDefEqProofs only[go_sem,A1,B5,hw2,Dw,AU,CI]));repeat' first|(with_reducible first|exact tI|refine aI ?_ ?_|intro _)|((first|with_reducible refine Ad ?_ ?_<;>intro _|(with_reducible refine isCall ?_);first|refine AH k1 ?_|refine AH k2 ?_)<;>try (simp -implicitDefEqProofs only[go_sem,A1,B5,hw2,Dw,AU,CI]))|simp (disch:=omega) only[A7]|((with_reducible refine BL ?_);refine⟨_,rfl,?_,?_⟩)
      all_goals first|omega|(simp<;>omega)|skip
     |true =>
      rw[b2] at k2
      have hb2:=CR.1 b2
      have hm:IntKind.i64.wrap (d.turn.tmod w.2)=d.turn.tmod w.2:=BN _ (by
       have:=Int.tmod_nonneg w.2 (a:=d.turn) (by omega)
       have:=Int.tmod_lt_of_pos d.turn (b:=w.2) (by omega)
       omega)
      have hne:¬w.2=0:=by omega
      by_cases hz:d.turn.tmod w.2=0
      ·have hok:=hgood (by rw[hwo,b1,b2];simp[hz])
       (try (simp -implicitDefEqProofs only[go_sem,A1,B5,hw2,Dw,AU,CI,hm,hz,hne]));repeat' first|(with_reducible first|exact tI|refine aI ?_ ?_|intro _)|((first|with_reducible refine Ad ?_ ?_<;>intro _|(with_reducible refine isCall ?_);first|refine AH k1 ?_|refine AH k2 ?_)<;>try (simp -implicitDefEqProofs only[go_sem,A1,B5,hw2,Dw,AU,CI,hm,hz,hne]))|simp (disch:=omega) only[A7]|((with_reducible refine BL ?_);refine⟨_,rfl,?_,?_⟩)
       all_goals first|omega|(simp<;>omega)|skip
       all_goals (apply hok;assumption)
      ·rw[hbad (by rw[hwo];simp[hz])]
       (try (simp -implicitDefEqProofs only[go_sem,A1,B5,hw2,Dw,AU,CI,hm,hz,hne]));repeat' first|(with_reducible first|exact tI|refine aI ?_ ?_|intro _)|((first|with_reducible refine Ad ?_ ?_<;>intro _|(with_reducible refine isCall ?_);first|refine AH k1 ?_|refine AH k2 ?_)<;>try (simp -implicitDefEqProofs only[go_sem,A1,B5,hw2,Dw,AU,CI,hm,hz,hne]))|simp (disch:=omega) only[A7]|((with_reducible refine BL ?_);refine⟨_,rfl,?_,?_⟩)
       all_goals first|omega|(simp<;>omega)|skip
   ·have hall:d.zones.all (FX d.turn)=true:=Lt.2 fun j hj=>h3 j (by omega)
    (try (simp -implicitDefEqProofs only[go_sem,A1,AU,hi]));repeat' first|(with_reducible first|exact tI|refine aI ?_ ?_|intro _)|((first|with_reducible refine Ad ?_ ?_<;>intro _)<;>try (simp -implicitDefEqProofs only[go_sem,A1,AU,hi]))|simp (disch:=omega) only[A7]|((with_reducible refine BL ?_);refine⟨_,rfl,?_,?_⟩)
    all_goals (simp_all[AR.ok,AR.head])
 ·have ht':EO d.turn 1 1000=false:=by simpa using ht
  have hbad:d.ok=false:=by simp[AR.ok,AR.head,ht']
  have k0:=FW d.turn 1 1000
  rw[ht'] at k0
  rw[hbad]
  (try (simp -implicitDefEqProofs only[go_sem,Ao,AU,hb62]));repeat' first|(with_reducible first|exact tI|refine aI ?_ ?_|intro _)|((first|with_reducible refine Ad ?_ ?_<;>intro _|(with_reducible refine isCall ?_);first|refine AH k0 ?_|refine AH (FW _ _ _) ?_)<;>try (simp -implicitDefEqProofs only[go_sem,Ao,AU,hb62]))|simp (disch:=omega) only[A7]|((with_reducible refine BL ?_);refine⟨_,rfl,?_,?_⟩)
  all_goals first|omega|(simp<;>omega)|skip
theorem IQ (d:AR):D6 E0 KZ [HJ d] (.int .i64 d.check):=by
 refine Ap NH A' (by simp) fun hwf=>?_
 simp only[Fm,FB,FA,El,GD,GC,IK,GB,Cy,DF,DG,FD,Di,List.length_map,Dn,true_and,and_true,Ao,AU,A1] at hwf
 rw[Av];unfold JG AR.check
 by_cases ht:EO d.turn 1 1000=true
 ·have ht2:=CR.1 ht
  have hw:IntKind.i64.wrap (d.turn-1)=d.turn-1:=BN _ (by omega)
  cases hh:d.head with
  |false =>
   have hbad:d.ok=false:=by simp[AR.ok,hh]
   rw[hbad]
   (try (simp -implicitDefEqProofs only[go_sem,Ao,AU,hw,A1]));repeat' first|(with_reducible first|exact tI|refine aI ?_ ?_|intro _)|((first|with_reducible refine Ad ?_ ?_<;>intro _|(with_reducible refine isCall ?_);first|refine AH (Bv _ _ _) ?_)<;>try (simp -implicitDefEqProofs only[go_sem,Ao,AU,hw,A1]))|simp (disch:=omega) only[A7]|((with_reducible refine BL ?_);refine⟨_,rfl,?_,?_⟩)
   all_goals (simp_all[AR.head];done)
  |true =>
  have hd:=AR.head_iff.1 hh
  have q1:EO d.heads 1 4=true:=CR.2 (by omega)
  have q3:EO d.zones.length 1 4=true:=CR.2 (by omega)
  have q4:EO d.hskew 0 (d.turn-1)=true:=CR.2 (by omega)
  have q5:EO d.cskew 0 (d.turn-1)=true:=CR.2 (by omega)
  have r1:=Bv d.heads 1 4
  have r2:=Bv d.turn 1 1000
  have r3:=Bv d.zones.length 1 4
  have r4:=Bv d.hskew 0 (d.turn-1)
  have r5:=Bv d.cskew 0 (d.turn-1)
  rw[q1] at r1;rw[ht] at r2;rw[q3] at r3;rw[q4] at r4;rw[q5] at r5
  (try (simp -implicitDefEqProofs only[go_sem,Ao,AU,hw,A1]));repeat' first|(with_reducible first|exact tI|refine aI ?_ ?_|intro _)|((first|with_reducible refine Ad ?_ ?_<;>intro _|(with_reducible refine isCall ?_);first|refine AH r1 ?_|refine AH r2 ?_|refine AH r3 ?_|refine AH r4 ?_|refine AH r5 ?_)<;>try (simp -implicitDefEqProofs only[go_sem,Ao,AU,hw,A1]))|simp (disch:=omega) only[A7]|((with_reducible refine BL ?_);refine⟨_,rfl,?_,?_⟩)
  all_goals (try (simp_all;done))
  refine BZ (α:=Int) (l0:=?l2) (m0:=?m2) (fun x=>[(3,.d (.int .i64 x))]) (fun x=>[]) (fun x=>0<=x/\x<=d.zones.length/\∀(j:Nat),(j:Int)<x->FX d.turn (d.zones[j]?.getD default)=true) (fun x=>(d.zones.length-x).toNat) ?a2_0 ?h02 ?he2 ?he22 ?hI2 ?step2
  case h02=>(simp -implicitDefEqProofs only[go_sem,A1,AU];rfl)
  case he2=>rfl
  case he22=>rfl
  case' step2=>(rintro i hI;try dsimp only at hI)
  case' hI2=>try dsimp only
  ·exact⟨by omega,by omega,fun j hj=>by omega⟩
  ·obtain⟨h1,h2,h3⟩:=hI
   by_cases hi:i<d.zones.length
   ·have hbad:=Q7 (d:=d) ⟨h1,hi⟩
    have hgood:=UJ (d:=d) ⟨h1,hi⟩ h3
    have hi1:IntKind.i64.wrap (i+1)=i+1:=BN _ (by omega)
    obtain⟨w,hw2⟩:∃w,d.zones[i.toNat]?.getD default=w:=⟨_,rfl⟩
    rw[hw2] at hbad hgood
    have hwo:FX d.turn w=(EO w.1 1 20 && EO w.2 1 16 && decide (d.turn.tmod w.2=0)):=rfl
    have k1:=Bv w.1 1 20
    have k2:=Bv w.2 1 16
    cases b1:EO w.1 1 20 with
    |false =>
     rw[b1] at k1
     rw[hbad (by rw[hwo,b1];simp)]
     (try (simp -implicitDefEqProofs only[go_sem,A1,B5,hw2,Dw,AU,CI]));repeat' first|(with_reducible first|exact tI|refine aI ?_ ?_|intro _)|((first|with_reducible refine Ad ?_ ?_<;>intro _|(with_reducible refine isCall ?_);first|refine AH k1 ?_)<;>try (simp -implicitDefEqProofs only[go_sem,A1,B5,hw2,Dw,AU,CI]))|simp (disch:=omega) only[A7]|((with_reducible refine BL ?_);refine⟨_,rfl,?_,?_⟩)
     all_goals first|omega|(simp<;>omega)|skip
    |true =>
     rw[b1] at k1
     cases b2:EO w.2 1 16 with
     |false =>
      rw[b2] at k2
      rw[hbad (by rw[hwo,b2];simp)]
      (try (simp -implicitDefEqProofs only[go_sem,A1,B5,hw2,Dw,AU,CI]));repeat' first|(with_reducible first|exact tI|refine aI ?_ ?_|intro _)|((first|with_reducible refine Ad ?_ ?_<;>intro _|(with_reducible refine isCall ?_);first|refine AH k1 ?_|refine AH k2 ?_)<;>try (simp -implicitDefEqProofs only[go_sem,A1,B5,hw2,Dw,AU,CI]))|simp (disch:=omega) only[A7]|((with_reducible refine BL ?_);refine⟨_,rfl,?_,?_⟩)
      all_goals first|omega|(simp<;>omega)|skip
     |true =>
      rw[b2] at k2
      have hb2:=CR.1 b2
      have hm:IntKind.i64.wrap (d.turn.tmod w.2)=d.turn.tmod w.2:=BN _ (by
       have:=Int.tmod_nonneg w.2 (a:=d.turn) (by omega)
       have:=Int.tmod_lt_of_pos d.turn (b:=w.2) (by omega)
       omega)
      have hne:¬w.2=0:=by omega
      by_cases hz:d.turn.tmod w.2=0
      ·have hok:=hgood (by rw[hwo,b1,b2];simp[hz])
       (try (simp -implicitDefEqProofs only[go_sem,A1,B5,hw2,Dw,AU,CI,hm,hz,hne]));repeat' first|(with_reducible first|exact tI|refine aI ?_ ?_|intro _)|((first|with_reducible refine Ad ?_ ?_<;>intro _|(with_reducible refine isCall ?_);first|refine AH k1 ?_|refine AH k2 ?_)<;>try (simp -implicitDefEqProofs only[go_sem,A1,B5,hw2,Dw,AU,CI,hm,hz,hne]))|simp (disch:=omega) only[A7]|((with_reducible refine BL ?_);refine⟨_,rfl,?_,?_⟩)
       all_goals first|omega|(simp<;>omega)|skip
       all_goals (apply hok;assumption)
      ·rw[hbad (by rw[hwo];simp[hz])]
       (try (simp -implicitDefEqProofs only[go_sem,A1,B5,hw2,Dw,AU,CI,hm,hz,hne]));repeat' first|(with_reducible first|exact tI|refine aI ?_ ?_|intro _)|((first|with_reducible refine Ad ?_ ?_<;>intro _|(with_reducible refine isCall ?_);first|refine AH k1 ?_|refine AH k2 ?_)<;>try (simp -implicitDefEqProofs only[go_sem,A1,B5,hw2,Dw,AU,CI,hm,hz,hne]))|simp (disch:=omega) only[A7]|((with_reducible refine BL ?_);refine⟨_,rfl,?_,?_⟩)
       all_goals first|omega|(simp<;>omega)|skip
   ·have hall:d.zones.all (FX d.turn)=true:=Lt.2 fun j hj=>h3 j (by omega)
    have hok:d.ok=(Hy d.hlo d.hhi && Hy d.clo d.chi):=by unfold AR.ok;rw[hall,hh];simp
    rw[hok];unfold Hy
    (try (simp -implicitDefEqProofs only[go_sem,A1,AU,hi]));repeat' first|(with_reducible first|exact tI|refine aI ?_ ?_|intro _)|((first|with_reducible refine Ad ?_ ?_<;>intro _)<;>try (simp -implicitDefEqProofs only[go_sem,A1,AU,hi]))|simp (disch:=omega) only[A7]|((with_reducible refine BL ?_);refine⟨_,rfl,?_,?_⟩)
    all_goals first|omega|(simp_all;done)|(simp;omega)|skip
 ·have ht':EO d.turn 1 1000=false:=by simpa using ht
  have hbad:d.ok=false:=by simp[AR.ok,AR.head,ht']
  have k0:=Bv d.turn 1 1000
  rw[ht'] at k0
  rw[hbad]
  (try (simp -implicitDefEqProofs only[go_sem,Ao,AU]));repeat' first|(with_reducible first|exact tI|refine aI ?_ ?_|intro _)|((first|with_reducible refine Ad ?_ ?_<;>intro _|(with_reducible refine isCall ?_);first|refine AH k0 ?_|refine AH (Bv _ _ _) ?_)<;>try (simp -implicitDefEqProofs only[go_sem,Ao,AU]))|simp (disch:=omega) only[A7]|((with_reducible refine BL ?_);refine⟨_,rfl,?_,?_⟩)
  all_goals first|omega|(simp<;>omega)|skip
end Go.Pw
end
