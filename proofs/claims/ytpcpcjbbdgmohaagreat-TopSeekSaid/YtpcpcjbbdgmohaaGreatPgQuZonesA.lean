/- A part of the proof. -/
import Derived.Test.YtpcpcjbbdgmohaaGreatQuPC
import Derived.Test.YtpcpcjbbdgmohaaGreatPwVC
import Derived.Test.YtpcpcjbbdgmohaaGreatZonesSpec
set_option linter.all false
section
open Go Go.Pw Go.Proofs
namespace Go.Pw
set_option maxRecDepth 100000
set_option maxHeartbeats 800000
attribute [local congr] DX B3 B4 Bc DZ Bj Bl Bk Bb BN BF A6 Be BG Bg CD CE CF Cd Ce B9 Bf BL Bi BM B8 Cf BK CB CC B_ B6 B7 B2 DY B5 Bd BI BH BJ Bh CA
attribute [local irreducible] IntKind.wrap CK Option.getD and or
theorem Ee (n lo hi:Int):Ca E0 Rv [.int .i64 n,.int .i64 lo,.int .i64 hi] (.bool (FR n lo hi)):=by
 refine AW Uj Aq (by simp) fun hwf=>?_
 rw[AZ];unfold PL FR
 (try (simp -implicitDefEqProofs only[go_sem]));repeat' first|(with_reducible first|exact tI|refine aI ?_ ?_|intro _)|((first|with_reducible refine AU ?_ ?_<;>intro _)<;>try (simp -implicitDefEqProofs only[go_sem]))|simp (disch:=omega) only[Al]
 all_goals first|omega|(simp_all;done)|(simp_all;omega)
theorem Bq (n lo hi:Int):Ca E0 K3 [.int .i64 n,.int .i64 lo,.int .i64 hi] (.bool (FR n lo hi)):=by
 refine AW Oo Aq (by simp) fun hwf=>?_
 rw[AZ];unfold Jc FR
 (try (simp -implicitDefEqProofs only[go_sem]));repeat' first|(with_reducible first|exact tI|refine aI ?_ ?_|intro _)|((first|with_reducible refine AU ?_ ?_<;>intro _)<;>try (simp -implicitDefEqProofs only[go_sem]))|simp (disch:=omega) only[Al]
 all_goals first|omega|(simp_all;done)|(simp_all;omega)
theorem Mp (l h:Int):Ca E0 Jr [.agg [.int .i64 l,.int .i64 h]] (.bool (I2 l h)):=by
 refine AW Nk Aq (by simp) fun hwf=>?_
 rw[AZ];unfold IC I2
 (try (simp -implicitDefEqProofs only[go_sem]));repeat' first|(with_reducible first|exact tI|refine aI ?_ ?_|intro _)|((first|with_reducible refine AU ?_ ?_<;>intro _)<;>try (simp -implicitDefEqProofs only[go_sem]))|simp (disch:=omega) only[Al]
 all_goals first|omega|(simp_all;done)|(simp_all;omega)
theorem GR (d:AG) (b:Bool):Ca E0 Hr [Cr d,.bool b] (.int .i64 (if b then d.cskew else d.hskew)):=by
 refine AW Lb Aq (by simp) fun hwf=>?_
 rw[AZ];unfold G4
 cases b
 ·(try (simp -implicitDefEqProofs only[go_sem,AI,AD]));repeat' first|(with_reducible first|exact tI|refine aI ?_ ?_|intro _)|((first|with_reducible refine AU ?_ ?_<;>intro _)<;>try (simp -implicitDefEqProofs only[go_sem,AI,AD]))|simp (disch:=omega) only[Al]
 ·(try (simp -implicitDefEqProofs only[go_sem,AI,AD]));repeat' first|(with_reducible first|exact tI|refine aI ?_ ?_|intro _)|((first|with_reducible refine AU ?_ ?_<;>intro _)<;>try (simp -implicitDefEqProofs only[go_sem,AI,AD]))|simp (disch:=omega) only[Al]
end Go.Pw
end
section
open Go Go.Pw Go.Proofs
namespace Go.Pw
set_option maxRecDepth 100000
set_option maxHeartbeats 1600000
attribute [local congr] DX B3 B4 Bc DZ Bj Bl Bk Bb BN BF A6 Be BG Bg CD CE CF Cd Ce B9 Bf BL Bi BM B8 Cf BK CB CC B_ B6 B7 B2 DY B5 Bd BI BH BJ Bh CA
attribute [local irreducible] IntKind.wrap CK Option.getD and or
theorem Uz {d:AG}{i:Int}(h0:0<=i/\i<d.zones.length) (h:FK d.turn (d.zones[i.toNat]?.getD default)=false):d.ok=false:=by
 unfold AG.ok;rw[Wl (j:=i.toNat) (by omega) h];simp
theorem Yc {d:AG}{i:Int}(h0:0<=i/\i<d.zones.length) (h3:∀(j:Nat),(j:Int)<i->FK d.turn (d.zones[j]?.getD default)=true) (h:FK d.turn (d.zones[i.toNat]?.getD default)=true):∀(j:Nat),(j:Int)<i+1->FK d.turn (d.zones[j]?.getD default)=true:=fun j hj=>by
 rcases (show (j:Int)<i\/j=i.toNat by omega) with h1|h1
 ·exact h3 j h1
 ·rw[h1];exact h
theorem JS (d:AG):Ca E0 L4 [Cr d] (.int .i64 d.check):=by
 refine AW P7 Aq (by simp) fun hwf=>?_
 simp only[ML,LG,LF,Iw,OK,OJ,Sm,OI,FA,Fm,Fn,LQ,Gl,List.length_map,FQ,true_and,and_true,AI,AD,AY] at hwf
 rw[AZ];unfold KM AG.check
 have hb62:BC E0.P 89=true:=by kernel_rfl
 by_cases ht:FR d.turn 1 1000=true
 ·have ht2:=Di.1 ht
  have hw:IntKind.i64.wrap (d.turn-1)=d.turn-1:=Ad _ (by omega)
  (try (simp -implicitDefEqProofs only[go_sem,AI,AD,hw,AY,hb62]));repeat' first|(with_reducible first|exact tI|refine aI ?_ ?_|intro _)|((first|with_reducible refine AU ?_ ?_<;>intro _|(with_reducible refine isCall ?_);first|refine AF (Ee _ _ _) ?_|refine AF (Mp _ _) ?_)<;>try (simp -implicitDefEqProofs only[go_sem,AI,AD,hw,AY,hb62]))|simp (disch:=omega) only[Al]|((with_reducible refine A5 ?_);refine⟨_,rfl,?_,?_⟩)
  all_goals (try (simp_all[AG.ok,AG.head];done))
  refine Ao (α:=Int) (l0:=?l1) (m0:=?m1) (fun x=>[(48,.d (.int .i64 x))]) (fun x=>[]) (fun x=>0<=x/\x<=d.zones.length/\∀(j:Nat),(j:Int)<x->FK d.turn (d.zones[j]?.getD default)=true) (fun x=>(d.zones.length-x).toNat) ?a1_0 ?h01 ?he1 ?he21 ?hI1 ?step1
  case h01=>(simp -implicitDefEqProofs only[go_sem,AY,AD];rfl)
  case he1=>rfl
  case he21=>rfl
  case' step1=>(rintro i hI;try dsimp only at hI)
  case' hI1=>try dsimp only
  ·exact⟨by omega,by omega,fun j hj=>by omega⟩
  ·obtain⟨h1,h2,h3⟩:=hI
   by_cases hi:i<d.zones.length
   ·have hbad:=Uz (d:=d) ⟨h1,hi⟩
    have hgood:=Yc (d:=d) ⟨h1,hi⟩ h3
    have hi1:IntKind.i64.wrap (i+1)=i+1:=Ad _ (by omega)
    obtain⟨w,hw2⟩:∃w,d.zones[i.toNat]?.getD default=w:=⟨_,rfl⟩
    rw[hw2] at hbad hgood
    have hwo:FK d.turn w=(FR w.1 1 20 && FR w.2 1 16 && decide (d.turn.tmod w.2=0)):=rfl
    have k1:=Ee w.1 1 20
    have k2:=Ee w.2 1 16
    cases b1:FR w.1 1 20 with
    |false =>
     rw[b1] at k1
     rw[hbad (by rw[hwo,b1];simp)]
     (try (simp -implicitDefEqProofs only[go_sem,AY,An,hw2,BR,AD,Ar]));repeat' first|(with_reducible first|exact tI|refine aI ?_ ?_|intro _)|((first|with_reducible refine AU ?_ ?_<;>intro _|(with_reducible refine isCall ?_);first|refine AF k1 ?_)<;>try (simp -implicitDefEqProofs only[go_sem,AY,An,hw2,BR,AD,Ar]))|simp (disch:=omega) only[Al]|((with_reducible refine A5 ?_);refine⟨_,rfl,?_,?_⟩)
     all_goals first|omega|(simp<;>omega)|skip
    |true =>
     rw[b1] at k1
     cases b2:FR w.2 1 16 with
     |false =>
      rw[b2] at k2
      rw[hbad (by rw[hwo,b2];simp)]
      (try (simp -implicitDefEqProofs only[go_sem,AY,An,hw2,BR,AD,Ar]));repeat' first|(with_reducible first|exact tI|refine aI ?_ ?_|intro _)|((first|with_reducible refine AU ?_ ?_<;>intro _|(with_reducible refine isCall ?_);first|refine AF k1 ?_|refine AF k2 ?_)<;>try (simp -implicitDefEqProofs only[go_sem,AY,An,hw2,BR,AD,Ar]))|simp (disch:=omega) only[Al]|((with_reducible refine A5 ?_);refine⟨_,rfl,?_,?_⟩)
      all_goals first|omega|(simp<;>omega)|skip
     |true =>
      rw[b2] at k2
      have hb2:=Di.1 b2
      have hm:IntKind.i64.wrap (d.turn.tmod w.2)=d.turn.tmod w.2:=Ad _ (by
       have:=Int.tmod_nonneg w.2 (a:=d.turn) (by omega)
       have:=Int.tmod_lt_of_pos d.turn (b:=w.2) (by omega)
       omega)
      have hne:¬w.2=0:=by omega
      by_cases hz:d.turn.tmod w.2=0
      ·have hok:=hgood (by rw[hwo,b1,b2];simp[hz])
       (try (simp -implicitDefEqProofs only[go_sem,AY,An,hw2,BR,AD,Ar,hm,hz,hne]));repeat' first|(with_reducible first|exact tI|refine aI ?_ ?_|intro _)|((first|with_reducible refine AU ?_ ?_<;>intro _|(with_reducible refine isCall ?_);first|refine AF k1 ?_|refine AF k2 ?_)<;>try (simp -implicitDefEqProofs only[go_sem,AY,An,hw2,BR,AD,Ar,hm,hz,hne]))|simp (disch:=omega) only[Al]|((with_reducible refine A5 ?_);refine⟨_,rfl,?_,?_⟩)
       all_goals first|omega|(simp<;>omega)|skip
       all_goals (apply hok;assumption)
      ·rw[hbad (by rw[hwo];simp[hz])]
       (try (simp -implicitDefEqProofs only[go_sem,AY,An,hw2,BR,AD,Ar,hm,hz,hne]));repeat' first|(with_reducible first|exact tI|refine aI ?_ ?_|intro _)|((first|with_reducible refine AU ?_ ?_<;>intro _|(with_reducible refine isCall ?_);first|refine AF k1 ?_|refine AF k2 ?_)<;>try (simp -implicitDefEqProofs only[go_sem,AY,An,hw2,BR,AD,Ar,hm,hz,hne]))|simp (disch:=omega) only[Al]|((with_reducible refine A5 ?_);refine⟨_,rfl,?_,?_⟩)
       all_goals first|omega|(simp<;>omega)|skip
   ·have hall:d.zones.all (FK d.turn)=true:=Ie.2 fun j hj=>h3 j (by omega)
    (try (simp -implicitDefEqProofs only[go_sem,AY,AD,hi]));repeat' first|(with_reducible first|exact tI|refine aI ?_ ?_|intro _)|((first|with_reducible refine AU ?_ ?_<;>intro _)<;>try (simp -implicitDefEqProofs only[go_sem,AY,AD,hi]))|simp (disch:=omega) only[Al]|((with_reducible refine A5 ?_);refine⟨_,rfl,?_,?_⟩)
    all_goals (simp_all[AG.ok,AG.head])
 ·have ht':FR d.turn 1 1000=false:=by simpa using ht
  have hbad:d.ok=false:=by simp[AG.ok,AG.head,ht']
  have k0:=Ee d.turn 1 1000
  rw[ht'] at k0
  rw[hbad]
  (try (simp -implicitDefEqProofs only[go_sem,AI,AD,hb62]));repeat' first|(with_reducible first|exact tI|refine aI ?_ ?_|intro _)|((first|with_reducible refine AU ?_ ?_<;>intro _|(with_reducible refine isCall ?_);first|refine AF k0 ?_|refine AF (Ee _ _ _) ?_)<;>try (simp -implicitDefEqProofs only[go_sem,AI,AD,hb62]))|simp (disch:=omega) only[Al]|((with_reducible refine A5 ?_);refine⟨_,rfl,?_,?_⟩)
  all_goals first|omega|(simp<;>omega)|skip
theorem D_ (d:AG):Ca E0 MC [Cr d] (.int .i64 d.check):=by
 refine AW QE Aq (by simp) fun hwf=>?_
 simp only[ML,LG,LF,Iw,OK,OJ,Sm,OI,FA,Fm,Fn,LQ,Gl,List.length_map,FQ,true_and,and_true,AI,AD,AY] at hwf
 rw[AZ];unfold KV AG.check
 by_cases ht:FR d.turn 1 1000=true
 ·have ht2:=Di.1 ht
  have hw:IntKind.i64.wrap (d.turn-1)=d.turn-1:=Ad _ (by omega)
  cases hh:d.head with
  |false =>
   have hbad:d.ok=false:=by simp[AG.ok,hh]
   rw[hbad]
   (try (simp -implicitDefEqProofs only[go_sem,AI,AD,hw,AY]));repeat' first|(with_reducible first|exact tI|refine aI ?_ ?_|intro _)|((first|with_reducible refine AU ?_ ?_<;>intro _|(with_reducible refine isCall ?_);first|refine AF (Bq _ _ _) ?_)<;>try (simp -implicitDefEqProofs only[go_sem,AI,AD,hw,AY]))|simp (disch:=omega) only[Al]|((with_reducible refine A5 ?_);refine⟨_,rfl,?_,?_⟩)
   all_goals (simp_all[AG.head];done)
  |true =>
  have hd:=AG.head_iff.1 hh
  have q1:FR d.heads 1 4=true:=Di.2 (by omega)
  have q3:FR d.zones.length 1 4=true:=Di.2 (by omega)
  have q4:FR d.hskew 0 (d.turn-1)=true:=Di.2 (by omega)
  have q5:FR d.cskew 0 (d.turn-1)=true:=Di.2 (by omega)
  have r1:=Bq d.heads 1 4
  have r2:=Bq d.turn 1 1000
  have r3:=Bq d.zones.length 1 4
  have r4:=Bq d.hskew 0 (d.turn-1)
  have r5:=Bq d.cskew 0 (d.turn-1)
  rw[q1] at r1;rw[ht] at r2;rw[q3] at r3;rw[q4] at r4;rw[q5] at r5
  (try (simp -implicitDefEqProofs only[go_sem,AI,AD,hw,AY]));repeat' first|(with_reducible first|exact tI|refine aI ?_ ?_|intro _)|((first|with_reducible refine AU ?_ ?_<;>intro _|(with_reducible refine isCall ?_);first|refine AF r1 ?_|refine AF r2 ?_|refine AF r3 ?_|refine AF r4 ?_|refine AF r5 ?_)<;>try (simp -implicitDefEqProofs only[go_sem,AI,AD,hw,AY]))|simp (disch:=omega) only[Al]|((with_reducible refine A5 ?_);refine⟨_,rfl,?_,?_⟩)
  all_goals (try (simp_all;done))
  refine Ao (α:=Int) (l0:=?l2) (m0:=?m2) (fun x=>[(3,.d (.int .i64 x))]) (fun x=>[]) (fun x=>0<=x/\x<=d.zones.length/\∀(j:Nat),(j:Int)<x->FK d.turn (d.zones[j]?.getD default)=true) (fun x=>(d.zones.length-x).toNat) ?a2_0 ?h02 ?he2 ?he22 ?hI2 ?step2
  case h02=>(simp -implicitDefEqProofs only[go_sem,AY,AD];rfl)
  case he2=>rfl
  case he22=>rfl
  case' step2=>(rintro i hI;try dsimp only at hI)
  case' hI2=>try dsimp only
  ·exact⟨by omega,by omega,fun j hj=>by omega⟩
  ·obtain⟨h1,h2,h3⟩:=hI
   by_cases hi:i<d.zones.length
   ·have hbad:=Uz (d:=d) ⟨h1,hi⟩
    have hgood:=Yc (d:=d) ⟨h1,hi⟩ h3
    have hi1:IntKind.i64.wrap (i+1)=i+1:=Ad _ (by omega)
    obtain⟨w,hw2⟩:∃w,d.zones[i.toNat]?.getD default=w:=⟨_,rfl⟩
    rw[hw2] at hbad hgood
    have hwo:FK d.turn w=(FR w.1 1 20 && FR w.2 1 16 && decide (d.turn.tmod w.2=0)):=rfl
    have k1:=Bq w.1 1 20
    have k2:=Bq w.2 1 16
    cases b1:FR w.1 1 20 with
    |false =>
     rw[b1] at k1
     rw[hbad (by rw[hwo,b1];simp)]
     (try (simp -implicitDefEqProofs only[go_sem,AY,An,hw2,BR,AD,Ar]));repeat' first|(with_reducible first|exact tI|refine aI ?_ ?_|intro _)|((first|with_reducible refine AU ?_ ?_<;>intro _|(with_reducible refine isCall ?_);first|refine AF k1 ?_)<;>try (simp -implicitDefEqProofs only[go_sem,AY,An,hw2,BR,AD,Ar]))|simp (disch:=omega) only[Al]|((with_reducible refine A5 ?_);refine⟨_,rfl,?_,?_⟩)
     all_goals first|omega|(simp<;>omega)|skip
    |true =>
     rw[b1] at k1
     cases b2:FR w.2 1 16 with
     |false =>
      rw[b2] at k2
      rw[hbad (by rw[hwo,b2];simp)]
      (try (simp -implicitDefEqProofs only[go_sem,AY,An,hw2,BR,AD,Ar]));repeat' first|(with_reducible first|exact tI|refine aI ?_ ?_|intro _)|((first|with_reducible refine AU ?_ ?_<;>intro _|(with_reducible refine isCall ?_);first|refine AF k1 ?_|refine AF k2 ?_)<;>try (simp -implicitDefEqProofs only[go_sem,AY,An,hw2,BR,AD,Ar]))|simp (disch:=omega) only[Al]|((with_reducible refine A5 ?_);refine⟨_,rfl,?_,?_⟩)
      all_goals first|omega|(simp<;>omega)|skip
     |true =>
      rw[b2] at k2
      have hb2:=Di.1 b2
      have hm:IntKind.i64.wrap (d.turn.tmod w.2)=d.turn.tmod w.2:=Ad _ (by
       have:=Int.tmod_nonneg w.2 (a:=d.turn) (by omega)
       have:=Int.tmod_lt_of_pos d.turn (b:=w.2) (by omega)
       omega)
      have hne:¬w.2=0:=by omega
      by_cases hz:d.turn.tmod w.2=0
      ·have hok:=hgood (by rw[hwo,b1,b2];simp[hz])
       (try (simp -implicitDefEqProofs only[go_sem,AY,An,hw2,BR,AD,Ar,hm,hz,hne]));repeat' first|(with_reducible first|exact tI|refine aI ?_ ?_|intro _)|((first|with_reducible refine AU ?_ ?_<;>intro _|(with_reducible refine isCall ?_);first|refine AF k1 ?_|refine AF k2 ?_)<;>try (simp -implicitDefEqProofs only[go_sem,AY,An,hw2,BR,AD,Ar,hm,hz,hne]))|simp (disch:=omega) only[Al]|((with_reducible refine A5 ?_);refine⟨_,rfl,?_,?_⟩)
       all_goals first|omega|(simp<;>omega)|skip
       all_goals (apply hok;assumption)
      ·rw[hbad (by rw[hwo];simp[hz])]
       (try (simp -implicitDefEqProofs only[go_sem,AY,An,hw2,BR,AD,Ar,hm,hz,hne]));repeat' first|(with_reducible first|exact tI|refine aI ?_ ?_|intro _)|((first|with_reducible refine AU ?_ ?_<;>intro _|(with_reducible refine isCall ?_);first|refine AF k1 ?_|refine AF k2 ?_)<;>try (simp -implicitDefEqProofs only[go_sem,AY,An,hw2,BR,AD,Ar,hm,hz,hne]))|simp (disch:=omega) only[Al]|((with_reducible refine A5 ?_);refine⟨_,rfl,?_,?_⟩)
       all_goals first|omega|(simp<;>omega)|skip
   ·have hall:d.zones.all (FK d.turn)=true:=Ie.2 fun j hj=>h3 j (by omega)
    have hok:d.ok=(I2 d.hlo d.hhi && I2 d.clo d.chi):=by unfold AG.ok;rw[hall,hh];simp
    rw[hok];unfold I2
    (try (simp -implicitDefEqProofs only[go_sem,AY,AD,hi]));repeat' first|(with_reducible first|exact tI|refine aI ?_ ?_|intro _)|((first|with_reducible refine AU ?_ ?_<;>intro _)<;>try (simp -implicitDefEqProofs only[go_sem,AY,AD,hi]))|simp (disch:=omega) only[Al]|((with_reducible refine A5 ?_);refine⟨_,rfl,?_,?_⟩)
    all_goals first|omega|(simp_all;done)|(simp;omega)|skip
 ·have ht':FR d.turn 1 1000=false:=by simpa using ht
  have hbad:d.ok=false:=by simp[AG.ok,AG.head,ht']
  have k0:=Bq d.turn 1 1000
  rw[ht'] at k0
  rw[hbad]
  (try (simp -implicitDefEqProofs only[go_sem,AI,AD]));repeat' first|(with_reducible first|exact tI|refine aI ?_ ?_|intro _)|((first|with_reducible refine AU ?_ ?_<;>intro _|(with_reducible refine isCall ?_);first|refine AF k0 ?_|refine AF (Bq _ _ _) ?_)<;>try (simp -implicitDefEqProofs only[go_sem,AI,AD]))|simp (disch:=omega) only[Al]|((with_reducible refine A5 ?_);refine⟨_,rfl,?_,?_⟩)
  all_goals first|omega|(simp<;>omega)|skip
end Go.Pw
end
