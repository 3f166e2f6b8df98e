/- A part of the proof. -/
import Derived.Test.YtpcpcjbbdgmohaaGreatPgQuZonesC
import Derived.Test.YtpcpcjbbdgmohaaGreatZonesSpec2
set_option linter.all false
open Go Go.Pw Go.Proofs
namespace Go.Pw
set_option maxRecDepth 100000
set_option maxHeartbeats 1600000
attribute [local congr] DX B3 B4 Bc DZ Bj Bl Bk Bb BN BF A6 Be BG Bg CD CE CF Cd Ce B9 Bf BL Bi BM B8 Cf BK CB CC B_ B6 B7 B2 DY B5 Bd BI BH BJ Bh CA
attribute [local irreducible] IntKind.wrap CK Option.getD and or
theorem JR (d:AG) (n:Int):Ca E0 L3 [Cr d,.int .i64 n] (.tup [dL (d.place n).1.1 (d.place n).1.2.1 (d.place n).1.2.2,.int .i64 (d.place n).2]):=by
 refine AW P6 Aq (by simp) fun hwf=>?_
 have c1:=J4 d n
 rw[AZ];unfold KL
 unfold AG.find at c1
 unfold AG.place
 cases h:d.ok with
 |false =>
  rw[h] at c1
  (try (simp -implicitDefEqProofs only[go_sem,AI,AD,A_,BA,D8,EF]));repeat' first|(with_reducible first|exact tI|refine aI ?_ ?_|intro _)|((first|with_reducible refine AU ?_ ?_<;>intro _|(with_reducible refine isCall ?_);first|refine AF c1 ?_)<;>try (simp -implicitDefEqProofs only[go_sem,AI,AD,A_,BA,D8,EF]))|simp (disch:=omega) only[Al]
  all_goals first|omega|(simp<;>omega)|skip
 |true =>
  rw[h] at c1
  have g:=Bu h
  cases hk:d.kOf n with
  |none =>
   rw[hk] at c1
   (try (simp -implicitDefEqProofs only[go_sem,AI,AD,A_,BA,D8,EF]));repeat' first|(with_reducible first|exact tI|refine aI ?_ ?_|intro _)|((first|with_reducible refine AU ?_ ?_<;>intro _|(with_reducible refine isCall ?_);first|refine AF c1 ?_)<;>try (simp -implicitDefEqProofs only[go_sem,AI,AD,A_,BA,D8,EF]))|simp (disch:=omega) only[Al]
   all_goals first|omega|(simp<;>omega)|skip
  |some k =>
   rw[hk] at c1
   obtain⟨k1,k2⟩:=E3 hk
   unfold AG.holds at k2
   have h1:=g.tf k (by omega)
   have h2:=g.ts k1
   have h3:=g.nt
   have hw:IntKind.i64.wrap (n-d.tf k)=n-d.tf k:=Ad _ (by omega)
   (try (simp -implicitDefEqProofs only[go_sem,AI,AD,A_,BA,AG.track,EF,hw]));repeat' first|(with_reducible first|exact tI|refine aI ?_ ?_|intro _)|((first|with_reducible refine AU ?_ ?_<;>intro _|(with_reducible refine isCall ?_);first|refine AF c1 ?_)<;>try (simp -implicitDefEqProofs only[go_sem,AI,AD,A_,BA,AG.track,EF,hw]))|simp (disch:=omega) only[Al]
   all_goals first|omega|(simp<;>omega)|skip
theorem Pt (d:AG) (n:Int):Ca E0 L5 [Cr d,.int .i64 n] (.tup [.int .i64 (d.angle n).1,.int .i64 (d.angle n).2.1,.int .i64 (d.angle n).2.2]):=by
 refine AW P8 Aq (by simp) fun hwf=>?_
 have c1:=J4 d n
 rw[AZ];unfold KN
 unfold AG.find at c1
 unfold AG.angle
 cases h:d.ok with
 |false =>
  rw[h] at c1
  (try (simp -implicitDefEqProofs only[go_sem,AI,AD,A_,BA,D8]));repeat' first|(with_reducible first|exact tI|refine aI ?_ ?_|intro _)|((first|with_reducible refine AU ?_ ?_<;>intro _|(with_reducible refine isCall ?_);first|refine AF c1 ?_)<;>try (simp -implicitDefEqProofs only[go_sem,AI,AD,A_,BA,D8]))|simp (disch:=omega) only[Al]
  all_goals first|omega|(simp<;>omega)|skip
 |true =>
  rw[h] at c1
  have g:=Bu h
  cases hk:d.kOf n with
  |none =>
   rw[hk] at c1
   (try (simp -implicitDefEqProofs only[go_sem,AI,AD,A_,BA,D8]));repeat' first|(with_reducible first|exact tI|refine aI ?_ ?_|intro _)|((first|with_reducible refine AU ?_ ?_<;>intro _|(with_reducible refine isCall ?_);first|refine AF c1 ?_)<;>try (simp -implicitDefEqProofs only[go_sem,AI,AD,A_,BA,D8]))|simp (disch:=omega) only[Al]
   all_goals first|omega|(simp<;>omega)|skip
  |some k =>
   rw[hk] at c1
   obtain⟨k1,k2⟩:=E3 hk
   have ha:=Wj g k1 k2
   have ho:=g.own k1
   unfold AG.holds at k2
   have h1:=g.tf k (by omega)
   have h2:=g.ts k1
   have h3:=g.nt
   have h4:=g.to k
   have h5:=g.t1;have h6:=g.t2
   have hw:IntKind.i64.wrap (n-d.tf k)=n-d.tf k:=Ad _ (by omega)
   have hw2:IntKind.i64.wrap (d.own k)=d.own k:=Ad _ (by omega)
   have hw3:IntKind.i64.wrap ((n-d.tf k)*d.own k)=(n-d.tf k)*d.own k:=Ad _ (by omega)
   have hw4:IntKind.i64.wrap (d.to k+(n-d.tf k)*d.own k)=d.to k+(n-d.tf k)*d.own k:=Ad _ (by omega)
   have hm:(d.to k+(n-d.tf k)*d.own k).tmod d.turn=(d.to k+(n-d.tf k)*d.own k)%d.turn:=Int.tmod_eq_emod_of_nonneg (by omega)
   have hne:¬d.ts k=0:=by omega
   have hne2:¬d.turn=0:=by omega
   have hq:=ho.2.2.2
   (try (simp -implicitDefEqProofs only[go_sem,AI,AD,A_,BA,AG.track,hw,hw2,hw3,hw4,hq,hm,hne,hne2]));repeat' first|(with_reducible first|exact tI|refine aI ?_ ?_|intro _)|((first|with_reducible refine AU ?_ ?_<;>intro _|(with_reducible refine isCall ?_);first|refine AF c1 ?_)<;>try (simp -implicitDefEqProofs only[go_sem,AI,AD,A_,BA,AG.track,hw,hw2,hw3,hw4,hq,hm,hne,hne2]))|simp (disch:=omega) only[Al]
   all_goals first|omega|(simp<;>omega)|skip
theorem F1 (d:AG) (g:d.Good) (skew ticks:Int) (h1:0<=skew/\skew<d.turn) (h2:0<=ticks/\ticks<=2000):Ca E0 Im [Cr d,.int .i64 skew,.int .i64 ticks] (.tup [.int .i64 (De d.turn skew ticks),.int .i64 (Fe d.turn skew ticks)]):=by
 refine AW Ma Aq (by simp) fun hwf=>?_
 have t1:=g.t1;have t2:=g.t2
 obtain⟨k0,k1,k2⟩:=Fv (t:=d.turn) (skew:=skew) (ticks:=ticks) (by omega)
 have hle:=UY (t:=d.turn) (skew:=skew) (ticks:=ticks) (by omega) h2.2 h1.1
 rw[AZ];unfold Hb De
 generalize Fe d.turn skew ticks=q at *
 (try (simp -implicitDefEqProofs only[go_sem,AI,AD]));repeat' first|(with_reducible first|exact tI|refine aI ?_ ?_|intro _)|((first|with_reducible refine AU ?_ ?_<;>intro _)<;>try (simp -implicitDefEqProofs only[go_sem,AI,AD]))|simp (disch:=omega) only[Al]|((with_reducible refine A5 ?_);refine⟨_,rfl,?_,?_⟩)
 all_goals first|omega|(simp<;>omega)|skip
 refine Ao (α:=Int) (l0:=?l1) (m0:=?m1) (fun x=>[(7,.d (.int .i64 x))]) (fun x=>[]) (fun x=>0<=x/\x<=q) (fun x=>(q-x).toNat) ?a1_0 ?h01 ?he1 ?he21 ?hI1 ?step1
 case h01=>(simp -implicitDefEqProofs only[go_sem,AD];rfl)
 case he1=>rfl
 case he21=>rfl
 case' step1=>(rintro t hI;try dsimp only at hI)
 case' hI1=>try dsimp only
 ·exact⟨by omega,by omega⟩
 ·have hb:0<=t*d.turn/\t*d.turn<=2000*1000:=⟨Int.mul_nonneg (by omega) (by omega),Int.mul_le_mul (by omega) (by omega) (by omega) (by omega)⟩
  have hw1:IntKind.i64.wrap (t*d.turn)=t*d.turn:=Ad _ (by omega)
  have hw2:IntKind.i64.wrap (skew+t*d.turn)=skew+t*d.turn:=Ad _ (by omega)
  have hw3:IntKind.i64.wrap (t+1)=t+1:=Ad _ (by omega)
  by_cases ht:t<q
  ·have hlt:=k2 t ht hI.1
   (try (simp -implicitDefEqProofs only[go_sem,AD,hw1,hw2,hw3,hlt]));repeat' first|(with_reducible first|exact tI|refine aI ?_ ?_|intro _)|((first|with_reducible refine AU ?_ ?_<;>intro _)<;>try (simp -implicitDefEqProofs only[go_sem,AD,hw1,hw2,hw3,hlt]))|simp (disch:=omega) only[Al]|((with_reducible refine A5 ?_);refine⟨_,rfl,?_,?_⟩)
   all_goals first|omega|(simp<;>omega)|skip
  ·have hte:t=q:=by omega
   subst hte
   have hlt:¬skew+t*d.turn<ticks:=by omega
   (try (simp -implicitDefEqProofs only[go_sem,AD,hw1,hw2,hw3,hlt]));repeat' first|(with_reducible first|exact tI|refine aI ?_ ?_|intro _)|((first|with_reducible refine AU ?_ ?_<;>intro _)<;>try (simp -implicitDefEqProofs only[go_sem,AD,hw1,hw2,hw3,hlt]))|simp (disch:=omega) only[Al]|((with_reducible refine A5 ?_);refine⟨_,rfl,?_,?_⟩)
   all_goals first|omega|(simp<;>omega)|skip
theorem Mo (d:AG):Ca E0 GH [Cr d] (.agg [.int .i64 d.hlo,.int .i64 d.hhi,.int .i64 d.hskew,.int .i64 d.clo,.int .i64 d.chi,.int .i64 d.cskew]):=by
 refine AW JD Aq (by simp) fun hwf=>?_
 rw[AZ];unfold Fg
 (try (simp -implicitDefEqProofs only[go_sem,AI,AD]));repeat' first|(with_reducible first|exact tI|refine aI ?_ ?_|intro _)|((first|with_reducible refine AU ?_ ?_<;>intro _)<;>try (simp -implicitDefEqProofs only[go_sem,AI,AD]))|simp (disch:=omega) only[Al]
 all_goals first|omega|(simp<;>omega)|skip
end Go.Pw
