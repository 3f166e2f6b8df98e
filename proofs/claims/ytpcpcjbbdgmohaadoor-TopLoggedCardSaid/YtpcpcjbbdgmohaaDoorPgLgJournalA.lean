/- A part of the proof. -/
import Derived.Test.YtpcpcjbbdgmohaaDoorPgLgJzC
import Derived.Test.YtpcpcjbbdgmohaaDoorPgZonesSpec
set_option linter.all false
section
open Go Go.Pw Go.Proofs
namespace Go.Pw
set_option maxRecDepth 100000
set_option maxHeartbeats 1600000
attribute [local congr] DP B9 B_ Bj DR Bn Bp Bo Bi BW BQ BF Bl BR BU Bm BV CC Cg BT CE CF CD CA CB B8 DQ B' Bk BS
attribute [local irreducible] IntKind.wrap CG Option.getD and or
theorem Ct (n m:Int):D6 E0 L3 [.int .i64 n,.int .i64 m] (.bool (EO n 0 m)):=by
 refine Ap OV A' (by simp) fun hwf=>?_
 rw[Av];unfold KG EO
 (try (simp -implicitDefEqProofs only[go_sem]));repeat' first|(with_reducible first|exact tI|refine aI ?_ ?_|intro _)|((first|with_reducible refine Ad ?_ ?_<;>intro _)<;>try (simp -implicitDefEqProofs only[go_sem]))|simp (disch:=omega) only[A7]
 all_goals first|omega|(simp_all;done)|(simp_all;omega)
theorem Fp (n lo hi:Int):D6 E0 Jh [.int .i64 n,.int .i64 lo,.int .i64 hi] (.bool (EO n lo hi)):=by
 refine Ap MR A' (by simp) fun hwf=>?_
 rw[Av];unfold IT EO
 (try (simp -implicitDefEqProofs only[go_sem]));repeat' first|(with_reducible first|exact tI|refine aI ?_ ?_|intro _)|((first|with_reducible refine Ad ?_ ?_<;>intro _)<;>try (simp -implicitDefEqProofs only[go_sem]))|simp (disch:=omega) only[A7]
 all_goals first|omega|(simp_all;done)|(simp_all;omega)
theorem IM:D6 E0 KU [] (O3 DZ):=by
 refine Ap NC A' (by simp) fun hwf=>?_
 rw[Av];unfold JB
 (try (simp -implicitDefEqProofs only[go_sem]));repeat' first|(with_reducible first|exact tI|refine aI ?_ ?_|intro _)|((first|with_reducible refine Ad ?_ ?_<;>intro _)<;>try (simp -implicitDefEqProofs only[go_sem]))|simp (disch:=omega) only[A7]
 all_goals rfl
theorem Ny:D6 E0 Lz [] (O3 E'):=by
 refine Ap OQ A' (by simp) fun hwf=>?_
 rw[Av];unfold KC
 (try (simp -implicitDefEqProofs only[go_sem]));repeat' first|(with_reducible first|exact tI|refine aI ?_ ?_|intro _)|((first|with_reducible refine Ad ?_ ?_<;>intro _)<;>try (simp -implicitDefEqProofs only[go_sem]))|simp (disch:=omega) only[A7]
 all_goals rfl
theorem VU (s:List Bd) (i:Int) (h:0<=i):Gn s (i+1).toNat=if !(s[i.toNat]?.getD default).bad && decide ((Gn s i.toNat).num<(s[i.toNat]?.getD default).num) then s[i.toNat]?.getD default else Gn s i.toNat:=by
 rw[show (i+1).toNat=i.toNat+1 by omega,Gn]
theorem FI (l:AY):D6 E0 Ej [.ptr (OC l)] (O3 l.newest):=by
 refine Ap H_ A' (by simp) fun hwf=>?_
 simp only[Fm,FB,FA,El,GD,GC,IK,GB,Cy,DF,DG,FD,Di,List.length_map,Dn,true_and,and_true,Aa,AJ,A1] at hwf
 rw[Av];unfold Fi AY.newest
 (try (simp -implicitDefEqProofs only[go_sem,Aa]));repeat' first|(with_reducible first|exact tI|refine aI ?_ ?_|intro _)|((first|with_reducible refine Ad ?_ ?_<;>intro _)<;>try (simp -implicitDefEqProofs only[go_sem,Aa]))|simp (disch:=omega) only[A7]|((with_reducible refine Hk ?_);refine⟨(_,_,_,_,_,_),rfl,?_,?_⟩)
 all_goals first|omega|(simp<;>omega)|skip
 refine BZ (α:=Int×Int×Int×Int×Int×Bool) (l0:=?l1) (m0:=?m1) (fun x=>[(13,.d (.int .i64 x.1))]) (fun x=>[(3,.cells [.d (.int .i64 x.2.1),.d (.int .i64 x.2.2.1),.d (.int .i64 x.2.2.2.1),.d (.int .i64 x.2.2.2.2.1),.d (.bool x.2.2.2.2.2)])]) (fun x=>(0<=x.1/\x.1<=l.slots.length)/\Gn l.slots x.1.toNat=⟨x.2.1,x.2.2.1,x.2.2.2.1,x.2.2.2.2.1,x.2.2.2.2.2⟩) (fun x=>(l.slots.length-x.1).toNat) (?a1_0,?a1_1,?a1_2,?a1_3,?a1_4,?a1_5) ?h01 ?he1 ?he21 ?hI1 ?step1
 case h01=>(simp -implicitDefEqProofs only[go_sem,AJ];rfl)
 case he1=>rfl
 case he21=>rfl
 case' step1=>(rintro⟨i,a,b,c,d,e⟩ hI;try dsimp only at hI)
 case' hI1=>try dsimp only
 ·exact⟨⟨by omega,by omega⟩,rfl⟩
 ·obtain⟨⟨h1,h2⟩,h3⟩:=hI
  by_cases hi:i<l.slots.length
  ·have w1:IntKind.i64.wrap (i+1)=i+1:=BN _ (by omega)
   have hn:=VU l.slots i h1
   rw[h3] at hn
   obtain⟨r,hr⟩:∃r,l.slots[i.toNat]?.getD default=r:=⟨_,rfl⟩
   rw[hr] at hn
   cases hb:r.bad with
   |true =>
    rw[hb] at hn
    simp only[Bool.not_true,Bool.false_and,Bool.false_eq_true,if_false] at hn
    (try (simp -implicitDefEqProofs only[go_sem,AJ,Aq,hr,A9,A8,An,hb,w1]));repeat' first|(with_reducible first|exact tI|refine aI ?_ ?_|intro _)|((first|with_reducible refine Ad ?_ ?_<;>intro _)<;>try (simp -implicitDefEqProofs only[go_sem,AJ,Aq,hr,A9,A8,An,hb,w1]))|simp (disch:=omega) only[A7]|((with_reducible refine Hk ?_);refine⟨(_,_,_,_,_,_),rfl,?_,?_⟩)
    all_goals first|omega|exact hn|skip
   |false =>
    rw[hb] at hn
    by_cases hlt:a<r.num
    ·simp only[Bool.not_false,Bool.true_and,decide_eq_true hlt,if_true] at hn
     (try (simp -implicitDefEqProofs only[go_sem,AJ,Aq,hr,A9,A8,An,hb,w1,hlt]));repeat' first|(with_reducible first|exact tI|refine aI ?_ ?_|intro _)|((first|with_reducible refine Ad ?_ ?_<;>intro _)<;>try (simp -implicitDefEqProofs only[go_sem,AJ,Aq,hr,A9,A8,An,hb,w1,hlt]))|simp (disch:=omega) only[A7]|((with_reducible refine Hk ?_);refine⟨(_,_,_,_,_,_),rfl,?_,?_⟩)
     all_goals first|omega|(rw[hn,←hb])|skip
    ·simp only[Bool.not_false,Bool.true_and,decide_eq_false hlt,Bool.false_eq_true,if_false] at hn
     (try (simp -implicitDefEqProofs only[go_sem,AJ,Aq,hr,A9,A8,An,hb,w1,hlt]));repeat' first|(with_reducible first|exact tI|refine aI ?_ ?_|intro _)|((first|with_reducible refine Ad ?_ ?_<;>intro _)<;>try (simp -implicitDefEqProofs only[go_sem,AJ,Aq,hr,A9,A8,An,hb,w1,hlt]))|simp (disch:=omega) only[A7]|((with_reducible refine Hk ?_);refine⟨(_,_,_,_,_,_),rfl,?_,?_⟩)
     all_goals first|omega|exact hn|skip
  ·have hie:i.toNat=l.slots.length:=by omega
   rw[hie] at h3
   rw[h3]
   (try (simp -implicitDefEqProofs only[go_sem,AJ,hi,A9,A8]));repeat' first|(with_reducible first|exact tI|refine aI ?_ ?_|intro _)|((first|with_reducible refine Ad ?_ ?_<;>intro _)<;>try (simp -implicitDefEqProofs only[go_sem,AJ,hi,A9,A8]))|simp (disch:=omega) only[A7]|((with_reducible refine Hk ?_);refine⟨(_,_,_,_,_,_),rfl,?_,?_⟩)
   all_goals first|omega|(simp<;>omega)|skip
end Go.Pw
end
section
open Go Go.Pw Go.Proofs
namespace Go.Pw
set_option maxRecDepth 100000
set_option maxHeartbeats 3200000
theorem GV (r:Bd):F7 r=true↔(r.num=-1/\r.blk=0/\r.val=0/\r.tail=0/\r.bad=false):=by
 unfold F7;simp[and_assoc]
theorem H8 (r:Bd):JS r=true↔(r.num=0/\r.blk=0/\r.val=0/\r.tail=0/\r.bad=true):=by
 unfold JS;simp[and_assoc]
theorem P7 {l:AY}(hd:l.disk.ok=true) {i:Int}(h0:0<=i/\i<l.slots.length) (h:Ec l.blocks l.slots.length i (l.slots[i.toNat]?.getD default)=false):l.check=160:=by
 unfold AY.check
 rw[hd,QB (i:=i.toNat) (by omega) (by rw[show ((i.toNat:Nat):Int)=i by omega];exact h)]
 simp
theorem Oo {l:AY}{i:Int}(h0:0<=i) (ha:l.allOk i.toNat=true) (h:Ec l.blocks l.slots.length i (l.slots[i.toNat]?.getD default)=true):l.allOk (i+1).toNat=true:=by
 rw[show (i+1).toNat=i.toNat+1 by omega,AY.allOk,ha,show ((i.toNat:Nat):Int)=i by omega,h];rfl
theorem Nu {b:Int}{m:Nat}{i:Int}{r:Bd}(h:F7 r=true):Ec b m i r=true:=by unfold Ec;rw[h,Bool.true_or]
theorem Nv {b:Int}{m:Nat}{i:Int}{r:Bd}(h:JS r=true):Ec b m i r=true:=by unfold Ec;rw[h];simp
theorem RY {b:Int}{m:Nat}{i:Int}{r:Bd}(h1:F7 r=false) (h2:JS r=false):Ec b m i r=Pc b m i r:=by unfold Ec;rw[h1,h2];simp
attribute [local congr] DP B9 B_ Bj DR Bn Bp Bo Bi BW BQ BF Bl BR BU Bm BV CC Cg BT CE CF CD CA CB B8 DQ B' Bk BS
attribute [local irreducible] IntKind.wrap CG Option.getD and or
theorem HH (l:AY):D6 E0 It [J2 l] (.int .i64 l.check):=by
 refine Ap Lk A' (by simp) fun hwf=>?_
 simp only[Fm,FB,FA,El,GD,GC,IK,GB,Cy,DF,DG,FD,Di,List.length_map,Dn,true_and,and_true,Am,Aa,A1,AJ] at hwf
 have c1:=Nb l.disk
 rw[Av];unfold He
 unfold AR.check at c1
 cases hd:l.disk.ok with
 |false =>
  rw[hd] at c1
  have hc:l.check=10:=by unfold AY.check;rw[hd];simp
  rw[hc]
  (try (simp -implicitDefEqProofs only[go_sem,Am,Aa,Ao,AU]));repeat' first|(with_reducible first|exact tI|refine aI ?_ ?_|intro _)|((first|with_reducible refine Ad ?_ ?_<;>intro _|(with_reducible refine isCall ?_);first|refine AH c1 ?_)<;>try (simp -implicitDefEqProofs only[go_sem,Am,Aa,Ao,AU]))|simp (disch:=omega) only[A7]|((with_reducible refine BL ?_);refine⟨_,rfl,?_,?_⟩)
  all_goals first|omega|(simp<;>omega)|skip
 |true =>
  rw[hd] at c1
  have g:=GW hd
  have hsz:=H0 g
  cases hh:l.head with
  |false =>
   have hc:l.check=160:=by unfold AY.check;rw[hd,hh];simp
   rw[hc]
   unfold AY.head at hh
   by_cases hb:1<=l.blocks/\l.blocks<=8
   ·by_cases hl:2<=(l.slots.length:Int)/\(l.slots.length:Int)<=12
    ·have w1:IntKind.i64.wrap (l.disk.size-l.slots.length)=l.disk.size-l.slots.length:=BN _ (by omega)
     have c2:=Ct l.from' (l.disk.size-l.slots.length)
     have hz:EO l.from' 0 (l.disk.size-l.slots.length)=false:=by
      cases hq:EO l.from' 0 (l.disk.size-l.slots.length) with
      |false=>rfl
      |true=>rw[CR.2 hb,CR.2 hl,hq] at hh;simp at hh
     rw[hz] at c2
     (try (simp -implicitDefEqProofs only[go_sem,Am,Aa,Ao,AU,AJ,w1]));repeat' first|(with_reducible first|exact tI|refine aI ?_ ?_|intro _)|((first|with_reducible refine Ad ?_ ?_<;>intro _|(with_reducible refine isCall ?_);first|refine AH c1 ?_|refine AH c2 ?_)<;>try (simp -implicitDefEqProofs only[go_sem,Am,Aa,Ao,AU,AJ,w1]))|simp (disch:=omega) only[A7]|((with_reducible refine BL ?_);refine⟨_,rfl,?_,?_⟩)
     all_goals first|omega|(simp;done)|skip
    ·have hl2:(l.slots.length:Int)<2\/12<(l.slots.length:Int):=by omega
     (try (simp -implicitDefEqProofs only[go_sem,Am,Aa,Ao,AU,AJ]));repeat' first|(with_reducible first|exact tI|refine aI ?_ ?_|intro _)|((first|with_reducible refine Ad ?_ ?_<;>intro _|(with_reducible refine isCall ?_);first|refine AH c1 ?_)<;>try (simp -implicitDefEqProofs only[go_sem,Am,Aa,Ao,AU,AJ]))|simp (disch:=omega) only[A7]|((with_reducible refine BL ?_);refine⟨_,rfl,?_,?_⟩)
     all_goals first|omega|(simp;done)|skip
   ·have hb2:l.blocks<1\/8<l.blocks:=by omega
    (try (simp -implicitDefEqProofs only[go_sem,Am,Aa,Ao,AU,AJ]));repeat' first|(with_reducible first|exact tI|refine aI ?_ ?_|intro _)|((first|with_reducible refine Ad ?_ ?_<;>intro _|(with_reducible refine isCall ?_);first|refine AH c1 ?_)<;>try (simp -implicitDefEqProofs only[go_sem,Am,Aa,Ao,AU,AJ]))|simp (disch:=omega) only[A7]|((with_reducible refine BL ?_);refine⟨_,rfl,?_,?_⟩)
    all_goals first|omega|(simp;done)|skip
  |true =>
   have hh2:=hh
   unfold AY.head at hh2
   simp only[Bool.and_eq_true,CR] at hh2
   obtain⟨⟨k1,k2⟩,k3⟩:=hh2
   have w1:IntKind.i64.wrap (l.disk.size-l.slots.length)=l.disk.size-l.slots.length:=BN _ (by omega)
   have w2:IntKind.i64.wrap (l.blocks-1)=l.blocks-1:=BN _ (by omega)
   have c2:=Ct l.from' (l.disk.size-l.slots.length)
   rw[CR.2 k3] at c2
   have e1:¬l.blocks<1:=by omega
   have e2:¬8<l.blocks:=by omega
   have e3:¬(l.slots.length:Int)<2:=by omega
   have e4:¬12<(l.slots.length:Int):=by omega
   have e5:¬(l.slots.length:Int)=0:=by omega
   (try (simp -implicitDefEqProofs only[go_sem,Am,Aa,Ao,AU,AJ,w1,e1,e2,e3,e4]));repeat' first|(with_reducible first|exact tI|refine aI ?_ ?_|intro _)|((first|with_reducible refine Ad ?_ ?_<;>intro _|(with_reducible refine isCall ?_);first|refine AH c1 ?_|refine AH c2 ?_)<;>try (simp -implicitDefEqProofs only[go_sem,Am,Aa,Ao,AU,AJ,w1,e1,e2,e3,e4]))|simp (disch:=omega) only[A7]|((with_reducible refine BL ?_);refine⟨_,rfl,?_,?_⟩)
   all_goals (try omega)
   refine BZ (α:=Int) (l0:=?l1) (m0:=?m1) (fun x=>[(48,.d (.int .i64 x))]) (fun x=>[]) (fun x=>(0<=x/\x<=l.slots.length)/\l.allOk x.toNat=true) (fun x=>(l.slots.length-x).toNat) ?a1_0 ?h01 ?he1 ?he21 ?hI1 ?step1
   case h01=>(simp -implicitDefEqProofs only[go_sem,AJ,Aa];rfl)
   case he1=>rfl
   case he21=>rfl
   case' step1=>(rintro i hI;try dsimp only at hI)
   case' hI1=>try dsimp only
   ·exact⟨⟨by omega,by omega⟩,rfl⟩
   ·obtain⟨⟨q1,q2⟩,q3⟩:=hI
    by_cases hi:i<l.slots.length
    ·have w3:IntKind.i64.wrap (i+1)=i+1:=BN _ (by omega)
     have hbad:=P7 hd ⟨q1,hi⟩
     have hgood:=Oo q1 q3
     obtain⟨r,hr⟩:∃r,l.slots[i.toNat]?.getD default=r:=⟨_,rfl⟩
     rw[hr] at hbad hgood
     cases he:F7 r with
     |true =>
      have hg:=hgood (Nu he)
      obtain⟨a1,a2,a3,a4,a5⟩:=(GV r).1 he
      (try (simp -implicitDefEqProofs only[go_sem,AJ,Aq,hr,A9,A8,An,w3,a1,a2,a3,a4,a5,Aa,hi]));repeat' first|(with_reducible first|exact tI|refine aI ?_ ?_|intro _)|((first|with_reducible refine Ad ?_ ?_<;>intro _)<;>try (simp -implicitDefEqProofs only[go_sem,AJ,Aq,hr,A9,A8,An,w3,a1,a2,a3,a4,a5,Aa,hi]))|simp (disch:=omega) only[A7]|((with_reducible refine BL ?_);refine⟨_,rfl,?_,?_⟩)
      all_goals first|omega|exact hg|skip
     |false =>
      have he2:¬(r.num=-1/\r.blk=0/\r.val=0/\r.tail=0/\r.bad=false):=fun hx=>by rw[(GV r).2 hx] at he;cases he
      cases hb:JS r with
      |true =>
       have hg:=hgood (Nv hb)
       obtain⟨a1,a2,a3,a4,a5⟩:=(H8 r).1 hb
       (try (simp -implicitDefEqProofs only[go_sem,AJ,Aq,hr,A9,A8,An,w3,a1,a2,a3,a4,a5,Aa,hi]));repeat' first|(with_reducible first|exact tI|refine aI ?_ ?_|intro _)|((first|with_reducible refine Ad ?_ ?_<;>intro _)<;>try (simp -implicitDefEqProofs only[go_sem,AJ,Aq,hr,A9,A8,An,w3,a1,a2,a3,a4,a5,Aa,hi]))|simp (disch:=omega) only[A7]|((with_reducible refine BL ?_);refine⟨_,rfl,?_,?_⟩)
       all_goals first|omega|exact hg|skip
      |false =>
       have hb2:¬(r.num=0/\r.blk=0/\r.val=0/\r.tail=0/\r.bad=true):=fun hx=>by rw[(H8 r).2 hx] at hb;cases hb
       rw[RY he hb] at hbad hgood
       unfold Pc at hbad hgood
       cases hx:r.bad with
       |true =>
        rw[hx] at he2 hb2 hbad
        have hq:=hbad (by simp)
        rw[hq]
        (try (simp -implicitDefEqProofs only[go_sem,AJ,Aq,hr,A9,A8,An,w3,hx,he2,hb2,Aa,hi]));repeat' first|(with_reducible first|exact tI|refine aI ?_ ?_|intro _)|((first|with_reducible refine Ad ?_ ?_<;>intro _)<;>try (simp -implicitDefEqProofs only[go_sem,AJ,Aq,hr,A9,A8,An,w3,hx,he2,hb2,Aa,hi]))|simp (disch:=omega) only[A7]|((with_reducible refine BL ?_);refine⟨_,rfl,?_,?_⟩)
        all_goals first|omega|(simp_all;done)|skip
       |false =>
        rw[hx] at he2 hb2 hbad hgood
        simp only[Bool.not_false,Bool.true_and] at hbad hgood
        have fin1:∀z,z=false->(EO r.num 0 999 && (decide (r.num.tmod l.slots.length=i) && (EO r.blk 0 (l.blocks-1) && (EO r.val 0 999 && EO r.tail 0 r.num))))=z->(D.int .i64 160)=.int .i64 l.check:=fun z hz h2=>by rw[hbad (h2.trans hz)]
        (try (simp -implicitDefEqProofs only[go_sem,AJ,Aq,hr,A9,A8,An,w2,w3,hx,he2,hb2,Aa,hi,e5]));repeat' first|(with_reducible first|exact tI|refine aI ?_ ?_|intro _)|((first|with_reducible refine Ad ?_ ?_<;>intro _|(with_reducible refine isCall ?_);first|refine AH (Ct _ _) ?_)<;>try (simp -implicitDefEqProofs only[go_sem,AJ,Aq,hr,A9,A8,An,w2,w3,hx,he2,hb2,Aa,hi,e5]))|simp (disch:=omega) only[A7]|((with_reducible refine BL ?_);refine⟨_,rfl,?_,?_⟩)
        all_goals first|omega|(refine fin1 _ rfl ?_;simp_all;done)|(refine hgood ?_;simp_all;done)|skip
    ·have hie:i.toNat=l.slots.length:=by omega
     rw[hie] at q3
     have hc:l.check=0:=by unfold AY.check;rw[hd,hh,q3];simp
     rw[hc]
     (try (simp -implicitDefEqProofs only[go_sem,AJ,hi]));repeat' first|(with_reducible first|exact tI|refine aI ?_ ?_|intro _)|((first|with_reducible refine Ad ?_ ?_<;>intro _)<;>try (simp -implicitDefEqProofs only[go_sem,AJ,hi]))|simp (disch:=omega) only[A7]|((with_reducible refine BL ?_);refine⟨_,rfl,?_,?_⟩)
     all_goals first|omega|(simp<;>omega)|skip
end Go.Pw
end
section
open Go Go.Pw Go.Proofs
namespace Go.Pw
set_option maxRecDepth 100000
set_option maxHeartbeats 3200000
attribute [local congr] DP B9 B_ Bj DR Bn Bp Bo Bi BW BQ BF Bl BR BU Bm BV CC Cg BT CE CF CD CA CB B8 DQ B' Bk BS
attribute [local irreducible] IntKind.wrap CG Option.getD and or
theorem MC (l:AY) (i:Int) (h0:0<=i/\i<l.slots.length) (hb1:1<=l.blocks/\l.blocks<=8) (hl:l.slots.length<=12):D6 E0 Ji [J2 l,.int .i64 i] (.bool (Ec l.blocks l.slots.length i (l.slots[i.toNat]?.getD default))):=by
 refine Ap MS A' (by simp) fun hwf=>?_
 have c1:=IM
 have c2:=Ny
 have w2:IntKind.i64.wrap (l.blocks-1)=l.blocks-1:=BN _ (by omega)
 have e5:¬(l.slots.length:Int)=0:=by omega
 have q1:=h0.1
 have hi:=h0.2
 rw[Av];unfold IU
 obtain⟨r,hr⟩:∃r,l.slots[i.toNat]?.getD default=r:=⟨_,rfl⟩
 rw[hr]
 rw[A9,A8,DZ] at c1
 rw[A9,A8,E'] at c2
 cases he:F7 r with
 |true =>
  rw[Nu he]
  obtain⟨a1,a2,a3,a4,a5⟩:=(GV r).1 he
  (try (simp -implicitDefEqProofs only[go_sem,AJ,Aq,hr,A9,A8,An,a1,a2,a3,a4,a5,Am,Aa,hi,q1]));repeat' first|(with_reducible first|exact tI|refine aI ?_ ?_|intro _)|((first|with_reducible refine Ad ?_ ?_<;>intro _|(with_reducible refine isCall ?_);first|refine AH c1 ?_|refine AH c2 ?_)<;>try (simp -implicitDefEqProofs only[go_sem,AJ,Aq,hr,A9,A8,An,a1,a2,a3,a4,a5,Am,Aa,hi,q1]))|simp (disch:=omega) only[A7]
  all_goals first|omega|(simp_all;done)|skip
 |false =>
  have he2:¬(r.num=-1/\r.blk=0/\r.val=0/\r.tail=0/\r.bad=false):=fun hx=>by rw[(GV r).2 hx] at he;cases he
  cases hb:JS r with
  |true =>
   rw[Nv hb]
   obtain⟨a1,a2,a3,a4,a5⟩:=(H8 r).1 hb
   (try (simp -implicitDefEqProofs only[go_sem,AJ,Aq,hr,A9,A8,An,a1,a2,a3,a4,a5,Am,Aa,hi,q1]));repeat' first|(with_reducible first|exact tI|refine aI ?_ ?_|intro _)|((first|with_reducible refine Ad ?_ ?_<;>intro _|(with_reducible refine isCall ?_);first|refine AH c1 ?_|refine AH c2 ?_)<;>try (simp -implicitDefEqProofs only[go_sem,AJ,Aq,hr,A9,A8,An,a1,a2,a3,a4,a5,Am,Aa,hi,q1]))|simp (disch:=omega) only[A7]
   all_goals first|omega|(simp_all;done)|skip
  |false =>
   have hb2:¬(r.num=0/\r.blk=0/\r.val=0/\r.tail=0/\r.bad=true):=fun hx=>by rw[(H8 r).2 hx] at hb;cases hb
   rw[RY he hb]
   unfold Pc
   cases hx:r.bad with
   |true =>
    rw[hx] at he2 hb2
    (try (simp -implicitDefEqProofs only[go_sem,AJ,Aq,hr,A9,A8,An,hx,he2,hb2,Am,Aa,hi,q1]));repeat' first|(with_reducible first|exact tI|refine aI ?_ ?_|intro _)|((first|with_reducible refine Ad ?_ ?_<;>intro _|(with_reducible refine isCall ?_);first|refine AH c1 ?_|refine AH c2 ?_)<;>try (simp -implicitDefEqProofs only[go_sem,AJ,Aq,hr,A9,A8,An,hx,he2,hb2,Am,Aa,hi,q1]))|simp (disch:=omega) only[A7]
    all_goals first|omega|(simp_all;done)|skip
   |false =>
    rw[hx] at he2 hb2
    (try (simp -implicitDefEqProofs only[go_sem,AJ,Aq,hr,A9,A8,An,w2,hx,he2,hb2,Am,Aa,hi,e5,q1]));repeat' first|(with_reducible first|exact tI|refine aI ?_ ?_|intro _)|((first|with_reducible refine Ad ?_ ?_<;>intro _|(with_reducible refine isCall ?_);first|refine AH c1 ?_|refine AH c2 ?_|refine AH (Fp _ _ _) ?_)<;>try (simp -implicitDefEqProofs only[go_sem,AJ,Aq,hr,A9,A8,An,w2,hx,he2,hb2,Am,Aa,hi,e5,q1]))|simp (disch:=omega) only[A7]
    all_goals first|omega|(simp_all;done)|skip
theorem M6 (l:AY):D6 E0 KV [J2 l] (.int .i64 l.check):=by
 refine Ap ND A' (by simp) fun hwf=>?_
 simp only[Fm,FB,FA,El,GD,GC,IK,GB,Cy,DF,DG,FD,Di,List.length_map,Dn,true_and,and_true,Am,Aa,A1,AJ] at hwf
 have c1:=IQ l.disk
 rw[Av];unfold JC
 unfold AR.check at c1
 cases hd:l.disk.ok with
 |false =>
  rw[hd] at c1
  have hc:l.check=10:=by unfold AY.check;rw[hd];simp
  rw[hc]
  (try (simp -implicitDefEqProofs only[go_sem,Am,Aa,Ao,AU]));repeat' first|(with_reducible first|exact tI|refine aI ?_ ?_|intro _)|((first|with_reducible refine Ad ?_ ?_<;>intro _|(with_reducible refine isCall ?_);first|refine AH c1 ?_)<;>try (simp -implicitDefEqProofs only[go_sem,Am,Aa,Ao,AU]))|simp (disch:=omega) only[A7]|((with_reducible refine BL ?_);refine⟨_,rfl,?_,?_⟩)
  all_goals first|omega|(simp<;>omega)|skip
 |true =>
  rw[hd] at c1
  have g:=GW hd
  have hsz:=H0 g
  have c2:=M7 l.disk hd l.from' l.slots.length
  have c3:=Fp l.blocks 1 8
  have c4:=Fp l.slots.length 2 12
  cases hb:EO l.blocks 1 8 with
  |false =>
   rw[hb] at c3
   have hc:l.check=160:=by unfold AY.check AY.head;rw[hd,hb];simp
   rw[hc]
   (try (simp -implicitDefEqProofs only[go_sem,Am,Aa,Ao,AU,AJ]));repeat' first|(with_reducible first|exact tI|refine aI ?_ ?_|intro _)|((first|with_reducible refine Ad ?_ ?_<;>intro _|(with_reducible refine isCall ?_);first|refine AH c1 ?_|refine AH c3 ?_)<;>try (simp -implicitDefEqProofs only[go_sem,Am,Aa,Ao,AU,AJ]))|simp (disch:=omega) only[A7]|((with_reducible refine BL ?_);refine⟨_,rfl,?_,?_⟩)
   all_goals first|omega|(simp<;>omega)|skip
  |true =>
  rw[hb] at c3
  cases hl:EO l.slots.length 2 12 with
  |false =>
   rw[hl] at c4
   have hc:l.check=160:=by unfold AY.check AY.head;rw[hd,hb,hl];simp
   rw[hc]
   (try (simp -implicitDefEqProofs only[go_sem,Am,Aa,Ao,AU,AJ]));repeat' first|(with_reducible first|exact tI|refine aI ?_ ?_|intro _)|((first|with_reducible refine Ad ?_ ?_<;>intro _|(with_reducible refine isCall ?_);first|refine AH c1 ?_|refine AH c3 ?_|refine AH c4 ?_)<;>try (simp -implicitDefEqProofs only[go_sem,Am,Aa,Ao,AU,AJ]))|simp (disch:=omega) only[A7]|((with_reducible refine BL ?_);refine⟨_,rfl,?_,?_⟩)
   all_goals first|omega|(simp<;>omega)|skip
  |true =>
  rw[hl] at c4
  have hl2:=CR.1 hl
  have hb2:=CR.1 hb
  have hrun:decide (l.disk.isRun l.from' l.slots.length)=EO l.from' 0 (l.disk.size-l.slots.length):=by unfold EO;refine decide_eq_decide.2 ?_;unfold AR.isRun;omega
  rw[hrun] at c2
  cases hf:EO l.from' 0 (l.disk.size-l.slots.length) with
  |false =>
   rw[hf] at c2
   have hc:l.check=160:=by unfold AY.check AY.head;rw[hd,hb,hl,hf];simp
   rw[hc]
   (try (simp -implicitDefEqProofs only[go_sem,Am,Aa,Ao,AU,AJ]));repeat' first|(with_reducible first|exact tI|refine aI ?_ ?_|intro _)|((first|with_reducible refine Ad ?_ ?_<;>intro _|(with_reducible refine isCall ?_);first|refine AH c1 ?_|refine AH c2 ?_|refine AH c3 ?_|refine AH c4 ?_)<;>try (simp -implicitDefEqProofs only[go_sem,Am,Aa,Ao,AU,AJ]))|simp (disch:=omega) only[A7]|((with_reducible refine BL ?_);refine⟨_,rfl,?_,?_⟩)
   all_goals first|omega|(simp<;>omega)|skip
  |true =>
   rw[hf] at c2
   have hh:l.head=true:=by unfold AY.head;rw[hb,hl,hf];simp
   (try (simp -implicitDefEqProofs only[go_sem,Am,Aa,Ao,AU,AJ]));repeat' first|(with_reducible first|exact tI|refine aI ?_ ?_|intro _)|((first|with_reducible refine Ad ?_ ?_<;>intro _|(with_reducible refine isCall ?_);first|refine AH c1 ?_|refine AH c2 ?_|refine AH c3 ?_|refine AH c4 ?_)<;>try (simp -implicitDefEqProofs only[go_sem,Am,Aa,Ao,AU,AJ]))|simp (disch:=omega) only[A7]|((with_reducible refine BL ?_);refine⟨_,rfl,?_,?_⟩)
   all_goals (try omega)
   refine BZ (α:=Int) (l0:=?l1) (m0:=?m1) (fun x=>[(3,.d (.int .i64 x))]) (fun x=>[]) (fun x=>(0<=x/\x<=l.slots.length)/\l.allOk x.toNat=true) (fun x=>(l.slots.length-x).toNat) ?a1_0 ?h01 ?he1 ?he21 ?hI1 ?step1
   case h01=>(simp -implicitDefEqProofs only[go_sem,AJ,Aa];rfl)
   case he1=>rfl
   case he21=>rfl
   case' step1=>(rintro i hI;try dsimp only at hI)
   case' hI1=>try dsimp only
   ·exact⟨⟨by omega,by omega⟩,rfl⟩
   ·obtain⟨⟨q1,q2⟩,q3⟩:=hI
    by_cases hi:i<l.slots.length
    ·have w3:IntKind.i64.wrap (i+1)=i+1:=BN _ (by omega)
     have hbad:=P7 hd ⟨q1,hi⟩
     have hgood:=Oo q1 q3
     have c5:=MC l i ⟨q1,hi⟩ hb2 (by omega)
     cases hs:Ec l.blocks l.slots.length i (l.slots[i.toNat]?.getD default) with
     |false =>
      rw[hs] at c5
      rw[hbad hs]
      (try (simp -implicitDefEqProofs only[go_sem,AJ,w3,Am,Aa,hi]));repeat' first|(with_reducible first|exact tI|refine aI ?_ ?_|intro _)|((first|with_reducible refine Ad ?_ ?_<;>intro _|(with_reducible refine isCall ?_);first|refine AH c5 ?_)<;>try (simp -implicitDefEqProofs only[go_sem,AJ,w3,Am,Aa,hi]))|simp (disch:=omega) only[A7]|((with_reducible refine BL ?_);refine⟨_,rfl,?_,?_⟩)
      all_goals first|omega|(simp<;>omega)|skip
     |true =>
      rw[hs] at c5
      have hg:=hgood hs
      (try (simp -implicitDefEqProofs only[go_sem,AJ,w3,Am,Aa,hi]));repeat' first|(with_reducible first|exact tI|refine aI ?_ ?_|intro _)|((first|with_reducible refine Ad ?_ ?_<;>intro _|(with_reducible refine isCall ?_);first|refine AH c5 ?_)<;>try (simp -implicitDefEqProofs only[go_sem,AJ,w3,Am,Aa,hi]))|simp (disch:=omega) only[A7]|((with_reducible refine BL ?_);refine⟨_,rfl,?_,?_⟩)
      all_goals first|omega|exact hg|skip
    ·have hie:i.toNat=l.slots.length:=by omega
     rw[hie] at q3
     have hc:l.check=0:=by unfold AY.check;rw[hd,hh,q3];simp
     rw[hc]
     (try (simp -implicitDefEqProofs only[go_sem,AJ,Aa,hi]));repeat' first|(with_reducible first|exact tI|refine aI ?_ ?_|intro _)|((first|with_reducible refine Ad ?_ ?_<;>intro _)<;>try (simp -implicitDefEqProofs only[go_sem,AJ,Aa,hi]))|simp (disch:=omega) only[A7]|((with_reducible refine BL ?_);refine⟨_,rfl,?_,?_⟩)
     all_goals first|omega|(simp<;>omega)|skip
end Go.Pw
end
section
open Go Go.Pw Go.Proofs
namespace Go.Pw
set_option maxRecDepth 100000
set_option maxHeartbeats 3200000
theorem RX {V:AB}{c:D}{l:List D}:AV.snap V (.dptr (c::l) 0)=some (.ptr (c::l)):=rfl
theorem KN {α:Type}(l:List α) (x:α):(l++[x]).isEmpty=false:=by cases l<;>rfl
def AY.keptA (l:AY):List Bd:=if l.full then l.kept else []
theorem Nd {l:AY}{t n:Int}(h0:t<=n):l.whole t (n+1-t).toNat=(l.whole t (n-t).toNat && (!(l.at' n).bad && decide ((l.at' n).num=n))):=by
 rw[show (n+1-t).toNat=(n-t).toNat+1 by omega,AY.whole,show t+(((n-t).toNat:Nat):Int)=n by omega]
theorem OD {l:AY}{t n:Int}(h0:t<=n):l.keptN t (n+1-t).toNat=l.keptN t (n-t).toNat++[l.at' n]:=by
 rw[show (n+1-t).toNat=(n-t).toNat+1 by omega,H7,show t+(((n-t).toNat:Nat):Int)=n by omega]
theorem Xg {l:AY}{n:Int}(h0:l.newest.tail<=n) (h1:n<=l.newest.num) (h:(!(l.at' n).bad && decide ((l.at' n).num=n))=false):l.full=false:=by
 unfold AY.full
 exact Jq (i:=(n-l.newest.tail).toNat) (by unfold AY.many;omega) (by rw[show l.newest.tail+(((n-l.newest.tail).toNat:Nat):Int)=n by omega];exact h)
attribute [local congr] DP B9 B_ Bj DR Bn Bp Bo Bi BW BQ BF Bl BR BU Bm BV CC Cg BT CE CF CD CA CB B8 DQ B' Bk BS
attribute [local irreducible] IntKind.wrap CG Option.getD and or
theorem ML (l:AY) (n:Int) (hl:1<=l.slots.length) (h0:0<=n):D6 E0 FN [.ptr (OC l),.int .i64 n] (.ptr (TF (l.at' n))):=by
 refine Ap F9 A' (by simp) fun hwf=>?_
 have h1:=Int.tmod_nonneg (l.slots.length:Int) h0
 have h2:=Int.tmod_lt_of_pos n (b:=(l.slots.length:Int)) (by omega)
 have e5:¬(l.slots.length:Int)=0:=by omega
 rw[Av];unfold Ex AY.at'
 (try (simp -implicitDefEqProofs only[go_sem,Aa,AJ,Aq,An,e5,h1,h2,A9,RX,A8]));repeat' first|(with_reducible first|exact tI|refine aI ?_ ?_|intro _)|((first|with_reducible refine Ad ?_ ?_<;>intro _)<;>try (simp -implicitDefEqProofs only[go_sem,Aa,AJ,Aq,An,e5,h1,h2,A9,RX,A8]))|simp (disch:=omega) only[A7]
 all_goals first|omega|(simp;done)|rfl|skip
theorem Hj (l:AY) (g:l.Good):D6 E0 FO [.ptr (OC l)] (.tup [.list (!l.full || l.keptA.isEmpty) (DH l.keptA),.bool l.full]):=by
 refine Ap F_ A' (by simp) fun hwf=>?_
 have c1:=FI l
 obtain⟨n1,n2,n3⟩:=Bs g
 have m1:=g.m1;have m2:=g.m2
 obtain⟨⟨na,nb,nc,nd,ne⟩,hR⟩:∃R,l.newest=R:=⟨_,rfl⟩
 have hN:l.newest.num=na:=by rw[hR]
 have hT:l.newest.tail=nd:=by rw[hR]
 rw[hR,A9,A8] at c1
 rw[hN,hT] at n3
 rw[hN] at n2
 rw[Av];unfold Ey
 (try (simp -implicitDefEqProofs only[go_sem,Aa]));repeat' first|(with_reducible first|exact tI|refine aI ?_ ?_|intro _)|((first|with_reducible refine Ad ?_ ?_<;>intro _|(with_reducible refine isCall ?_);first|refine AH c1 ?_)<;>try (simp -implicitDefEqProofs only[go_sem,Aa]))|simp (disch:=omega) only[A7]|((with_reducible refine Br ?_);refine⟨(_,_,_),rfl,?_,?_⟩)
 all_goals first|omega|(simp<;>omega)|skip
 refine BZ (α:=Int×(List Bd)×Bool) (l0:=?l1) (m0:=?m1) (fun x=>[(5,.d (.int .i64 x.1))]) (fun x=>[(33,.row 43 5 x.2.2 (DH x.2.1))]) (fun x=>(nd<=x.1/\x.1<=na+1)/\x.2.1=l.keptN nd (x.1-nd).toNat/\x.2.2=x.2.1.isEmpty/\l.whole nd (x.1-nd).toNat=true) (fun x=>(na+1-x.1).toNat) (?a1_0,[],true) ?h01 ?he1 ?he21 ?hI1 ?step1
 case h01=>(simp -implicitDefEqProofs only[go_sem,Aa];rfl)
 case he1=>rfl
 case he21=>rfl
 case' step1=>(rintro⟨n,out,b⟩ hI;try dsimp only at hI)
 case' hI1=>try dsimp only
 ·refine⟨⟨by omega,by omega⟩,?_,rfl,?_⟩
  ·rw[Int.sub_self];rfl
  ·rw[Int.sub_self];rfl
 ·obtain⟨⟨q1,q2⟩,q3,q4,q5⟩:=hI
  by_cases hn:n<=na
  ·have c2:=ML l n (by omega) (by omega)
   have w1:IntKind.i64.wrap (n+1)=n+1:=BN _ (by omega)
   have k1:=Nd (l:=l) q1
   have k2:=OD (l:=l) q1
   have k3:=Xg (l:=l) (n:=n) (by omega) (by omega)
   have hlen:=MJ l nd (n-nd).toNat
   rw[←q3] at hlen k2
   rw[q5] at k1
   have hemp:=KN out
   obtain⟨r,hr⟩:∃r,l.at' n=r:=⟨_,rfl⟩
   rw[hr] at c2 k1 k2 k3
   rw[A8] at c2
   cases hb:r.bad with
   |true =>
    have hf:=k3 (by rw[hb];simp)
    have ha:l.keptA=[]:=by unfold AY.keptA;rw[hf];simp
    rw[hf,ha]
    rw[hb] at c2
    (try (simp -implicitDefEqProofs only[go_sem,Aa,hn,GZ]));repeat' first|(with_reducible first|exact tI|refine aI ?_ ?_|intro _)|((first|with_reducible refine Ad ?_ ?_<;>intro _|(with_reducible refine isCall ?_);first|refine AH c2 ?_)<;>try (simp -implicitDefEqProofs only[go_sem,Aa,hn,GZ]))|simp (disch:=omega) only[A7]|((with_reducible refine Br ?_);refine⟨(_,_,_),rfl,?_,?_⟩)
    all_goals first|omega|(simp;done)|rfl|skip
   |false =>
    rw[hb] at c2
    by_cases hx:r.num=n
    ·rw[hb,decide_eq_true hx] at k1
     have hnx:l.keptN nd (n+1-nd).toNat=out++[⟨r.num,r.blk,r.val,r.tail,false⟩]:=by rw[k2,←hb]
     have k1':l.whole nd (n+1-nd).toNat=true:=by rw[k1];simp
     (try (simp -implicitDefEqProofs only[go_sem,Aa,hn,eq_true hx,AJ,An,H4,w1]));repeat' first|(with_reducible first|exact tI|refine aI ?_ ?_|intro _)|((first|with_reducible refine Ad ?_ ?_<;>intro _|(with_reducible refine isCall ?_);first|refine AH c2 ?_)<;>try (simp -implicitDefEqProofs only[go_sem,Aa,hn,eq_true hx,AJ,An,H4,w1]))|simp (disch:=omega) only[A7]|((with_reducible refine Br ?_);refine⟨(_,_,_),rfl,?_,?_⟩)
     all_goals first|omega|exact hnx.symm|exact k1'|exact(hemp _).symm|skip
    ·have hf:=k3 (by rw[hb,decide_eq_false hx];simp)
     have ha:l.keptA=[]:=by unfold AY.keptA;rw[hf];simp
     rw[hf,ha]
     (try (simp -implicitDefEqProofs only[go_sem,Aa,hn,hx,GZ]));repeat' first|(with_reducible first|exact tI|refine aI ?_ ?_|intro _)|((first|with_reducible refine Ad ?_ ?_<;>intro _|(with_reducible refine isCall ?_);first|refine AH c2 ?_)<;>try (simp -implicitDefEqProofs only[go_sem,Aa,hn,hx,GZ]))|simp (disch:=omega) only[A7]|((with_reducible refine Br ?_);refine⟨(_,_,_),rfl,?_,?_⟩)
     all_goals first|omega|(simp;done)|rfl|skip
  ·have hne:n=na+1:=by omega
   have hm:(n-nd).toNat=l.many:=by unfold AY.many;omega
   rw[hm] at q3 q5
   have hf:l.full=true:=by unfold AY.full;rw[hT];exact q5
   have ha:l.keptA=out:=by unfold AY.keptA AY.kept;rw[hf,q3,hT];rfl
   rw[hf,ha,←q4]
   (try (simp -implicitDefEqProofs only[go_sem,Aa,hn]));repeat' first|(with_reducible first|exact tI|refine aI ?_ ?_|intro _)|((first|with_reducible refine Ad ?_ ?_<;>intro _)<;>try (simp -implicitDefEqProofs only[go_sem,Aa,hn]))|simp (disch:=omega) only[A7]|((with_reducible refine Br ?_);refine⟨(_,_,_),rfl,?_,?_⟩)
end Go.Pw
end
section
open Go Go.Pw Go.Proofs
namespace Go.Pw
set_option maxRecDepth 100000
set_option maxHeartbeats 3200000
theorem NP {V o g}:AV.snap V (.ptr o g 0)=match V.get o g with|some (.cells xs)=>(match BD AV.toD1 xs with|some (c::l)=>some (.ptr (c::l))|_=>none)|_=>none:=rfl
def dv (nl:Bool) (l:List Bd):Bool:=nl && l.isEmpty
def AY.cp (l:AY):AY:={ l with disk:={ l.disk with zn:=l.disk.zn && l.disk.zones.isEmpty },sn:=l.sn && l.slots.isEmpty }
def AY.openE (l:AY):Int:=if l.check≠0 then l.check else if l.full then 0 else 161
theorem ST (l:AY) (t:Int):∀n,l.cp.whole t n=l.whole t n
 |0=>rfl
 |n+1=>by rw[AY.whole,AY.whole,ST l t n];rfl
theorem Qw (l:AY):l.cp.full=l.full:=ST l _ _
theorem SU (l:AY):l.cp.keptA=l.keptA:=by unfold AY.keptA;rw[Qw];rfl
theorem Qv {l:AY}(g:l.Good):l.cp.Good:=by
 have s:J8 l.disk l.cp.disk:=⟨rfl,rfl,rfl⟩
 exact⟨g.d,g.b1,g.b2,g.m1,g.m2,g.f1,(by rw[s.size];exact g.f2),g.s⟩
theorem FM {l:AY}(h:l.check=0):l.Good:=XQ (AY.check_ok.1 h)
attribute [local congr] DP B9 B_ Bj DR Bn Bp Bo Bi BW BQ BF Bl BR BU Bm BV CC Cg BT CE CF CD CA CB B8 DQ B' Bk BS
attribute [local irreducible] IntKind.wrap CG Option.getD and or
theorem PI (nl:Bool) (l:List Bd) (hl:l.length<=1000) (hw:nl=true->l=[]):D6 E0 B3 [.list nl (DH l)] (.list (nl && l.isEmpty) (DH l)):=by
 refine Ap CV A' (by simp) fun hwf=>?_
 rw[Av];unfold B2
 cases nl with
 |true =>
  rw[hw rfl]
  (try (simp -implicitDefEqProofs only[go_sem,GZ]));repeat' first|(with_reducible first|exact tI|refine aI ?_ ?_|intro _)|((first|with_reducible refine Ad ?_ ?_<;>intro _)<;>try (simp -implicitDefEqProofs only[go_sem,GZ]))|simp (disch:=omega) only[A7]
  all_goals first|rfl|(simp;done)|skip
 |false =>
  (try (simp -implicitDefEqProofs only[go_sem,AJ,An]));repeat' first|(with_reducible first|exact tI|refine aI ?_ ?_|intro _)|((first|with_reducible refine Ad ?_ ?_<;>intro _)<;>try (simp -implicitDefEqProofs only[go_sem,AJ,An]))|simp (disch:=omega) only[A7]
  all_goals first|omega|rfl|(simp;done)|(rename_i hx;rw[hx])|skip
theorem Jn (nl:Bool) (l:List Zp) (hl:l.length<=1000) (hw:nl=true->l=[]):D6 E0 Dr [.list nl (L6 l)] (.list (nl && l.isEmpty) (L6 l)):=by
 refine Ap FL A' (by simp) fun hwf=>?_
 rw[Av];unfold De
 cases nl with
 |true =>
  rw[hw rfl,show L6 []=[] from rfl]
  (try (simp -implicitDefEqProofs only[go_sem]));repeat' first|(with_reducible first|exact tI|refine aI ?_ ?_|intro _)|((first|with_reducible refine Ad ?_ ?_<;>intro _)<;>try (simp -implicitDefEqProofs only[go_sem]))|simp (disch:=omega) only[A7]
  all_goals first|rfl|(simp;done)|skip
 |false =>
  (try (simp -implicitDefEqProofs only[go_sem,A1,CI]));repeat' first|(with_reducible first|exact tI|refine aI ?_ ?_|intro _)|((first|with_reducible refine Ad ?_ ?_<;>intro _)<;>try (simp -implicitDefEqProofs only[go_sem,A1,CI]))|simp (disch:=omega) only[A7]
  all_goals first|omega|rfl|(simp;done)|(rename_i hx;rw[hx])|skip
def UU (l:AY):D:=if l.openE=0 then .ptr (OC l.cp) else .nilptr
theorem Hi (l:AY) (hs:l.sn=true->l.slots=[]) (hz:l.disk.zn=true->l.disk.zones=[]):D6 E0 Fe [J2 l] (.tup [UU l,.int .i64 l.openE]):=by
 refine Ap MV A' (by simp) fun hwf=>?_
 have c1:=HH l
 rw[Av];unfold IX UU AY.openE
 by_cases hc:l.check=0
 ·rw[hc] at c1
  have g:=FM hc
  have m2:=g.m2
  have z2:=(GW g.d).z2
  have c2:=PI l.sn l.slots (by omega) hs
  have c3:=Jn l.disk.zn l.disk.zones (by omega) hz
  have c4:=Hj l.cp (Qv g)
  rw[Qw,SU] at c4
  cases hf:l.full with
  |true =>
   rw[hf] at c4
   (try (simp -implicitDefEqProofs only[go_sem,Am,Aa,AY.cp,NP,hc]));repeat' first|(with_reducible first|exact tI|refine aI ?_ ?_|intro _)|((first|with_reducible refine Ad ?_ ?_<;>intro _|(with_reducible refine isCall ?_);first|refine AH c1 ?_|refine AH c2 ?_|refine AH c3 ?_|refine AH c4 ?_)<;>try (simp -implicitDefEqProofs only[go_sem,Am,Aa,AY.cp,NP,hc]))|simp (disch:=omega) only[A7]
   all_goals first|omega|rfl|(simp[hc];done)
  |false =>
   rw[hf] at c4
   (try (simp -implicitDefEqProofs only[go_sem,Am,Aa,AY.cp,NP,hc]));repeat' first|(with_reducible first|exact tI|refine aI ?_ ?_|intro _)|((first|with_reducible refine Ad ?_ ?_<;>intro _|(with_reducible refine isCall ?_);first|refine AH c1 ?_|refine AH c2 ?_|refine AH c3 ?_|refine AH c4 ?_)<;>try (simp -implicitDefEqProofs only[go_sem,Am,Aa,AY.cp,NP,hc]))|simp (disch:=omega) only[A7]
   all_goals first|omega|rfl|(simp[hc];done)
 ·(try (simp -implicitDefEqProofs only[go_sem,Am,Aa,hc]));repeat' first|(with_reducible first|exact tI|refine aI ?_ ?_|intro _)|((first|with_reducible refine Ad ?_ ?_<;>intro _|(with_reducible refine isCall ?_);first|refine AH c1 ?_)<;>try (simp -implicitDefEqProofs only[go_sem,Am,Aa,hc]))|simp (disch:=omega) only[A7]
  all_goals first|omega|rfl|(simp[hc];done)
end Go.Pw
end
section
open Go Go.Pw Go.Proofs
namespace Go.Pw
set_option maxRecDepth 100000
set_option maxHeartbeats 3200000
def AY.recE (l:AY):List Bd:=if l.openE=0 then l.kept else []
def AY.room (l:AY):Int:=if l.openE=0 then l.newest.tail+l.slots.length-l.newest.num-1 else 0
theorem QX {l:AY}(h:l.openE=0):l.check=0/\l.full=true:=by
 unfold AY.openE at h
 by_cases hc:l.check=0
 ·refine⟨hc,?_⟩
  rw[if_neg (by simpa using hc)] at h
  cases hf:l.full with
  |true=>rfl
  |false=>rw[hf] at h;simp at h
 ·rw[if_pos hc] at h;exact absurd h hc
theorem Ta {l:AY}(h:l.full=true):l.keptA=l.kept:=by unfold AY.keptA;rw[h];rfl
attribute [local congr] DP B9 B_ Bj DR Bn Bp Bo Bi BW BQ BF Bl BR BU Bm BV CC Cg BT CE CF CD CA CB B8 DQ B' Bk BS
attribute [local irreducible] IntKind.wrap CG Option.getD and or
theorem LV (l:AY) (g:l.Good):D6 E0 E3 [.ptr (OC l)] (.int .i64 (l.newest.tail+l.slots.length)):=by
 refine Ap Iv A' (by simp) fun hwf=>?_
 have c1:=FI l
 obtain⟨n1,n2,n3⟩:=Bs g
 have m1:=g.m1;have m2:=g.m2
 obtain⟨⟨na,nb,nc,nd,ne⟩,hR⟩:∃R,l.newest=R:=⟨_,rfl⟩
 rw[hR] at c1 n2 n3 ⊢
 rw[A9,A8] at c1
 have w1:IntKind.i64.wrap (nd+l.slots.length)=nd+l.slots.length:=BN _ (by simp only at n2 n3;omega)
 rw[Av];unfold Fy
 (try (simp -implicitDefEqProofs only[go_sem,Aa,AJ,w1]));repeat' first|(with_reducible first|exact tI|refine aI ?_ ?_|intro _)|((first|with_reducible refine Ad ?_ ?_<;>intro _|(with_reducible refine isCall ?_);first|refine AH c1 ?_)<;>try (simp -implicitDefEqProofs only[go_sem,Aa,AJ,w1]))|simp (disch:=omega) only[A7]
 all_goals first|omega|rfl|(simp;done)
end Go.Pw
end
section
open Go Go.Pw Go.Proofs
namespace Go.Pw
set_option maxRecDepth 100000
set_option maxHeartbeats 3200000
attribute [local congr] DP B9 B_ Bj DR Bn Bp Bo Bi BW BQ BF Bl BR BU Bm BV CC Cg BT CE CF CD CA CB B8 DQ B' Bk BS
attribute [local irreducible] IntKind.wrap CG Option.getD and or
end Go.Pw
end
