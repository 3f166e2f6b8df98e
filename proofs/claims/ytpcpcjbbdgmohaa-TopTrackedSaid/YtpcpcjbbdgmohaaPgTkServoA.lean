/- A part of the proof. -/
import Derived.Test.YtpcpcjbbdgmohaaPlPC
import Derived.Test.YtpcpcjbbdgmohaaPkVC
import Derived.Test.YtpcpcjbbdgmohaaServoSpec
set_option linter.all false
section
open Go Go.Pw Go.Proofs
namespace Go.Pw
set_option maxRecDepth 100000
set_option maxHeartbeats 400000
attribute [local congr] DH Bv Bw BW DJ Bd Bf Be BV BH A' A0 BZ BA Ba BF Bc BG B1 CX BE B4 B5 B2 Bz B0 Bu DI Bx BX BC BB BD Bb B3
attribute [local irreducible] IntKind.wrap BR Option.getD and or
theorem Yp (c:Int):c.fdiv (2^min 1 64)=c/2:=Int.fdiv_eq_ediv_of_nonneg _ (by decide)
theorem Cn (n lo hi:Int):C6 E0 IZ [.int .i64 n,.int .i64 lo,.int .i64 hi] (.bool (EU n lo hi)):=by
 refine AU LS A1 (by simp) fun hwf=>?_
 rw[Ae];unfold HG EU
 (try (simp -implicitDefEqProofs only[go_sem]));repeat' first|(with_reducible first|exact tI|refine aI ?_ ?_|intro _)|((first|with_reducible refine AW ?_ ?_<;>intro _)<;>try (simp -implicitDefEqProofs only[go_sem]))|simp (disch:=omega) only[Au]
 all_goals first|omega|(simp_all[EU];done)|(simp_all[EU];omega)|grind
theorem C7 (n lo hi:Int):C6 E0 Ib [.int .i64 n,.int .i64 lo,.int .i64 hi] (.bool (EU n lo hi)):=by
 refine AU LU A1 (by simp) fun hwf=>?_
 rw[Ae];unfold HI EU
 (try (simp -implicitDefEqProofs only[go_sem]));repeat' first|(with_reducible first|exact tI|refine aI ?_ ?_|intro _)|((first|with_reducible refine AW ?_ ?_<;>intro _)<;>try (simp -implicitDefEqProofs only[go_sem]))|simp (disch:=omega) only[Au]
 all_goals first|omega|(simp_all[EU];done)|(simp_all[EU];omega)|grind
theorem GI (n:Int) (h:-4611686018427387904<=n/\n<=4611686018427387904):C6 E0 L2 [.int .i64 n] (.int .i64 (max n (-n))):=by
 refine AU No A1 (by simp) fun hwf=>?_
 have hw:IntKind.i64.wrap (-n)=-n:=Aw _ (by omega)
 rw[Ae];unfold KM
 (try (simp -implicitDefEqProofs only[go_sem,hw]));repeat' first|(with_reducible first|exact tI|refine aI ?_ ?_|intro _)|((first|with_reducible refine AW ?_ ?_<;>intro _)<;>try (simp -implicitDefEqProofs only[go_sem,hw]))|simp (disch:=omega) only[Au]
 all_goals first|omega|(simp<;>omega)|skip
theorem Hr (n:Int) (h:0<=n/\n<=127):C6 E0 K7 [.int .i64 n] (.int .i64 (HS n)):=by
 refine AU NH A1 (by simp) fun hwf=>?_
 have hq:n.tdiv 2=n/2:=Int.tdiv_eq_ediv_of_nonneg h.1
 rw[Ae];unfold JQ HS
 (try (simp -implicitDefEqProofs only[go_sem,hq]));repeat' first|(with_reducible first|exact tI|refine aI ?_ ?_|intro _)|((first|with_reducible refine AW ?_ ?_<;>intro _)<;>try (simp -implicitDefEqProofs only[go_sem,hq]))|simp (disch:=omega) only[Au]
 all_goals first|omega|(simp<;>omega)|skip
theorem Pp:∀(k:Nat) (c n:Int),c<2^k->U5 (k+1) c n=U5 k c n
 |0,c,n,h=>by
  have:¬0<c:=by simp at h;omega
  simp[U5,this]
 |k+1,c,n,h=>by
  show (if 0<c then U5 (k+1) (c/2) (BR .xor .i64 n c) else n)=(if 0<c then U5 k (c/2) (BR .xor .i64 n c) else n)
  have h2:c/2<2^k:=by rw[Int.pow_succ] at h;omega
  rw[Pp k _ _ h2]
theorem L8 (c0:Int) (h:0<=c0/\c0<=127):C6 E0 Ja [.int .i64 c0] (.int .i64 (B_ c0)):=by
 refine AU MJ A1 (by simp) fun hwf=>?_
 rw[Ae];unfold Hv
 (try (simp -implicitDefEqProofs only[go_sem]));repeat' first|(with_reducible first|exact tI|refine aI ?_ ?_|intro _)|((first|with_reducible refine AW ?_ ?_<;>intro _)<;>try (simp -implicitDefEqProofs only[go_sem]))|simp (disch:=omega) only[Au]|((with_reducible refine BN ?_);refine⟨(_,_),rfl,?_,?_⟩)
 refine A5 (α:=Int×Int) (l0:=?l1) (m0:=?m1) (fun x=>[(0,.d (.int .i64 x.1)),(2,.d (.int .i64 x.2))]) (fun x=>[]) (fun x=>0<=x.1/\x.1<=127/\U5 8 x.1 x.2=B_ c0) (fun x=>x.1.toNat) (?a1_0,?a1_1) ?h01 ?he1 ?he21 ?hI1 ?step1
 case h01=>(simp -implicitDefEqProofs only[go_sem];rfl)
 case he1=>rfl
 case he21=>rfl
 case' step1=>(rintro⟨c,n⟩ hI;try dsimp only at hI)
 case' hI1=>try dsimp only
 ·exact⟨by omega,by omega,rfl⟩
 ·obtain⟨h1,h2,h3⟩:=hI
  by_cases hc:0<c
  ·have hs:U5 8 c n=U5 8 (c/2) (BR .xor .i64 n c):=by
    rw[U5,if_pos hc,Pp 7 _ _ (by omega)]
   (try (simp -implicitDefEqProofs only[go_sem,Yp]));repeat' first|(with_reducible first|exact tI|refine aI ?_ ?_|intro _)|((first|with_reducible refine AW ?_ ?_<;>intro _)<;>try (simp -implicitDefEqProofs only[go_sem,Yp]))|simp (disch:=omega) only[Au]|((with_reducible refine BN ?_);refine⟨(_,_),rfl,?_,?_⟩)
   all_goals first|omega|(simp<;>omega)|skip
   all_goals (rw[←h3,hs])
  ·have h0:c=0:=by omega
   subst h0
   (try (simp -implicitDefEqProofs only[go_sem]));repeat' first|(with_reducible first|exact tI|refine aI ?_ ?_|intro _)|((first|with_reducible refine AW ?_ ?_<;>intro _)<;>try (simp -implicitDefEqProofs only[go_sem]))|simp (disch:=omega) only[Au]|((with_reducible refine BN ?_);refine⟨(_,_),rfl,?_,?_⟩)
   all_goals first|omega|(simp<;>omega)|skip
   all_goals (rw[←h3];simp[U5])
theorem MF (c:Int):C6 E0 Je [.int .i64 c] (.tup [.int .i64 (if EU c 0 127 then B_ c else 0),.int .i64 (if EU c 0 127 then 0 else 1)]):=by
 refine AU MO A1 (by simp) fun hwf=>?_
 rw[Ae];unfold Hz
 (try (simp -implicitDefEqProofs only[go_sem]));repeat' first|(with_reducible first|exact tI|refine aI ?_ ?_|intro _)|((first|with_reducible refine AW ?_ ?_<;>intro _)<;>try (simp -implicitDefEqProofs only[go_sem]))|simp (disch:=omega) only[Au]|((with_reducible refine BP ?_);refine⟨_,rfl,?_,?_⟩)
 refine A5 (α:=Int) (l0:=?l2) (m0:=?m2) (fun x=>[(4,.d (.int .i64 x))]) (fun x=>[]) (fun x=>0<=x/\x<=128/\∀j:Int,0<=j->j<x->HS j≠c) (fun x=>(128-x).toNat) ?a2_0 ?h02 ?he2 ?he22 ?hI2 ?step2
 case h02=>(simp -implicitDefEqProofs only[go_sem];rfl)
 case he2=>rfl
 case he22=>rfl
 case' step2=>(rintro i hI;try dsimp only at hI)
 case' hI2=>try dsimp only
 ·exact⟨by omega,by omega,fun j h1 h2=>by omega⟩
 ·obtain⟨h1,h2,h3⟩:=hI
  by_cases hi:i<128
  ·have hg:=Kl (n:=i) (by omega)
   by_cases hc:HS i=c
   ·have hr:EU c 0 127=true:=by simp[EU];omega
    have ht:B_ c=i:=by rw[←hc];exact hg.1
    rw[hr]
    (try (simp -implicitDefEqProofs only[go_sem,hc,ht]));repeat' first|(with_reducible first|exact tI|refine aI ?_ ?_|intro _)|((first|with_reducible refine AW ?_ ?_<;>intro _|(with_reducible refine isCall ?_);first|refine AD (Hr i (by omega)) ?_)<;>try (simp -implicitDefEqProofs only[go_sem,hc,ht]))|simp (disch:=omega) only[Au]|((with_reducible refine BP ?_);refine⟨_,rfl,?_,?_⟩)
    all_goals first|omega|(simp<;>omega)|skip
   ·(try (simp -implicitDefEqProofs only[go_sem,hc]));repeat' first|(with_reducible first|exact tI|refine aI ?_ ?_|intro _)|((first|with_reducible refine AW ?_ ?_<;>intro _|(with_reducible refine isCall ?_);first|refine AD (Hr i (by omega)) ?_)<;>try (simp -implicitDefEqProofs only[go_sem,hc]))|simp (disch:=omega) only[Au]|((with_reducible refine BP ?_);refine⟨_,rfl,?_,?_⟩)
    all_goals first|omega|(simp<;>omega)|skip
    all_goals
     rename_i j hj0 hj1
     rcases (show j<i\/j=i by omega) with h|h
     ·exact h3 j hj0 h
     ·rw[h];exact hc
  ·have hr:EU c 0 127=false:=by
    cases hh:EU c 0 127 with
    |false=>rfl
    |true =>
     have hn:0<=c/\c<=127:=by simpa[EU] using hh
     have hg:=Kl hn
     exact absurd hg.2.2.2.2.2 (h3 (B_ c) hg.2.2.2.1 (by omega))
   rw[hr]
   (try (simp -implicitDefEqProofs only[go_sem]));repeat' first|(with_reducible first|exact tI|refine aI ?_ ?_|intro _)|((first|with_reducible refine AW ?_ ?_<;>intro _)<;>try (simp -implicitDefEqProofs only[go_sem]))|simp (disch:=omega) only[Au]|((with_reducible refine BP ?_);refine⟨_,rfl,?_,?_⟩)
   all_goals first|omega|(simp<;>omega)|skip
end Go.Pw
end
section
open Go Go.Pw Go.Proofs
namespace Go.Pw
set_option maxRecDepth 100000
set_option maxHeartbeats 1600000
attribute [local congr] DH Bv Bw BW DJ Bd Bf Be BV BH A' A0 BZ BA Ba BF Bc BG B1 CX BE B4 B5 B2 Bz B0 Bu DI Bx BX BC BB BD Bb B3
attribute [local irreducible] IntKind.wrap BR Option.getD and or
theorem I' (n:Int):C6 E0 F_ [.int .i64 n] (.bool (EU n (-16) 16)):=by
 refine AU JC A1 (by simp) fun hwf=>?_
 rw[Ae];unfold FS
 (try (simp -implicitDefEqProofs only[go_sem]));repeat' first|(with_reducible first|exact tI|refine aI ?_ ?_|intro _)|((first|with_reducible refine AW ?_ ?_<;>intro _|(with_reducible refine isCall ?_);first|refine AD (Cn n (-16) 16) ?_)<;>try (simp -implicitDefEqProofs only[go_sem]))|simp (disch:=omega) only[Au]
 all_goals simp[*]
theorem KB (s:AH):C6 E0 HY [Cl s] (.bool s.ok):=by
 refine AU Kp A1 (by simp) fun hwf=>?_
 simp only[EZ,D_,D9,Dw,E5,E4,HB,E3,CJ,Cf,Cg,EB,Cu,List.length_map,Cz,true_and,and_true,AI,AG] at hwf
 have hb72:BK E0.P 152=true:=by kernel_rfl
 rw[Ae];unfold GY
 (try (simp -implicitDefEqProofs only[go_sem,AI,AG]));repeat' first|(with_reducible first|exact tI|refine aI ?_ ?_|intro _)|((first|with_reducible refine AW ?_ ?_<;>intro _)<;>try (simp -implicitDefEqProofs only[go_sem,AI,AG]))|simp (disch:=omega) only[Au]|((with_reducible refine BP ?_);refine⟨_,rfl,?_,?_⟩)
 refine A5 (α:=Int) (l0:=?l1) (m0:=?m1) (fun x=>[(9,.d (.int .i64 x))]) (fun x=>[]) (fun x=>0<=x/\x<=s.runout.length/\∀(j:Nat),(j:Int)<x->EU (s.runout[j]?.getD 0) (-16) 16=true) (fun x=>(s.runout.length-x).toNat) ?a1_0 ?h01 ?he1 ?he21 ?hI1 ?step1
 case h01=>(simp -implicitDefEqProofs only[go_sem,AI,AG];rfl)
 case he1=>rfl
 case he21=>rfl
 case' step1=>(rintro i hI;try dsimp only at hI)
 case' hI1=>try dsimp only
 ·exact⟨by omega,by omega,fun j hj=>by omega⟩
 ·obtain⟨h1,h2,h3⟩:=hI
  by_cases hi:i<s.runout.length
  ·have c1:=I' (s.runout[i.toNat]?.getD 0)
   cases hb:EU (s.runout[i.toNat]?.getD 0) (-16) 16 with
   |true =>
    rw[hb] at c1
    (try (simp -implicitDefEqProofs only[go_sem,AG,hb72]));repeat' first|(with_reducible first|exact tI|refine aI ?_ ?_|intro _)|((first|with_reducible refine AW ?_ ?_<;>intro _|(with_reducible refine isCall ?_);first|refine AD c1 ?_)<;>try (simp -implicitDefEqProofs only[go_sem,AG,hb72]))|simp (disch:=omega) only[Au]|((with_reducible refine BP ?_);refine⟨_,rfl,?_,?_⟩)
    all_goals first|omega|(simp<;>omega)|skip
    all_goals
     rename_i j hj
     rcases (show (j:Int)<i\/j=i.toNat by omega) with h|h
     ·exact h3 j h
     ·rw[h];exact hb
   |false =>
    rw[hb] at c1
    have hbad:s.ok=false:=by rw[AH.ok,S_ (j:=i.toNat) (by omega) hb];simp
    rw[hbad]
    (try (simp -implicitDefEqProofs only[go_sem,AG,hb72]));repeat' first|(with_reducible first|exact tI|refine aI ?_ ?_|intro _)|((first|with_reducible refine AW ?_ ?_<;>intro _|(with_reducible refine isCall ?_);first|refine AD c1 ?_)<;>try (simp -implicitDefEqProofs only[go_sem,AG,hb72]))|simp (disch:=omega) only[Au]|((with_reducible refine BP ?_);refine⟨_,rfl,?_,?_⟩)
    all_goals first|omega|(simp<;>omega)|skip
  ·have hall:s.runout.all (fun n=>EU n (-16) 16)=true:=MY.2 fun j hj=>h3 j (by omega)
   have hok:s.ok=s.head:=by rw[AH.ok,hall];simp
   rw[hok,AH.head]
   (try (simp -implicitDefEqProofs only[go_sem,AG]));repeat' first|(with_reducible first|exact tI|refine aI ?_ ?_|intro _)|((first|with_reducible refine AW ?_ ?_<;>intro _|(with_reducible refine isCall ?_);first|refine AD (Cn _ _ _) ?_)<;>try (simp -implicitDefEqProofs only[go_sem,AG]))|simp (disch:=omega) only[Au]|((with_reducible refine BP ?_);refine⟨_,rfl,?_,?_⟩)
   all_goals first|omega|(simp_all;done)
theorem Fz (s:AH):C6 E0 Hd [Cl s] (.bool s.ok):=by
 refine AU Ku A1 (by simp) fun hwf=>?_
 simp only[EZ,D_,D9,Dw,E5,E4,HB,E3,CJ,Cf,Cg,EB,Cu,List.length_map,Cz,true_and,and_true,AI,AG] at hwf
 rw[Ae];unfold Gd
 (try (simp -implicitDefEqProofs only[go_sem,AI,AG]));repeat' first|(with_reducible first|exact tI|refine aI ?_ ?_|intro _)|((first|with_reducible refine AW ?_ ?_<;>intro _)<;>try (simp -implicitDefEqProofs only[go_sem,AI,AG]))|simp (disch:=omega) only[Au]|((with_reducible refine BP ?_);refine⟨_,rfl,?_,?_⟩)
 refine A5 (α:=Int) (l0:=?l2) (m0:=?m2) (fun x=>[(3,.d (.int .i64 x))]) (fun x=>[]) (fun x=>0<=x/\x<=s.runout.length/\∀(j:Nat),(j:Int)<x->EU (s.runout[j]?.getD 0) (-16) 16=true) (fun x=>(s.runout.length-x).toNat) ?a2_0 ?h02 ?he2 ?he22 ?hI2 ?step2
 case h02=>(simp -implicitDefEqProofs only[go_sem,AI,AG];rfl)
 case he2=>rfl
 case he22=>rfl
 case' step2=>(rintro i hI;try dsimp only at hI)
 case' hI2=>try dsimp only
 ·exact⟨by omega,by omega,fun j hj=>by omega⟩
 ·obtain⟨h1,h2,h3⟩:=hI
  by_cases hi:i<s.runout.length
  ·have c1:=C7 (s.runout[i.toNat]?.getD 0) (-16) 16
   cases hb:EU (s.runout[i.toNat]?.getD 0) (-16) 16 with
   |true =>
    rw[hb] at c1
    (try (simp -implicitDefEqProofs only[go_sem,AG]));repeat' first|(with_reducible first|exact tI|refine aI ?_ ?_|intro _)|((first|with_reducible refine AW ?_ ?_<;>intro _|(with_reducible refine isCall ?_);first|refine AD c1 ?_)<;>try (simp -implicitDefEqProofs only[go_sem,AG]))|simp (disch:=omega) only[Au]|((with_reducible refine BP ?_);refine⟨_,rfl,?_,?_⟩)
    all_goals first|omega|(simp<;>omega)|skip
    all_goals
     rename_i j hj
     rcases (show (j:Int)<i\/j=i.toNat by omega) with h|h
     ·exact h3 j h
     ·rw[h];exact hb
   |false =>
    rw[hb] at c1
    have hbad:s.ok=false:=by rw[AH.ok,S_ (j:=i.toNat) (by omega) hb];simp
    rw[hbad]
    (try (simp -implicitDefEqProofs only[go_sem,AG]));repeat' first|(with_reducible first|exact tI|refine aI ?_ ?_|intro _)|((first|with_reducible refine AW ?_ ?_<;>intro _|(with_reducible refine isCall ?_);first|refine AD c1 ?_)<;>try (simp -implicitDefEqProofs only[go_sem,AG]))|simp (disch:=omega) only[Au]|((with_reducible refine BP ?_);refine⟨_,rfl,?_,?_⟩)
    all_goals first|omega|(simp<;>omega)|skip
  ·have hall:s.runout.all (fun n=>EU n (-16) 16)=true:=MY.2 fun j hj=>h3 j (by omega)
   have hok:s.ok=s.head:=by rw[AH.ok,hall];simp
   rw[hok,AH.head]
   (try (simp -implicitDefEqProofs only[go_sem,AG]));repeat' first|(with_reducible first|exact tI|refine aI ?_ ?_|intro _)|((first|with_reducible refine AW ?_ ?_<;>intro _|(with_reducible refine isCall ?_);first|refine AD (C7 _ _ _) ?_)<;>try (simp -implicitDefEqProofs only[go_sem,AG]))|simp (disch:=omega) only[Au]|((with_reducible refine BP ?_);refine⟨_,rfl,?_,?_⟩)
   all_goals first|omega|(simp_all;done)
end Go.Pw
end
section
open Go Go.Pw Go.Proofs
namespace Go.Pw
set_option maxRecDepth 100000
set_option maxHeartbeats 1600000
attribute [local congr] DH Bv Bw BW DJ Bd Bf Be BV BH A' A0 BZ BA Ba BF Bc BG B1 CX BE B4 B5 B2 Bz B0 Bu DI Bx BX BC BB BD Bb B3
attribute [local irreducible] IntKind.wrap BR Option.getD and or
theorem KD (w:Al):C6 E0 Ha [KU w] (.bool (BS w)):=by
 refine AU Kr A1 (by simp) fun hwf=>?_
 rw[Ae];unfold Ga
 (try (simp -implicitDefEqProofs only[go_sem,Aj]));repeat' first|(with_reducible first|exact tI|refine aI ?_ ?_|intro _)|((first|with_reducible refine AW ?_ ?_<;>intro _|(with_reducible refine isCall ?_);first|refine AD (Cn _ _ _) ?_)<;>try (simp -implicitDefEqProofs only[go_sem,Aj]))|simp (disch:=omega) only[Au]
 all_goals simp[BS, *]
theorem KC (w:Al):C6 E0 HZ [KU w,.ptr [.fn 135 []]] (.bool (!BS w)):=by
 refine AU Kq A1 (by simp) fun hwf=>?_
 have hb57:BK E0.P 135=true:=by kernel_rfl
 have c1:=KD w
 rw[Ae];unfold GZ
 cases h:BS w
 all_goals
  rw[h] at c1
  (try (simp -implicitDefEqProofs only[go_sem,Aj,hb57]));repeat' first|(with_reducible first|exact tI|refine aI ?_ ?_|intro _)|((first|with_reducible refine AW ?_ ?_<;>intro _|(with_reducible refine isCall ?_);first|refine AD c1 ?_)<;>try (simp -implicitDefEqProofs only[go_sem,Aj,hb57]))|simp (disch:=omega) only[Au]
theorem JA (nl:Bool) (l:List Al) :
  C6 E0 CZ [.list nl (BO l),.fn 137 [.ptr [.fn 135 []]]] (.int .i64 (match l.findIdx? (fun w=>!BS w) with|some i=>i|none=>-1)):=by
 refine AU Dc A1 (by simp) fun hwf=>?_
 simp only[EZ,D_,D9,Dw,E5,E4,HB,E3,CJ,Cf,Cg,EB,Cu,List.length_map,Cz,true_and,and_true,AL] at hwf
 have hb59:BK E0.P 137=true:=by kernel_rfl
 rw[Ae];unfold CR
 (try (simp -implicitDefEqProofs only[go_sem,AL]));repeat' first|(with_reducible first|exact tI|refine aI ?_ ?_|intro _)|((first|with_reducible refine AW ?_ ?_<;>intro _)<;>try (simp -implicitDefEqProofs only[go_sem,AL]))|simp (disch:=omega) only[Au]|((with_reducible refine BP ?_);refine⟨_,rfl,?_,?_⟩)
 refine A5 (α:=Int) (l0:=?l1) (m0:=?m1) (fun x=>[(8,.d (.int .i64 x))]) (fun x=>[]) (fun x=>0<=x/\x<=l.length/\∀(j:Nat),(j:Int)<x->BS (l[j]?.getD default)=true) (fun x=>(l.length-x).toNat) ?a1_0 ?h01 ?he1 ?he21 ?hI1 ?step1
 case h01=>(simp -implicitDefEqProofs only[go_sem,AL];rfl)
 case he1=>rfl
 case he21=>rfl
 case' step1=>(rintro i hI;try dsimp only at hI)
 case' hI1=>try dsimp only
 ·exact⟨by omega,by omega,fun j hj=>by omega⟩
 ·obtain⟨h1,h2,h3⟩:=hI
  by_cases hi:i<l.length
  ·have c1:=KC (l[i.toNat]?.getD default)
   cases hb:BS (l[i.toNat]?.getD default) with
   |true =>
    rw[hb] at c1
    (try (simp -implicitDefEqProofs only[go_sem,AL,Ag,Aj,hb59]));repeat' first|(with_reducible first|exact tI|refine aI ?_ ?_|intro _)|((first|with_reducible refine AW ?_ ?_<;>intro _|(with_reducible refine isCall ?_);first|refine AD c1 ?_)<;>try (simp -implicitDefEqProofs only[go_sem,AL,Ag,Aj,hb59]))|simp (disch:=omega) only[Au]|((with_reducible refine BP ?_);refine⟨_,rfl,?_,?_⟩)
    all_goals first|omega|(simp<;>omega)|skip
    all_goals
     rename_i j hj
     rcases (show (j:Int)<i\/j=i.toNat by omega) with h|h
     ·exact h3 j h
     ·rw[h];exact hb
   |false =>
    rw[hb] at c1
    have:l.findIdx? (fun w=>!BS w)=some i.toNat:=by
     rw[List.findIdx?_eq_some_iff_getElem]
     refine⟨by omega,?_,fun j hj=>?_⟩
     ·rw[List.getElem?_eq_getElem (by omega),Option.getD_some] at hb;simp[hb]
     ·have:=h3 j (by omega);rw[List.getElem?_eq_getElem (by omega),Option.getD_some] at this;simp[this]
    rw[this]
    (try (simp -implicitDefEqProofs only[go_sem,AL,Ag,Aj,hb59]));repeat' first|(with_reducible first|exact tI|refine aI ?_ ?_|intro _)|((first|with_reducible refine AW ?_ ?_<;>intro _|(with_reducible refine isCall ?_);first|refine AD c1 ?_)<;>try (simp -implicitDefEqProofs only[go_sem,AL,Ag,Aj,hb59]))|simp (disch:=omega) only[Au]|((with_reducible refine BP ?_);refine⟨_,rfl,?_,?_⟩)
    all_goals first|omega|(simp<;>omega)|skip
  ·have:l.findIdx? (fun w=>!BS w)=none:=by
    rw[List.findIdx?_eq_none_iff];intro x hx;obtain⟨j,hj,rfl⟩:=List.getElem_of_mem hx
    have:=h3 j (by omega);rw[List.getElem?_eq_getElem (by omega),Option.getD_some] at this;simp[this]
   rw[this]
   (try (simp -implicitDefEqProofs only[go_sem,AL]));repeat' first|(with_reducible first|exact tI|refine aI ?_ ?_|intro _)|((first|with_reducible refine AW ?_ ?_<;>intro _)<;>try (simp -implicitDefEqProofs only[go_sem,AL]))|simp (disch:=omega) only[Au]|((with_reducible refine BP ?_);refine⟨_,rfl,?_,?_⟩)
   all_goals first|omega|(simp<;>omega)|skip
theorem Gu (nl:Bool) (l:List Al) :
  C6 E0 CK [.list nl (BO l),.fn 137 [.ptr [.fn 135 []]]] (.bool (!l.all BS)):=by
 refine AU DE A1 (by simp) fun hwf=>?_
 have c1:=JA nl l
 rw[Ae];unfold CF
 cases hf:l.findIdx? (fun w=>!BS w) with
 |none =>
  rw[hf] at c1
  have ha:l.all BS=true:=by
   rw[List.findIdx?_eq_none_iff] at hf;rw[List.all_eq_true];intro x hx;simpa using hf x hx
  rw[ha]
  dsimp only at c1
  (try (simp -implicitDefEqProofs only[go_sem]));repeat' first|(with_reducible first|exact tI|refine aI ?_ ?_|intro _)|((first|with_reducible refine AW ?_ ?_<;>intro _|(with_reducible refine isCall ?_);first|refine AD c1 ?_)<;>try (simp -implicitDefEqProofs only[go_sem]))|simp (disch:=omega) only[Au]
  all_goals first|omega|(simp<;>omega)|skip
 |some i =>
  rw[hf] at c1
  have ha:l.all BS=false:=by
   rw[List.findIdx?_eq_some_iff_getElem] at hf
   rw[List.all_eq_false];exact⟨_,List.getElem_mem hf.1,by simpa using hf.2.1⟩
  rw[ha]
  dsimp only at c1
  (try (simp -implicitDefEqProofs only[go_sem]));repeat' first|(with_reducible first|exact tI|refine aI ?_ ?_|intro _)|((first|with_reducible refine AW ?_ ?_<;>intro _|(with_reducible refine isCall ?_);first|refine AD c1 ?_)<;>try (simp -implicitDefEqProofs only[go_sem]))|simp (disch:=omega) only[Au]
  all_goals first|omega|(simp<;>omega)|skip
theorem HD (s:AH) (nl:Bool) (l:List Al):C6 E0 Jc [Cl s,.list nl (BO l)] (.int .i64 (s.check l)):=by
 refine AU MM A1 (by simp) fun hwf=>?_
 simp only[EZ,D_,D9,Dw,E5,E4,HB,E3,CJ,Cf,Cg,EB,Cu,List.length_map,Cz,true_and,and_true,AL] at hwf
 have c1:=KB s
 have c2:=Gu nl l
 rw[Ae];unfold Hx AH.check
 cases h:s.ok with
 |false =>
  rw[h] at c1
  (try (simp -implicitDefEqProofs only[go_sem,AI,AG,AL]));repeat' first|(with_reducible first|exact tI|refine aI ?_ ?_|intro _)|((first|with_reducible refine AW ?_ ?_<;>intro _|(with_reducible refine isCall ?_);first|refine AD c1 ?_)<;>try (simp -implicitDefEqProofs only[go_sem,AI,AG,AL]))|simp (disch:=omega) only[Au]
  all_goals first|omega|(simp<;>omega)|skip
 |true =>
  rw[h] at c1
  by_cases h24:24<l.length
  ·(try (simp -implicitDefEqProofs only[go_sem,AI,AG,AL]));repeat' first|(with_reducible first|exact tI|refine aI ?_ ?_|intro _)|((first|with_reducible refine AW ?_ ?_<;>intro _|(with_reducible refine isCall ?_);first|refine AD c1 ?_)<;>try (simp -implicitDefEqProofs only[go_sem,AI,AG,AL]))|simp (disch:=omega) only[Au]
   all_goals first|omega|(simp[h24];done)|skip
  ·cases ha:l.all BS with
   |false =>
    rw[ha] at c2
    (try (simp -implicitDefEqProofs only[go_sem,AI,AG,AL]));repeat' first|(with_reducible first|exact tI|refine aI ?_ ?_|intro _)|((first|with_reducible refine AW ?_ ?_<;>intro _|(with_reducible refine isCall ?_);first|refine AD c1 ?_|refine AD c2 ?_)<;>try (simp -implicitDefEqProofs only[go_sem,AI,AG,AL]))|simp (disch:=omega) only[Au]
    all_goals first|omega|(simp[h24];done)|skip
   |true =>
    rw[ha] at c2
    (try (simp -implicitDefEqProofs only[go_sem,AI,AG,AL]));repeat' first|(with_reducible first|exact tI|refine aI ?_ ?_|intro _)|((first|with_reducible refine AW ?_ ?_<;>intro _|(with_reducible refine isCall ?_);first|refine AD c1 ?_|refine AD c2 ?_)<;>try (simp -implicitDefEqProofs only[go_sem,AI,AG,AL]))|simp (disch:=omega) only[Au]
    all_goals first|omega|(simp[h24];done)|skip
end Go.Pw
end
section
open Go Go.Pw Go.Proofs
namespace Go.Pw
set_option maxRecDepth 100000
set_option maxHeartbeats 1600000
attribute [local congr] DH Bv Bw BW DJ Bd Bf Be BV BH A' A0 BZ BA Ba BF Bc BG B1 CX BE B4 B5 B2 Bz B0 Bu DI Bx BX BC BB BD Bb B3
attribute [local irreducible] IntKind.wrap BR Option.getD and or
theorem MG (s:AH) (nl:Bool) (l:List Al):C6 E0 Jf [Cl s,.list nl (BO l)] (.int .i64 (s.check l)):=by
 refine AU MP A1 (by simp) fun hwf=>?_
 simp only[EZ,D_,D9,Dw,E5,E4,HB,E3,CJ,Cf,Cg,EB,Cu,List.length_map,Cz,true_and,and_true,AL] at hwf
 have c1:=Fz s
 rw[Ae];unfold H0 AH.check
 cases h:s.ok with
 |false =>
  rw[h] at c1
  (try (simp -implicitDefEqProofs only[go_sem,AI,AG,AL]));repeat' first|(with_reducible first|exact tI|refine aI ?_ ?_|intro _)|((first|with_reducible refine AW ?_ ?_<;>intro _|(with_reducible refine isCall ?_);first|refine AD c1 ?_)<;>try (simp -implicitDefEqProofs only[go_sem,AI,AG,AL]))|simp (disch:=omega) only[Au]|((with_reducible refine BP ?_);refine⟨_,rfl,?_,?_⟩)
  all_goals first|omega|(simp<;>omega)|skip
 |true =>
  rw[h] at c1
  by_cases h24:24<l.length
  ·(try (simp -implicitDefEqProofs only[go_sem,AI,AG,AL]));repeat' first|(with_reducible first|exact tI|refine aI ?_ ?_|intro _)|((first|with_reducible refine AW ?_ ?_<;>intro _|(with_reducible refine isCall ?_);first|refine AD c1 ?_)<;>try (simp -implicitDefEqProofs only[go_sem,AI,AG,AL]))|simp (disch:=omega) only[Au]|((with_reducible refine BP ?_);refine⟨_,rfl,?_,?_⟩)
   all_goals first|omega|(simp[h24];done)|skip
  ·have h24':¬(24:Int)<l.length:=by omega
   (try (simp -implicitDefEqProofs only[go_sem,AI,AG,AL,h24']));repeat' first|(with_reducible first|exact tI|refine aI ?_ ?_|intro _)|((first|with_reducible refine AW ?_ ?_<;>intro _|(with_reducible refine isCall ?_);first|refine AD c1 ?_)<;>try (simp -implicitDefEqProofs only[go_sem,AI,AG,AL,h24']))|simp (disch:=omega) only[Au]|((with_reducible refine BP ?_);refine⟨_,rfl,?_,?_⟩)
   all_goals first|omega|(simp<;>omega)|skip
   refine A5 (α:=Int) (l0:=?l1) (m0:=?m1) (fun x=>[(5,.d (.int .i64 x))]) (fun x=>[]) (fun x=>0<=x/\x<=l.length/\∀(j:Nat),(j:Int)<x->BS (l[j]?.getD default)=true) (fun x=>(l.length-x).toNat) ?a1_0 ?h01 ?he1 ?he21 ?hI1 ?step1
   case h01=>(simp -implicitDefEqProofs only[go_sem,AL];rfl)
   case he1=>rfl
   case he21=>rfl
   case' step1=>(rintro i hI;try dsimp only at hI)
   case' hI1=>try dsimp only
   ·exact⟨by omega,by omega,fun j hj=>by omega⟩
   ·obtain⟨h1,h2,h3⟩:=hI
    by_cases hi:i<l.length
    ·obtain⟨w,hw⟩:∃w,l[i.toNat]?.getD default=w:=⟨_,rfl⟩
     have k1:=C7 w.1 (-1) 127
     have k2:=C7 w.2 (-100) 100
     have hbad:BS w=false->l.all BS=false:=fun hh=>Ww (j:=i.toNat) (by omega) (by rw[hw];exact hh)
     have hgood:BS w=true->∀(j:Nat),(j:Int)<i+1->BS (l[j]?.getD default)=true:=fun hh j hj=>by
      rcases (show (j:Int)<i\/j=i.toNat by omega) with h|h
      ·exact h3 j h
      ·rw[h,hw];exact hh
     have hwo:BS w=(EU w.1 (-1) 127 && EU w.2 (-100) 100):=rfl
     cases b1:EU w.1 (-1) 127 with
     |false =>
      rw[b1] at k1
      rw[hbad (by rw[hwo,b1];simp)]
      (try (simp -implicitDefEqProofs only[go_sem,AL,Ag,hw,Aj]));repeat' first|(with_reducible first|exact tI|refine aI ?_ ?_|intro _)|((first|with_reducible refine AW ?_ ?_<;>intro _|(with_reducible refine isCall ?_);first|refine AD k1 ?_|refine AD k2 ?_)<;>try (simp -implicitDefEqProofs only[go_sem,AL,Ag,hw,Aj]))|simp (disch:=omega) only[Au]|((with_reducible refine BP ?_);refine⟨_,rfl,?_,?_⟩)
      all_goals first|omega|(simp[h24];done)|skip
     |true =>
      rw[b1] at k1
      cases b2:EU w.2 (-100) 100 with
      |false =>
       rw[b2] at k2
       rw[hbad (by rw[hwo,b1,b2];simp)]
       (try (simp -implicitDefEqProofs only[go_sem,AL,Ag,hw,Aj]));repeat' first|(with_reducible first|exact tI|refine aI ?_ ?_|intro _)|((first|with_reducible refine AW ?_ ?_<;>intro _|(with_reducible refine isCall ?_);first|refine AD k1 ?_|refine AD k2 ?_)<;>try (simp -implicitDefEqProofs only[go_sem,AL,Ag,hw,Aj]))|simp (disch:=omega) only[Au]|((with_reducible refine BP ?_);refine⟨_,rfl,?_,?_⟩)
       all_goals first|omega|(simp[h24];done)|skip
      |true =>
       rw[b2] at k2
       have hg:=hgood (by rw[hwo,b1,b2];simp)
       (try (simp -implicitDefEqProofs only[go_sem,AL,Ag,hw,Aj]));repeat' first|(with_reducible first|exact tI|refine aI ?_ ?_|intro _)|((first|with_reducible refine AW ?_ ?_<;>intro _|(with_reducible refine isCall ?_);first|refine AD k1 ?_|refine AD k2 ?_)<;>try (simp -implicitDefEqProofs only[go_sem,AL,Ag,hw,Aj]))|simp (disch:=omega) only[Au]|((with_reducible refine BP ?_);refine⟨_,rfl,?_,?_⟩)
       all_goals first|omega|(simp[h24];done)|(apply hg;assumption)|skip
    ·have hall:l.all BS=true:=K4.2 fun j hj=>h3 j (by omega)
     rw[hall]
     (try (simp -implicitDefEqProofs only[go_sem,AL]));repeat' first|(with_reducible first|exact tI|refine aI ?_ ?_|intro _)|((first|with_reducible refine AW ?_ ?_<;>intro _)<;>try (simp -implicitDefEqProofs only[go_sem,AL]))|simp (disch:=omega) only[Au]|((with_reducible refine BP ?_);refine⟨_,rfl,?_,?_⟩)
     all_goals first|omega|(simp[h24];done)|skip
end Go.Pw
end
section
open Go Go.Pw Go.Proofs
namespace Go.Pw
set_option maxRecDepth 100000
set_option maxHeartbeats 1600000
attribute [local congr] DH Bv Bw BW DJ Bd Bf Be BV BH A' A0 BZ BA Ba BF Bc BG B1 CX BE B4 B5 B2 Bz B0 Bu DI Bx BX BC BB BD Bb B3
attribute [local irreducible] IntKind.wrap BR Option.getD and or
def JT (s:AH) (nl:Bool) (l:List Al):List D:=[.int .i64 s.tracks,.int .i64 s.step,.int .i64 s.move,.int .i64 s.noise,.int .i64 s.wrong,.list s.nr (CT s.runout),.list nl (BO l),.int .i64 s.last]
theorem Ad (s:AH) (nl:Bool) (l:List Al):JT s nl l=[.int .i64 s.tracks,.int .i64 s.step,.int .i64 s.move,.int .i64 s.noise,.int .i64 s.wrong,.list s.nr (CT s.runout),.list nl (BO l),.int .i64 s.last]:=rfl
theorem AH.ok_head {s:AH}(h:s.ok=true):(1<=s.tracks/\s.tracks<=64)/\(1<=s.step/\s.step<=16)/\(0<=s.move/\s.move<=64)/\(0<=s.noise/\s.noise<=16)/\(0<=s.wrong/\s.wrong<=3)/\(1<=s.runout.length/\s.runout.length<=16):=by
 simp[AH.ok,AH.head,EU] at h
 omega
theorem AH.ok_run {s:AH}(h:s.ok=true) (j:Nat) (hj:j<s.runout.length):-16<=s.runout[j]?.getD 0/\s.runout[j]?.getD 0<=16:=by
 simp only[AH.ok,Bool.and_eq_true] at h
 have:=MY.1 h.1 j hj
 simpa[EU] using this
theorem M7 {s:AH}(h:s.ok=true) {t:Int}(ht:0<=t/\t<=127):0<=t*s.step/\t*s.step<=2032:=by
 have hd:=AH.ok_head h
 have h1:t*s.step<=127*s.step:=Int.mul_le_mul_of_nonneg_right ht.2 (by omega)
 have h2:0<=t*s.step:=Int.mul_nonneg ht.1 (by omega)
 omega
theorem Mp (s:AH) (h:s.ok=true) (nl:Bool) (l:List Al) (t w:Int) (ht:0<=t/\t<=127) (hw:0<=w/\w<=1000000) :
  C6 E0 GB [.ptr (JT s nl l),.int .i64 t,.int .i64 w] (.int .i64 (s.center t w)):=by
 refine AU JE A1 (by simp) fun hwf=>?_
 have hd:=AH.ok_head h
 have hm:=M7 h ht
 have hmod:w.tmod s.runout.length=w%s.runout.length:=Int.tmod_eq_emod_of_nonneg hw.1
 have hm1:0<=w%s.runout.length:=Int.emod_nonneg _ (by omega)
 have hm2:w%s.runout.length<s.runout.length:=Int.emod_lt_of_pos _ (by omega)
 have hr:=AH.ok_run h (w%s.runout.length).toNat (by omega)
 have hmax:max 0 w=w:=by omega
 rw[Ae];unfold FU AH.center
 rw[hmax]
 have w1:IntKind.i64.wrap (t*s.step)=t*s.step:=Aw _ (by omega)
 have w2:IntKind.i64.wrap (w%s.runout.length)=w%s.runout.length:=Aw _ (by omega)
 have w3:IntKind.i64.wrap (t*s.step+s.runout[(w%s.runout.length).toNat]?.getD 0)=t*s.step+s.runout[(w%s.runout.length).toNat]?.getD 0:=Aw _ (by omega)
 (try (simp -implicitDefEqProofs only[go_sem,Ad,hmod,w1,w2,w3]));repeat' first|(with_reducible first|exact tI|refine aI ?_ ?_|intro _)|((first|with_reducible refine AW ?_ ?_<;>intro _)<;>try (simp -implicitDefEqProofs only[go_sem,Ad,hmod,w1,w2,w3]))|simp (disch:=omega) only[Au]
 all_goals first|omega|(simp<;>omega)|skip
theorem LD (s:AH) (h:s.ok=true) (t w:Int) (ht:0<=t/\t<=127) (hw:-1<=w/\w<=1000000) :
  C6 E0 Ie [Cl s,.int .i64 t,.int .i64 w] (.int .i64 (s.center t w)):=by
 refine AU LW A1 (by simp) fun hwf=>?_
 have hd:=AH.ok_head h
 have hm:=M7 h ht
 obtain⟨m,hmax⟩:∃m,max 0 w=m:=⟨_,rfl⟩
 have hmod:m.tmod s.runout.length=m%s.runout.length:=Int.tmod_eq_emod_of_nonneg (by omega)
 have hm1:0<=m%s.runout.length:=Int.emod_nonneg _ (by omega)
 have hm2:m%s.runout.length<s.runout.length:=Int.emod_lt_of_pos _ (by omega)
 have hr:=AH.ok_run h (m%s.runout.length).toNat (by omega)
 rw[Ae];unfold HK AH.center
 rw[hmax]
 have w1:IntKind.i64.wrap (t*s.step)=t*s.step:=Aw _ (by omega)
 have w2:IntKind.i64.wrap (m%s.runout.length)=m%s.runout.length:=Aw _ (by omega)
 have w3:IntKind.i64.wrap (t*s.step+s.runout[(m%s.runout.length).toNat]?.getD 0)=t*s.step+s.runout[(m%s.runout.length).toNat]?.getD 0:=Aw _ (by omega)
 (try (simp -implicitDefEqProofs only[go_sem,AI,AG,hmax,hmod,w1,w2,w3]));repeat' first|(with_reducible first|exact tI|refine aI ?_ ?_|intro _)|((first|with_reducible refine AW ?_ ?_<;>intro _)<;>try (simp -implicitDefEqProofs only[go_sem,AI,AG,hmax,hmod,w1,w2,w3]))|simp (disch:=omega) only[Au]
 all_goals first|omega|(simp<;>omega)|skip
theorem Mu (s:AH) (h:s.ok=true):C6 E0 K6 [Cl s] (.int .i64 s.last):=by
 refine AU NG A1 (by simp) fun hwf=>?_
 have hd:=AH.ok_head h
 rw[Ae];unfold JP AH.last
 have w1:IntKind.i64.wrap (s.tracks-1)=s.tracks-1:=Aw _ (by omega)
 have h1:s.step*(s.tracks-1)<=16*(s.tracks-1):=Int.mul_le_mul_of_nonneg_right (by omega) (by omega)
 have h2:0<=s.step*(s.tracks-1):=Int.mul_nonneg (by omega) (by omega)
 have w2:IntKind.i64.wrap (s.step*(s.tracks-1))=s.step*(s.tracks-1):=Aw _ (by omega)
 (try (simp -implicitDefEqProofs only[go_sem,AI,AG,w1,w2]));repeat' first|(with_reducible first|exact tI|refine aI ?_ ?_|intro _)|((first|with_reducible refine AW ?_ ?_<;>intro _)<;>try (simp -implicitDefEqProofs only[go_sem,AI,AG,w1,w2]))|simp (disch:=omega) only[Au]
 all_goals first|omega|(simp<;>omega)|skip
end Go.Pw
end
section
open Go Go.Pw Go.Proofs
namespace Go.Pw
set_option maxRecDepth 100000
set_option maxHeartbeats 1600000
attribute [local congr] DH Bv Bw BW DJ Bd Bf Be BV BH A' A0 BZ BA Ba BF Bc BG B1 CX BE B4 B5 B2 Bz B0 Bu DI Bx BX BC BB BD Bb B3
attribute [local irreducible] IntKind.wrap BR Option.getD and or
theorem K0 {s:AH}(h:s.ok=true) {t:Int}(ht:0<=t/\t<=127) (w:Int):-16<=s.center t w/\s.center t w<=2048:=by
 have hd:=AH.ok_head h
 have hm:=M7 h ht
 have hm1:0<=(max 0 w)%s.runout.length:=Int.emod_nonneg _ (by omega)
 have hm2:(max 0 w)%s.runout.length<s.runout.length:=Int.emod_lt_of_pos _ (by omega)
 have hr:=AH.ok_run h ((max 0 w)%s.runout.length).toNat (by omega)
 unfold AH.center
 omega
theorem Om (s:AH) (cd b i p:Int) (hcd:cd≠-1):s.agrees (cd,b) i p=(decide (B_ cd<s.tracks) && decide (2*max (p-s.center (B_ cd) i) (-(p-s.center (B_ cd) i))<=s.step) && decide (max (b-(p-s.center (B_ cd) i)) (-(b-(p-s.center (B_ cd) i)))<=s.noise)):=by
 simp[AH.agrees,hcd]
theorem MB (s:AH) (h:s.ok=true) (nl:Bool) (l:List Al) (hl:l.all BS=true) (h24:l.length<=24) (i p:Int) (hi:0<=i/\i<l.length) (hp:0<=p/\p<=1008) :
  C6 E0 Fp [.ptr (JT s nl l),.int .i64 i,.int .i64 p] (.int .i64 (if s.agrees (l[i.toNat]?.getD default) i p then 0 else 1)):=by
 refine AU IK A1 (by simp) fun hwf=>?_
 have hd:=AH.ok_head h
 have hwo:=K4.1 hl i.toNat (by omega)
 obtain⟨⟨cd,b⟩,hw⟩:∃w,l[i.toNat]?.getD default=w:=⟨_,rfl⟩
 rw[hw] at hwo ⊢
 have hcb:(-1<=cd/\cd<=127)/\-100<=b/\b<=100:=by simpa[BS,EU] using hwo
 rw[Ae];unfold FC
 by_cases hcd:cd<0
 ·have:s.agrees (cd,b) i p=true:=by simp[AH.agrees,show cd=-1 by omega]
  rw[this]
  (try (simp -implicitDefEqProofs only[go_sem,Ad,AL,Ag,hw,Aj,hcd]));repeat' first|(with_reducible first|exact tI|refine aI ?_ ?_|intro _)|((first|with_reducible refine AW ?_ ?_<;>intro _)<;>try (simp -implicitDefEqProofs only[go_sem,Ad,AL,Ag,hw,Aj,hcd]))|simp (disch:=omega) only[Au]
  all_goals first|omega|(simp<;>omega)|skip
 ·have ht:=Kl (n:=cd) (by omega)
  have hcen:=K0 h (t:=B_ cd) ⟨ht.2.2.2.1,ht.2.2.2.2.1⟩ i
  have c1:=L8 cd (by omega)
  have c2:=Mp s h nl l (B_ cd) i ⟨ht.2.2.2.1,ht.2.2.2.2.1⟩ (by omega)
  rw[Om _ _ _ _ _ (by omega)]
  generalize s.center (B_ cd) i=C at *
  generalize B_ cd=T at *
  rw[Ad] at c2
  have w1:IntKind.i64.wrap (p-C)=p-C:=Aw _ (by omega)
  have w2:IntKind.i64.wrap (0-(p-C))=-(p-C):=by rw[Aw (0-(p-C)) (by omega)];omega
  have w3:IntKind.i64.wrap (2*max (p-C) (-(p-C)))=2*max (p-C) (-(p-C)):=Aw _ (by omega)
  have w4:IntKind.i64.wrap (b-(p-C))=b-(p-C):=Aw _ (by omega)
  have w5:IntKind.i64.wrap (0-s.noise)=-s.noise:=by rw[Aw (0-s.noise) (by omega)];omega
  have c3:=Cn (b-(p-C)) (-s.noise) s.noise
  have hin:EU (b-(p-C)) (-s.noise) s.noise=decide (max (b-(p-C)) (-(b-(p-C)))<=s.noise):=by
   unfold EU;rw[decide_eq_decide];omega
  rw[hin] at c3
  have hn0:¬cd<0:=hcd
  by_cases hA:T<s.tracks
  ·by_cases hB:2*max (p-C) (-(p-C))<=s.step
   ·by_cases hC:max (b-(p-C)) (-(b-(p-C)))<=s.noise
    ·have e:(if (decide (T<s.tracks) && decide (2*max (p-C) (-(p-C))<=s.step) && decide (max (b-(p-C)) (-(b-(p-C)))<=s.noise))=true then (0:Int) else 1)=0:=by simp[hA,hB,hC]
     rw[e];simp only[hC,decide_true] at c3
     (try (simp -implicitDefEqProofs only[go_sem,Ad,AL,Ag,hw,Aj,hn0,w1,w2,w3,w4,w5,hA,hB]));repeat' first|(with_reducible first|exact tI|refine aI ?_ ?_|intro _)|((first|with_reducible refine AW ?_ ?_<;>intro _|(with_reducible refine isCall ?_);first|refine AD c1 ?_|refine AD c2 ?_|refine AD c3 ?_)<;>try (simp -implicitDefEqProofs only[go_sem,Ad,AL,Ag,hw,Aj,hn0,w1,w2,w3,w4,w5,hA,hB]))|simp (disch:=omega) only[Au]
     all_goals first|omega|(simp<;>omega)|skip
    ·have e:(if (decide (T<s.tracks) && decide (2*max (p-C) (-(p-C))<=s.step) && decide (max (b-(p-C)) (-(b-(p-C)))<=s.noise))=true then (0:Int) else 1)=1:=by simp[hA,hB,hC]
     rw[e];simp only[hC,decide_false] at c3
     (try (simp -implicitDefEqProofs only[go_sem,Ad,AL,Ag,hw,Aj,hn0,w1,w2,w3,w4,w5,hA,hB]));repeat' first|(with_reducible first|exact tI|refine aI ?_ ?_|intro _)|((first|with_reducible refine AW ?_ ?_<;>intro _|(with_reducible refine isCall ?_);first|refine AD c1 ?_|refine AD c2 ?_|refine AD c3 ?_)<;>try (simp -implicitDefEqProofs only[go_sem,Ad,AL,Ag,hw,Aj,hn0,w1,w2,w3,w4,w5,hA,hB]))|simp (disch:=omega) only[Au]
     all_goals first|omega|(simp<;>omega)|skip
   ·have e:(if (decide (T<s.tracks) && decide (2*max (p-C) (-(p-C))<=s.step) && decide (max (b-(p-C)) (-(b-(p-C)))<=s.noise))=true then (0:Int) else 1)=1:=by simp[hA,hB]
    rw[e]
    (try (simp -implicitDefEqProofs only[go_sem,Ad,AL,Ag,hw,Aj,hn0,w1,w2,w3,w4,w5,hA,hB]));repeat' first|(with_reducible first|exact tI|refine aI ?_ ?_|intro _)|((first|with_reducible refine AW ?_ ?_<;>intro _|(with_reducible refine isCall ?_);first|refine AD c1 ?_|refine AD c2 ?_|refine AD c3 ?_)<;>try (simp -implicitDefEqProofs only[go_sem,Ad,AL,Ag,hw,Aj,hn0,w1,w2,w3,w4,w5,hA,hB]))|simp (disch:=omega) only[Au]
    all_goals first|omega|(simp<;>omega)|skip
  ·have e:(if (decide (T<s.tracks) && decide (2*max (p-C) (-(p-C))<=s.step) && decide (max (b-(p-C)) (-(b-(p-C)))<=s.noise))=true then (0:Int) else 1)=1:=by simp[hA]
   rw[e]
   (try (simp -implicitDefEqProofs only[go_sem,Ad,AL,Ag,hw,Aj,hn0,w1,w2,w3,w4,w5,hA]));repeat' first|(with_reducible first|exact tI|refine aI ?_ ?_|intro _)|((first|with_reducible refine AW ?_ ?_<;>intro _|(with_reducible refine isCall ?_);first|refine AD c1 ?_|refine AD c2 ?_|refine AD c3 ?_)<;>try (simp -implicitDefEqProofs only[go_sem,Ad,AL,Ag,hw,Aj,hn0,w1,w2,w3,w4,w5,hA]))|simp (disch:=omega) only[Au]
   all_goals first|omega|(simp<;>omega)|skip
end Go.Pw
end
