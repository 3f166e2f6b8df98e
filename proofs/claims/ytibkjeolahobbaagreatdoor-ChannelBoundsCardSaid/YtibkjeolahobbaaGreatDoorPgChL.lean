/- A part of the proof. -/
import Derived.Test.YtibkjeolahobbaaGreatDoorPgChK
import Derived.Test.YtibkjeolahobbaaGreatDoorPgChcS
set_option linter.all false
open Go Go.Pw Go.Proofs
namespace Go.Pw
set_option maxRecDepth 100000
set_option maxHeartbeats 3200000
section
def ZQ:AX:={ code:=f7,L:=3,P:=2,Q:=1,nm:=false,mark:=[1,1,1,0],seed:=1,errs:=0 }
def kW:List Int:=[1,1,1,0,1,0,1,0,1,0,0,1,1,0,1,0,1,0,0,1,1,0,1,0,0,1,0,0]
theorem RH:ZQ.ok=true:=by decide +kernel
theorem lc:cQ ZQ [1]=kW:=by decide +kernel
theorem f_:spE ZQ.L ZQ.P ZQ.Q [1]=0:=by decide +kernel
theorem ng:Pm ZQ=1:=by decide +kernel
theorem ne:Gr kW=true:=by decide +kernel
theorem f9:jH ZQ kW=.tup [.list false (Am [1]),.int .i64 0,.int .i64 0]:=by
 obtain⟨h1,h2,h3⟩:=VW (Df RH) f_ []
 have hw:=lc
 unfold cQ at hw
 rw[if_pos RH,if_pos f_] at hw
 rw[hw,List.append_nil] at h1 h2 h3
 unfold jH Y8 d4 d0
 simp only[RH,ne,if_true,h1,h2,h3]
 rfl
attribute [local congr] Bf A9 A_ Aq Bg Ax Az Ay Ap Aj Ad AZ Au Ae Av BK BO BM BN BL BP BE Ah Aw Ai BC BW Ag BI BJ BD BF BH BG BA BB A8 Bj A' Ar Af
attribute [local irreducible] IntKind.wrap A4 Option.getD and or
theorem Na:B' E0 KC [] (.tup [Dn ZQ,.list false (Am kW)]):=by
 have c1:=Nb
 refine AO No An (by simp) fun hwf=>?_
 rw[AW];unfold Iu
 (try (simp -implicitDefEqProofs only[go_sem,BQ,A5]));repeat' first|(with_reducible first|exact tI|refine aI ?_ ?_|intro _)|((first|with_reducible refine AN ?_ ?_<;>intro _|(with_reducible refine isCall ?_);first|refine AE c1 ?_)<;>try (simp -implicitDefEqProofs only[go_sem,BQ,A5]))|simp (disch:=omega) only[Al]
 all_goals first|rfl|skip
theorem J5:B' E0 MS [] (.bool true):=by
 have c1:=Na
 have c2:=IB ZQ false [1]
 have c3:=PE ZQ false kW
 have c4:=IC ZQ
 have c5:=Fl false false kW kW
 rw[decide_eq_true rfl] at c5
 have e1:oG ZQ [1]=0:=by unfold oG;rw[if_pos RH,if_pos f_]
 have e2:=(Gt RH).2
 rw[lc,e1] at c2
 rw[f9] at c3
 rw[ng,e2] at c4
 obtain⟨W,hW⟩:∃W,kW=W:=⟨_,rfl⟩
 have hWe:kW.isEmpty=false:=rfl
 rw[hWe] at c2
 rw[hW] at c1 c2 c3 c5
 refine AO P8 An (by simp) fun hwf=>?_
 rw[AW];unfold Ks
 have hc:Dn ZQ=.agg (Wb ZQ):=rfl
 (try (simp -implicitDefEqProofs only[go_sem,AH,AG,VH]));repeat' first|(with_reducible first|exact tI|refine aI ?_ ?_|intro _)|((first|with_reducible refine AN ?_ ?_<;>intro _|(with_reducible refine isCall ?_);first|refine AE c1 ?_|refine AE c2 ?_|refine AE c3 ?_|refine AE c4 ?_|refine AE c5 ?_)<;>try (simp -implicitDefEqProofs only[go_sem,AH,AG,VH]))|simp (disch:=omega) only[Al]
 all_goals first|rfl|omega|(exfalso;rename_i h;exact h rfl)|skip
theorem EE (c:AX):B' E0 MN [Dn c] (.int .i64 (IP c)):=by
 have c1:=Py c.code
 have c2:=Kk c.L c.P c.Q
 have c4:=Ok c.nm c.mark
 have c5:=Ip c.seed 1 127
 have c6:=Ip c.errs 0 16
 have e1:c.code.ok=false->K9 c.code.ok 40=40:=fun h=>by rw[h];rfl
 have e0:c.code.ok=true->K9 c.code.ok 40=0:=fun h=>by rw[h];rfl
 have no:(c.code.ok && (Cv c.L c.P c.Q && (decide (c.Q*c.L<=32) && (Cl c.mark && (Ct c.seed 1 127 && Ct c.errs 0 16)))))=false->IP c=130:=fun h=>(GK (by
  unfold AX.ok
  cases h1:c.code.ok<;>cases h2:Cv c.L c.P c.Q<;>cases h3:decide (c.Q*c.L<=32)<;>cases h4:Cl c.mark<;>cases h5:Ct c.seed 1 127<;>cases h6:Ct c.errs 0 16<;>simp_all)).2
 refine AO P3 An (by simp) fun hwf=>?_
 rw[AW];unfold Kn
 cases h1:c.code.ok with
 |false =>
  rw[no (by simp only[h1,Bool.false_and])];rw[e1 h1] at c1
  (try (simp -implicitDefEqProofs only[go_sem,AH,AG]));repeat' first|(with_reducible first|exact tI|refine aI ?_ ?_|intro _)|((first|with_reducible refine AN ?_ ?_<;>intro _|(with_reducible refine isCall ?_);first|refine AE c1 ?_)<;>try (simp -implicitDefEqProofs only[go_sem,AH,AG]))|simp (disch:=omega) only[Al]|((with_reducible refine Ao ?_);refine⟨_,rfl,?_,?_⟩)
  all_goals first|rfl|skip
 |true =>
 rw[e0 h1] at c1
 cases h2:Cv c.L c.P c.Q with
 |false =>
  rw[no (by simp only[h1,h2,Bool.true_and,Bool.false_and])];rw[h2] at c2;simp only[Bool.false_eq_true,if_false] at c2
  (try (simp -implicitDefEqProofs only[go_sem,AH,AG]));repeat' first|(with_reducible first|exact tI|refine aI ?_ ?_|intro _)|((first|with_reducible refine AN ?_ ?_<;>intro _|(with_reducible refine isCall ?_);first|refine AE c1 ?_|refine AE c2 ?_)<;>try (simp -implicitDefEqProofs only[go_sem,AH,AG]))|simp (disch:=omega) only[Al]|((with_reducible refine Ao ?_);refine⟨_,rfl,?_,?_⟩)
  all_goals first|rfl|skip
 |true =>
 rw[h2] at c2;simp only[if_true] at c2
 have c3:=Cw c h2
 by_cases h3:c.Q*c.L<=32
 ·have h3':¬32<c.Q*c.L:=by omega
  cases h4:Cl c.mark with
  |false =>
   rw[no (by simp only[h1,h2,h4,Bool.true_and,Bool.false_and,Bool.and_false])];rw[h4] at c4
   (try (simp -implicitDefEqProofs only[go_sem,AH,AG,h3']));repeat' first|(with_reducible first|exact tI|refine aI ?_ ?_|intro _)|((first|with_reducible refine AN ?_ ?_<;>intro _|(with_reducible refine isCall ?_);first|refine AE c1 ?_|refine AE c2 ?_|refine AE c3 ?_|refine AE c4 ?_)<;>try (simp -implicitDefEqProofs only[go_sem,AH,AG,h3']))|simp (disch:=omega) only[Al]|((with_reducible refine Ao ?_);refine⟨_,rfl,?_,?_⟩)
   all_goals first|rfl|skip
  |true =>
  rw[h4] at c4
  cases h5:Ct c.seed 1 127 with
  |false =>
   rw[no (by simp only[h1,h2,h4,h5,Bool.true_and,Bool.false_and,Bool.and_false])];rw[h5] at c5
   (try (simp -implicitDefEqProofs only[go_sem,AH,AG,h3']));repeat' first|(with_reducible first|exact tI|refine aI ?_ ?_|intro _)|((first|with_reducible refine AN ?_ ?_<;>intro _|(with_reducible refine isCall ?_);first|refine AE c1 ?_|refine AE c2 ?_|refine AE c3 ?_|refine AE c4 ?_|refine AE c5 ?_)<;>try (simp -implicitDefEqProofs only[go_sem,AH,AG,h3']))|simp (disch:=omega) only[Al]|((with_reducible refine Ao ?_);refine⟨_,rfl,?_,?_⟩)
   all_goals first|rfl|skip
  |true =>
  rw[h5] at c5
  cases h6:Ct c.errs 0 16 with
  |false =>
   rw[no (by simp only[h1,h2,h4,h5,h6,Bool.true_and,Bool.false_and,Bool.and_false])];rw[h6] at c6
   (try (simp -implicitDefEqProofs only[go_sem,AH,AG,h3']));repeat' first|(with_reducible first|exact tI|refine aI ?_ ?_|intro _)|((first|with_reducible refine AN ?_ ?_<;>intro _|(with_reducible refine isCall ?_);first|refine AE c1 ?_|refine AE c2 ?_|refine AE c3 ?_|refine AE c4 ?_|refine AE c5 ?_|refine AE c6 ?_)<;>try (simp -implicitDefEqProofs only[go_sem,AH,AG,h3']))|simp (disch:=omega) only[Al]|((with_reducible refine Ao ?_);refine⟨_,rfl,?_,?_⟩)
   all_goals first|rfl|skip
  |true =>
  rw[h6] at c6
  have hok:I8 c.code 16=true->IP c=0:=fun h=>(Gt (by
   unfold AX.ok;rw[h1,h2,decide_eq_true h3,h4,h5,h6,h];simp only[Bool.and_self])).2
  have hnok:I8 c.code 16=false->IP c=130:=fun h=>(GK (by
   unfold AX.ok;rw[h,Bool.and_false,Bool.and_false,Bool.and_false,Bool.and_false,Bool.and_false,Bool.and_false])).2
  (try (simp -implicitDefEqProofs only[go_sem,AH,AG,h3']));repeat' first|(with_reducible first|exact tI|refine aI ?_ ?_|intro _)|((first|with_reducible refine AN ?_ ?_<;>intro _|(with_reducible refine isCall ?_);first|refine AE c1 ?_|refine AE c2 ?_|refine AE c3 ?_|refine AE c4 ?_|refine AE c5 ?_|refine AE c6 ?_)<;>try (simp -implicitDefEqProofs only[go_sem,AH,AG,h3']))|simp (disch:=omega) only[Al]|((with_reducible refine Ao ?_);refine⟨_,rfl,?_,?_⟩)
  all_goals first|omega|(simp;done)|(simp;omega)|skip
  refine AY (α:=Nat) (l0:=?l1) (m0:=?m1) (fun x=>[(3,.d (.int .i64 (x:Int)))]) (fun x=>[]) (fun x=>x<=16/\I8 c.code x=true) (fun x=>16-x) 0 ?h01 ?he1 ?he21 ?hI1 ?step1
  case h01=>(simp -implicitDefEqProofs only[go_sem];rfl)
  case he1=>rfl
  case he21=>rfl
  case' step1=>(rintro s hI;try dsimp only at hI)
  case' hI1=>try dsimp only
  ·exact⟨Nat.zero_le _,rfl⟩
  ·obtain⟨i1,i2⟩:=hI
   by_cases hs:s<16
   ·have hs':(s:Int)<16:=by omega
    have hws:IntKind.i64.wrap ((s:Int)+1)=((s+1:Nat):Int):=by rw[Aa _ (by omega)];omega
    have cs:=Dw c h1 s hs
    (try (simp -implicitDefEqProofs only[go_sem,hs']));repeat' first|(with_reducible first|exact tI|refine aI ?_ ?_|intro _)|((first|with_reducible refine AN ?_ ?_<;>intro _)<;>try (simp -implicitDefEqProofs only[go_sem,hs']))|simp (disch:=omega) only[Al]|((with_reducible refine Ao ?_);refine⟨_,rfl,?_,?_⟩)
    all_goals first|omega|(simp;done)|(simp;omega)|skip
    refine AY (α:=Nat) (l0:=?l2) (m0:=?m2) (fun x=>[(4,.d (.int .i64 (x:Int)))]) (fun x=>[]) (fun x=>x<=s/\∀j,j<x->c.code.stm j≠c.code.stm s) (fun x=>s-x) 0 ?h02 ?he2 ?he22 ?hI2 ?step2
    case h02=>(simp -implicitDefEqProofs only[go_sem];rfl)
    case he2=>rfl
    case he22=>rfl
    case' step2=>(rintro k hI2;try dsimp only at hI2)
    case' hI2=>try dsimp only
    ·exact⟨Nat.zero_le _,fun j hj=>by omega⟩
    ·obtain⟨k1,k2⟩:=hI2
     by_cases hk:k<s
     ·have hk':(k:Int)<(s:Int):=by omega
      have hwk:IntKind.i64.wrap ((k:Int)+1)=((k+1:Nat):Int):=by rw[Aa _ (by omega)];omega
      have ck:=Dw c h1 k (by omega)
      have c8:=Fl false false (c.code.stm s) (c.code.stm k)
      by_cases he:c.code.stm k=c.code.stm s
      ·rw[decide_eq_true he.symm] at c8
       rw[hnok (gL hs hk he)]
       (try (simp -implicitDefEqProofs only[go_sem,AH,AG,hk']));repeat' first|(with_reducible first|exact tI|refine aI ?_ ?_|intro _)|((first|with_reducible refine AN ?_ ?_<;>intro _|(with_reducible refine isCall ?_);first|refine AE cs ?_|refine AE ck ?_|refine AE c8 ?_)<;>try (simp -implicitDefEqProofs only[go_sem,AH,AG,hk']))|simp (disch:=omega) only[Al]|((with_reducible refine Ao ?_);refine⟨_,rfl,?_,?_⟩)
       all_goals first|omega|(simp;done)|(simp;omega)|skip
       all_goals first|rfl|skip
      ·rw[decide_eq_false fun e=>he e.symm] at c8
       (try (simp -implicitDefEqProofs only[go_sem,AH,AG,hk',hwk]));repeat' first|(with_reducible first|exact tI|refine aI ?_ ?_|intro _)|((first|with_reducible refine AN ?_ ?_<;>intro _|(with_reducible refine isCall ?_);first|refine AE cs ?_|refine AE ck ?_|refine AE c8 ?_)<;>try (simp -implicitDefEqProofs only[go_sem,AH,AG,hk',hwk]))|simp (disch:=omega) only[Al]|((with_reducible refine Ao ?_);refine⟨_,rfl,?_,?_⟩)
       all_goals first|omega|(simp;done)|(simp;omega)|skip
       rename_i j hj
       by_cases e:j=k
       ·rw[e];exact he
       ·exact k2 j (by omega)
     ·have hk':¬(k:Int)<(s:Int):=by omega
      have hds:=WK i2 fun j hj=>k2 j (by omega)
      (try (simp -implicitDefEqProofs only[go_sem,hk',hws]));repeat' first|(with_reducible first|exact tI|refine aI ?_ ?_|intro _)|((first|with_reducible refine AN ?_ ?_<;>intro _)<;>try (simp -implicitDefEqProofs only[go_sem,hk',hws]))|simp (disch:=omega) only[Al]|((with_reducible refine Ao ?_);refine⟨_,rfl,?_,?_⟩)
      all_goals first|omega|(simp;done)|(simp;omega)|skip
      all_goals first|rfl|skip
   ·have hs16:s=16:=by omega
    subst hs16
    rw[hok i2]
    (try (simp -implicitDefEqProofs only[go_sem]));repeat' first|(with_reducible first|exact tI|refine aI ?_ ?_|intro _)|((first|with_reducible refine AN ?_ ?_<;>intro _)<;>try (simp -implicitDefEqProofs only[go_sem]))|simp (disch:=omega) only[Al]|((with_reducible refine Ao ?_);refine⟨_,rfl,?_,?_⟩)
    all_goals first|omega|(simp;done)|(simp;omega)|skip
    all_goals first|rfl|skip
 ·have h3':32<c.Q*c.L:=by omega
  rw[no (by rw[decide_eq_false h3];simp only[h1,h2,Bool.true_and,Bool.false_and])]
  (try (simp -implicitDefEqProofs only[go_sem,AH,AG,h3']));repeat' first|(with_reducible first|exact tI|refine aI ?_ ?_|intro _)|((first|with_reducible refine AN ?_ ?_<;>intro _|(with_reducible refine isCall ?_);first|refine AE c1 ?_|refine AE c2 ?_|refine AE c3 ?_)<;>try (simp -implicitDefEqProofs only[go_sem,AH,AG,h3']))|simp (disch:=omega) only[Al]|((with_reducible refine Ao ?_);refine⟨_,rfl,?_,?_⟩)
  all_goals first|rfl|skip
end
section
def T6 (c:AX):Bool:=c.code.far || (decide (40<(c.mark.length:Int)) || (decide (8<c.Q) || (decide (15<c.L) || (c.ok && decide (8<c.Q*c.L)))))
def dx (c:AX) (d:List Int):Bool:=!T6 c && (c.ok && (decide (d.length<=100) && CR d (c.Q*(c.L-c.P))))
structure lO (c:AX) (d:List Int):Prop where
 ok:c.ok=true
 nf:T6 c=false
 len:d.length<=100
 sym:CR d (c.Q*(c.L-c.P))=true
theorem mg {c:AX}{d:List Int}(h:dx c d=true):lO c d:=by
 unfold dx at h
 simp only[Bool.and_eq_true,Bool.not_eq_true',decide_eq_true_eq] at h
 exact⟨h.2.1,h.1,h.2.2.1,h.2.2.2⟩
theorem lO.spE {c:AX}{d:List Int}(h:lO c d):spE c.L c.P c.Q d=0:=by
 unfold Go.Pw.spE
 rw[if_pos (Df h.ok).wev,if_pos h.sym]
theorem lO.syms {c:AX}{d:List Int}(h:lO c d):c.syms<=8:=by
 have h1:=h.nf
 have h2:=(Df h.ok).syms
 unfold T6 at h1
 rw[h.ok] at h1
 simp only[Bool.or_eq_false_iff,Bool.true_and,decide_eq_false_iff_not] at h1
 omega
theorem lO.tot {c:AX}{d:List Int}(h:lO c d):c.tot<=176:=by
 have h1:=h.syms
 have hk:=Df h.ok
 have h2:=Ef hk.code;have h3:=hk.markl
 have:c.syms*c.code.sz<=8*20:=Nat.mul_le_mul h1 h2.2
 unfold AX.tot;omega
theorem lO.wr {c:AX}{d:List Int}(h:lO c d):cQ c d=JY c (U7 c.L c.P c.Q d)/\oG c d=0/\(cQ c d).length=c.tot:=by
 have h1:cQ c d=JY c (U7 c.L c.P c.Q d):=by unfold cQ;rw[if_pos h.ok,if_pos h.spE]
 refine⟨h1,by unfold oG;rw[if_pos h.ok,if_pos h.spE],?_⟩
 rw[h1,Y0,QH (Df h.ok).wev h.spE];rfl
def Yt (out:List Int) (f:Int):List Int:=if 0<=f/\f<out.length then out.set f.toNat (1-out[f.toNat]?.getD 0) else out
def NF (out fl:List Int):List Int:=fl.foldl Yt out
theorem iZ (out:List Int) (f:Int):(Yt out f).length=out.length:=by unfold Yt;split<;>simp
theorem NE (fl:List Int):∀out:List Int,(NF out fl).length=out.length:=by
 induction fl with
 |nil=>intro out;rfl
 |cons f fl ih=>intro out;show (NF (Yt out f) fl).length=_;rw[ih,iZ]
theorem Zr (out fl:List Int) (f:Int):NF out (fl++[f])=Yt (NF out fl) f:=by simp[NF]
theorem dB {out:List Int}(h:A1 out=true) (f:Int):A1 (Yt out f)=true:=by
 unfold Yt
 split
 ·rename_i hf
  refine Wm h _ ?_
  have:=Et h (i:=f.toNat) (by omega)
  simp only[Ct,decide_eq_true_eq];omega
 ·exact h
theorem OZ (fl:List Int):∀{out:List Int},A1 out=true->A1 (NF out fl)=true:=by
 induction fl with
 |nil=>intro out h;exact h
 |cons f fl ih=>intro out h;exact ih (dB h f)
attribute [local congr] Bf A9 A_ Aq Bg Ax Az Ay Ap Aj Ad AZ Au Ae Av BK BO BM BN BL BP BE Ah Aw Ai BC BW Ag BI BJ BD BF BH BG BA BB A8 Bj A' Ar Af
attribute [local irreducible] IntKind.wrap A4 Option.getD and or
theorem ME (c:AX):B' E0 Pn [Dn c] (.bool (T6 c)):=by
 have c1:=SI c.code
 have c2:=EE c
 refine AO SP An (by simp) fun hwf=>?_
 rw[AW];unfold NS T6
 obtain⟨fr,hfr⟩:∃fr,c.code.far=fr:=⟨_,rfl⟩
 rw[hfr] at c1 ⊢
 clear hfr
 rcases hok:c.ok with _|_
 ·rw[(GK hok).2] at c2
  cases fr with
  |true =>
   (try (simp -implicitDefEqProofs only[go_sem,AH,AG]));repeat' first|(with_reducible first|exact tI|refine aI ?_ ?_|intro _)|((first|with_reducible refine AN ?_ ?_<;>intro _|(with_reducible refine isCall ?_);first|refine AE c1 ?_|refine AE c2 ?_)<;>try (simp -implicitDefEqProofs only[go_sem,AH,AG]))|simp (disch:=omega) only[Al]
   all_goals first|rfl|(simp only[Bool.true_or];done)|skip
  |false =>
   (try (simp -implicitDefEqProofs only[go_sem,AH,AG]));repeat' first|(with_reducible first|exact tI|refine aI ?_ ?_|intro _)|((first|with_reducible refine AN ?_ ?_<;>intro _|(with_reducible refine isCall ?_);first|refine AE c1 ?_|refine AE c2 ?_)<;>try (simp -implicitDefEqProofs only[go_sem,AH,AG]))|simp (disch:=omega) only[Al]
   all_goals first|rfl|(congr 1;symm;simp;omega)|skip
 ·rw[(Gt hok).2] at c2
  have c3:=Cw c (Df hok).wev
  cases fr with
  |true =>
   (try (simp -implicitDefEqProofs only[go_sem,AH,AG]));repeat' first|(with_reducible first|exact tI|refine aI ?_ ?_|intro _)|((first|with_reducible refine AN ?_ ?_<;>intro _|(with_reducible refine isCall ?_);first|refine AE c1 ?_|refine AE c2 ?_|refine AE c3 ?_)<;>try (simp -implicitDefEqProofs only[go_sem,AH,AG]))|simp (disch:=omega) only[Al]
   all_goals first|rfl|(simp only[Bool.true_or];done)|skip
  |false =>
   (try (simp -implicitDefEqProofs only[go_sem,AH,AG]));repeat' first|(with_reducible first|exact tI|refine aI ?_ ?_|intro _)|((first|with_reducible refine AN ?_ ?_<;>intro _|(with_reducible refine isCall ?_);first|refine AE c1 ?_|refine AE c2 ?_|refine AE c3 ?_)<;>try (simp -implicitDefEqProofs only[go_sem,AH,AG]))|simp (disch:=omega) only[Al]
   all_goals first|rfl|(congr 1;symm;simp;omega)|skip
theorem P0 (c:AX) (nl:Bool) (d:List Int):B' E0 MT [Dn c,.list nl (Am d)] (.bool (dx c d)):=by
 have c1:=ME c
 have c2:=EE c
 refine AO P9 An (by simp) fun hwf=>?_
 rw[AW];unfold Kt dx
 obtain⟨fr,hfr⟩:∃fr,T6 c=fr:=⟨_,rfl⟩
 rw[hfr] at c1 ⊢
 clear hfr
 cases fr with
 |true =>
  (try (simp -implicitDefEqProofs only[go_sem,AH,AG]));repeat' first|(with_reducible first|exact tI|refine aI ?_ ?_|intro _)|((first|with_reducible refine AN ?_ ?_<;>intro _|(with_reducible refine isCall ?_);first|refine AE c1 ?_)<;>try (simp -implicitDefEqProofs only[go_sem,AH,AG]))|simp (disch:=omega) only[Al]
  all_goals first|rfl|(simp only[Bool.not_true,Bool.false_and];done)|skip
 |false =>
  rcases hok:c.ok with _|_
  ·rw[(GK hok).2] at c2
   (try (simp -implicitDefEqProofs only[go_sem,AH,AG]));repeat' first|(with_reducible first|exact tI|refine aI ?_ ?_|intro _)|((first|with_reducible refine AN ?_ ?_<;>intro _|(with_reducible refine isCall ?_);first|refine AE c1 ?_|refine AE c2 ?_)<;>try (simp -implicitDefEqProofs only[go_sem,AH,AG]))|simp (disch:=omega) only[Al]
   all_goals first|rfl|(simp only[Bool.false_and,Bool.and_false];done)|skip
  ·rw[(Gt hok).2] at c2
   have hb:=QX (Df hok).wev
   have w1:IntKind.i64.wrap (c.L-c.P)=c.L-c.P:=Aa _ (by omega)
   have w2:IntKind.i64.wrap (c.Q*(c.L-c.P))=c.Q*(c.L-c.P):=Aa _ (by
    have h1:0<=c.Q*(c.L-c.P):=Int.mul_nonneg (by omega) (by omega)
    have h2:c.Q*(c.L-c.P)<=8*15:=Int.mul_le_mul (by omega) (by omega) (by omega) (by omega)
    omega)
   have c3:=Kl nl d (c.Q*(c.L-c.P))
   obtain⟨sb,hsb⟩:∃sb,CR d (c.Q*(c.L-c.P))=sb:=⟨_,rfl⟩
   rw[hsb] at c3 ⊢
   by_cases hl:d.length<=100
   ·have hl':(d.length:Int)<=100:=by omega
    (try (simp -implicitDefEqProofs only[go_sem,AH,AG,w1,w2,hl']));repeat' first|(with_reducible first|exact tI|refine aI ?_ ?_|intro _)|((first|with_reducible refine AN ?_ ?_<;>intro _|(with_reducible refine isCall ?_);first|refine AE c1 ?_|refine AE c2 ?_|refine AE c3 ?_)<;>try (simp -implicitDefEqProofs only[go_sem,AH,AG,w1,w2,hl']))|simp (disch:=omega) only[Al]
    all_goals first|rfl|(rename_i h;rw[h];simp[hl];done)|skip
   ·have hl':¬(d.length:Int)<=100:=by omega
    (try (simp -implicitDefEqProofs only[go_sem,AH,AG,w1,w2,hl']));repeat' first|(with_reducible first|exact tI|refine aI ?_ ?_|intro _)|((first|with_reducible refine AN ?_ ?_<;>intro _|(with_reducible refine isCall ?_);first|refine AE c1 ?_|refine AE c2 ?_|refine AE c3 ?_)<;>try (simp -implicitDefEqProofs only[go_sem,AH,AG,w1,w2,hl']))|simp (disch:=omega) only[Al]
    all_goals first|rfl|(simp[hl];done)|skip
theorem NZ (n1 n2:Bool) (bits fl:List Int) (hb:A1 bits=true) (h1000:bits.length<=1000000) (hne:¬bits=[]):B' E0 KB [.list n1 (Am bits),.list n2 (Am fl)] (.list false (Am (NF bits fl))):=by
 refine AO Nn An (by simp) fun hwf=>?_
 simp only[Dv,C7,C6,Cu,D9,D8,Fh,D7,Bl,Bs,Bt,C_,B8,List.length_map,B4,true_and,and_true] at hwf
 rw[AW];unfold It
 (try (simp -implicitDefEqProofs only[go_sem,hne]));repeat' first|(with_reducible first|exact tI|refine aI ?_ ?_|intro _)|((first|with_reducible refine AN ?_ ?_<;>intro _)<;>try (simp -implicitDefEqProofs only[go_sem,hne]))|simp (disch:=omega) only[Al]|((with_reducible refine Ab ?_);refine⟨(_,_),rfl,?_,?_⟩)
 all_goals first|omega|(simp;done)|(simp;omega)|skip
 have hl0:=NE
 refine AY (α:=Nat×(List Int)) (l0:=?l1) (m0:=?m1) (fun x=>[(6,.d (.int .i64 (x.1:Int)))]) (fun x=>[(9,.row 3 1 false (Am x.2))]) (fun x=>x.1<=fl.length/\x.2=NF bits (fl.take x.1)) (fun x=>fl.length-x.1) (0,bits) ?h01 ?he1 ?he21 ?hI1 ?step1
 case h01=>(simp -implicitDefEqProofs only[go_sem];rfl)
 case he1=>rfl
 case he21=>rfl
 case' step1=>(rintro⟨k,R⟩ hI;try dsimp only at hI)
 case' hI1=>try dsimp only
 ·exact⟨Nat.zero_le _,rfl⟩
 ·obtain⟨k1,k2⟩:=hI
  change R=NF bits (fl.take k) at k2
  have hRl:R.length=bits.length:=by rw[k2,NE]
  have hRb:A1 R=true:=by rw[k2];exact OZ _ hb
  by_cases hk:k<fl.length
  ·have hk':(k:Int)<(fl.length:Int):=by omega
   have hwk:IntKind.i64.wrap ((k:Int)+1)=((k+1:Nat):Int):=by rw[Aa _ (by omega)];omega
   obtain⟨f,hf⟩:∃f,fl[k]?.getD 0=f:=⟨_,rfl⟩
   have hst:Yt R f=NF bits (fl.take (k+1)):=by
    rw[k2,←Zr,←hf,List.take_add_one,List.getElem?_eq_getElem hk];simp[Option.getD]
   by_cases h0:0<=f
   ·by_cases h1:f<(R.length:Int)
    ·have hv:=Et hRb (i:=f.toNat) (by omega)
     have hwv:IntKind.i64.wrap (1-R[f.toNat]?.getD 0)=1-R[f.toNat]?.getD 0:=Aa _ (by omega)
     have hs2:Yt R f=R.set f.toNat (1-R[f.toNat]?.getD 0):=by unfold Yt;rw[if_pos ⟨h0,h1⟩]
     (try (simp -implicitDefEqProofs only[go_sem,hk',hk,hwk,hf,h0,h1,hwv]));repeat' first|(with_reducible first|exact tI|refine aI ?_ ?_|intro _)|((first|with_reducible refine AN ?_ ?_<;>intro _)<;>try (simp -implicitDefEqProofs only[go_sem,hk',hk,hwk,hf,h0,h1,hwv]))|simp (disch:=omega) only[Al]|((with_reducible refine Ab ?_);refine⟨(_,_),rfl,?_,?_⟩)
     all_goals first|omega|(simp;done)|(simp;omega)|skip
     rw[←hs2,hst]
    ·have hs2:Yt R f=R:=by unfold Yt;rw[if_neg fun h=>h1 h.2]
     (try (simp -implicitDefEqProofs only[go_sem,hk',hk,hwk,hf,h0,h1]));repeat' first|(with_reducible first|exact tI|refine aI ?_ ?_|intro _)|((first|with_reducible refine AN ?_ ?_<;>intro _)<;>try (simp -implicitDefEqProofs only[go_sem,hk',hk,hwk,hf,h0,h1]))|simp (disch:=omega) only[Al]|((with_reducible refine Ab ?_);refine⟨(_,_),rfl,?_,?_⟩)
     all_goals first|omega|(simp;done)|(simp;omega)|skip
     rw[←hst,hs2]
   ·have hs2:Yt R f=R:=by unfold Yt;rw[if_neg fun h=>h0 h.1]
    (try (simp -implicitDefEqProofs only[go_sem,hk',hk,hwk,hf,h0]));repeat' first|(with_reducible first|exact tI|refine aI ?_ ?_|intro _)|((first|with_reducible refine AN ?_ ?_<;>intro _)<;>try (simp -implicitDefEqProofs only[go_sem,hk',hk,hwk,hf,h0]))|simp (disch:=omega) only[Al]|((with_reducible refine Ab ?_);refine⟨(_,_),rfl,?_,?_⟩)
    all_goals first|omega|(simp;done)|(simp;omega)|skip
    rw[←hst,hs2]
  ·have hk':¬(k:Int)<(fl.length:Int):=by omega
   have hte:fl.take k=fl:=List.take_of_length_le (by omega)
   rw[hte] at k2
   rw[←k2]
   (try (simp -implicitDefEqProofs only[go_sem,hk']));repeat' first|(with_reducible first|exact tI|refine aI ?_ ?_|intro _)|((first|with_reducible refine AN ?_ ?_<;>intro _)<;>try (simp -implicitDefEqProofs only[go_sem,hk']))|simp (disch:=omega) only[Al]|((with_reducible refine Ab ?_);refine⟨(_,_),rfl,?_,?_⟩)
   all_goals first|omega|(simp;done)|(simp;omega)|skip
   all_goals first|rfl|skip
end
section
def EB (c:AX):AX:={ c with code:=Er c.code,nm:=false }
theorem Mw (c:AX):(Er c.code).stm=c.code.stm:=by
 funext s;unfold AU.stm;rw[Pj];rfl
theorem YX (c:AX) (m:Nat):I8 (Er c.code) m=I8 c.code m:=by unfold I8;rw[Mw]
theorem Lm (c:AX):(EB c).ok=c.ok:=by
 unfold AX.ok EB
 simp only[kl,YX]
theorem WY (c:AX):Dn (EB c)=.agg [.int .i64 c.code.bits,.int .i64 c.code.out,.int .i64 c.code.least,.int .i64 c.code.most,.list c.code.words.isEmpty (Cd (Er c.code).words),.list c.code.next.isEmpty (Cd (Er c.code).next),.int .i64 c.L,.int .i64 c.P,.int .i64 c.Q,.list false (Am c.mark),.int .i64 c.seed,.int .i64 c.errs]:=rfl
theorem km (c:AU):Fx (Er c)=.agg [.int .i64 c.bits,.int .i64 c.out,.int .i64 c.least,.int .i64 c.most,.list c.words.isEmpty (Cd (Er c).words),.list c.next.isEmpty (Cd (Er c).next)]:=rfl
theorem RM {c:AX}(h:c.ok=true):IP c=0:=(Gt h).2
theorem UF {c:AX}(h:c.ok=false):IP c=130:=(GK h).2
attribute [local congr] Bf A9 A_ Aq Bg Ax Az Ay Ap Aj Ad AZ Au Ae Av BK BO BM BN BL BP BE Ah Aw Ai BC BW Ag BI BJ BD BF BH BG BA BB A8 Bj A' Ar Af
attribute [local irreducible] IntKind.wrap A4 Option.getD and or
theorem Qt (c:AX) (hf:c.code.far=false) (hm:c.mark.length<=1000):B' E0 OL [Dn c] (Dn (EB c)):=by
 have c1:=Qu c.code hf
 rw[km] at c1
 rw[WY]
 refine AO RV An (by simp) fun hwf=>?_
 rw[AW];unfold L_
 (try (simp -implicitDefEqProofs only[go_sem,AH,AG,BQ,A5]));repeat' first|(with_reducible first|exact tI|refine aI ?_ ?_|intro _)|((first|with_reducible refine AN ?_ ?_<;>intro _|(with_reducible refine isCall ?_);first|refine AE c1 ?_)<;>try (simp -implicitDefEqProofs only[go_sem,AH,AG,BQ,A5]))|simp (disch:=omega) only[Al]
 all_goals first|rfl|omega|(rename_i h;rw[h];rfl)|skip
theorem Qr (c:AX):B' E0 OK [Dn c] (.tup [.int .i64 (Q5 c),.int .i64 (IP c)]):=by
 have c1:=EE c
 refine AO RU An (by simp) fun hwf=>?_
 rw[AW];unfold L9 Q5
 rcases hok:c.ok with _|_
 ·rw[UF hok] at c1 ⊢
  (try (simp -implicitDefEqProofs only[go_sem,AH,AG]));repeat' first|(with_reducible first|exact tI|refine aI ?_ ?_|intro _)|((first|with_reducible refine AN ?_ ?_<;>intro _|(with_reducible refine isCall ?_);first|refine AE c1 ?_)<;>try (simp -implicitDefEqProofs only[go_sem,AH,AG]))|simp (disch:=omega) only[Al]|((with_reducible refine Ab ?_);refine⟨(_,_),rfl,?_,?_⟩)
  all_goals first|rfl|skip
 ·have hk:=Df hok
  have hz:=Ef hk.code
  have cZ:=Ek c hk.code
  rw[RM hok] at c1 ⊢
  simp only[if_true]
  (try (simp -implicitDefEqProofs only[go_sem,AH,AG]));repeat' first|(with_reducible first|exact tI|refine aI ?_ ?_|intro _)|((first|with_reducible refine AN ?_ ?_<;>intro _|(with_reducible refine isCall ?_);first|refine AE c1 ?_|refine AE cZ ?_)<;>try (simp -implicitDefEqProofs only[go_sem,AH,AG]))|simp (disch:=omega) only[Al]|((with_reducible refine Ab ?_);refine⟨(_,_),rfl,?_,?_⟩)
  all_goals first|omega|(simp;done)|(simp;omega)|skip
  refine AY (α:=Nat×Int) (l0:=?l1) (m0:=?m1) (fun x=>[(5,.d (.int .i64 (x.1:Int))),(4,.d (.int .i64 x.2))]) (fun x=>[]) (fun x=>x.1<=16/\x.2=Xh c.code x.1) (fun x=>16-x.1) (0,(c.code.sz:Int)) ?h01 ?he1 ?he21 ?hI1 ?step1
  case h01=>(simp -implicitDefEqProofs only[go_sem];rfl)
  case he1=>rfl
  case he21=>rfl
  case' step1=>(rintro⟨s,n⟩ hI;try dsimp only at hI)
  case' hI1=>try dsimp only
  ·exact⟨Nat.zero_le _,rfl⟩
  ·obtain⟨s1,s2⟩:=hI
   change n=Xh c.code s at s2
   by_cases hs:s<16
   ·have hs':(s:Int)<16:=by omega
    have hws:IntKind.i64.wrap ((s:Int)+1)=((s+1:Nat):Int):=by rw[Aa _ (by omega)];omega
    have cs:=Dw c hk.code s hs
    (try (simp -implicitDefEqProofs only[go_sem,hs']));repeat' first|(with_reducible first|exact tI|refine aI ?_ ?_|intro _)|((first|with_reducible refine AN ?_ ?_<;>intro _)<;>try (simp -implicitDefEqProofs only[go_sem,hs']))|simp (disch:=omega) only[Al]|((with_reducible refine Ab ?_);refine⟨(_,_),rfl,?_,?_⟩)
    all_goals first|omega|(simp;done)|(simp;omega)|skip
    refine AY (α:=Nat×Int) (l0:=?l2) (m0:=?m2) (fun x=>[(6,.d (.int .i64 (x.1:Int))),(4,.d (.int .i64 x.2))]) (fun x=>[]) (fun x=>x.1<=s/\x.2=eN c.code s (Xh c.code s) x.1) (fun x=>s-x.1) (0,n) ?h02 ?he2 ?he22 ?hI2 ?step2
    case h02=>(simp -implicitDefEqProofs only[go_sem];rfl)
    case he2=>rfl
    case he22=>rfl
    case' step2=>(rintro⟨b,m⟩ hI2;try dsimp only at hI2)
    case' hI2=>try dsimp only
    ·exact⟨Nat.zero_le _,s2⟩
    ·obtain⟨b1,b2⟩:=hI2
     change m=eN c.code s (Xh c.code s) b at b2
     by_cases hb:b<s
     ·have hb':(b:Int)<(s:Int):=by omega
      have hwb:IntKind.i64.wrap ((b:Int)+1)=((b+1:Nat):Int):=by rw[Aa _ (by omega)];omega
      have l1:=FN c.code s
      have l2:=FN c.code b
      have ck:=Dw c hk.code b (by omega)
      have cD:=HM false false (c.code.stm s) (c.code.stm b) 0 (by omega) (by omega) (by omega) (by omega)
      rw[show (0:Int).toNat=0 from rfl,List.drop_zero] at cD
      obtain⟨dv,hdv⟩:∃dv,CM (c.code.stm s) (c.code.stm b)=dv:=⟨_,rfl⟩
      rw[hdv] at cD
      have hmm:min m dv=eN c.code s (Xh c.code s) (b+1):=by rw[b2,←hdv];rfl
      (try (simp -implicitDefEqProofs only[go_sem,AH,AG,hb',hwb,hmm]));repeat' first|(with_reducible first|exact tI|refine aI ?_ ?_|intro _)|((first|with_reducible refine AN ?_ ?_<;>intro _|(with_reducible refine isCall ?_);first|refine AE cs ?_|refine AE ck ?_|refine AE cD ?_)<;>try (simp -implicitDefEqProofs only[go_sem,AH,AG,hb',hwb,hmm]))|simp (disch:=omega) only[Al]|((with_reducible refine Ab ?_);refine⟨(_,_),rfl,?_,?_⟩)
      all_goals first|omega|(simp;done)|(simp;omega)|skip
      all_goals skip
     ·have hb':¬(b:Int)<(s:Int):=by omega
      have hbe:b=s:=by omega
      subst hbe
      (try (simp -implicitDefEqProofs only[go_sem,hb',hws]));repeat' first|(with_reducible first|exact tI|refine aI ?_ ?_|intro _)|((first|with_reducible refine AN ?_ ?_<;>intro _)<;>try (simp -implicitDefEqProofs only[go_sem,hb',hws]))|simp (disch:=omega) only[Al]|((with_reducible refine Ab ?_);refine⟨(_,_),rfl,?_,?_⟩)
      all_goals first|omega|(simp;done)|(simp;omega)|skip
      all_goals first|exact b2|skip
   ·have hs':¬(s:Int)<16:=by omega
    have hse:s=16:=by omega
    subst hse
    rw[s2]
    (try (simp -implicitDefEqProofs only[go_sem,hs']));repeat' first|(with_reducible first|exact tI|refine aI ?_ ?_|intro _)|((first|with_reducible refine AN ?_ ?_<;>intro _)<;>try (simp -implicitDefEqProofs only[go_sem,hs']))|simp (disch:=omega) only[Al]|((with_reducible refine Ab ?_);refine⟨(_,_),rfl,?_,?_⟩)
    all_goals first|omega|(simp;done)|(simp;omega)|skip
    all_goals first|rfl|skip
theorem Pu (c:AX):B' E0 MO [Dn c] (.tup [.int .i64 (Rl c),.int .i64 (IP c)]):=by
 have c1:=EE c
 refine AO P4 An (by simp) fun hwf=>?_
 rw[AW];unfold Ko Rl
 rcases hok:c.ok with _|_
 ·rw[UF hok] at c1 ⊢
  (try (simp -implicitDefEqProofs only[go_sem,AH,AG]));repeat' first|(with_reducible first|exact tI|refine aI ?_ ?_|intro _)|((first|with_reducible refine AN ?_ ?_<;>intro _|(with_reducible refine isCall ?_);first|refine AE c1 ?_)<;>try (simp -implicitDefEqProofs only[go_sem,AH,AG]))|simp (disch:=omega) only[Al]
  all_goals first|rfl|skip
 ·have hk:=Df hok
  have hz:=Ef hk.code
  have hs:=hk.syms
  have cZ:=Ek c hk.code
  have cS:=Cw c hk.wev
  rw[RM hok] at c1 ⊢
  have hb:=QX hk.wev
  have hqp:=lT hk.wev
  have w1:IntKind.i64.wrap (c.P.tdiv 2)=c.P/2:=by rw[Int.tdiv_eq_ediv_of_nonneg (by omega)];exact Aa _ (by omega)
  have w2:IntKind.i64.wrap (c.Q*(c.P/2))=c.Q*(c.P/2):=Aa _ (by omega)
  have w7:IntKind.i64.wrap (c.Q*c.L*(c.code.sz:Int))=((c.syms*c.code.sz:Nat):Int):=by
   have h1:c.Q*c.L=((c.syms:Nat):Int):=by unfold AX.syms at hs ⊢;omega
   rw[h1,←Int.natCast_mul]
   have:c.syms*c.code.sz<=32*20:=Nat.mul_le_mul (by have:=hk.ql;unfold AX.syms;omega) hz.2
   exact Aa _ (by omega)
  simp only[if_true]
  unfold oB
  obtain⟨h,hh⟩:∃h,c.Q*(c.P/2)=h:=⟨_,rfl⟩
  rw[hh] at w2 hqp ⊢
  have hmul:(h-1)*(c.code.sz:Int)<=31*20:=by
   by_cases h0:0<=h-1
   ·exact Int.mul_le_mul (by omega) (by omega) (by omega) (by omega)
   ·have:h=0:=by omega
    subst this
    omega
  have hmul0:h≠0->0<=(h-1)*(c.code.sz:Int):=fun h0=>Int.mul_nonneg (by omega) (by omega)
  have w3:IntKind.i64.wrap (h-1)=h-1:=Aa _ (by omega)
  by_cases h0:h=0
  ·rw[if_pos h0]
   have w6:IntKind.i64.wrap 0=0:=Aa 0 (by omega)
   (try (simp -implicitDefEqProofs only[go_sem,AH,AG,w1,w2,w6,hh,h0]));repeat' first|(with_reducible first|exact tI|refine aI ?_ ?_|intro _)|((first|with_reducible refine AN ?_ ?_<;>intro _|(with_reducible refine isCall ?_);first|refine AE c1 ?_)<;>try (simp -implicitDefEqProofs only[go_sem,AH,AG,w1,w2,w6,hh,h0]))|simp (disch:=omega) only[Al]
   all_goals first|rfl|skip
  ·rw[if_neg h0]
   have w4:IntKind.i64.wrap ((h-1)*(c.code.sz:Int))=(h-1)*(c.code.sz:Int):=Aa _ (by have:=hmul0 h0;omega)
   have w5:IntKind.i64.wrap ((h-1)*(c.code.sz:Int)+1)=(h-1)*(c.code.sz:Int)+1:=Aa _ (by have:=hmul0 h0;omega)
   by_cases h1:c.Q*c.L<=h
   ·rw[if_pos h1]
    (try (simp -implicitDefEqProofs only[go_sem,AH,AG,w1,w2,w7,hh,h0,h1]));repeat' first|(with_reducible first|exact tI|refine aI ?_ ?_|intro _)|((first|with_reducible refine AN ?_ ?_<;>intro _|(with_reducible refine isCall ?_);first|refine AE c1 ?_|refine AE cZ ?_|refine AE cS ?_)<;>try (simp -implicitDefEqProofs only[go_sem,AH,AG,w1,w2,w7,hh,h0,h1]))|simp (disch:=omega) only[Al]
    all_goals first|rfl|skip
   ·rw[if_neg h1]
    (try (simp -implicitDefEqProofs only[go_sem,AH,AG,w1,w2,hh,h0,h1,w3,w4,w5]));repeat' first|(with_reducible first|exact tI|refine aI ?_ ?_|intro _)|((first|with_reducible refine AN ?_ ?_<;>intro _|(with_reducible refine isCall ?_);first|refine AE c1 ?_|refine AE cZ ?_|refine AE cS ?_)<;>try (simp -implicitDefEqProofs only[go_sem,AH,AG,w1,w2,hh,h0,h1,w3,w4,w5]))|simp (disch:=omega) only[Al]
    all_goals first|rfl|skip
end
end Go.Pw
