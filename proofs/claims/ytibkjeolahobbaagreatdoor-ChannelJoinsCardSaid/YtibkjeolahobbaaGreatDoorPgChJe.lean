/- A part of the proof. -/
import Derived.Test.YtibkjeolahobbaaGreatDoorChJd
import Derived.Test.YtibkjeolahobbaaGreatDoorChPhJ
import Derived.Test.YtibkjeolahobbaaGreatDoorPgChJa
import Derived.Test.YtibkjeolahobbaaGreatDoorPgChrBt
set_option linter.all false
open Go Go.Pw Go.Proofs
namespace Go.Pw
set_option maxRecDepth 100000
set_option maxHeartbeats 3200000
section
def B6 (fls:Rows):List (List Int):=fls.map (·.2)
theorem Q8 (fls:Rows):(B6 fls).length=fls.length:=by simp[B6]
theorem a4 (fls:Rows) {k:Nat}(h:k<fls.length):(B6 fls).take k++[(fls[k]?.getD default).2]=(B6 fls).take (k+1):=by
 rw[List.take_add_one,List.getElem?_eq_getElem (l:=B6 fls) (by rw[Q8];exact h)]
 simp[B6,h]
theorem Vu (fls:Rows) {k:Nat}(h:k<fls.length):(B6 fls)[k]?.getD []=(fls[k]?.getD default).2:=by simp[B6,h]
theorem Q9 (fls:Rows) {k:Nat}(h:k<fls.length):(Bv fls)[k]?=some (.list (fls[k]?.getD default).1 (Aa (fls[k]?.getD default).2)):=by
 rw[Ao,List.getElem?_map,List.getElem?_eq_getElem h,Option.map_some,Option.getD_some];rfl
theorem jE {l:List (List Int)}{k:Nat}(h:k<l.length) (hk:(l.take k).all Dr=true) (hb:Dr (l[k]?.getD [])=true):(l.take (k+1)).all Dr=true:=by
 rw[List.take_add_one,List.getElem?_eq_getElem h,Option.toList_some,List.all_append,hk,Bool.true_and]
 rw[List.getElem?_eq_getElem h,Option.getD_some] at hb
 simp[hb]
theorem jG {l:List (List Int)}{k:Nat}(h:k<l.length) (hb:Dr (l[k]?.getD [])=false):l.all Dr=false:=by
 cases ha:l.all Dr with
 |false=>rfl
 |true =>
  rw[List.all_eq_true] at ha
  have:=ha _ (List.getElem_mem h)
  rw[List.getElem?_eq_getElem h,Option.getD_some] at hb
  rw[this] at hb;cases hb
theorem dx {c:AX}{bits:List Int}{a:Nat}(h:c.find bits=some a) (i:Nat):DQ c bits i=(c.syL bits a)[i]?.getD none:=by unfold DQ;rw[h]
theorem dw {c:AX}{bits:List Int}(h:c.find bits=none) (i:Nat):DQ c bits i=none:=by unfold DQ;rw[h]
attribute [local irreducible] IntKind.wrap Ai Option.getD and or
theorem T9 (nl:Bool) (l:List Int) (n:Int):BR E0 SS [.list nl (Aa l),.int .i64 n] (.bool (decide (n∈l))):=by
 refine AM Ut Af (by simp) fun hwf=>?_
 simp only[CU,Bu,Bt,Bq,Cd,Cc,Dt,Cb,A2,A9,A_,Bz,BG,List.length_map,BH,true_and,and_true] at hwf
 rw[AQ];unfold PT
 (try (simp -implicitDefEqProofs only[go_sem]));repeat' first|(with_reducible first|exact tI|refine aI ?_ ?_|intro _|refine AJ ?_ ?_<;>intro _<;>try simp -implicitDefEqProofs only[go_sem])|simp (disch:=omega) only[Ad]|((with_reducible apply Ab);exact rfl)
 all_goals first|omega|(simp<;>omega)|skip
 refine AU (α:=Nat) (l0:=?l1) (m0:=?m1) (fun x=>[(5,.d (.int .i64 (x:Int)))]) (fun x=>[]) (fun x=>x<=l.length/\∀j,j<x->l[j]?.getD 0≠n) (fun x=>l.length-x) 0 ?h01 ?he1 ?he21 ?hI1 ?step1
 case h01=>(simp -implicitDefEqProofs only[go_sem];rfl)
 case he1=>rfl
 case he21=>rfl
 case' step1=>(rintro k hI;try dsimp only at hI)
 case' hI1=>try dsimp only
 ·exact⟨Nat.zero_le _,fun j hj=>by omega⟩
 ·obtain⟨k1,k2⟩:=hI
  by_cases hk:k<l.length
  ·have hk':(k:Int)<(l.length:Int):=by omega
   have hwk:IntKind.i64.wrap ((k:Int)+1)=((k+1:Nat):Int):=by rw[AZ _ (by omega)];omega
   by_cases he:l[k]?.getD 0=n
   ·have hm:decide (n∈l)=true:=decide_eq_true (by rw[←he];exact Cs hk)
    rw[hm]
    (try (simp -implicitDefEqProofs only[go_sem,hk',hk,he]));repeat' first|(with_reducible first|exact tI|refine aI ?_ ?_|intro _|refine AJ ?_ ?_<;>intro _<;>try simp -implicitDefEqProofs only[go_sem,hk',hk,he])|simp (disch:=omega) only[Ad]|((with_reducible apply Ab);exact rfl)
    all_goals first|omega|(simp<;>omega)|skip
    all_goals first|rfl|skip
   ·(try (simp -implicitDefEqProofs only[go_sem,hk',hk,he,hwk]));repeat' first|(with_reducible first|exact tI|refine aI ?_ ?_|intro _|refine AJ ?_ ?_<;>intro _<;>try simp -implicitDefEqProofs only[go_sem,hk',hk,he,hwk])|simp (disch:=omega) only[Ad]|((with_reducible apply Ab);exact rfl)
    all_goals first|omega|(simp<;>omega)|skip
    rename_i j hj
    have hj2:j<k+1:=hj
    rcases Nat.lt_or_ge j k with h|h
    ·exact k2 j h
    ·have:j=k:=by omega
     subst this;exact he
  ·have hk':¬(k:Int)<(l.length:Int):=by omega
   have hm:decide (n∈l)=false:=decide_eq_false fun h=>by
    obtain⟨j,hj⟩:=List.getElem?_of_mem h
    have hl:=(List.getElem?_eq_some_iff.1 hj).1
    exact k2 j (by omega) (by rw[hj];exact PL _)
   rw[hm]
   (try (simp -implicitDefEqProofs only[go_sem,hk']));repeat' first|(with_reducible first|exact tI|refine aI ?_ ?_|intro _|refine AJ ?_ ?_<;>intro _<;>try simp -implicitDefEqProofs only[go_sem,hk'])|simp (disch:=omega) only[Ad]|((with_reducible apply Ab);exact rfl)
   all_goals first|omega|(simp<;>omega)|skip
   all_goals first|rfl|skip
theorem RC (c:AX) (n2:Bool) (fls:Rows):BR E0 OB [DJ c,.list n2 (Bv fls)] (WN c (B6 fls)):=by
 have c1:=JU c
 have hrl:(Bv fls).length=fls.length:=by simp[Ao]
 have hwl:=Q8 fls
 have hW:=Fh (fls.length:Int) 1 6
 refine AM Pz Af (by simp) fun hwf=>?_
 rw[AQ];unfold KL WN qP qx
 rcases hok:c.ok with _|_
 ·rw[ll hok] at c1
  simp only[Bool.false_eq_true,if_false]
  (try (simp -implicitDefEqProofs only[go_sem,AP,AO]));repeat' first|(with_reducible first|exact tI|refine aI ?_ ?_|intro _)|((first|with_reducible refine AJ ?_ ?_<;>intro _|(with_reducible refine isCall ?_);first|refine AE c1 ?_)<;>try (simp -implicitDefEqProofs only[go_sem,AP,AO]))|simp (disch:=omega) only[Ad]|((with_reducible first|apply Ag|apply Ae|apply Ab);exact rfl)
  all_goals first|rfl|skip
 have hk:=JO hok
 rw[h_ hok] at c1
 simp only[if_true]
 by_cases h16:¬(1<=(B6 fls).length/\(B6 fls).length<=6)
 ·have hb:B_ (fls.length:Int) 1 6=false:=by simp only[B_,decide_eq_false_iff_not];omega
  rw[if_neg h16,if_neg h16]
  rw[hb] at hW
  (try (simp -implicitDefEqProofs only[go_sem,AP,AO,hrl]));repeat' first|(with_reducible first|exact tI|refine aI ?_ ?_|intro _)|((first|with_reducible refine AJ ?_ ?_<;>intro _|(with_reducible refine isCall ?_);first|refine AE c1 ?_|refine AE hW ?_)<;>try (simp -implicitDefEqProofs only[go_sem,AP,AO,hrl]))|simp (disch:=omega) only[Ad]|((with_reducible first|apply Ag|apply Ae|apply Ab);exact rfl)
  all_goals first|rfl|skip
 replace h16:=Classical.not_not.1 h16
 have hb:B_ (fls.length:Int) 1 6=true:=by simp only[B_,decide_eq_true_eq];omega
 rw[hb] at hW
 rw[if_pos h16,if_pos h16]
 have hs:=hk.syms
 have cS:=Cu c hk.wev
 rw[hs.2.2] at cS
 have hsy:((c.syms:Nat):Int)<=1073741824:=by omega
 (try (simp -implicitDefEqProofs only[go_sem,AP,AO,hrl]));repeat' first|(with_reducible first|exact tI|refine aI ?_ ?_|intro _)|((first|with_reducible refine AJ ?_ ?_<;>intro _|(with_reducible refine isCall ?_);first|refine AE c1 ?_|refine AE hW ?_)<;>try (simp -implicitDefEqProofs only[go_sem,AP,AO,hrl]))|simp (disch:=omega) only[Ad]|((with_reducible first|apply Ag|apply Ae|apply Ab);exact rfl)
 all_goals first|omega|(simp<;>omega)|skip
 refine AU (α:=Nat) (l0:=?l2) (m0:=?m2) (fun x=>[(6,.d (.int .i64 (x:Int)))]) (fun x=>[]) (fun x=>x<=fls.length/\((B6 fls).take x).all Dr=true) (fun x=>fls.length-x) 0 ?h02 ?he2 ?he22 ?hI2 ?step2
 case h02=>(simp -implicitDefEqProofs only[go_sem];rfl)
 case he2=>rfl
 case he22=>rfl
 case' step2=>(rintro m hI;try dsimp only at hI)
 case' hI2=>try dsimp only
 ·exact⟨Nat.zero_le _,rfl⟩
 ·obtain⟨m1,m2⟩:=hI
  by_cases hm:m<fls.length
  ·have hm':(m:Int)<(fls.length:Int):=by omega
   have hwm:IntKind.i64.wrap ((m:Int)+1)=((m+1:Nat):Int):=by rw[AZ _ (by omega)];omega
   have hrow:=Q9 fls hm
   have hrg:=Vu fls hm
   obtain⟨fb,hfb⟩:∃fb,fls[m]?.getD default=fb:=⟨_,rfl⟩
   obtain⟨nf,fl⟩:=fb
   rw[hfb] at hrow hrg
   simp only at hrow hrg
   have cA:=NN nf fl
   cases hr:Dr fl with
   |false =>
    rw[hr] at cA
    have hbad:=jG (l:=B6 fls) (k:=m) (by omega) (by rw[hrg];exact hr)
    rw[hbad]
    simp only[Bool.false_eq_true,if_false]
    (try (simp -implicitDefEqProofs only[go_sem,hrl,hm',hm,hrow]));repeat' first|(with_reducible first|exact tI|refine aI ?_ ?_|intro _)|((first|with_reducible refine AJ ?_ ?_<;>intro _|(with_reducible refine isCall ?_);first|refine AE cA ?_)<;>try (simp -implicitDefEqProofs only[go_sem,hrl,hm',hm,hrow]))|simp (disch:=omega) only[Ad]|((with_reducible first|apply Ag|apply Ae|apply Ab);exact rfl)
    all_goals first|rfl|omega|skip
   |true =>
    rw[hr] at cA
    have hst:=jE (l:=B6 fls) (by omega) m2 (by rw[hrg];exact hr)
    (try (simp -implicitDefEqProofs only[go_sem,hrl,hm',hm,hrow,hwm]));repeat' first|(with_reducible first|exact tI|refine aI ?_ ?_|intro _)|((first|with_reducible refine AJ ?_ ?_<;>intro _|(with_reducible refine isCall ?_);first|refine AE cA ?_)<;>try (simp -implicitDefEqProofs only[go_sem,hrl,hm',hm,hrow,hwm]))|simp (disch:=omega) only[Ad]|((with_reducible first|apply Ag|apply Ae|apply Ab);exact rfl)
    all_goals first|omega|(simp<;>omega)|skip
    all_goals first|exact hst|skip
  ·have hm':¬(m:Int)<(fls.length:Int):=by omega
   have htm:(B6 fls).take m=B6 fls:=List.take_of_length_le (by omega)
   have hall:(B6 fls).all Dr=true:=by rw[htm] at m2;exact m2
   rw[if_pos hall,if_pos hall]
   have hrd:∀k,k<fls.length->Dr ((B6 fls)[k]?.getD [])=true:=fun k hk=>by
    rw[List.all_eq_true] at hall
    exact hall _ (by rw[List.getElem?_eq_getElem (by omega),Option.getD_some];exact List.getElem_mem _)
   (try (simp -implicitDefEqProofs only[go_sem,AP,AO,hrl,hm',hsy]));repeat' first|(with_reducible first|exact tI|refine aI ?_ ?_|intro _)|((first|with_reducible refine AJ ?_ ?_<;>intro _|(with_reducible refine isCall ?_);first|refine AE cS ?_)<;>try (simp -implicitDefEqProofs only[go_sem,AP,AO,hrl,hm',hsy]))|simp (disch:=omega) only[Ad]|((with_reducible first|apply Ag|apply Ae|apply Ab);exact rfl)
   all_goals first|omega|(simp<;>omega)|skip
   have hrp:(∀x,x∈List.replicate c.syms (D.list true [])->x=D.list true [])=True:=by simp[List.mem_replicate]
   refine AU (α:=Nat) (l0:=?l3) (m0:=?m3) (fun x=>[(8,.d (.int .i64 (x:Int)))]) (fun x=>[(43,.mat 29 3 false (fX c.syms x) (gR c.syms x))]) (fun x=>x<=c.syms) (fun x=>c.syms-x) 0 ?h03 ?he3 ?he23 ?hI3 ?step3
   case h03=>(simp -implicitDefEqProofs only[go_sem,r7,rz,List.length_replicate,hrp];rfl)
   case he3=>rfl
   case he23=>rfl
   case' step3=>(rintro i hI2;try dsimp only at hI2)
   case' hI3=>try dsimp only
   ·exact Nat.zero_le _
   ·have hfl:=UY c.syms i
    have hgl:=po c.syms i
    by_cases hi:i<c.syms
    ·have hi':(i:Int)<((c.syms:Nat):Int):=by omega
     have hwi:IntKind.i64.wrap ((i:Int)+1)=((i+1:Nat):Int):=by rw[AZ _ (by omega)];omega
     have hfs:=p0 hi
     have hgs:=lN c.syms i
     unfold rY at hgs
     (try (simp -implicitDefEqProofs only[go_sem,hfl,hgl,hi,hi',hwi,hfs,hgs]));repeat' first|(with_reducible first|exact tI|refine aI ?_ ?_|intro _|refine AJ ?_ ?_<;>intro _<;>try simp -implicitDefEqProofs only[go_sem,hfl,hgl,hi,hi',hwi,hfs,hgs])|simp (disch:=omega) only[Ad]|((with_reducible refine Ca ?_);refine⟨(_,_,_),rfl,?_,?_⟩)|((with_reducible refine Ca ?_);refine⟨(_,_),rfl,?_,?_⟩)|((with_reducible refine Ca ?_);refine⟨_,rfl,?_,?_⟩)
     all_goals first|omega|(simp<;>omega)|skip
     all_goals exact⟨i+1,rfl,hi,by omega⟩
    ·have hi':¬(i:Int)<((c.syms:Nat):Int):=by omega
     have hie:i=c.syms:=by omega
     subst hie
     have hfe:=p4 c.syms
     have hge:=pp c.syms
     have hv0:=qh c (B6 fls) c.syms
     (try (simp -implicitDefEqProofs only[go_sem,hfl,hi']));repeat' first|(with_reducible first|exact tI|refine aI ?_ ?_|intro _|refine AJ ?_ ?_<;>intro _<;>try simp -implicitDefEqProofs only[go_sem,hfl,hi'])|simp (disch:=omega) only[Ad]|((with_reducible first|apply Ag|apply Ae|apply Ab);exact rfl)
     all_goals first|omega|(simp<;>omega)|skip
     rw[hfe,hge,hv0]
     refine AU (α:=Nat) (l0:=?l4) (m0:=?m4) (fun x=>[(9,.d (.int .i64 (x:Int)))]) (fun x=>[(43,.mat 29 3 false (vX c.syms) (vR c.syms (dT c (B6 fls) x)))]) (fun x=>x<=fls.length) (fun x=>fls.length-x) 0 ?h04 ?he4 ?he24 ?hI4 ?step4
     case h04=>(simp -implicitDefEqProofs only[go_sem];rfl)
     case he4=>rfl
     case he24=>rfl
     case' step4=>(rintro k hI3;try dsimp only at hI3)
     case' hI4=>try dsimp only
     ·exact Nat.zero_le _
     ·by_cases hkf:k<fls.length
      ·have hk':(k:Int)<(fls.length:Int):=by omega
       have hwk:IntKind.i64.wrap ((k:Int)+1)=((k+1:Nat):Int):=by rw[AZ _ (by omega)];omega
       have hrow:=Q9 fls hkf
       have hrg:=Vu fls hkf
       have hrk:=hrd k hkf
       rw[hrg] at hrk
       obtain⟨fb,hfb⟩:∃fb,fls[k]?.getD default=fb:=⟨_,rfl⟩
       obtain⟨nf,fl⟩:=fb
       rw[hfb] at hrow hrg hrk
       simp only at hrow hrg hrk
       have hbl:fl.length<=1000:=by unfold Dr at hrk;simp only[Bool.and_eq_true,decide_eq_true_eq] at hrk;exact hrk.1
       have c3:=RD c hk nf fl hbl
       unfold bq at c3
       cases hf:c.find fl with
       |none =>
        rw[hf] at c3
        simp only[Option.isSome_none] at c3
        have hn:=eV (c:=c) (rs:=B6 fls) (k:=k) (n:=c.syms) fun i _=>by rw[hrg];exact dw hf i
        (try (simp -implicitDefEqProofs only[go_sem,AP,AO,hrl,hk',hkf,hrow,hwk]));repeat' first|(with_reducible first|exact tI|refine aI ?_ ?_|intro _)|((first|with_reducible refine AJ ?_ ?_<;>intro _|(with_reducible refine isCall ?_);first|refine AE c3 ?_)<;>try (simp -implicitDefEqProofs only[go_sem,AP,AO,hrl,hk',hkf,hrow,hwk]))|simp (disch:=omega) only[Ad]|((with_reducible refine Ca ?_);refine⟨(_,_,_),rfl,?_,?_⟩)|((with_reducible refine Ca ?_);refine⟨(_,_),rfl,?_,?_⟩)|((with_reducible refine Ca ?_);refine⟨_,rfl,?_,?_⟩)
        all_goals first|omega|(simp<;>omega)|skip
        rw[←hn]
        exact⟨k+1,rfl,hkf,by omega⟩
       |some a =>
        rw[hf] at c3
        simp only[Option.isSome_some] at c3
        have c4:=RB c hk nf fl a (LW.1 hf).1 hbl
        have hsl:=HS c fl a
        have hV:∀i,DQ c fl i=(c.syL fl a)[i]?.getD none:=dx hf
        obtain⟨sy,hsy⟩:∃sy,c.syL fl a=sy:=⟨_,rfl⟩
        rw[hsy] at c4 hsl
        simp only[hsy] at hV
        change BR E0 JS [DJ c,.list nf (Aa fl),.int .i64 (a:Int)] (.tup [.list false (Aa (VD c sy)),.list (J_ sy).isEmpty (Aa (ni (J_ sy)))]) at c4
        have hbk:=U1 c sy
        have hR0:=nK c (B6 fls) k c.syms
        have hRe:=ZZ c (B6 fls) k c.syms c.syms fun i h1 h2=>by omega
        (try (simp -implicitDefEqProofs only[go_sem,AP,AO,hrl,hk',hkf,hrow]));repeat' first|(with_reducible first|exact tI|refine aI ?_ ?_|intro _)|((first|with_reducible refine AJ ?_ ?_<;>intro _|(with_reducible refine isCall ?_);first|refine AE c3 ?_|refine AE c4 ?_)<;>try (simp -implicitDefEqProofs only[go_sem,AP,AO,hrl,hk',hkf,hrow]))|simp (disch:=omega) only[Ad]|((with_reducible first|apply Ag|apply Ae|apply Ab);exact rfl)
        all_goals first|omega|(simp<;>omega)|skip
        rw[←hR0]
        refine AU (α:=Nat) (l0:=?l5) (m0:=?m5) (fun x=>[(14,.d (.int .i64 (x:Int)))]) (fun x=>[(43,.mat 29 3 false (vX c.syms) (vR c.syms (SX c (B6 fls) k x)))]) (fun x=>x<=c.syms) (fun x=>c.syms-x) 0 ?h05 ?he5 ?he25 ?hI5 ?step5
        case h05=>(simp -implicitDefEqProofs only[go_sem];rfl)
        case he5=>rfl
        case he25=>rfl
        case' step5=>(rintro j hI4;try dsimp only at hI4)
        case' hI5=>try dsimp only
        ·exact Nat.zero_le _
        ·have hbl':(VD c sy).length=c.syms:=by omega
         by_cases hj:j<c.syms
         ·have hj':(j:Int)<((c.syms:Nat):Int):=by omega
          have hwj:IntKind.i64.wrap ((j:Int)+1)=((j+1:Nat):Int):=by rw[AZ _ (by omega)];omega
          have hjs:j<sy.length:=by omega
          have cI:=T9 (J_ sy).isEmpty (ni (J_ sy)) ((j:Nat):Int)
          rw[pQ] at cI
          cases hx:sy[j]?.getD none with
          |none =>
           rw[decide_eq_true ((QN hjs).2 hx)] at cI
           have hno:=ou (c:=c) (rs:=B6 fls) (k:=k) (n:=c.syms) (j:=j) (by rw[hrg,hV];exact hx)
           (try (simp -implicitDefEqProofs only[go_sem,hbl',hj',hwj]));repeat' first|(with_reducible first|exact tI|refine aI ?_ ?_|intro _)|((first|with_reducible refine AJ ?_ ?_<;>intro _|(with_reducible refine isCall ?_);first|refine AE cI ?_)<;>try (simp -implicitDefEqProofs only[go_sem,hbl',hj',hwj]))|simp (disch:=omega) only[Ad]|((with_reducible refine Ca ?_);refine⟨(_,_,_),rfl,?_,?_⟩)|((with_reducible refine Ca ?_);refine⟨(_,_),rfl,?_,?_⟩)|((with_reducible refine Ca ?_);refine⟨_,rfl,?_,?_⟩)
           all_goals first|omega|(simp<;>omega)|skip
           rw[←hno]
           exact⟨j+1,rfl,hj,by omega⟩
          |some x =>
           rw[decide_eq_false (fun h=>by rw[(QN hjs).1 h] at hx;cases hx)] at cI
           have hyes:=kF (c:=c) (rs:=B6 fls) (k:=k) hj (by rw[hrg,hV];exact hx)
           have hbs:=XD (c:=c) hjs hx
           have hd:=Hq c j x
           have hvr:=Qe (SX c (B6 fls) k j) hj
           have hvx:=Dk (SX c (B6 fls) k j j) hd
           have hle:=ow c (B6 fls) k j (HM c j x)
           obtain⟨y,hy⟩:∃y,HM c j x=y:=⟨_,rfl⟩
           rw[hy] at hyes hbs hd hvx hle
           have hl16:=Fq (SX c (B6 fls) k j j)
           have hvx2:(Fe (SX c (B6 fls) k j j))[y]?.getD 0=((SX c (B6 fls) k j j y:Nat):Int):=by rw[hvx];exact PL _
           have hwx:IntKind.i64.wrap (((SX c (B6 fls) k j j y:Nat):Int)+1)=((SX c (B6 fls) k j j y:Nat):Int)+1:=AZ _ (by omega)
           have hxl:=nx c.syms
           have hxg:(vX c.syms)[j]?.getD 0=c.syms+j:=by rw[ny hj,Option.getD_some]
           have hy16:(y:Int)<16:=by omega
           (try (simp -implicitDefEqProofs only[go_sem,hbl',hj',hj,hwj,KZ,hxl,hxg,hbs,hvr,hl16,hd,hy16,hvx2,hwx,hyes]));repeat' first|(with_reducible first|exact tI|refine aI ?_ ?_|intro _)|((first|with_reducible refine AJ ?_ ?_<;>intro _|(with_reducible refine isCall ?_);first|refine AE cI ?_)<;>try (simp -implicitDefEqProofs only[go_sem,hbl',hj',hj,hwj,KZ,hxl,hxg,hbs,hvr,hl16,hd,hy16,hvx2,hwx,hyes]))|simp (disch:=omega) only[Ad]|((with_reducible refine Ca ?_);refine⟨(_,_,_),rfl,?_,?_⟩)|((with_reducible refine Ca ?_);refine⟨(_,_),rfl,?_,?_⟩)|((with_reducible refine Ca ?_);refine⟨_,rfl,?_,?_⟩)
           all_goals first|omega|(simp<;>omega)|skip
           all_goals exact⟨j+1,rfl,hj,by omega⟩
         ·have hj':¬(j:Int)<((c.syms:Nat):Int):=by omega
          have hje:j=c.syms:=by omega
          subst hje
          rw[hRe]
          (try (simp -implicitDefEqProofs only[go_sem,hbl',hj',hwk]));repeat' first|(with_reducible first|exact tI|refine aI ?_ ?_|intro _|refine AJ ?_ ?_<;>intro _<;>try simp -implicitDefEqProofs only[go_sem,hbl',hj',hwk])|simp (disch:=omega) only[Ad]|((with_reducible refine Ca ?_);refine⟨(_,_,_),rfl,?_,?_⟩)|((with_reducible refine Ca ?_);refine⟨(_,_),rfl,?_,?_⟩)|((with_reducible refine Ca ?_);refine⟨_,rfl,?_,?_⟩)
          all_goals first|omega|(simp<;>omega)|skip
          all_goals exact⟨k+1,rfl,hkf,by omega⟩
      ·have hk':¬(k:Int)<(fls.length:Int):=by omega
       have hke:k=fls.length:=by omega
       subst hke
       have hvm:=n8 c.syms (dT c (B6 fls) fls.length)
       have hvl:=n9 c.syms (dT c (B6 fls) fls.length)
       have hJl:=NY c (B6 fls)
       have hJg:=fun i (h:i<c.syms)=>pd c (B6 fls) h
       rw[hwl] at hJg
       obtain⟨JL,hJL⟩:∃JL,VB c (B6 fls)=JL:=⟨_,rfl⟩
       rw[hJL] at hJl hJg ⊢
       have hBl:=U1 c JL
       (try (simp -implicitDefEqProofs only[go_sem,hrl,hk',hvm]));repeat' first|(with_reducible first|exact tI|refine aI ?_ ?_|intro _|refine AJ ?_ ?_<;>intro _<;>try simp -implicitDefEqProofs only[go_sem,hrl,hk',hvm])|simp (disch:=omega) only[Ad]|((with_reducible refine Ca ?_);refine⟨(_,_,_),rfl,?_,?_⟩)|((with_reducible refine Ca ?_);refine⟨(_,_),rfl,?_,?_⟩)|((with_reducible refine Ca ?_);refine⟨_,rfl,?_,?_⟩)
       all_goals first|omega|(simp<;>omega)|skip
       refine AU (α:=Nat×Bool×Bool) (l0:=?l6) (m0:=?m6) (fun x=>[(17,.d (.int .i64 (x.1:Int)))]) (fun x=>[(159,.row 3 1 x.2.2 (Aa ((VD c JL).take x.1))),(155,.row 3 1 x.2.1 (Aa (ni (NT JL x.1))))]) (fun x=>x.1<=c.syms/\x.2.1=(NT JL x.1).isEmpty/\x.2.2=decide (x.1=0)) (fun x=>c.syms-x.1) (0,true,true) ?h06 ?he6 ?he26 ?hI6 ?step6
       case h06=>(simp -implicitDefEqProofs only[go_sem];rfl)
       case he6=>rfl
       case he26=>rfl
       case' step6=>(rintro⟨i,e,f⟩ hI5;try dsimp only at hI5)
       case' hI6=>try dsimp only
       ·exact⟨Nat.zero_le _,rfl,rfl⟩
       ·obtain⟨i1,i2,i3⟩:=hI5
        change e=(NT JL i).isEmpty at i2
        change f=decide (i=0) at i3
        by_cases hi:i<c.syms
        ·have hi':(i:Int)<((c.syms:Nat):Int):=by omega
         have hwi:IntKind.i64.wrap ((i:Int)+1)=((i+1:Nat):Int):=by rw[AZ _ (by omega)];omega
         have hgv:=n_ (dT c (B6 fls) fls.length) hi
         have hJi:=hJg i hi
         have htie:=@jR c i (Qc c (B6 fls) fls.length i)
         have hone:=@jS c i (Qc c (B6 fls) fls.length i)
         have hg0:dT c (B6 fls) fls.length i=fun x=>Qc c (B6 fls) fls.length i (HM c i x):=rfl
         rw[←hg0] at htie hone
         obtain⟨g,hg⟩:∃g,dT c (B6 fls) fls.length i=g:=⟨_,rfl⟩
         rw[hg] at hgv htie hone
         clear hg hg0
         have hl16:=Fq g
         have hv16:∀t,t<16->(Fe g)[t]?.getD 0=((g t:Nat):Int):=fun t ht=>by rw[Dk g ht];exact PL _
         have hiJ:i<JL.length:=by omega
         have hBs:=iu (c:=c) hiJ
         have hfe:false=decide (i+1=0):=by simp
         have hl32:((VD c JL).take i).length<=32:=by rw[List.length_take];omega
         have hmk:=UM JL i
         have hml:=QK (NT JL i)
         (try (simp -implicitDefEqProofs only[go_sem,hvl,hi']));repeat' first|(with_reducible first|exact tI|refine aI ?_ ?_|intro _|refine AJ ?_ ?_<;>intro _<;>try simp -implicitDefEqProofs only[go_sem,hvl,hi'])|simp (disch:=omega) only[Ad]|((with_reducible first|apply Ag|apply Ae|apply Ab);exact rfl)
         all_goals first|omega|(simp<;>omega)|skip
         refine AU (α:=Nat×Nat) (l0:=?l7) (m0:=?m7) (fun x=>[(20,.d (.int .i64 (x.1:Int))),(18,.d (.int .i64 ((x.2:Nat):Int)))]) (fun x=>[]) (fun x=>x.1<=16/\x.2=TY g x.1) (fun x=>16-x.1) (0,0) ?h07 ?he7 ?he27 ?hI7 ?step7
         case h07=>(simp -implicitDefEqProofs only[go_sem];rfl)
         case he7=>rfl
         case he27=>rfl
         case' step7=>(rintro⟨s,b⟩ hI6;try dsimp only at hI6)
         case' hI7=>try dsimp only
         ·exact⟨Nat.zero_le _,rfl⟩
         ·obtain⟨s1,s2⟩:=hI6
          change b=TY g s at s2
          have hb16:b<16:=by rw[s2];exact ZA g s1
          have hb':(b:Int)<16:=by omega
          have hvb:=hv16 b hb16
          by_cases hs:s<16
          ·have hs':(s:Int)<16:=by omega
           have hws:IntKind.i64.wrap ((s:Int)+1)=((s+1:Nat):Int):=by rw[AZ _ (by omega)];omega
           have hvs:=hv16 s hs
           have hbn:TY g (s+1)=if g (TY g s)<g s then s else TY g s:=rfl
           rw[←s2] at hbn
           by_cases hlt:g b<g s
           ·have hlt':((g b:Nat):Int)<((g s:Nat):Int):=by omega
            rw[if_pos hlt] at hbn
            (try (simp -implicitDefEqProofs only[go_sem,hvl,hi',hi,hgv,hl16,hs',hs,hws,hvs,hb',hb16,hvb,hlt']));repeat' first|(with_reducible first|exact tI|refine aI ?_ ?_|intro _|refine AJ ?_ ?_<;>intro _<;>try simp -implicitDefEqProofs only[go_sem,hvl,hi',hi,hgv,hl16,hs',hs,hws,hvs,hb',hb16,hvb,hlt'])|simp (disch:=omega) only[Ad]|((with_reducible refine Ca ?_);refine⟨(_,_,_),rfl,?_,?_⟩)|((with_reducible refine Ca ?_);refine⟨(_,_),rfl,?_,?_⟩)|((with_reducible refine Ca ?_);refine⟨_,rfl,?_,?_⟩)
            all_goals first|omega|(simp<;>omega)|skip
            all_goals first|exact hbn.symm|exact⟨(s+1,s),rfl,⟨by show s+1<=16;omega,hbn.symm⟩,by show 16-(s+1)<16-s;omega⟩
           ·have hlt':¬((g b:Nat):Int)<((g s:Nat):Int):=by omega
            rw[if_neg hlt] at hbn
            (try (simp -implicitDefEqProofs only[go_sem,hvl,hi',hi,hgv,hl16,hs',hs,hws,hvs,hb',hb16,hvb,hlt']));repeat' first|(with_reducible first|exact tI|refine aI ?_ ?_|intro _|refine AJ ?_ ?_<;>intro _<;>try simp -implicitDefEqProofs only[go_sem,hvl,hi',hi,hgv,hl16,hs',hs,hws,hvs,hb',hb16,hvb,hlt'])|simp (disch:=omega) only[Ad]|((with_reducible refine Ca ?_);refine⟨(_,_,_),rfl,?_,?_⟩)|((with_reducible refine Ca ?_);refine⟨(_,_),rfl,?_,?_⟩)|((with_reducible refine Ca ?_);refine⟨_,rfl,?_,?_⟩)
            all_goals first|omega|(simp<;>omega)|skip
            all_goals first|exact hbn.symm|exact⟨(s+1,b),rfl,⟨by show s+1<=16;omega,hbn.symm⟩,by show 16-(s+1)<16-s;omega⟩
          ·have hs':¬(s:Int)<16:=by omega
           have hse:s=16:=by omega
           subst hse
           rw[←s2] at htie hone
           (try (simp -implicitDefEqProofs only[go_sem,hs']));repeat' first|(with_reducible first|exact tI|refine aI ?_ ?_|intro _|refine AJ ?_ ?_<;>intro _<;>try simp -implicitDefEqProofs only[go_sem,hs'])|simp (disch:=omega) only[Ad]|((with_reducible first|apply Ag|apply Ae|apply Ab);exact rfl)
           all_goals first|omega|(simp<;>omega)|skip
           refine AU (α:=Nat×Nat) (l0:=?l8) (m0:=?m8) (fun x=>[(21,.d (.int .i64 (x.1:Int))),(19,.d (.int .i64 ((x.2:Nat):Int)))]) (fun x=>[]) (fun x=>x.1<=16/\x.2=SW g b x.1) (fun x=>16-x.1) (0,0) ?h08 ?he8 ?he28 ?hI8 ?step8
           case h08=>(simp -implicitDefEqProofs only[go_sem];rfl)
           case he8=>rfl
           case he28=>rfl
           case' step8=>(rintro⟨s,n⟩ hI7;try dsimp only at hI7)
           case' hI8=>try dsimp only
           ·exact⟨Nat.zero_le _,rfl⟩
           ·obtain⟨t1,t2⟩:=hI7
            change n=SW g b s at t2
            have hn16:n<=s:=by rw[t2];exact dt g b s
            by_cases hs:s<16
            ·have hs':(s:Int)<16:=by omega
             have hws:IntKind.i64.wrap ((s:Int)+1)=((s+1:Nat):Int):=by rw[AZ _ (by omega)];omega
             have hwn:IntKind.i64.wrap ((n:Int)+1)=((n+1:Nat):Int):=by rw[AZ _ (by omega)];omega
             have hvs:=hv16 s hs
             have htn:SW g b (s+1)=SW g b s+if g s=g b then 1 else 0:=rfl
             rw[←t2] at htn
             by_cases heq:g s=g b
             ·have heq':((g s:Nat):Int)=((g b:Nat):Int):=by omega
              rw[if_pos heq] at htn
              (try (simp -implicitDefEqProofs only[go_sem,hvl,hi',hi,hgv,hl16,hs',hs,hws,hwn,hvs,hb',hb16,hvb,heq']));repeat' first|(with_reducible first|exact tI|refine aI ?_ ?_|intro _|refine AJ ?_ ?_<;>intro _<;>try simp -implicitDefEqProofs only[go_sem,hvl,hi',hi,hgv,hl16,hs',hs,hws,hwn,hvs,hb',hb16,hvb,heq'])|simp (disch:=omega) only[Ad]|((with_reducible refine Ca ?_);refine⟨(_,_,_),rfl,?_,?_⟩)|((with_reducible refine Ca ?_);refine⟨(_,_),rfl,?_,?_⟩)|((with_reducible refine Ca ?_);refine⟨_,rfl,?_,?_⟩)
              all_goals first|omega|(simp<;>omega)|skip
              all_goals first|exact htn.symm|exact⟨(s+1,n+1),rfl,⟨by show s+1<=16;omega,htn.symm⟩,by show 16-(s+1)<16-s;omega⟩
             ·have heq':¬((g s:Nat):Int)=((g b:Nat):Int):=by omega
              rw[if_neg heq,Nat.add_zero] at htn
              (try (simp -implicitDefEqProofs only[go_sem,hvl,hi',hi,hgv,hl16,hs',hs,hws,hvs,hb',hb16,hvb,heq']));repeat' first|(with_reducible first|exact tI|refine aI ?_ ?_|intro _|refine AJ ?_ ?_<;>intro _<;>try simp -implicitDefEqProofs only[go_sem,hvl,hi',hi,hgv,hl16,hs',hs,hws,hvs,hb',hb16,hvb,heq'])|simp (disch:=omega) only[Ad]|((with_reducible refine Ca ?_);refine⟨(_,_,_),rfl,?_,?_⟩)|((with_reducible refine Ca ?_);refine⟨(_,_),rfl,?_,?_⟩)|((with_reducible refine Ca ?_);refine⟨_,rfl,?_,?_⟩)
              all_goals first|omega|(simp<;>omega)|skip
              all_goals first|exact htn.symm|exact⟨(s+1,n),rfl,⟨by show s+1<=16;omega,htn.symm⟩,by show 16-(s+1)<16-s;omega⟩
            ·have hs':¬(s:Int)<16:=by omega
             have hse:s=16:=by omega
             subst hse
             rw[←t2] at htie hone
             by_cases hn:1<n
             ·have hn':1<(n:Int):=by omega
              have hw:=htie hn
              rw[hw] at hJi
              have hJe:JL[i]=none:=by rw[List.getElem?_eq_getElem hiJ,Option.getD_some] at hJi;exact hJi
              have hB0:=iw (c:=c) hiJ hJi
              rw[hB0] at hBs
              have h2:=RY JL hiJ hJe
              have h3:=RU (NT JL i) i
              have h4:false=(NT JL i++[i]).isEmpty:=by cases NT JL i<;>rfl
              rw[←h2] at h3 h4
              (try (simp -implicitDefEqProofs only[go_sem,hs',hn',hwi,hBs,h3]));repeat' first|(with_reducible first|exact tI|refine aI ?_ ?_|intro _|refine AJ ?_ ?_<;>intro _<;>try simp -implicitDefEqProofs only[go_sem,hs',hn',hwi,hBs,h3])|simp (disch:=omega) only[Ad]|((with_reducible refine Ca ?_);refine⟨(_,_,_),rfl,?_,?_⟩)|((with_reducible refine Ca ?_);refine⟨(_,_),rfl,?_,?_⟩)|((with_reducible refine Ca ?_);refine⟨_,rfl,?_,?_⟩)
              all_goals first|omega|(simp<;>omega)|skip
              all_goals exact⟨(i+1,false,false),rfl,⟨by show i+1<=c.syms;omega,h4,hfe⟩,by show c.syms-(i+1)<c.syms-i;omega⟩
             ·have hn':¬1<(n:Int):=by omega
              have hw:=hone hn
              rw[hw] at hJi
              have hJe:JL[i]=some (HM c i b):=by rw[List.getElem?_eq_getElem hiJ,Option.getD_some] at hJi;exact hJi
              have hB0:=XD (c:=c) hiJ hJi
              rw[FB c i hb16] at hB0
              rw[hB0] at hBs
              have h2:=RX JL hiJ hJe
              rw[←h2] at i2
              (try (simp -implicitDefEqProofs only[go_sem,hs',hn',hwi,hBs]));repeat' first|(with_reducible first|exact tI|refine aI ?_ ?_|intro _|refine AJ ?_ ?_<;>intro _<;>try simp -implicitDefEqProofs only[go_sem,hs',hn',hwi,hBs])|simp (disch:=omega) only[Ad]|((with_reducible refine Ca ?_);refine⟨(_,_,_),rfl,?_,?_⟩)|((with_reducible refine Ca ?_);refine⟨(_,_),rfl,?_,?_⟩)|((with_reducible refine Ca ?_);refine⟨_,rfl,?_,?_⟩)
              all_goals first|omega|(simp<;>omega)|skip
              all_goals (rw[←h2];exact⟨(i+1,e,false),rfl,⟨by show i+1<=c.syms;omega,i2,hfe⟩,by show c.syms-(i+1)<c.syms-i;omega⟩)
        ·have hi':¬(i:Int)<((c.syms:Nat):Int):=by omega
         have hie:i=JL.length:=by omega
         subst hie
         have htk:(VD c JL).take JL.length=VD c JL:=List.take_of_length_le (by omega)
         have hf0:f=false:=by rw[i3];exact decide_eq_false (by omega)
         rw[htk,hf0,UN]
         obtain⟨e1,e2⟩:=gB hk hJl
         have c5:=fun n n2=>Oc c.L c.P c.Q n n2 (VD c JL) (ni (J_ JL)) (by omega)
         change jP c.L c.P c.Q (VD c JL) (ni (J_ JL))=XU c JL at e1
         change dU c.L c.P c.Q (VD c JL) (ni (J_ JL))=YW c JL at e2
         rw[e1,e2] at c5
         (try (simp -implicitDefEqProofs only[go_sem,AP,AO,hvl,hi']));repeat' first|(with_reducible first|exact tI|refine aI ?_ ?_|intro _)|((first|with_reducible refine AJ ?_ ?_<;>intro _|(with_reducible refine isCall ?_);first|refine AE (c5 _ _) ?_)<;>try (simp -implicitDefEqProofs only[go_sem,AP,AO,hvl,hi']))|simp (disch:=omega) only[Ad]|((with_reducible first|apply Ag|apply Ae|apply Ab);exact rfl)
         all_goals first|omega|(simp<;>omega)|skip
         all_goals first|rfl|skip
end
section
attribute [local irreducible] IntKind.wrap Ai Option.getD and or
end
section
theorem lY {c:AX}(h:Yj c=false):c.code.far=false/\c.mark.length<=40/\c.Q<=8/\c.L<=15:=by
 unfold Yj at h
 simp only[Bool.or_eq_false_iff,decide_eq_false_iff_not] at h
 exact⟨h.1,by omega,by omega,by omega⟩
attribute [local irreducible] IntKind.wrap Ai Option.getD and or
end
section
theorem W4 (c:AX) (bits:List Int):∀n a,(FC c).fnd bits n a=c.fnd bits n a
 |0,_=>rfl
 |n+1,a=>by
  unfold AX.fnd
  rw[W4 c bits n];rfl
theorem iR (c:AX) (p:List Int):J2 (FD c.code) p=J2 c.code p:=by unfold J2;rw[R5]
theorem iT (c:AX) (bits:List Int) (a:Nat):(FC c).syL bits a=c.syL bits a:=by
 unfold AX.syL
 refine List.map_congr_left fun i _=>?_
 exact iR c _
theorem cy (c:AX) (bits:List Int):(FC c).find bits=c.find bits:=W4 c bits _ _
attribute [local irreducible] IntKind.wrap Ai Option.getD and or
end
section
theorem a5 (rs:List (List Int)) (r:List Int):XT rs++[.list false (Aa r)]=XT (rs++[r]):=by simp[XT,rr]
theorem cx (c:AX) (bits:List Int) (i:Nat):DQ (FC c) bits i=DQ c bits i:=by unfold DQ;rw[cy];simp only[iT]
theorem W3 (c:AX) (rs:List (List Int)):∀k i s,Qc (FC c) rs k i s=Qc c rs k i s
 |0,_,_=>rfl
 |k+1,i,s=>by unfold Qc;rw[W3 c rs k,cx]
theorem iV (c:AX) (rs:List (List Int)):VB (FC c) rs=VB c rs:=by
 unfold VB
 refine List.map_congr_left fun i _=>?_
 congr 1
 funext s
 exact W3 c rs rs.length i s
theorem l_ (c:AX) (rs:List (List Int)):WN (FC c) rs=WN c rs:=by
 have h1:∀sy,XU (FC c) sy=XU c sy:=fun _=>rfl
 have h2:∀sy,YW (FC c) sy=YW c sy:=fun _=>rfl
 unfold WN qP qx
 simp only[cz,iV,h1,h2]
attribute [local irreducible] IntKind.wrap Ai Option.getD and or
theorem PG (c:AX) (n2:Bool) (fls:Rows):BR E0 GA [DJ c,.list n2 (Bv fls)] (.bool true):=by
 have c0:=Pv
 have c1:=Sj c
 have hrl:(Bv fls).length=fls.length:=by simp[Ao]
 have hwl:=Q8 fls
 refine AM JH Af (by simp) fun hwf=>?_
 rw[AQ];unfold FU
 cases hf:Yj c with
 |true =>
  rw[hf] at c1
  (try (simp -implicitDefEqProofs only[go_sem,AP,AO]));repeat' first|(with_reducible first|exact tI|refine aI ?_ ?_|intro _)|((first|with_reducible refine AJ ?_ ?_<;>intro _|(with_reducible refine isCall ?_);first|refine AE c0 ?_|refine AE c1 ?_)<;>try (simp -implicitDefEqProofs only[go_sem,AP,AO]))|simp (disch:=omega) only[Ad]|((with_reducible apply Ae);exact rfl)
  all_goals first|rfl|skip
 |false =>
  rw[hf] at c1
  by_cases h20:20<(fls.length:Int)
  ·(try (simp -implicitDefEqProofs only[go_sem,AP,AO,hrl,h20]));repeat' first|(with_reducible first|exact tI|refine aI ?_ ?_|intro _)|((first|with_reducible refine AJ ?_ ?_<;>intro _|(with_reducible refine isCall ?_);first|refine AE c0 ?_|refine AE c1 ?_)<;>try (simp -implicitDefEqProofs only[go_sem,AP,AO,hrl,h20]))|simp (disch:=omega) only[Ad]|((with_reducible apply Ae);exact rfl)
   all_goals first|rfl|skip
  (try (simp -implicitDefEqProofs only[go_sem,AP,AO,hrl,h20]));repeat' first|(with_reducible first|exact tI|refine aI ?_ ?_|intro _)|((first|with_reducible refine AJ ?_ ?_<;>intro _|(with_reducible refine isCall ?_);first|refine AE c0 ?_|refine AE c1 ?_)<;>try (simp -implicitDefEqProofs only[go_sem,AP,AO,hrl,h20]))|simp (disch:=omega) only[Ad]|((with_reducible apply Ae);exact rfl)
  all_goals first|omega|(simp<;>omega)|skip
  refine AU (α:=Nat×Bool) (l0:=?l1) (m0:=?m1) (fun x=>[(6,.d (.int .i64 (x.1:Int)))]) (fun x=>[(40,.row 29 1 x.2 (XT ((B6 fls).take x.1)))]) (fun x=>x.1<=fls.length/\x.2=decide (x.1=0)) (fun x=>fls.length-x.1) (0,true) ?h01 ?he1 ?he21 ?hI1 ?step1
  case h01=>(simp -implicitDefEqProofs only[go_sem];rfl)
  case he1=>rfl
  case he21=>rfl
  case' step1=>(rintro⟨k,f⟩ hI;try dsimp only at hI)
  case' hI1=>try dsimp only
  ·exact⟨Nat.zero_le _,rfl⟩
  ·obtain⟨k1,k2⟩:=hI
   change f=decide (k=0) at k2
   by_cases hkf:k<fls.length
   ·have hk':(k:Int)<(fls.length:Int):=by omega
    have hwk:IntKind.i64.wrap ((k:Int)+1)=((k+1:Nat):Int):=by rw[AZ _ (by omega)];omega
    have hrow:=Q9 fls hkf
    have hsn:=a4 fls hkf
    obtain⟨fb,hfb⟩:∃fb,fls[k]?.getD default=fb:=⟨_,rfl⟩
    obtain⟨nf,fl⟩:=fb
    rw[hfb] at hrow hsn
    simp only at hrow hsn
    by_cases hb:1100<(fl.length:Int)
    ·(try (simp -implicitDefEqProofs only[go_sem,hrl,hk',hkf,hrow,hb]));repeat' first|(with_reducible first|exact tI|refine aI ?_ ?_|intro _)|((first|with_reducible refine AJ ?_ ?_<;>intro _|(with_reducible refine isCall ?_);first|refine AE c0 ?_)<;>try (simp -implicitDefEqProofs only[go_sem,hrl,hk',hkf,hrow,hb]))|simp (disch:=omega) only[Ad]|((with_reducible apply Ae);exact rfl)
     all_goals first|rfl|omega|skip
    ·have hsn2:=a5 ((B6 fls).take k) fl
     rw[hsn] at hsn2
     have hrl2:(XT ((B6 fls).take k)).length<=20:=by rw[ZY,List.length_take];omega
     have hfe:false=decide (k+1=0):=by simp
     have hfl:fl.length<=1100:=by omega
     (try (simp -implicitDefEqProofs only[go_sem,hrl,hk',hkf,hrow,hb,hwk,hsn2]));repeat' first|(with_reducible first|exact tI|refine aI ?_ ?_|intro _)|((first|with_reducible refine AJ ?_ ?_<;>intro _|(with_reducible refine isCall ?_);first|refine AE c0 ?_)<;>try (simp -implicitDefEqProofs only[go_sem,hrl,hk',hkf,hrow,hb,hwk,hsn2]))|simp (disch:=omega) only[Ad]|((with_reducible refine Ca ?_);refine⟨(_,_),rfl,?_,?_⟩)
     all_goals first|omega|(simp<;>omega)|skip
     all_goals first|exact hfe|exact⟨(k+1,false),rfl,⟨by show k+1<=fls.length;omega,hfe⟩,by show fls.length-(k+1)<fls.length-k;omega⟩|skip
   ·have hk':¬(k:Int)<(fls.length:Int):=by omega
    have hke:k=fls.length:=by omega
    subst hke
    have htk:(B6 fls).take fls.length=B6 fls:=List.take_of_length_le (by omega)
    have hfe:f=(B6 fls).isEmpty:=by
     rw[k2,←hwl]
     cases B6 fls<;>simp
    rw[htk,hfe]
    obtain⟨f1,f2,f3,f4⟩:=lY hf
    have c2:=RE c f1 (by omega)
    have c3:=PD (FC c) (B6 fls)
    rw[l_] at c3
    have c4:=RC c n2 fls
    have eX:=W5 c
    unfold WN at c3 c4
    obtain⟨X,hX⟩:∃X,qP c (B6 fls)=X:=⟨_,rfl⟩
    obtain⟨E,hE⟩:∃E,qx c (B6 fls)=E:=⟨_,rfl⟩
    rw[hX,hE] at c3 c4
    have c5:=E3 X.isEmpty X.isEmpty X X
    rw[decide_eq_true rfl] at c5
    (try (simp -implicitDefEqProofs only[go_sem,AP,AO,eX,hrl,hk']));repeat' first|(with_reducible first|exact tI|refine aI ?_ ?_|intro _)|((first|with_reducible refine AJ ?_ ?_<;>intro _|(with_reducible refine isCall ?_);first|refine AE c0 ?_|refine AE c2 ?_|refine AE c3 ?_|refine AE c4 ?_|refine AE c5 ?_)<;>try (simp -implicitDefEqProofs only[go_sem,AP,AO,eX,hrl,hk']))|simp (disch:=omega) only[Ad]|((with_reducible apply Ae);exact rfl)
    all_goals first|rfl|omega|(exfalso;rename_i h;exact h rfl)|skip
end
end Go.Pw
