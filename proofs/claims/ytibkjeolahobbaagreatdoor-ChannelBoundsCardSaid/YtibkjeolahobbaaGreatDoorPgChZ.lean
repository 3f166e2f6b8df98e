/- A part of the proof. -/
import Derived.Test.YtibkjeolahobbaaGreatDoorPgChL
set_option linter.all false
open Go Go.Pw Go.Proofs
namespace Go.Pw
set_option maxRecDepth 100000
set_option maxHeartbeats 3200000
section
theorem UV {f:Nat->Bool}{n:Nat}(h:f n=true):GN f (n+1)=GN f n+1:=by simp[GN,h]
theorem PI {f:Nat->Bool}{n:Nat}(h:f n=false):GN f (n+1)=GN f n:=by simp[GN,h]
attribute [local congr] Bf A9 A_ Aq Bg Ax Az Ay Ap Aj Ad AZ Au Ae Av BK BO BM BN BL BP BE Ah Aw Ai BC BW Ag BI BJ BD BF BH BG BA BB A8 Bj A' Ar Af
attribute [local irreducible] IntKind.wrap A4 Option.getD and or
theorem Pv (c:AX):B' E0 MP [Dn c] (.tup [.int .i64 (Pm c),.int .i64 (IP c)]):=by
 have c1:=EE c
 refine AO P5 An (by simp) fun hwf=>?_
 rw[AW];unfold Kp Pm
 rcases hok:c.ok with _|_
 ·rw[UF hok] at c1 ⊢
  (try (simp -implicitDefEqProofs only[go_sem,AH,AG]));repeat' first|(with_reducible first|exact tI|refine aI ?_ ?_|intro _)|((first|with_reducible refine AN ?_ ?_<;>intro _|(with_reducible refine isCall ?_);first|refine AE c1 ?_)<;>try (simp -implicitDefEqProofs only[go_sem,AH,AG]))|simp (disch:=omega) only[Al]|((with_reducible refine BS ?_);refine⟨(_,_,_),rfl,?_,?_⟩)|((with_reducible refine Ab ?_);refine⟨(_,_),rfl,?_,?_⟩)
  all_goals first|rfl|skip
 ·have hk:=Df hok
  have hz:=Ef hk.code
  have hs:=hk.syms
  have hm:=hk.markl
  have ht:=hk.tot
  have cZ:=Ek c hk.code
  have cS:=Cw c hk.wev
  have cT:=Gq c hk.wev hk.code (by omega)
  rw[hs.2.2] at cS
  rw[RM hok] at c1 ⊢
  simp only[if_true]
  have htt:c.tot=c.mark.length+c.syms*c.code.sz:=rfl
  have htp:2*2<=c.syms*c.code.sz:=Nat.mul_le_mul hs.1 hz.1
  have hnd:c.mark.length<=16:=hm.2.1
  (try (simp -implicitDefEqProofs only[go_sem,AH,AG]));repeat' first|(with_reducible first|exact tI|refine aI ?_ ?_|intro _)|((first|with_reducible refine AN ?_ ?_<;>intro _|(with_reducible refine isCall ?_);first|refine AE c1 ?_)<;>try (simp -implicitDefEqProofs only[go_sem,AH,AG]))|simp (disch:=omega) only[Al]|((with_reducible refine BS ?_);refine⟨(_,_,_),rfl,?_,?_⟩)|((with_reducible refine Ab ?_);refine⟨(_,_),rfl,?_,?_⟩)
  all_goals first|omega|(simp;done)|(simp;omega)|skip
  refine AY (α:=Nat×Int×Int) (l0:=?l1) (m0:=?m1) (fun x=>[(5,.d (.int .i64 x.2.1)),(4,.d (.int .i64 x.2.2))]) (fun x=>[]) (fun x=>x.1<=c.tot-1/\x.2.1=((x.1+1:Nat):Int)/\x.2.2=gn c x.1) (fun x=>c.tot-1-x.1) (0,1,(c.mark.length:Int)) ?h01 ?he1 ?he21 ?hI1 ?step1
  case h01=>(simp -implicitDefEqProofs only[go_sem];rfl)
  case he1=>rfl
  case he21=>rfl
  case' step1=>(rintro⟨k,at_,n⟩ hI;try dsimp only at hI)
  case' hI1=>try dsimp only
  ·exact⟨Nat.zero_le _,rfl,rfl⟩
  ·obtain⟨k1,k2,k3⟩:=hI
   change at_=((k+1:Nat):Int) at k2
   change n=gn c k at k3
   subst k2
   by_cases hkt:k+1<c.tot
   ·have hk':((k+1:Nat):Int)<((c.tot:Nat):Int):=by omega
    have hwk:IntKind.i64.wrap (((k+1:Nat):Int)+1)=((k+1+1:Nat):Int):=by rw[Aa _ (by omega)];omega
    obtain⟨a,ha⟩:∃a,k+1=a:=⟨_,rfl⟩
    rw[ha] at hk' hwk
    rw[ha]
    (try (simp -implicitDefEqProofs only[go_sem,AH,AG,hk']));repeat' first|(with_reducible first|exact tI|refine aI ?_ ?_|intro _)|((first|with_reducible refine AN ?_ ?_<;>intro _|(with_reducible refine isCall ?_);first|refine AE cT ?_)<;>try (simp -implicitDefEqProofs only[go_sem,AH,AG,hk']))|simp (disch:=omega) only[Al]|((with_reducible refine BS ?_);refine⟨(_,_,_),rfl,?_,?_⟩)|((with_reducible refine Ab ?_);refine⟨(_,_),rfl,?_,?_⟩)
    all_goals first|omega|(simp;done)|(simp;omega)|skip
    refine AY (α:=Nat×Int) (l0:=?l2) (m0:=?m2) (fun x=>[(7,.d (.int .i64 (x.1:Int))),(6,.d (.int .i64 x.2))]) (fun x=>[]) (fun x=>x.1<=c.mark.length/\x.2=(GN (SH c a 0) x.1:Nat)) (fun x=>c.mark.length-x.1) (0,0) ?h02 ?he2 ?he22 ?hI2 ?step2
    case h02=>(simp -implicitDefEqProofs only[go_sem];rfl)
    case he2=>rfl
    case he22=>rfl
    case' step2=>(rintro⟨i,w⟩ hI2;try dsimp only at hI2)
    case' hI2=>try dsimp only
    ·exact⟨Nat.zero_le _,rfl⟩
    ·obtain⟨i1,i2⟩:=hI2
     change w=(GN (SH c a 0) i:Nat) at i2
     subst i2
     have hcl:=Yc (SH c a 0) i
     by_cases hi:i<c.mark.length
     ·have hi':(i:Int)<(c.mark.length:Int):=by omega
      have hwi:IntKind.i64.wrap ((i:Int)+1)=((i+1:Nat):Int):=by rw[Aa _ (by omega)];omega
      have hwt:IntKind.i64.wrap ((a:Int)+(i:Int))=((a+i:Nat):Int):=by rw[Aa _ (by omega)];omega
      have hwc:IntKind.i64.wrap (((GN (SH c a 0) i:Nat):Int)+1)=((GN (SH c a 0) i+1:Nat):Int):=by rw[Aa _ (by omega)];omega
      have hF:SH c a 0 i=(decide (a+i<c.mark.length) && decide (c.mark[a+i]?.getD 0≠c.mark[i]?.getD 0) || decide (c.tot<=a+i) && decide (c.mark[a+i-c.tot]?.getD 0≠c.mark[i]?.getD 0)):=by
       unfold SH;rw[decide_eq_true (Nat.zero_le _),Bool.true_and]
      by_cases hA:a+i<c.mark.length
      ·have hA':((a+i:Nat):Int)<(c.mark.length:Int):=by omega
       have hB':¬((c.tot:Nat):Int)<=((a+i:Nat):Int):=by omega
       rw[decide_eq_true hA,Bool.true_and,decide_eq_false (show ¬c.tot<=a+i by omega),Bool.false_and,Bool.or_false] at hF
       by_cases hv:c.mark[a+i]?.getD 0=c.mark[i]?.getD 0
       ·rw[decide_eq_false (fun h=>h hv)] at hF
        have hst:=PI hF
        (try (simp -implicitDefEqProofs only[go_sem,AH,AG,hi',hwi,hwt,hA',hB',hv]));repeat' first|(with_reducible first|exact tI|refine aI ?_ ?_|intro _)|((first|with_reducible refine AN ?_ ?_<;>intro _|(with_reducible refine isCall ?_);first|refine AE cT ?_)<;>try (simp -implicitDefEqProofs only[go_sem,AH,AG,hi',hwi,hwt,hA',hB',hv]))|simp (disch:=omega) only[Al]|((with_reducible refine BS ?_);refine⟨(_,_,_),rfl,?_,?_⟩)|((with_reducible refine Ab ?_);refine⟨(_,_),rfl,?_,?_⟩)
        all_goals first|omega|(simp;done)|(simp;omega)|skip
        all_goals first|exact hst.symm|exact congrArg (fun x:Nat=>(x:Int)) hst.symm
       ·rw[decide_eq_true hv] at hF
        have hst:=UV hF
        (try (simp -implicitDefEqProofs only[go_sem,AH,AG,hi',hwi,hwt,hA',hv,hwc]));repeat' first|(with_reducible first|exact tI|refine aI ?_ ?_|intro _)|((first|with_reducible refine AN ?_ ?_<;>intro _|(with_reducible refine isCall ?_);first|refine AE cT ?_)<;>try (simp -implicitDefEqProofs only[go_sem,AH,AG,hi',hwi,hwt,hA',hv,hwc]))|simp (disch:=omega) only[Al]|((with_reducible refine BS ?_);refine⟨(_,_,_),rfl,?_,?_⟩)|((with_reducible refine Ab ?_);refine⟨(_,_),rfl,?_,?_⟩)
        all_goals first|omega|(simp;done)|(simp;omega)|skip
        all_goals first|exact hst.symm|exact congrArg (fun x:Nat=>(x:Int)) hst.symm
      ·have hA':¬((a+i:Nat):Int)<(c.mark.length:Int):=by omega
       rw[decide_eq_false hA,Bool.false_and,Bool.false_or] at hF
       by_cases hB:c.tot<=a+i
       ·have hB':((c.tot:Nat):Int)<=((a+i:Nat):Int):=by omega
        have hwb:IntKind.i64.wrap (((a+i:Nat):Int)-((c.tot:Nat):Int))=((a+i-c.tot:Nat):Int):=by rw[Aa _ (by omega)];omega
        have hbi:((a+i-c.tot:Nat):Int)<(c.mark.length:Int):=by omega
        rw[decide_eq_true hB,Bool.true_and] at hF
        by_cases hv:c.mark[a+i-c.tot]?.getD 0=c.mark[i]?.getD 0
        ·rw[decide_eq_false (fun h=>h hv)] at hF
         have hst:=PI hF
         (try (simp -implicitDefEqProofs only[go_sem,AH,AG,hi',hwi,hwt,hA',hB',hwb,hbi,hv]));repeat' first|(with_reducible first|exact tI|refine aI ?_ ?_|intro _)|((first|with_reducible refine AN ?_ ?_<;>intro _|(with_reducible refine isCall ?_);first|refine AE cT ?_)<;>try (simp -implicitDefEqProofs only[go_sem,AH,AG,hi',hwi,hwt,hA',hB',hwb,hbi,hv]))|simp (disch:=omega) only[Al]|((with_reducible refine BS ?_);refine⟨(_,_,_),rfl,?_,?_⟩)|((with_reducible refine Ab ?_);refine⟨(_,_),rfl,?_,?_⟩)
         all_goals first|omega|(simp;done)|(simp;omega)|skip
         all_goals first|exact hst.symm|exact congrArg (fun x:Nat=>(x:Int)) hst.symm
        ·rw[decide_eq_true hv] at hF
         have hst:=UV hF
         (try (simp -implicitDefEqProofs only[go_sem,AH,AG,hi',hwi,hwt,hA',hB',hwb,hbi,hv,hwc]));repeat' first|(with_reducible first|exact tI|refine aI ?_ ?_|intro _)|((first|with_reducible refine AN ?_ ?_<;>intro _|(with_reducible refine isCall ?_);first|refine AE cT ?_)<;>try (simp -implicitDefEqProofs only[go_sem,AH,AG,hi',hwi,hwt,hA',hB',hwb,hbi,hv,hwc]))|simp (disch:=omega) only[Al]|((with_reducible refine BS ?_);refine⟨(_,_,_),rfl,?_,?_⟩)|((with_reducible refine Ab ?_);refine⟨(_,_),rfl,?_,?_⟩)
         all_goals first|omega|(simp;done)|(simp;omega)|skip
         all_goals first|exact hst.symm|exact congrArg (fun x:Nat=>(x:Int)) hst.symm
       ·have hB':¬((c.tot:Nat):Int)<=((a+i:Nat):Int):=by omega
        rw[decide_eq_false hB,Bool.false_and] at hF
        have hst:=PI hF
        (try (simp -implicitDefEqProofs only[go_sem,AH,AG,hi',hwi,hwt,hA',hB']));repeat' first|(with_reducible first|exact tI|refine aI ?_ ?_|intro _)|((first|with_reducible refine AN ?_ ?_<;>intro _|(with_reducible refine isCall ?_);first|refine AE cT ?_)<;>try (simp -implicitDefEqProofs only[go_sem,AH,AG,hi',hwi,hwt,hA',hB']))|simp (disch:=omega) only[Al]|((with_reducible refine BS ?_);refine⟨(_,_,_),rfl,?_,?_⟩)|((with_reducible refine Ab ?_);refine⟨(_,_),rfl,?_,?_⟩)
        all_goals first|omega|(simp;done)|(simp;omega)|skip
        all_goals first|exact hst.symm|exact congrArg (fun x:Nat=>(x:Int)) hst.symm
     ·have hi':¬(i:Int)<(c.mark.length:Int):=by omega
      have hie:i=c.mark.length:=by omega
      subst hie
      obtain⟨M,hM⟩:∃M,GN (SH c a 0) c.mark.length=M:=⟨_,rfl⟩
      rw[hM] at hcl
      rw[hM]
      (try (simp -implicitDefEqProofs only[go_sem,AH,AG,hi']));repeat' first|(with_reducible first|exact tI|refine aI ?_ ?_|intro _)|((first|with_reducible refine AN ?_ ?_<;>intro _)<;>try (simp -implicitDefEqProofs only[go_sem,AH,AG,hi']))|simp (disch:=omega) only[Al]|((with_reducible refine BS ?_);refine⟨(_,_,_),rfl,?_,?_⟩)|((with_reducible refine Ab ?_);refine⟨(_,_),rfl,?_,?_⟩)
      all_goals first|omega|(simp;done)|(simp;omega)|skip
      have hsl:=dE (f:=HT c a 0) (z:=c.code.sz) fun s=>RF _ _ _
      have hsb:∀s,s<=c.syms->s*c.code.sz<=c.syms*c.code.sz:=fun s h=>Nat.mul_le_mul_right _ h
      refine AY (α:=Nat×Int) (l0:=?l3) (m0:=?m3) (fun x=>[(9,.d (.int .i64 (x.1:Int))),(6,.d (.int .i64 x.2))]) (fun x=>[]) (fun x=>x.1<=c.syms/\x.2=((M+Tj (HT c a 0) x.1:Nat):Int)) (fun x=>c.syms-x.1) (0,(M:Int)) ?h03 ?he3 ?he23 ?hI3 ?step3
      case h03=>(simp -implicitDefEqProofs only[go_sem];rfl)
      case he3=>rfl
      case he23=>rfl
      case' step3=>(rintro⟨s,w⟩ hI3;try dsimp only at hI3)
      case' hI3=>try dsimp only
      ·exact⟨Nat.zero_le _,rfl⟩
      ·obtain⟨s1,s2⟩:=hI3
       change w=((M+Tj (HT c a 0) s:Nat):Int) at s2
       subst s2
       have h1:=hsl s
       have h2:=hsb s s1
       by_cases hsy:s<c.syms
       ·have hs':(s:Int)<((c.syms:Nat):Int):=by omega
        have h4:=hsb (s+1) hsy
        rw[Nat.succ_mul] at h4
        have hws:IntKind.i64.wrap ((s:Int)+1)=((s+1:Nat):Int):=by rw[Aa _ (by omega)];omega
        have hwz:IntKind.i64.wrap ((s:Int)*(c.code.sz:Int))=((s*c.code.sz:Nat):Int):=by rw[←Int.natCast_mul];exact Aa _ (by omega)
        obtain⟨F,hF⟩:∃F,c.mark.length+s*c.code.sz=F:=⟨_,rfl⟩
        have hwf1:IntKind.i64.wrap ((c.mark.length:Int)+((s*c.code.sz:Nat):Int))=(F:Int):=by rw[Aa _ (by omega)];omega
        (try (simp -implicitDefEqProofs only[go_sem,AH,AG,hs',hwz,hwf1]));repeat' first|(with_reducible first|exact tI|refine aI ?_ ?_|intro _)|((first|with_reducible refine AN ?_ ?_<;>intro _|(with_reducible refine isCall ?_);first|refine AE cZ ?_|refine AE cS ?_)<;>try (simp -implicitDefEqProofs only[go_sem,AH,AG,hs',hwz,hwf1]))|simp (disch:=omega) only[Al]|((with_reducible refine BS ?_);refine⟨(_,_,_),rfl,?_,?_⟩)|((with_reducible refine Ab ?_);refine⟨(_,_),rfl,?_,?_⟩)
        all_goals first|omega|(simp;done)|(simp;omega)|skip
        refine AY (α:=Nat×Int) (l0:=?l4) (m0:=?m4) (fun x=>[(12,.d (.int .i64 (x.1:Int))),(11,.d (.int .i64 x.2))]) (fun x=>[]) (fun x=>x.1<=16/\x.2=(T5 (fun z=>GN (wF c a 0 s z) c.code.sz) c.code.sz x.1:Nat)) (fun x=>16-x.1) (0,(c.code.sz:Int)) ?h04 ?he4 ?he24 ?hI4 ?step4
        case h04=>(simp -implicitDefEqProofs only[go_sem];rfl)
        case he4=>rfl
        case he24=>rfl
        case' step4=>(rintro⟨y,m⟩ hI4;try dsimp only at hI4)
        case' hI4=>try dsimp only
        ·exact⟨Nat.zero_le _,rfl⟩
        ·obtain⟨y1,y2⟩:=hI4
         change m=(T5 (fun z=>GN (wF c a 0 s z) c.code.sz) c.code.sz y:Nat) at y2
         subst y2
         by_cases hy:y<16
         ·have hy':(y:Int)<16:=by omega
          have hwy:IntKind.i64.wrap ((y:Int)+1)=((y+1:Nat):Int):=by rw[Aa _ (by omega)];omega
          have cs:=Dw c hk.code y hy
          have hl:=FN c.code y
          (try (simp -implicitDefEqProofs only[go_sem,AH,AG,hy']));repeat' first|(with_reducible first|exact tI|refine aI ?_ ?_|intro _)|((first|with_reducible refine AN ?_ ?_<;>intro _|(with_reducible refine isCall ?_);first|refine AE cs ?_)<;>try (simp -implicitDefEqProofs only[go_sem,AH,AG,hy']))|simp (disch:=omega) only[Al]|((with_reducible refine BS ?_);refine⟨(_,_,_),rfl,?_,?_⟩)|((with_reducible refine Ab ?_);refine⟨(_,_),rfl,?_,?_⟩)
          all_goals first|omega|(simp;done)|(simp;omega)|skip
          refine AY (α:=Nat×Int) (l0:=?l5) (m0:=?m5) (fun x=>[(15,.d (.int .i64 (x.1:Int))),(14,.d (.int .i64 x.2))]) (fun x=>[]) (fun x=>x.1<=c.code.sz/\x.2=(GN (wF c a 0 s y) x.1:Nat)) (fun x=>c.code.sz-x.1) (0,0) ?h05 ?he5 ?he25 ?hI5 ?step5
          case h05=>(simp -implicitDefEqProofs only[go_sem];rfl)
          case he5=>rfl
          case he25=>rfl
          case' step5=>(rintro⟨i,w⟩ hI5;try dsimp only at hI5)
          case' hI5=>try dsimp only
          ·exact⟨Nat.zero_le _,rfl⟩
          ·obtain⟨i1,i2⟩:=hI5
           change w=(GN (wF c a 0 s y) i:Nat) at i2
           subst i2
           have hcl:=Yc (wF c a 0 s y) i
           by_cases hi:i<c.code.sz
           ·have hi':(i:Int)<((c.code.stm y).length:Int):=by omega
            have hwi:IntKind.i64.wrap ((i:Int)+1)=((i+1:Nat):Int):=by rw[Aa _ (by omega)];omega
            have hwt:IntKind.i64.wrap ((F:Int)+(i:Int))=((F+i:Nat):Int):=by rw[Aa _ (by omega)];omega
            have hwc:IntKind.i64.wrap (((GN (wF c a 0 s y) i:Nat):Int)+1)=((GN (wF c a 0 s y) i+1:Nat):Int):=by rw[Aa _ (by omega)];omega
            have hG:wF c a 0 s y i=(decide (a<=F+i) && (decide (F+i<a+c.mark.length) && decide ((c.code.stm y)[i]?.getD 0≠c.mark[F+i-a]?.getD 0))):=by
             unfold wF;rw[hF,Nat.add_zero]
            by_cases hA:a<=F+i
            ·obtain⟨t,htv⟩:∃t,F+i-a=t:=⟨_,rfl⟩
             have hwu:IntKind.i64.wrap (((F+i:Nat):Int)-(a:Int))=(t:Int):=by rw[Aa _ (by omega)];omega
             rw[decide_eq_true hA,Bool.true_and,htv] at hG
             by_cases hB:t<c.mark.length
             ·have hB':(t:Int)<(c.mark.length:Int):=by omega
              rw[decide_eq_true (show F+i<a+c.mark.length by omega),Bool.true_and] at hG
              by_cases hv:(c.code.stm y)[i]?.getD 0=c.mark[t]?.getD 0
              ·rw[decide_eq_false (fun h=>h hv)] at hG
               have hst:=PI hG
               (try (simp -implicitDefEqProofs only[go_sem,AH,AG,hi',hwi,hwt,hwu,hB',hv]));repeat' first|(with_reducible first|exact tI|refine aI ?_ ?_|intro _)|((first|with_reducible refine AN ?_ ?_<;>intro _)<;>try (simp -implicitDefEqProofs only[go_sem,AH,AG,hi',hwi,hwt,hwu,hB',hv]))|simp (disch:=omega) only[Al]|((with_reducible refine BS ?_);refine⟨(_,_,_),rfl,?_,?_⟩)|((with_reducible refine Ab ?_);refine⟨(_,_),rfl,?_,?_⟩)
               all_goals first|omega|(simp;done)|(simp;omega)|skip
               all_goals first|exact hst.symm|exact congrArg (fun x:Nat=>(x:Int)) hst.symm
              ·rw[decide_eq_true hv] at hG
               have hst:=UV hG
               (try (simp -implicitDefEqProofs only[go_sem,AH,AG,hi',hwi,hwt,hwu,hB',hv,hwc]));repeat' first|(with_reducible first|exact tI|refine aI ?_ ?_|intro _)|((first|with_reducible refine AN ?_ ?_<;>intro _)<;>try (simp -implicitDefEqProofs only[go_sem,AH,AG,hi',hwi,hwt,hwu,hB',hv,hwc]))|simp (disch:=omega) only[Al]|((with_reducible refine BS ?_);refine⟨(_,_,_),rfl,?_,?_⟩)|((with_reducible refine Ab ?_);refine⟨(_,_),rfl,?_,?_⟩)
               all_goals first|omega|(simp;done)|(simp;omega)|skip
               all_goals first|exact hst.symm|exact congrArg (fun x:Nat=>(x:Int)) hst.symm
             ·have hB':¬(t:Int)<(c.mark.length:Int):=by omega
              rw[decide_eq_false (show ¬F+i<a+c.mark.length by omega),Bool.false_and] at hG
              have hst:=PI hG
              (try (simp -implicitDefEqProofs only[go_sem,AH,AG,hi',hwi,hwt,hwu,hB']));repeat' first|(with_reducible first|exact tI|refine aI ?_ ?_|intro _)|((first|with_reducible refine AN ?_ ?_<;>intro _)<;>try (simp -implicitDefEqProofs only[go_sem,AH,AG,hi',hwi,hwt,hwu,hB']))|simp (disch:=omega) only[Al]|((with_reducible refine BS ?_);refine⟨(_,_,_),rfl,?_,?_⟩)|((with_reducible refine Ab ?_);refine⟨(_,_),rfl,?_,?_⟩)
              all_goals first|omega|(simp;done)|(simp;omega)|skip
              all_goals first|exact hst.symm|exact congrArg (fun x:Nat=>(x:Int)) hst.symm
            ·have hwu:IntKind.i64.wrap (((F+i:Nat):Int)-(a:Int))=((F+i:Nat):Int)-(a:Int):=Aa _ (by omega)
             have hA':¬0<=((F+i:Nat):Int)-(a:Int):=by omega
             rw[decide_eq_false hA,Bool.false_and] at hG
             have hst:=PI hG
             (try (simp -implicitDefEqProofs only[go_sem,AH,AG,hi',hwi,hwt,hwu,hA']));repeat' first|(with_reducible first|exact tI|refine aI ?_ ?_|intro _)|((first|with_reducible refine AN ?_ ?_<;>intro _)<;>try (simp -implicitDefEqProofs only[go_sem,AH,AG,hi',hwi,hwt,hwu,hA']))|simp (disch:=omega) only[Al]|((with_reducible refine BS ?_);refine⟨(_,_,_),rfl,?_,?_⟩)|((with_reducible refine Ab ?_);refine⟨(_,_),rfl,?_,?_⟩)
             all_goals first|omega|(simp;done)|(simp;omega)|skip
             all_goals first|exact hst.symm|exact congrArg (fun x:Nat=>(x:Int)) hst.symm
           ·have hi':¬(i:Int)<((c.code.stm y).length:Int):=by omega
            have hie:i=c.code.sz:=by omega
            subst hie
            have hmm:min ((T5 (fun z=>GN (wF c a 0 s z) c.code.sz) c.code.sz y:Nat):Int) ((GN (wF c a 0 s y) c.code.sz:Nat):Int)=(T5 (fun z=>GN (wF c a 0 s z) c.code.sz) c.code.sz (y+1):Nat):=by
             rw[jp];rfl
            (try (simp -implicitDefEqProofs only[go_sem,AH,AG,hi',hmm,hwy]));repeat' first|(with_reducible first|exact tI|refine aI ?_ ?_|intro _)|((first|with_reducible refine AN ?_ ?_<;>intro _)<;>try (simp -implicitDefEqProofs only[go_sem,AH,AG,hi',hmm,hwy]))|simp (disch:=omega) only[Al]|((with_reducible refine BS ?_);refine⟨(_,_,_),rfl,?_,?_⟩)|((with_reducible refine Ab ?_);refine⟨(_,_),rfl,?_,?_⟩)
            all_goals first|omega|(simp;done)|(simp;omega)|skip
            all_goals skip
         ·have hy':¬(y:Int)<16:=by omega
          have hye:y=16:=by omega
          subst hye
          have hfl:HT c a 0 s<=c.code.sz:=RF _ _ _
          have hfe:T5 (fun z=>GN (wF c a 0 s z) c.code.sz) c.code.sz 16=HT c a 0 s:=rfl
          rw[hfe]
          have hwa:IntKind.i64.wrap (((M+Tj (HT c a 0) s:Nat):Int)+((HT c a 0 s:Nat):Int))=((M+Tj (HT c a 0) (s+1):Nat):Int):=by
           rw[Aa _ (by omega)];show _=((M+(Tj (HT c a 0) s+HT c a 0 s):Nat):Int);omega
          (try (simp -implicitDefEqProofs only[go_sem,AH,AG,hy',hwa,hws]));repeat' first|(with_reducible first|exact tI|refine aI ?_ ?_|intro _)|((first|with_reducible refine AN ?_ ?_<;>intro _)<;>try (simp -implicitDefEqProofs only[go_sem,AH,AG,hy',hwa,hws]))|simp (disch:=omega) only[Al]|((with_reducible refine BS ?_);refine⟨(_,_,_),rfl,?_,?_⟩)|((with_reducible refine Ab ?_);refine⟨(_,_),rfl,?_,?_⟩)
          all_goals first|omega|(simp;done)|(simp;omega)|skip
          all_goals skip
       ·have hs':¬(s:Int)<((c.syms:Nat):Int):=by omega
        have hse:s=c.syms:=by omega
        subst hse
        have hap:((M+Tj (HT c a 0) c.syms:Nat):Int)=QD c a:=by rw[←hM];exact dk hk (by omega)
        have hmm:min n (QD c a)=gn c (k+1):=by rw[k3,←ha];rfl
        rw[hap]
        (try (simp -implicitDefEqProofs only[go_sem,AH,AG,hs',hmm,hwk]));repeat' first|(with_reducible first|exact tI|refine aI ?_ ?_|intro _)|((first|with_reducible refine AN ?_ ?_<;>intro _|(with_reducible refine isCall ?_);first|refine AE cS ?_)<;>try (simp -implicitDefEqProofs only[go_sem,AH,AG,hs',hmm,hwk]))|simp (disch:=omega) only[Al]|((with_reducible refine BS ?_);refine⟨(_,_,_),rfl,?_,?_⟩)|((with_reducible refine Ab ?_);refine⟨(_,_),rfl,?_,?_⟩)
        all_goals first|omega|(simp;done)|(simp;omega)|skip
        exact⟨(k+1,_,_),rfl,⟨by show k+1<=c.tot-1;omega,by show ((a+1:Nat):Int)=((k+1+1:Nat):Int);omega,rfl⟩,by show c.tot-1-(k+1)<c.tot-1-k;omega⟩
   ·have hk':¬((k+1:Nat):Int)<((c.tot:Nat):Int):=by omega
    have hke:k=c.tot-1:=by omega
    subst hke
    rw[k3]
    (try (simp -implicitDefEqProofs only[go_sem,AH,AG,hk']));repeat' first|(with_reducible first|exact tI|refine aI ?_ ?_|intro _)|((first|with_reducible refine AN ?_ ?_<;>intro _|(with_reducible refine isCall ?_);first|refine AE cT ?_)<;>try (simp -implicitDefEqProofs only[go_sem,AH,AG,hk']))|simp (disch:=omega) only[Al]|((with_reducible refine BS ?_);refine⟨(_,_,_),rfl,?_,?_⟩)|((with_reducible refine Ab ?_);refine⟨(_,_),rfl,?_,?_⟩)
    all_goals first|omega|(simp;done)|(simp;omega)|skip
    all_goals first|rfl|skip
end
section
theorem WU (c:AX) (a:Nat) (l:Int):∀n,eN (Er c.code) a l n=eN c.code a l n
 |0=>rfl
 |n+1=>by unfold eN;rw[WU c a l n,Mw]
theorem WT (c:AX):∀n,Xh (Er c.code) n=Xh c.code n
 |0=>rfl
 |n+1=>by unfold Xh;rw[WT c n,WU]
theorem WV (c:AX) (r:List Int) (p q:Nat):∀n,Wz (Er c.code) r p q n=Wz c.code r p q n
 |0=>rfl
 |n+1=>by unfold Wz;rw[WV c r p q n,Mw]
theorem WW (c:AX):∀n a r,apW (EB c) n a r=apW c n a r
 |0,_,_=>rfl
 |n+1,a,r=>by
  have h1:IK (EB c) a r=IK c a r:=rfl
  have h2:Pt (EB c) a r=Pt c a r:=by
   unfold Pt
   rw[h1,show (EB c).tot=c.tot from rfl,show (EB c).mark=c.mark from rfl,show (EB c).code=Er c.code from rfl,WV];rfl
  unfold apW
  rw[h2,h1,WW c n]
theorem WX (c:AX):∀n,gn (EB c) n=gn c n
 |0=>rfl
 |n+1=>by unfold gn;rw[WX c n];unfold QD;rw[WW];rfl
theorem bj (c:AX):Q5 (EB c)=Q5 c:=by
 unfold Q5;rw[Lm,show (EB c).code=Er c.code from rfl,WT]
theorem YW (c:AX):Pm (EB c)=Pm c:=by
 unfold Pm;rw[Lm,WX];rfl
theorem YV (c:AX):Rl (EB c)=Rl c:=by
 unfold Rl;rw[Lm];rfl
theorem Re (c:AX):IP (EB c)=IP c:=by unfold IP;rw[Lm]
theorem kU {c:AX}(h:T6 c=false):c.code.far=false/\c.mark.length<=40/\c.Q<=8/\c.L<=15:=by
 unfold T6 at h
 simp only[Bool.or_eq_false_iff,decide_eq_false_iff_not] at h
 exact⟨h.1,by omega,by omega,by omega⟩
attribute [local congr] Bf A9 A_ Aq Bg Ax Az Ay Ap Aj Ad AZ Au Ae Av BK BO BM BN BL BP BE Ah Aw Ai BC BW Ag BI BJ BD BF BH BG BA BB A8 Bj A' Ar Af
attribute [local irreducible] IntKind.wrap A4 Option.getD and or
theorem OQ (c:AX):B' E0 GE [Dn c] (.bool true):=by
 have c0:=J5
 have c1:=ME c
 refine AO I_ An (by simp) fun hwf=>?_
 rw[AW];unfold Fm
 cases hf:T6 c with
 |true =>
  rw[hf] at c1
  (try (simp -implicitDefEqProofs only[go_sem,AH,AG]));repeat' first|(with_reducible first|exact tI|refine aI ?_ ?_|intro _)|((first|with_reducible refine AN ?_ ?_<;>intro _|(with_reducible refine isCall ?_);first|refine AE c0 ?_|refine AE c1 ?_)<;>try (simp -implicitDefEqProofs only[go_sem,AH,AG]))|simp (disch:=omega) only[Al]
  all_goals first|rfl|skip
 |false =>
  rw[hf] at c1
  obtain⟨f1,f2,f3,f4⟩:=kU hf
  have c2:=Qt c f1 (by omega)
  have c3:=PF (EB c)
  have c4:=Qr c
  have c5:=IC (EB c)
  have c6:=Pv c
  have c7:=N' (EB c)
  have c8:=Pu c
  rw[bj,Re] at c3
  rw[YW,Re] at c5
  rw[YV,Re] at c7
  have eX:=WY c
  (try (simp -implicitDefEqProofs only[go_sem,AH,AG,eX]));repeat' first|(with_reducible first|exact tI|refine aI ?_ ?_|intro _)|((first|with_reducible refine AN ?_ ?_<;>intro _|(with_reducible refine isCall ?_);first|refine AE c0 ?_|refine AE c1 ?_|refine AE c2 ?_|refine AE c3 ?_|refine AE c4 ?_|refine AE c5 ?_|refine AE c6 ?_|refine AE c7 ?_|refine AE c8 ?_)<;>try (simp -implicitDefEqProofs only[go_sem,AH,AG,eX]))|simp (disch:=omega) only[Al]
  all_goals first|rfl|skip
end
end Go.Pw
