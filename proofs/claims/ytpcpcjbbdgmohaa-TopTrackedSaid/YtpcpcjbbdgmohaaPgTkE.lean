/- A part of the proof. -/
import Derived.Test.YtpcpcjbbdgmohaaPgTkB
set_option linter.all false
section
open Go Go.Pw Go.Proofs
namespace Go.Pw
set_option maxRecDepth 100000
set_option maxHeartbeats 3200000
theorem K1:BK E0.P D8=true:=by kernel_rfl
attribute [local congr] DH Bv Bw BW DJ Bd Bf Be BV BH A' A0 BZ BA Ba BF Bc BG B1 CX BE B4 B5 B2 Bz B0 Bu DI Bx BX BC BB BD Bb B3
attribute [local irreducible] IntKind.wrap BR Option.getD and or
theorem Si (a:Ao) (g:a.Good) (f:Nat) (cs:List D) (p:BT->Bool) (hb:BK E0.P f=true) (hcs:Ak AV.toD1 (cs.map .d)=some cs) (ht:∀x,C6 E0 f (El x::cs) (.bool (p x))) :
  NY E0 Io [] [.d (Ek a),.d (.fn f cs)] [(5000013,0,.mapB Pm (LR (Fc a p)) (F6 a p).length)] (.map 5000013 0):=by
 obtain⟨CL,hCL⟩:∃CL,(F6 a p).length=CL:=⟨_,rfl⟩
 refine IU Lb A1 (by simp) (by simp[Rt,DZ,C5]) (by simp[Ju]) fun hwf hwo=>?_
 rw[I7];unfold HP
 (try (simp -implicitDefEqProofs only[go_sem,AM,AF]));repeat' first|(with_reducible first|exact tI|refine aI ?_ ?_|intro _)|((first|with_reducible refine AW ?_ ?_<;>intro _)<;>try (simp -implicitDefEqProofs only[go_sem,AM,AF]))|simp (disch:=omega) only[Au]|((with_reducible refine A6 ?_);refine⟨(_,_,_),rfl,?_,?_⟩)|((with_reducible refine BN ?_);refine⟨(_,_),rfl,?_,?_⟩)|((with_reducible refine BP ?_);refine⟨_,rfl,?_,?_⟩)| ((with_reducible refine Gh ?_);refine⟨(_,_),rfl,?_⟩)
 all_goals first|omega|(simp<;>omega)|skip
 refine XW (α:=(List Ay)×Nat) (so:=KA) (l0:=?l1) (m0:=?m1) (fun x=>[(5000013,.mapB Pm (LR x.1) x.2)]) (fun n x=>x.1=Dz ((a.spots.take n).filter p) 0 0/\x.2=x.1.length) (fun e x=>False) ([],0) (JW a g) Fi ?h01 ?he1 (by simp[PC.noR]) ?hw1 ?hI1 ?step1 ?hend1 ?hjump1
 case h01=>(simp -implicitDefEqProofs only[go_sem,AM,AF];(try simp only[or_true,true_or,true_and]);first|rfl|(refine⟨.inl ⟨_,rfl,rfl⟩,?_⟩<;>rfl)|exact⟨.inl ⟨⟨_,rfl,rfl⟩,rfl⟩,rfl⟩|exact⟨.inr ⟨rfl,rfl⟩,rfl⟩)
 case he1=>rfl
 case hw1=>simp -implicitDefEqProofs only[go_sem]
 case' hjump1=>(rintro e ⟨es,cl⟩ hI;try dsimp only at hI)
 case' hend1=>(rintro⟨es,cl⟩ hI;try dsimp only at hI)
 case' step1=>(rintro n ⟨es,cl⟩ ds hds hI;try dsimp only at hI)
 case' hI1=>try dsimp only
 ·exact⟨rfl,rfl⟩
 ·obtain⟨rfl,rfl⟩:=hI
  rw[List.getElem?_map] at hds
  simp only[Option.map_eq_some_iff] at hds
  obtain⟨x,hx,rfl⟩:=hds
  refine⟨rfl,?_⟩
  have hT:=ht x
  have hnew:=Sp (v:=0) (cl:=(Dz ((a.spots.take n).filter p) 0 0).length) (VH hx p 0 0)
  have htk:=GS hx p
  have hnl:=OM ((a.spots.take n).filter p) x 0 0
  have hll:=QR ((a.spots.take n).filter p) 0 0
  have hty:=Jj x
  obtain⟨L,hL⟩:∃L,(a.spots.take n).filter p=L:=⟨_,rfl⟩
  rw[hL] at hnew htk hnl hll ⊢
  obtain⟨N,hN⟩:∃N,(Dz L 0 0).length=N:=⟨_,rfl⟩
  rw[hN] at hnew hll ⊢
  rw[AX,AQ] at hnew hT hty
  obtain⟨B,hB⟩:∃B,p x=B:=⟨_,rfl⟩
  rw[hB] at hT htk
  obtain⟨hn1,hn2⟩:=hnew
  (try (simp -implicitDefEqProofs only[go_sem,AX,AQ]));repeat' first|(with_reducible first|exact tI|refine aI ?_ ?_|intro _)|((first|with_reducible refine AW ?_ ?_<;>intro _)<;>try (simp -implicitDefEqProofs only[go_sem,AX,AQ]))|simp (disch:=omega) only[Au]|((with_reducible refine A6 ?_);refine⟨(_,_,_),rfl,?_,?_⟩)|((with_reducible refine BN ?_);refine⟨(_,_),rfl,?_,?_⟩)|((with_reducible refine BP ?_);refine⟨_,rfl,?_,?_⟩)| ((with_reducible refine Gh ?_);refine⟨(_,_),rfl,?_⟩)
  all_goals first|exact hb|skip
  refine J4 hT (F9 (d:=.agg [.int .i64 x.at',.int .i64 x.sp]) rfl hcs) ?_
  cases B with
  |false =>
   (try (simp -implicitDefEqProofs only[go_sem,AX,AQ,hn1,hn2,hty]));repeat' first|(with_reducible first|exact tI|refine aI ?_ ?_|intro _)|((first|with_reducible refine AW ?_ ?_<;>intro _)<;>try (simp -implicitDefEqProofs only[go_sem,AX,AQ,hn1,hn2,hty]))|simp (disch:=omega) only[Au]|((with_reducible refine A6 ?_);refine⟨(_,_,_),rfl,?_,?_⟩)|((with_reducible refine BN ?_);refine⟨(_,_),rfl,?_,?_⟩)|((with_reducible refine BP ?_);refine⟨_,rfl,?_,?_⟩)| ((with_reducible refine Gh ?_);refine⟨(_,_),rfl,?_⟩)
   ·show Dz L 0 0=_
    rw[htk];simp
   ·exact hN.symm
  |true =>
   (try (simp -implicitDefEqProofs only[go_sem,AX,AQ,hn1,hn2,hty]));repeat' first|(with_reducible first|exact tI|refine aI ?_ ?_|intro _)|((first|with_reducible refine AW ?_ ?_<;>intro _)<;>try (simp -implicitDefEqProofs only[go_sem,AX,AQ,hn1,hn2,hty]))|simp (disch:=omega) only[Au]|((with_reducible refine A6 ?_);refine⟨(_,_,_),rfl,?_,?_⟩)|((with_reducible refine BN ?_);refine⟨(_,_),rfl,?_,?_⟩)|((with_reducible refine BP ?_);refine⟨_,rfl,?_,?_⟩)| ((with_reducible refine Gh ?_);refine⟨(_,_),rfl,?_⟩)
   ·rw[htk,if_pos rfl,hnl,hll,Nat.zero_add]
   ·rw[List.length_append,hN];rfl
 ·obtain⟨rfl,rfl⟩:=hI
  rw[List.length_map,List.take_of_length_le (Nat.le_refl _),show Dz (a.spots.filter p) 0 0=F6 a p from rfl,hCL]
  (try (simp -implicitDefEqProofs only[go_sem,AM,AF]));repeat' first|(with_reducible first|exact tI|refine aI ?_ ?_|intro _)|((first|with_reducible refine AW ?_ ?_<;>intro _)<;>try (simp -implicitDefEqProofs only[go_sem,AM,AF]))|simp (disch:=omega) only[Au]|((with_reducible refine A6 ?_);refine⟨(_,_,_),rfl,?_,?_⟩)|((with_reducible refine BN ?_);refine⟨(_,_),rfl,?_,?_⟩)|((with_reducible refine BP ?_);refine⟨_,rfl,?_,?_⟩)| ((with_reducible refine Gh ?_);refine⟨(_,_),rfl,?_⟩)
  all_goals first|omega|(simp<;>omega)|skip
  refine A5 (α:=(List Ay)) (l0:=?l2) (m0:=?m2) (fun x=>[]) (fun x=>[(5000013,.mapB Pm (LR x) CL)]) (fun x=>KI a p x) (fun x=>x.length) (F6 a p) ?h02 ?he2 ?he22 ?hI2 ?step2
  case h02=>(simp -implicitDefEqProofs only[go_sem];rfl)
  case he2=>rfl
  case he22=>rfl
  case' step2=>(rintro es hI;try dsimp only at hI)
  case' hI2=>try dsimp only
  ·exact WG a g p
  ·have hd:=hI.d
   have hn:=hI.n
   (try (simp -implicitDefEqProofs only[go_sem,AM,AF]));repeat' first|(with_reducible first|exact tI|refine aI ?_ ?_|intro _)|((first|with_reducible refine AW ?_ ?_<;>intro _)<;>try (simp -implicitDefEqProofs only[go_sem,AM,AF]))|simp (disch:=omega) only[Au]|((with_reducible refine A6 ?_);refine⟨(_,_,_),rfl,?_,?_⟩)|((with_reducible refine BN ?_);refine⟨(_,_),rfl,?_,?_⟩)|((with_reducible refine BP ?_);refine⟨_,rfl,?_,?_⟩)| ((with_reducible refine Gh ?_);refine⟨(_,_),rfl,?_⟩)
   all_goals first|omega|(simp<;>omega)|skip
   refine A5 (α:=(List Nat)×(List BT)×Bool) (l0:=?l3) (m0:=?m3) (fun x=>[]) (fun x=>[(23,.mitO 5000013 0 CL x.1),(41,.row 28 2 x.2.2 (Jn x.2.1))]) (fun x=>x.2.2=x.2.1.isEmpty/\Pi a es x.1 x.2.1/\x.2.1.length+Ji es x.1<=es.length) (fun x=>Ji es x.1) ([],[],true) ?h03 ?he3 ?he23 ?hI3 ?step3
   case h03=>(simp -implicitDefEqProofs only[go_sem];rfl)
   case he3=>rfl
   case he23=>rfl
   case' step3=>(rintro⟨seen,out,nl⟩ hI2;try dsimp only at hI2)
   case' hI3=>try dsimp only
   ·exact⟨rfl,Vq a es,by show 0+Ji es []<=_;rw[Nat.zero_add];exact List.length_filter_le _ _⟩
   ·obtain⟨hnl,hO,hle⟩:=hI2
    change nl=out.isEmpty at hnl
    change Pi a es seen out at hO
    change out.length+Ji es seen<=es.length at hle
    have hb697:=hI.b
    (try (simp -implicitDefEqProofs only[go_sem,AM,AF]));repeat' first|(with_reducible first|exact tI|refine aI ?_ ?_|intro _)|((first|with_reducible refine AW ?_ ?_<;>intro _)<;>try (simp -implicitDefEqProofs only[go_sem,AM,AF]))|simp (disch:=omega) only[Au]|((with_reducible refine A6 ?_);refine⟨(_,_,_),rfl,?_,?_⟩)|((with_reducible refine BN ?_);refine⟨(_,_),rfl,?_,?_⟩)|((with_reducible refine BP ?_);refine⟨_,rfl,?_,?_⟩)| ((with_reducible refine Gh ?_);refine⟨(_,_),rfl,?_⟩)
    refine Zb (fun e he hs=>?_) (fun hall=>?_)
    ·obtain⟨e0,he0,rfl⟩:=List.mem_map.1 he
     change seen.contains e0.1=false at hs
     have hfind:=Gi hn he0
     have hlast:(seen++[e0.1]).getLast?=some e0.1:=by simp
     have hmu:=TD he0 hs
     have cC:=E_ a g e0.2.1 (Ki g (hI.s _ he0)) (.bnd D8 [.map Pm (R' es)]) (CA es) (.inl ⟨_,_,rfl,K1,rfl,fun x=>Fx es x⟩)
     have hgood:=fun h=>Tq hO hn he0 h
     have hbad:=fun h=>Vr hO hn he0 h
     obtain⟨c,hc⟩:∃c,(Ft a (CA es) e0.2.1).getD 0=c:=⟨_,rfl⟩
     obtain⟨B,hB⟩:∃B,(Ft a (CA es) e0.2.1).isSome=B:=⟨_,rfl⟩
     rw[hc,hB,←GL,AM,AF,AX,AQ] at cC
     rw[hB] at hgood hbad
     rw[AX,AQ] at hfind
     cases B with
     |true =>
      have hg:=hgood rfl
      (try (simp -implicitDefEqProofs only[go_sem,AX,AQ,hfind,hlast]));repeat' first|(with_reducible first|exact tI|refine aI ?_ ?_|intro _)|((first|with_reducible refine AW ?_ ?_<;>intro _|(with_reducible refine isCall ?_);first|refine J2 (cC) rfl (by simp[D.flat,D.flat1,D.prim]) ?_)<;>try (simp -implicitDefEqProofs only[go_sem,AX,AQ,hfind,hlast]))|simp (disch:=omega) only[Au]|((with_reducible refine A6 ?_);refine⟨(_,_,_),rfl,?_,?_⟩)|((with_reducible refine BN ?_);refine⟨(_,_),rfl,?_,?_⟩)|((with_reducible refine BP ?_);refine⟨_,rfl,?_,?_⟩)| ((with_reducible refine Gh ?_);refine⟨(_,_),rfl,?_⟩)
      ·exact hnl
      ·exact hg
      ·omega
      ·exact hmu
     |false =>
      have hb:=hbad rfl
      (try (simp -implicitDefEqProofs only[go_sem,AX,AQ,hfind,hlast]));repeat' first|(with_reducible first|exact tI|refine aI ?_ ?_|intro _)|((first|with_reducible refine AW ?_ ?_<;>intro _|(with_reducible refine isCall ?_);first|refine J2 (cC) rfl (by simp[D.flat,D.flat1,D.prim]) ?_)<;>try (simp -implicitDefEqProofs only[go_sem,AX,AQ,hfind,hlast]))|simp (disch:=omega) only[Au]|((with_reducible refine A6 ?_);refine⟨(_,_,_),rfl,?_,?_⟩)|((with_reducible refine BN ?_);refine⟨(_,_),rfl,?_,?_⟩)|((with_reducible refine BP ?_);refine⟨_,rfl,?_,?_⟩)| ((with_reducible refine Gh ?_);refine⟨(_,_),rfl,?_⟩)
      ·rw[Bi];omega
      ·rw[Iu]
       refine⟨(seen++[e0.1],out++[e0.2.1],false),rfl,⟨?_,hb,?_⟩,hmu⟩
       ·show false=(out++[e0.2.1]).isEmpty
        simp
       ·show (out++[e0.2.1]).length+Ji es (seen++[e0.1])<=es.length
        rw[List.length_append,List.length_singleton];omega
    ·have hall':∀e,e∈es->seen.contains e.1=true:=fun e he=>hall _ (List.mem_map_of_mem he)
     have hend:=Xg hO hall'
     cases hout:out with
     |nil =>
      subst hout
      subst hnl
      have hes:=Zn hI (by rw[←hend];simp)
      rw[←hes]
      (try (simp -implicitDefEqProofs only[go_sem,AM,AF]));repeat' first|(with_reducible first|exact tI|refine aI ?_ ?_|intro _)|((first|with_reducible refine AW ?_ ?_<;>intro _)<;>try (simp -implicitDefEqProofs only[go_sem,AM,AF]))|simp (disch:=omega) only[Au]|((with_reducible refine A6 ?_);refine⟨(_,_,_),rfl,?_,?_⟩)|((with_reducible refine BN ?_);refine⟨(_,_),rfl,?_,?_⟩)|((with_reducible refine BP ?_);refine⟨_,rfl,?_,?_⟩)| ((with_reducible refine Gh ?_);refine⟨(_,_),rfl,?_⟩)
      all_goals first|omega|rfl|trace_state
     |cons o os =>
      have hne:=ZZ hO (by rw[hout];simp)
      have hnl':nl=false:=by rw[hnl,hout];rfl
      subst hnl'
      rw[←hout]
      obtain⟨hk1,hk2⟩:=Xz hI hne
      have hds:=fun i hi=>@SW es hd out i hi
      have hda:=Up es out
      rw[hend] at hda
      (try (simp -implicitDefEqProofs only[go_sem,AM,AF]));repeat' first|(with_reducible first|exact tI|refine aI ?_ ?_|intro _)|((first|with_reducible refine AW ?_ ?_<;>intro _)<;>try (simp -implicitDefEqProofs only[go_sem,AM,AF]))|simp (disch:=omega) only[Au]|((with_reducible refine A6 ?_);refine⟨(_,_,_),rfl,?_,?_⟩)|((with_reducible refine BN ?_);refine⟨(_,_),rfl,?_,?_⟩)|((with_reducible refine BP ?_);refine⟨_,rfl,?_,?_⟩)| ((with_reducible refine Gh ?_);refine⟨(_,_),rfl,?_⟩)
      all_goals first|omega|(simp<;>omega)|skip
      refine A5 (α:=Nat×(List Ay)) (l0:=?l4) (m0:=?m4) (fun x=>[(47,.d (.int .i64 (x.1:Int)))]) (fun x=>[(5000013,.mapB Pm (LR x.2) CL)]) (fun x=>x.1<=out.length/\x.2=Ko es out x.1) (fun x=>out.length-x.1) (0,es) ?h04 ?he4 ?he24 ?hI4 ?step4
      case h04=>(simp -implicitDefEqProofs only[go_sem];rfl)
      case he4=>rfl
      case he24=>rfl
      case' step4=>(rintro⟨i,M⟩ hI3;try dsimp only at hI3)
      case' hI4=>try dsimp only
      ·exact⟨Nat.zero_le _,(YP es out).symm⟩
      ·obtain⟨i1,i2⟩:=hI3
       change M=Ko es out i at i2
       subst i2
       by_cases hi:i<out.length
       ·have hi':(i:Int)<(out.length:Int):=by omega
        have wi:IntKind.i64.wrap ((i:Int)+1)=((i+1:Nat):Int):=by rw[Aw _ (by omega)];omega
        have hdi:=hds i hi
        obtain⟨x,hx⟩:∃x,out[i]?.getD default=x:=⟨_,rfl⟩
        have hty:=Jj x
        rw[hx,AX,AQ] at hdi
        rw[AX,AQ] at hty
        (try (simp -implicitDefEqProofs only[go_sem,hi',Bi,Dm,EE,hi,hx,AX,AQ,hdi,hty,wi]));repeat' first|(with_reducible first|exact tI|refine aI ?_ ?_|intro _)|((first|with_reducible refine AW ?_ ?_<;>intro _)<;>try (simp -implicitDefEqProofs only[go_sem,hi',Bi,Dm,EE,hi,hx,AX,AQ,hdi,hty,wi]))|simp (disch:=omega) only[Au]|((with_reducible refine A6 ?_);refine⟨(_,_,_),rfl,?_,?_⟩)|((with_reducible refine BN ?_);refine⟨(_,_),rfl,?_,?_⟩)|((with_reducible refine BP ?_);refine⟨_,rfl,?_,?_⟩)| ((with_reducible refine Gh ?_);refine⟨(_,_),rfl,?_⟩)
        all_goals first|omega|rfl|exact⟨_,rfl,rfl⟩|trace_state
       ·have hi':¬(i:Int)<(out.length:Int):=by omega
        have hie:i=out.length:=by omega
        subst hie
        rw[hda]
        (try (simp -implicitDefEqProofs only[go_sem,hi',Bi]));repeat' first|(with_reducible first|exact tI|refine aI ?_ ?_|intro _)|((first|with_reducible refine AW ?_ ?_<;>intro _)<;>try (simp -implicitDefEqProofs only[go_sem,hi',Bi]))|simp (disch:=omega) only[Au]|((with_reducible refine A6 ?_);refine⟨(_,_,_),rfl,?_,?_⟩)|((with_reducible refine BN ?_);refine⟨(_,_),rfl,?_,?_⟩)|((with_reducible refine BP ?_);refine⟨_,rfl,?_,?_⟩)| ((with_reducible refine Gh ?_);refine⟨(_,_),rfl,?_⟩)
        ·exact hk1
        ·exact hk2
end Go.Pw
end
section
open Go Go.Pw Go.Proofs
namespace Go.Pw
set_option maxRecDepth 100000
set_option maxHeartbeats 3200000
def I_ (a:Ao) (t:Int) (s:BT):Bool:=Eg (IntKind.i64.wrap (s.at'-t)) (-a.gate) a.gate && Eg s.sp (-a.slow) a.slow
def Pq (a:Ao) (t:Int):List D:=[.ptr [.int .i64 t],.ptr (Pe a)]
theorem J6 (a:Ao) (t:Int):Pq a t=[.ptr [.int .i64 t],.ptr (Pe a)]:=rfl
theorem Q0:BK E0.P C1=true:=by kernel_rfl
theorem Sf:BK E0.P D1=true:=by kernel_rfl
theorem U0:BK E0.P GF=true:=by kernel_rfl
theorem Uz:BK E0.P GG=true:=by kernel_rfl
attribute [local congr] DH Bv Bw BW DJ Bd Bf Be BV BH A' A0 BZ BA Ba BF Bc BG B1 CX BE B4 B5 B2 Bz B0 Bu DI Bx BX BC BB BD Bb B3
attribute [local irreducible] IntKind.wrap BR Option.getD and or
theorem NT (a:Ao) (g:a.Good) (t:Int) (s:BT):C6 E0 C1 (El s::Pq a t) (.bool (I_ a t s)):=by
 refine AU JH A1 (by simp[Pq]) fun hwf=>?_
 have g2:=g.g;have g3:=g.w;have g4:=g.s
 have w1:IntKind.i64.wrap (0-a.gate)=-a.gate:=by rw[Aw _ (by omega)];omega
 have w2:IntKind.i64.wrap (0-a.slow)=-a.slow:=by rw[Aw _ (by omega)];omega
 have c1:=Bj (IntKind.i64.wrap (s.at'-t)) (-a.gate) a.gate
 have c2:=Bj s.sp (-a.slow) a.slow
 rw[Ae];unfold FY I_
 obtain⟨W,hW⟩:∃W,IntKind.i64.wrap (s.at'-t)=W:=⟨_,rfl⟩
 rw[hW] at c1 ⊢
 generalize Eg W (-a.gate) a.gate=b1 at *
 generalize Eg s.sp (-a.slow) a.slow=b2 at *
 cases b1<;>cases b2
 all_goals ((try (simp -implicitDefEqProofs only[go_sem,AX,AQ,J6,AF,w1,w2,hW]));repeat' first|(with_reducible first|exact tI|refine aI ?_ ?_|intro _)|((first|with_reducible refine AW ?_ ?_<;>intro _|(with_reducible refine isCall ?_);first|refine AD c1 ?_|refine AD c2 ?_)<;>try (simp -implicitDefEqProofs only[go_sem,AX,AQ,J6,AF,w1,w2,hW]))|simp (disch:=omega) only[Au] )
 all_goals first|rfl|(simp;done)
theorem Nx (a:Ao) (t:Int):C6 E0 Hg [Ek a,.int .i64 t] (.fn C1 (Pq a t)):=by
 refine AU Kx A1 (by simp) fun hwf=>?_
 rw[Ae];unfold Gg
 (try (simp -implicitDefEqProofs only[go_sem,AM,AF,J6]));repeat' first|(with_reducible first|exact tI|refine aI ?_ ?_|intro _)|((first|with_reducible refine AW ?_ ?_<;>intro _)<;>try (simp -implicitDefEqProofs only[go_sem,AM,AF,J6]))|simp (disch:=omega) only[Au]
 all_goals first|rfl|(simp;done)
theorem Ny (es:List Ay) (n:Int) (x:BT):C6 E0 D1 (El x::[.ptr [.map Pm (R' es)],.ptr [.int .i64 n]]) (.bool (Xl es n x)):=by
 refine AU Jz A1 (by simp) fun hwf=>?_
 have hty:=Jj x
 rw[Ae];unfold F2 Xl
 cases hv:Co es x with
 |none =>
  have hl:=I2 hv
  rw[AX,AQ] at hl hty
  (try (simp -implicitDefEqProofs only[go_sem,AX,AQ,hl,hty]));repeat' first|(with_reducible first|exact tI|refine aI ?_ ?_|intro _)|((first|with_reducible refine AW ?_ ?_<;>intro _)<;>try (simp -implicitDefEqProofs only[go_sem,AX,AQ,hl,hty]))|simp (disch:=omega) only[Au]
  all_goals first|rfl|(simp;done)|trace_state
 |some v =>
  have hl:=I1 hv
  rw[AX,AQ] at hl hty
  (try (simp -implicitDefEqProofs only[go_sem,AX,AQ,hl,hty]));repeat' first|(with_reducible first|exact tI|refine aI ?_ ?_|intro _)|((first|with_reducible refine AW ?_ ?_<;>intro _)<;>try (simp -implicitDefEqProofs only[go_sem,AX,AQ,hl,hty]))|simp (disch:=omega) only[Au]
  all_goals first|rfl|(simp_all;done)|(simp;omega)|trace_state
theorem K3 (a:Ao) (g:a.Good) (es:List Ay) (s:BT) (hs:s.near):C6 E0 Im [Ek a,.map Pm (R' es),El s] (.int .i64 (FE a es s)):=by
 refine AU La A1 (by simp) fun hwf=>?_
 have hty:=Jj s
 rw[Ae];unfold HO FE
 obtain⟨n,hn⟩:∃n,(Co es s).getD 0=n:=⟨_,rfl⟩
 have cC:=E_ a g s hs (.fn D1 [.ptr [.map Pm (R' es)],.ptr [.int .i64 n]]) (Xl es n) (.inr ⟨_,_,rfl,Sf,rfl,fun x=>Ny es n x⟩)
 rw[hn]
 rw[AM,AF,AX,AQ] at cC
 cases hv:Co es s with
 |none =>
  rw[hv] at hn
  have hl:=I2 hv
  have hn0:n=0:=by rw[←hn];simp
  subst hn0
  rw[AX,AQ] at hl hty
  (try (simp -implicitDefEqProofs only[go_sem,AM,AF,AX,AQ,hl,hty]));repeat' first|(with_reducible first|exact tI|refine aI ?_ ?_|intro _)|((first|with_reducible refine AW ?_ ?_<;>intro _|(with_reducible refine isCall ?_);first|refine AD cC ?_)<;>try (simp -implicitDefEqProofs only[go_sem,AM,AF,AX,AQ,hl,hty]))|simp (disch:=omega) only[Au]
  all_goals first|rfl|(simp;done)|trace_state
 |some v =>
  rw[hv] at hn
  have hl:=I1 hv
  have hn0:n=v:=by rw[←hn];simp
  subst hn0
  rw[AX,AQ] at hl hty
  (try (simp -implicitDefEqProofs only[go_sem,AM,AF,AX,AQ,hl,hty]));repeat' first|(with_reducible first|exact tI|refine aI ?_ ?_|intro _)|((first|with_reducible refine AW ?_ ?_<;>intro _|(with_reducible refine isCall ?_);first|refine AD cC ?_)<;>try (simp -implicitDefEqProofs only[go_sem,AM,AF,AX,AQ,hl,hty]))|simp (disch:=omega) only[Au]
  all_goals first|rfl|(simp;done)|trace_state
theorem N0 (nl:Bool) (xs:List BT) (f:FuncId) (cs:List D) (p:BT->Bool) (hb:BK E0.P f=true) (hcs:Ak AV.toD1 (cs.map .d)=some cs) (h:∀x,x∈xs->C6 E0 f (El x::cs) (.bool (p x))) :
  C6 E0 Cj [.list nl (Jn xs),.fn f cs] (.int .i64 (match xs.findIdx? p with|some i=>i|none=>-1)):=by
 refine AU Dp A1 (by simp) fun hwf=>?_
 simp only[EZ,D_,D9,Dw,E5,E4,HB,E3,CJ,Cf,Cg,EB,Cu,List.length_map,Cz,true_and,and_true,Bi] at hwf
 rw[Ae];unfold Cb
 simp -implicitDefEqProofs only[go_sem,Bi]
 refine A5 (α:=Int) (l0:=?l1) (m0:=?m1) (fun x=>[(8,.d (.int .i64 x))]) (fun x=>[]) (fun x=>0<=x/\x<=xs.length/\∀(j:Nat) (hj:j<xs.length),(j:Int)<x->p xs[j]=false) (fun x=>(xs.length-x).toNat) ?a1_0 ?h01 ?he1 ?he21 ?hI1 ?step1
 case h01=>(simp -implicitDefEqProofs only[go_sem,Bi];rfl)
 case he1=>rfl
 case he21=>rfl
 case' step1=>(rintro i hI;try dsimp only at hI)
 case' hI1=>try dsimp only
 ·simp
  omega
 ·(try (simp -implicitDefEqProofs only[go_sem,Bi,EE,Dm,AX,AQ]));repeat' first|(with_reducible first|exact tI|refine aI ?_ ?_|intro _)|((first|with_reducible refine AW ?_ ?_<;>intro _)<;>try (simp -implicitDefEqProofs only[go_sem,Bi,EE,Dm,AX,AQ]))|simp (disch:=omega) only[Au]|((with_reducible refine BP ?_);refine⟨_,rfl,?_,?_⟩)
  all_goals first|omega|(simp<;>omega)|skip
  ·have hx:xs[i.toNat]?.getD default=xs[i.toNat]'(by omega):=by rw[List.getElem?_eq_getElem (by omega),Option.getD_some]
   rw[hx]
   refine Wo (h _ (List.getElem_mem _)) (F9 rfl hcs) (fun hp=>?_) (fun hp=>?_)
   ·simp -implicitDefEqProofs only[go_sem]
    have:xs.findIdx? p=some i.toNat:=by rw[List.findIdx?_eq_some_iff_getElem];exact⟨by omega,hp,fun j hj=>by simp[hI.2.2 j (by omega) (by omega)]⟩
    rw[this];simp;omega
   ·(try (simp -implicitDefEqProofs only[go_sem,Bi]));repeat' first|(with_reducible first|exact tI|refine aI ?_ ?_|intro _)|((first|with_reducible refine AW ?_ ?_<;>intro _)<;>try (simp -implicitDefEqProofs only[go_sem,Bi]))|simp (disch:=omega) only[Au]|((with_reducible refine BP ?_);refine⟨_,rfl,?_,?_⟩)
    all_goals first|omega|(simp<;>omega)|skip
    rename_i j hj hlt
    by_cases hjk:j=i.toNat
    ·subst hjk;exact hp
    ·exact hI.2.2 j hj (by omega)
  ·have:xs.findIdx? p=none:=by
    rw[List.findIdx?_eq_none_iff];intro x hx;obtain⟨j,hj,rfl⟩:=List.getElem_of_mem hx;exact hI.2.2 j hj (by omega)
   rw[this]
theorem Le (nl:Bool) (xs:List BT) (f:FuncId) (cs:List D) (p:BT->Bool) (hb:BK E0.P f=true) (hcs:Ak AV.toD1 (cs.map .d)=some cs) (h:∀x,x∈xs->C6 E0 f (El x::cs) (.bool (p x))) :
  C6 E0 CS [.list nl (Jn xs),.fn f cs] (.bool (xs.any p)):=by
 refine AU DT A1 (by simp) fun hwf=>?_
 rw[Ae];unfold CN
 simp -implicitDefEqProofs only[go_sem]
 refine J4 (N0 nl xs f cs p hb hcs h) rfl ?_
 simp -implicitDefEqProofs only[go_sem]
 have key:(0:Int)<=(match xs.findIdx? p with|some i=>(i:Int)|none=>-1)↔xs.any p=true:=by
  cases hf:xs.findIdx? p with
  |none=>rw[List.findIdx?_eq_none_iff] at hf;simp;intro x hx;simp[hf x hx]
  |some i=>rw[List.findIdx?_eq_some_iff_getElem] at hf;simp;exact⟨_,List.getElem_mem hf.1,hf.2.1⟩
 grind
theorem N1 (nl:Bool) (xs:List Int) (f:FuncId) (cs:List D) (p:Int->Bool) (hb:BK E0.P f=true) (hcs:Ak AV.toD1 (cs.map .d)=some cs) (h:∀x,x∈xs->C6 E0 f (.int .i64 x::cs) (.bool (p x))) :
  C6 E0 Dv [.list nl (CT xs),.fn f cs] (.int .i64 (match xs.findIdx? p with|some i=>i|none=>-1)):=by
 refine AU E9 A1 (by simp) fun hwf=>?_
 simp only[EZ,D_,D9,Dw,E5,E4,HB,E3,CJ,Cf,Cg,EB,Cu,List.length_map,Cz,true_and,and_true] at hwf
 rw[Ae];unfold Dg
 simp -implicitDefEqProofs only[go_sem]
 refine A5 (α:=Int) (l0:=?l2) (m0:=?m2) (fun x=>[(8,.d (.int .i64 x))]) (fun x=>[]) (fun x=>0<=x/\x<=xs.length/\∀(j:Nat) (hj:j<xs.length),(j:Int)<x->p xs[j]=false) (fun x=>(xs.length-x).toNat) ?a2_0 ?h02 ?he2 ?he22 ?hI2 ?step2
 case h02=>(simp -implicitDefEqProofs only[go_sem];rfl)
 case he2=>rfl
 case he22=>rfl
 case' step2=>(rintro i hI;try dsimp only at hI)
 case' hI2=>try dsimp only
 ·simp
  omega
 ·(try (simp -implicitDefEqProofs only[go_sem]));repeat' first|(with_reducible first|exact tI|refine aI ?_ ?_|intro _)|((first|with_reducible refine AW ?_ ?_<;>intro _)<;>try (simp -implicitDefEqProofs only[go_sem]))|simp (disch:=omega) only[Au]|((with_reducible refine BP ?_);refine⟨_,rfl,?_,?_⟩)
  all_goals first|omega|(simp<;>omega)|skip
  ·have hx:xs[i.toNat]?.getD 0=xs[i.toNat]'(by omega):=by rw[List.getElem?_eq_getElem (by omega),Option.getD_some]
   rw[hx]
   refine Wo (h _ (List.getElem_mem _)) (F9 rfl hcs) (fun hp=>?_) (fun hp=>?_)
   ·simp -implicitDefEqProofs only[go_sem]
    have:xs.findIdx? p=some i.toNat:=by rw[List.findIdx?_eq_some_iff_getElem];exact⟨by omega,hp,fun j hj=>by simp[hI.2.2 j (by omega) (by omega)]⟩
    rw[this];simp;omega
   ·(try (simp -implicitDefEqProofs only[go_sem]));repeat' first|(with_reducible first|exact tI|refine aI ?_ ?_|intro _)|((first|with_reducible refine AW ?_ ?_<;>intro _)<;>try (simp -implicitDefEqProofs only[go_sem]))|simp (disch:=omega) only[Au]|((with_reducible refine BP ?_);refine⟨_,rfl,?_,?_⟩)
    all_goals first|omega|(simp<;>omega)|skip
    rename_i j hj hlt
    by_cases hjk:j=i.toNat
    ·subst hjk;exact hp
    ·exact hI.2.2 j hj (by omega)
  ·have:xs.findIdx? p=none:=by
    rw[List.findIdx?_eq_none_iff];intro x hx;obtain⟨j,hj,rfl⟩:=List.getElem_of_mem hx;exact hI.2.2 j hj (by omega)
   rw[this]
theorem Lf (nl:Bool) (xs:List Int) (f:FuncId) (cs:List D) (p:Int->Bool) (hb:BK E0.P f=true) (hcs:Ak AV.toD1 (cs.map .d)=some cs) (h:∀x,x∈xs->C6 E0 f (.int .i64 x::cs) (.bool (p x))) :
  C6 E0 DL [.list nl (CT xs),.fn f cs] (.bool (xs.any p)):=by
 refine AU EV A1 (by simp) fun hwf=>?_
 rw[Ae];unfold C8
 simp -implicitDefEqProofs only[go_sem]
 refine J4 (N1 nl xs f cs p hb hcs h) rfl ?_
 simp -implicitDefEqProofs only[go_sem]
 have key:(0:Int)<=(match xs.findIdx? p with|some i=>(i:Int)|none=>-1)↔xs.any p=true:=by
  cases hf:xs.findIdx? p with
  |none=>rw[List.findIdx?_eq_none_iff] at hf;simp;intro x hx;simp[hf x hx]
  |some i=>rw[List.findIdx?_eq_some_iff_getElem] at hf;simp;exact⟨_,List.getElem_mem hf.1,hf.2.1⟩
 grind
theorem Pb (a:Ao) (g:a.Good) (s:BT):C6 E0 GF (El s::[.ptr (Pe a)]) (.bool (!a.has s)):=by
 refine AU Nr A1 (by simp) fun hwf=>?_
 have c1:=Lz a g s
 rw[Ae];unfold KP
 rw[AM,AF,AX,AQ] at c1
 obtain⟨b,hb⟩:∃b,a.has s=b:=⟨_,rfl⟩
 rw[hb] at c1 ⊢
 cases b
 all_goals ((try (simp -implicitDefEqProofs only[go_sem,AF,AX,AQ]));repeat' first|(with_reducible first|exact tI|refine aI ?_ ?_|intro _)|((first|with_reducible refine AW ?_ ?_<;>intro _|(with_reducible refine isCall ?_);first|refine AD c1 ?_)<;>try (simp -implicitDefEqProofs only[go_sem,AF,AX,AQ]))|simp (disch:=omega) only[Au] )
 all_goals first|rfl|(simp;done)
theorem Pc (a:Ao) (g:a.Good) (n:Int):C6 E0 GG (.int .i64 n::[.ptr (Pe a)]) (.bool (!Eg n (-a.shake) a.shake)):=by
 refine AU Nt A1 (by simp) fun hwf=>?_
 have g2:=g.k
 have w1:IntKind.i64.wrap (0-a.shake)=-a.shake:=by rw[Aw _ (by omega)];omega
 have c1:=Bj n (-a.shake) a.shake
 rw[Ae];unfold KR
 obtain⟨b,hb⟩:∃b,Eg n (-a.shake) a.shake=b:=⟨_,rfl⟩
 rw[hb] at c1 ⊢
 cases b
 all_goals ((try (simp -implicitDefEqProofs only[go_sem,AF,w1]));repeat' first|(with_reducible first|exact tI|refine aI ?_ ?_|intro _)|((first|with_reducible refine AW ?_ ?_<;>intro _|(with_reducible refine isCall ?_);first|refine AD c1 ?_)<;>try (simp -implicitDefEqProofs only[go_sem,AF,w1]))|simp (disch:=omega) only[Au] )
 all_goals first|rfl|(simp;done)
def Yj (a:Ao) (t:Int) (s:BT):Int:=if a.ok then (if Eg t 0 a.last then (if a.has s then 0 else 61) else 1) else 60
theorem L0 (a:Ao) (t:Int) (s:BT):C6 E0 Oo [Ek a,.int .i64 t,.list false [El s]] (.tup [Ek a,.int .i64 (Yj a t s)]):=by
 refine AU Qs A1 (by simp) fun hwf=>?_
 have c1:=Nz a
 have c2:=Bj t 0 a.last
 rw[Ae];unfold M0 Yj
 rw[AM,AF] at c1
 cases hok:a.ok with
 |false =>
  rw[hok] at c1
  (try (simp -implicitDefEqProofs only[go_sem,AM,AF]));repeat' first|(with_reducible first|exact tI|refine aI ?_ ?_|intro _)|((first|with_reducible refine AW ?_ ?_<;>intro _|(with_reducible refine isCall ?_);first|refine AD c1 ?_)<;>try (simp -implicitDefEqProofs only[go_sem,AM,AF]))|simp (disch:=omega) only[Au]
  all_goals first|rfl|(simp;done)|trace_state
 |true =>
  rw[hok] at c1
  have g:=IV hok
  cases hin:Eg t 0 a.last with
  |false =>
   rw[hin] at c2
   (try (simp -implicitDefEqProofs only[go_sem,AM,AF]));repeat' first|(with_reducible first|exact tI|refine aI ?_ ?_|intro _)|((first|with_reducible refine AW ?_ ?_<;>intro _|(with_reducible refine isCall ?_);first|refine AD c1 ?_|refine AD c2 ?_)<;>try (simp -implicitDefEqProofs only[go_sem,AM,AF]))|simp (disch:=omega) only[Au]
   all_goals first|rfl|(simp;done)|trace_state
  |true =>
   rw[hin] at c2
   have c3:=Le false [s] GF [.ptr (Pe a)] (fun x=>!a.has x) U0 rfl (fun x _=>Pb a g x)
   rw[show ([s].any fun x=>!a.has x)=!a.has s from by simp,show Jn [s]=[El s] from rfl,AF] at c3
   cases hh:a.has s with
   |false =>
    rw[hh] at c3
    (try (simp -implicitDefEqProofs only[go_sem,AM,AF]));repeat' first|(with_reducible first|exact tI|refine aI ?_ ?_|intro _)|((first|with_reducible refine AW ?_ ?_<;>intro _|(with_reducible refine isCall ?_);first|refine AD c1 ?_|refine AD c2 ?_|refine AD c3 ?_)<;>try (simp -implicitDefEqProofs only[go_sem,AM,AF]))|simp (disch:=omega) only[Au]
    all_goals first|rfl|(simp;done)|trace_state
   |true =>
    rw[hh] at c3
    (try (simp -implicitDefEqProofs only[go_sem,AM,AF]));repeat' first|(with_reducible first|exact tI|refine aI ?_ ?_|intro _)|((first|with_reducible refine AW ?_ ?_<;>intro _|(with_reducible refine isCall ?_);first|refine AD c1 ?_|refine AD c2 ?_|refine AD c3 ?_)<;>try (simp -implicitDefEqProofs only[go_sem,AM,AF]))|simp (disch:=omega) only[Au]
    all_goals first|rfl|(simp;done)|trace_state
end Go.Pw
end
section
open Go Go.Pw Go.Proofs
namespace Go.Pw
set_option maxRecDepth 100000
set_option maxHeartbeats 3200000
structure PI (a:Ao) (p:BT->Bool) (n:Int) (es:List Ay) (cl:Nat):Prop where
 n1:1<=n
 b:n+M_ a es<=698
 k:∃f,M_ a es<f/\My a f n es cl=JN a p
theorem Vm (a:Ao) (g:a.Good) (p:BT->Bool):PI a p 1 (Fc a p) (F6 a p).length where
 n1:=Int.le_refl 1
 b:=by
  have h1:M_ a (Fc a p)<=a.spots.length:=List.length_filter_le _ _
  have h2:=J_ g
  omega
 k:=⟨_,Nat.lt_succ_self _,rfl⟩
theorem Xd {a:Ao}{p:BT->Bool}{n:Int}{es:List Ay}{cl:Nat}(h:PI a p n es cl) (hne:D5 a es≠[]):PI a p (n+1) (es++Dz (D5 a es) cl n) (cl+(D5 a es).length):=by
 have hlt:=S4 (cl:=cl) (v:=n) hne
 have h1:=h.n1;have h2:=h.b
 refine⟨by omega,by omega,?_⟩
 obtain⟨f,h3,h4⟩:=h.k
 match f,h3,h4 with
 |0,h3,_=>omega
 |f+1,h3,h4 =>
  rw[My,if_neg hne] at h4
  exact⟨f,by omega,h4⟩
theorem ZW {a:Ao}{p:BT->Bool}{n:Int}{es:List Ay}{cl:Nat}(h:PI a p n es cl) (he:D5 a es=[]):JN a p=(es,cl):=by
 obtain⟨f,h3,h4⟩:=h.k
 match f,h3,h4 with
 |0,h3,_=>omega
 |f+1,h3,h4=>rw[My,if_pos he] at h4;exact h4.symm
theorem R0 (a:Ao) (es:List Ay):(D5 a es).Nodup:=List.Nodup.sublist List.filter_sublist (Eu a)
theorem Xt {a:Ao}(g:a.Good) (es:List Ay):(D5 a es).length<=697:=Nat.le_trans (List.length_filter_le _ _) (J_ g)
theorem WB {a:Ao}{es:List Ay}{l:List BT}(hl:D5 a es=l) {i:Nat}(hi:i<l.length) (cl:Nat) (v:Int):Co (es++Dz (l.take i) cl v) (l[i]?.getD default)=none:=by
 have hx:l[i]?.getD default=l[i]:=by rw[List.getElem?_eq_getElem hi];rfl
 rw[hx]
 have h1:CA es l[i]=false:=by
  have hm:l[i]∈D5 a es:=by rw[hl];exact List.getElem_mem hi
  have:=(List.mem_filter.1 hm).2
  rw[Bool.and_eq_true] at this
  simpa using this.1
 have h2:l[i]∉l.take i:=fun hm=>by
  obtain⟨j,hj,he⟩:=List.getElem_of_mem hm
  rw[List.length_take] at hj
  rw[List.getElem_take] at he
  have hnd:l.Nodup:=by rw[←hl];exact R0 a es
  have:=(List.getElem_inj hnd).1 he
  omega
 have h3:=M8 es (l.take i) cl v l[i]
 rw[h1,decide_eq_false h2] at h3
 cases hv:Co (es++Dz (l.take i) cl v) l[i] with
 |none=>rfl
 |some w=>unfold CA at h3;rw[hv] at h3;cases h3
theorem T3 {es:List Ay}{l:List BT}{i:Nat}(hi:i<l.length) (cl:Nat) (v:Int):es++Dz (l.take i) cl v++[(cl+i,l[i]?.getD default,v)]=es++Dz (l.take (i+1)) cl v:=by
 rw[List.take_add_one,List.getElem?_eq_getElem hi,Option.toList_some,OM,List.append_assoc,List.length_take,Nat.min_eq_left (by omega)];rfl
def bS (a:Ao) (es:List Ay) (cl:Nat):List BT->List (Nat×Nat×AR)
 |[]=>[(5000002,0,.cells [.d (.int .i64 a.last),.d (.int .i64 a.speed),.d (.int .i64 a.force),.d (.int .i64 a.shake),.d (.int .i64 a.gate),.d (.int .i64 a.slow)]),(5000005,0,.cells [.map 5000017 0]),(5000007,0,.cells [.d (.list true [])]),(5000017,0,.mapB Pm (LR es) cl)]
 |x::xs=>[(38,0,.row 28 2 false (Jn (x::xs))),(5000002,0,.cells [.d (.int .i64 a.last),.d (.int .i64 a.speed),.d (.int .i64 a.force),.d (.int .i64 a.shake),.d (.int .i64 a.gate),.d (.int .i64 a.slow)]),(5000005,0,.cells [.map 5000017 0]),(5000007,0,.cells [.own 38 0]),(5000017,0,.mapB Pm (LR es) cl)]
theorem JO (a:Ao) (es:List Ay) (cl:Nat):bS a es cl []=[(5000002,0,.cells [.d (.int .i64 a.last),.d (.int .i64 a.speed),.d (.int .i64 a.force),.d (.int .i64 a.shake),.d (.int .i64 a.gate),.d (.int .i64 a.slow)]),(5000005,0,.cells [.map 5000017 0]),(5000007,0,.cells [.d (.list true [])]),(5000017,0,.mapB Pm (LR es) cl)]:=rfl
theorem Lq (a:Ao) (es:List Ay) (cl:Nat) (x:BT) (xs:List BT):bS a es cl (x::xs)=[(38,0,.row 28 2 false (Jn (x::xs))),(5000002,0,.cells [.d (.int .i64 a.last),.d (.int .i64 a.speed),.d (.int .i64 a.force),.d (.int .i64 a.shake),.d (.int .i64 a.gate),.d (.int .i64 a.slow)]),(5000005,0,.cells [.map 5000017 0]),(5000007,0,.cells [.own 38 0]),(5000017,0,.mapB Pm (LR es) cl)]:=rfl
attribute [local congr] DH Bv Bw BW DJ Bd Bf Be BV BH A' A0 BZ BA Ba BF Bc BG B1 CX BE B4 B5 B2 Bz B0 Bu DI Bx BX BC BB BD Bb B3
attribute [local irreducible] IntKind.wrap BR Option.getD and or
theorem NU (a:Ao) (g:a.Good) (t:Int) :
  NY E0 Il [] [.d (Ek a),.d (.int .i64 t)] [(5000017,0,.mapB Pm (LR (JN a (I_ a t)).1) (JN a (I_ a t)).2)] (.map 5000017 0):=by
 obtain⟨p,hp⟩:∃p,I_ a t=p:=⟨_,rfl⟩
 have c1:=Nx a t
 have cK:=Si a g C1 (Pq a t) (I_ a t) Q0 rfl (fun x=>NT a g t x)
 have hst:=Vm a g p
 rw[hp] at cK ⊢
 obtain⟨CL,hCL⟩:∃CL,(F6 a p).length=CL:=⟨_,rfl⟩
 obtain⟨E1,hE1⟩:∃E1,Fc a p=E1:=⟨_,rfl⟩
 rw[hCL,hE1] at cK hst
 rw[AM,AF] at c1 cK
 refine IU LZ A1 (by simp) (by simp[Rt,DZ,C5]) (by simp[Ju]) fun hwf hwo=>?_
 rw[I7];unfold HN
 (try (simp -implicitDefEqProofs only[go_sem,AM,AF]));repeat' first|(with_reducible first|exact tI|refine aI ?_ ?_|intro _)|((first|with_reducible refine AW ?_ ?_<;>intro _|(with_reducible refine isCall ?_);first|refine AD c1 ?_|(refine J3 ([]) ([((5000013,0),(17,1))]) (cK) (by repeat' first|exact True.intro|exact rfl|refine And.intro ?_ ?_) (by simp[D4,D7.get,AR.ren,AV.ren,AV.ren.renL,AK.get,Av,CH,Fs,AK.reach,AV.sites,AV.sites.sitesL,AK.osites]) (by simp[DN,Ju,DZ,D7.get,Fs,C5,CD,GN,Ep]) (by rfl) (by simp only[E2,D7.get,AR.ren,AV.ren,AV.ren.renL,and_self,and_true,true_and,if_true,reduceIte];rfl) ?_))<;>try (simp -implicitDefEqProofs only[go_sem,AM,AF]))|simp (disch:=omega) only[Au]|((with_reducible refine A6 ?_);refine⟨(_,_,_),rfl,?_,?_⟩)
 all_goals first|omega|(simp<;>omega)|skip
 refine A5 (α:=Int×(List Ay)×Nat) (l0:=?l1) (m0:=?m1) (fun x=>[(6,.d (.int .i64 x.1))]) (fun x=>[(17,.mapB Pm (LR x.2.1) x.2.2)]) (fun x=>PI a p x.1 x.2.1 x.2.2) (fun x=>M_ a x.2.1) (1,E1,CL) ?h01 ?he1 ?he21 ?hI1 ?step1
 case h01=>(simp -implicitDefEqProofs only[go_sem,decide_true,decide_false];rfl)
 case he1=>rfl
 case he21=>rfl
 case' step1=>(rintro⟨n,es,cl⟩ hI;try dsimp only at hI)
 case' hI1=>try dsimp only
 ·exact hst
 ·change PI a p n es cl at hI
  have hn1:=hI.n1
  have hnb:=hI.b
  have hmle:=Xt g es
  (try (simp -implicitDefEqProofs only[go_sem,AM,AF]));repeat' first|(with_reducible first|exact tI|refine aI ?_ ?_|intro _)|((first|with_reducible refine AW ?_ ?_<;>intro _)<;>try (simp -implicitDefEqProofs only[go_sem,AM,AF]))|simp (disch:=omega) only[Au]|((with_reducible refine A6 ?_);refine⟨(_,_,_),rfl,?_,?_⟩)
  all_goals first|omega|(simp<;>omega)|skip
  have cR:=JW a g
  refine Sy (α:=List BT) (fun l=>⟨Av (bS a es cl l),fun _=>1⟩) (fun k l=>l=(a.spots.take k).filter fun s=>!CA es s && (Ft a (CA es) s).isSome) (fun e x=>False) [] (sl1:=Cy ?l7) ?h07 (fun _=>rfl) Fi (by simp[PC.noR]) cR ?hw7 rfl ?step7 ?hend7 (fun e x h=>h.elim)
  case h07 =>
   simp -implicitDefEqProofs only[go_sem,AM,AF,JO]
   refine⟨.inl ⟨_,rfl,rfl⟩,?_⟩<;>rfl
  case hw7 =>
   simp -implicitDefEqProofs only[go_sem,JO]
  case step7 =>
   intro k l ds hds hl
   rw[List.getElem?_map] at hds
   simp only[Option.map_eq_some_iff] at hds
   obtain⟨x,hx,rfl⟩:=hds
   change l=(a.spots.take k).filter fun s=>!CA es s && (Ft a (CA es) s).isSome at hl
   refine⟨rfl,?_⟩
   have htk:=GS hx fun s=>!CA es s && (Ft a (CA es) s).isSome
   have hxs:a.has x=true:=Iv.1 (List.mem_of_getElem? hx)
   have hlen:l.length<=697:=by
    rw[hl]
    exact Nat.le_trans (List.length_filter_le _ _) (Nat.le_trans (by rw[List.length_take];exact Nat.min_le_right _ _) (J_ g))
   have c3:=Fx es x
   have cC:=E_ a g x (Ki g hxs) (.bnd D8 [.map Pm (R' es)]) (CA es) (.inl ⟨_,_,rfl,K1,rfl,fun x=>Fx es x⟩)
   rw[←GL,AX,AQ] at c3
   rw[←GL,AM,AF,AX,AQ] at cC
   obtain⟨c,hc⟩:∃c,(Ft a (CA es) x).getD 0=c:=⟨_,rfl⟩
   rw[hc] at cC
   cases l with
   |nil =>
    cases hmm:CA es x with
    |true =>
     rw[hmm] at c3
     have hq:(!CA es x && (Ft a (CA es) x).isSome)=false:=by rw[hmm];simp
     rw[if_neg (by rw[hq];simp),List.append_nil,←hl] at htk
     (try (simp -implicitDefEqProofs only[go_sem,JO,AX,AQ]));repeat' first|(with_reducible first|exact tI|refine aI ?_ ?_|intro _)|((first|with_reducible refine AW ?_ ?_<;>intro _|(with_reducible refine isCall ?_);first|refine AD c3 ?_)<;>try (simp -implicitDefEqProofs only[go_sem,JO,AX,AQ]))|simp (disch:=omega) only[Au]|((with_reducible refine A6 ?_);refine⟨(_,_,_),rfl,?_,?_⟩)
     all_goals first|exact⟨_,rfl,htk.symm⟩|trace_state
    |false =>
     rw[hmm] at c3
     cases hB:(Ft a (CA es) x).isSome with
     |false =>
      rw[hB] at cC
      have hq:(!CA es x && (Ft a (CA es) x).isSome)=false:=by rw[hB];simp
      rw[if_neg (by rw[hq];simp),List.append_nil,←hl] at htk
      (try (simp -implicitDefEqProofs only[go_sem,JO,AX,AQ]));repeat' first|(with_reducible first|exact tI|refine aI ?_ ?_|intro _)|((first|with_reducible refine AW ?_ ?_<;>intro _|(with_reducible refine isCall ?_);first|refine AD c3 ?_|refine J2 (cC) rfl (by simp[D.flat,D.flat1,D.prim]) ?_)<;>try (simp -implicitDefEqProofs only[go_sem,JO,AX,AQ]))|simp (disch:=omega) only[Au]|((with_reducible refine A6 ?_);refine⟨(_,_,_),rfl,?_,?_⟩)
      all_goals first|exact⟨_,rfl,htk.symm⟩|trace_state
     |true =>
      rw[hB] at cC
      have hq:(!CA es x && (Ft a (CA es) x).isSome)=true:=by rw[hmm,hB];simp
      rw[if_pos hq,←hl] at htk
      (try (simp -implicitDefEqProofs only[go_sem,JO,AX,AQ]));repeat' first|(with_reducible first|exact tI|refine aI ?_ ?_|intro _)|((first|with_reducible refine AW ?_ ?_<;>intro _|(with_reducible refine isCall ?_);first|refine AD c3 ?_|refine J2 (cC) rfl (by simp[D.flat,D.flat1,D.prim]) ?_)<;>try (simp -implicitDefEqProofs only[go_sem,JO,AX,AQ]))|simp (disch:=omega) only[Au]|((with_reducible refine A6 ?_);refine⟨(_,_,_),rfl,?_,?_⟩)
      all_goals first|(rw[Bi];omega)|(rw[Iu];exact⟨_,rfl,htk.symm⟩)|exact⟨_,rfl,htk.symm⟩|trace_state
   |cons y ys =>
    cases hmm:CA es x with
    |true =>
     rw[hmm] at c3
     have hq:(!CA es x && (Ft a (CA es) x).isSome)=false:=by rw[hmm];simp
     rw[if_neg (by rw[hq];simp),List.append_nil,←hl] at htk
     (try (simp -implicitDefEqProofs only[go_sem,Lq,AX,AQ]));repeat' first|(with_reducible first|exact tI|refine aI ?_ ?_|intro _)|((first|with_reducible refine AW ?_ ?_<;>intro _|(with_reducible refine isCall ?_);first|refine AD c3 ?_)<;>try (simp -implicitDefEqProofs only[go_sem,Lq,AX,AQ]))|simp (disch:=omega) only[Au]|((with_reducible refine A6 ?_);refine⟨(_,_,_),rfl,?_,?_⟩)
     all_goals first|exact⟨_,rfl,htk.symm⟩|trace_state
    |false =>
     rw[hmm] at c3
     cases hB:(Ft a (CA es) x).isSome with
     |false =>
      rw[hB] at cC
      have hq:(!CA es x && (Ft a (CA es) x).isSome)=false:=by rw[hB];simp
      rw[if_neg (by rw[hq];simp),List.append_nil,←hl] at htk
      (try (simp -implicitDefEqProofs only[go_sem,Lq,AX,AQ]));repeat' first|(with_reducible first|exact tI|refine aI ?_ ?_|intro _)|((first|with_reducible refine AW ?_ ?_<;>intro _|(with_reducible refine isCall ?_);first|refine AD c3 ?_|refine J2 (cC) rfl (by simp[D.flat,D.flat1,D.prim]) ?_)<;>try (simp -implicitDefEqProofs only[go_sem,Lq,AX,AQ]))|simp (disch:=omega) only[Au]|((with_reducible refine A6 ?_);refine⟨(_,_,_),rfl,?_,?_⟩)
      all_goals first|exact⟨_,rfl,htk.symm⟩|trace_state
     |true =>
      rw[hB] at cC
      have hq:(!CA es x && (Ft a (CA es) x).isSome)=true:=by rw[hmm,hB];simp
      rw[if_pos hq,←hl] at htk
      (try (simp -implicitDefEqProofs only[go_sem,Lq,AX,AQ]));repeat' first|(with_reducible first|exact tI|refine aI ?_ ?_|intro _)|((first|with_reducible refine AW ?_ ?_<;>intro _|(with_reducible refine isCall ?_);first|refine AD c3 ?_|refine J2 (cC) rfl (by simp[D.flat,D.flat1,D.prim]) ?_)<;>try (simp -implicitDefEqProofs only[go_sem,Lq,AX,AQ]))|simp (disch:=omega) only[Au]|((with_reducible refine A6 ?_);refine⟨(_,_,_),rfl,?_,?_⟩)
      all_goals first|(rw[Bi];omega)|(rw[Iu];exact⟨_,rfl,htk.symm⟩)|exact⟨_,rfl,htk.symm⟩|trace_state
  case hend7 =>
   intro l hl
   rw[List.length_map,List.take_of_length_le (Nat.le_refl _)] at hl
   change l=D5 a es at hl
   cases l with
   |nil =>
    have hend:=ZW hI hl.symm
    rw[hend]
    (try (simp -implicitDefEqProofs only[go_sem,JO]));repeat' first|(with_reducible first|exact tI|refine aI ?_ ?_|intro _)|((first|with_reducible refine AW ?_ ?_<;>intro _)<;>try (simp -implicitDefEqProofs only[go_sem,JO]))|simp (disch:=omega) only[Au]|((with_reducible refine A6 ?_);refine⟨(_,_,_),rfl,?_,?_⟩)
    all_goals first|rfl|trace_state
   |cons y ys =>
    have hne:D5 a es≠[]:=by rw[←hl];simp
    have hnx:=Xd hI hne
    have hlt:=S4 (cl:=cl) (v:=n) hne
    rw[←hl] at hmle hnx hlt
    obtain⟨l,hll⟩:∃l,y::ys=l:=⟨_,rfl⟩
    have hsn:=fun i hi=>@T3 es l i hi cl n
    have hnw:=fun i hi=>WB (hl.symm.trans hll) (i:=i) hi cl n
    (try (simp -implicitDefEqProofs only[go_sem,Lq]));repeat' first|(with_reducible first|exact tI|refine aI ?_ ?_|intro _)|((first|with_reducible refine AW ?_ ?_<;>intro _)<;>try (simp -implicitDefEqProofs only[go_sem,Lq]))|simp (disch:=omega) only[Au]|((with_reducible refine A6 ?_);refine⟨(_,_,_),rfl,?_,?_⟩)
    all_goals first|omega|(simp<;>omega)|skip
    rw[hll] at hmle hnx hlt ⊢
    refine A5 (α:=Nat×(List Ay)×Nat) (l0:=?l2) (m0:=?m2) (fun x=>[(44,.d (.int .i64 (x.1:Int)))]) (fun x=>[(5000017,.mapB Pm (LR x.2.1) x.2.2)]) (fun x=>x.1<=l.length/\x.2.1=es++Dz (l.take x.1) cl n/\x.2.2=cl+x.1) (fun x=>l.length-x.1) (0,es,cl) ?h02 ?he2 ?he22 ?hI2 ?step2
    case h02=>(simp -implicitDefEqProofs only[go_sem];rfl)
    case he2=>rfl
    case he22=>rfl
    case' step2=>(rintro⟨i,M,q⟩ hI2;try dsimp only at hI2)
    case' hI2=>try dsimp only
    ·exact⟨Nat.zero_le _,by simp[Dz],rfl⟩
    ·obtain⟨i1,i2,i3⟩:=hI2
     change M=es++Dz (l.take i) cl n at i2
     change q=cl+i at i3
     subst i2 i3
     by_cases hi:i<l.length
     ·have hi':(i:Int)<(l.length:Int):=by omega
      have wi:IntKind.i64.wrap ((i:Int)+1)=((i+1:Nat):Int):=by rw[Aw _ (by omega)];omega
      have hnew:=Sp (v:=n) (cl:=cl+i) (hnw i hi)
      rw[hsn i hi] at hnew
      obtain⟨x,hx⟩:∃x,l[i]?.getD default=x:=⟨_,rfl⟩
      have hty:=Jj x
      rw[hx,AX,AQ] at hnew
      obtain⟨hn1,hn2⟩:=hnew
      rw[AX,AQ] at hty
      (try (simp -implicitDefEqProofs only[go_sem,hi',Bi,Dm,EE,hi,hx,AX,AQ,hn1,hn2,hty,wi]));repeat' first|(with_reducible first|exact tI|refine aI ?_ ?_|intro _)|((first|with_reducible refine AW ?_ ?_<;>intro _)<;>try (simp -implicitDefEqProofs only[go_sem,hi',Bi,Dm,EE,hi,hx,AX,AQ,hn1,hn2,hty,wi]))|simp (disch:=omega) only[Au]|((with_reducible refine A6 ?_);refine⟨(_,_,_),rfl,?_,?_⟩)
      all_goals first|omega|rfl|exact⟨_,rfl,rfl⟩|trace_state
     ·have hi':¬(i:Int)<(l.length:Int):=by omega
      have hie:i=l.length:=by omega
      subst hie
      have wn:IntKind.i64.wrap (n+1)=n+1:=Aw _ (by omega)
      rw[List.take_length]
      (try (simp -implicitDefEqProofs only[go_sem,hi',Bi,wn,decide_true,decide_false]));repeat' first|(with_reducible first|exact tI|refine aI ?_ ?_|intro _)|((first|with_reducible refine AW ?_ ?_<;>intro _)<;>try (simp -implicitDefEqProofs only[go_sem,hi',Bi,wn,decide_true,decide_false]))|simp (disch:=omega) only[Au]|((with_reducible refine A6 ?_);refine⟨(_,_,_),rfl,?_,?_⟩)
      all_goals first|exact hnx|exact hlt|omega|trace_state
end Go.Pw
end
