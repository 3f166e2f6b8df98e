/- A part of the proof. -/
import Derived.Test.YtpcpcjbbdgmohaaGreatPgQuTkB
set_option linter.all false
section
open Go Go.Pw Go.Proofs
namespace Go.Pw
set_option maxRecDepth 100000
set_option maxHeartbeats 3200000
theorem Nz:BC E0.P E5=true:=by kernel_rfl
attribute [local congr] DX B3 B4 Bc DZ Bj Bl Bk Bb BN BF A6 Be BG Bg CD CE CF Cd Ce B9 Bf BL Bi BM B8 Cf BK CB CC B_ B6 B7 B2 DY B5 Bd BI BH BJ Bh CA
attribute [local irreducible] IntKind.wrap CK Option.getD and or
theorem Rn (a:A1) (g:a.Good) (f:Nat) (cs:List D) (p:Bv->Bool) (hb:BC E0.P f=true) (hcs:Aw AV.toD1 (cs.map .d)=some cs) (ht:∀x,Ca E0 f (F7 x::cs) (.bool (p x))) :
  OG E0 LB [] [.d (FW a),.d (.fn f cs)] [(5000013,0,.mapB Sp (Oj (E2 a p)) (GX a p).length)] (.map 5000013 0):=by
 obtain⟨CL,hCL⟩:∃CL,(GX a p).length=CL:=⟨_,rfl⟩
 refine GG O0 Aq (by simp) (by simp[US,DW,DB]) (by simp[IW]) fun hwf hwo=>?_
 rw[Dv];unfold Jl
 (try (simp -implicitDefEqProofs only[go_sem,Aa,AP]));repeat' first|(with_reducible first|exact tI|refine aI ?_ ?_|intro _)|((first|with_reducible refine AU ?_ ?_<;>intro _)<;>try (simp -implicitDefEqProofs only[go_sem,Aa,AP]))|simp (disch:=omega) only[Al]|((with_reducible refine Ba ?_);refine⟨(_,_,_),rfl,?_,?_⟩)|((with_reducible refine A0 ?_);refine⟨(_,_),rfl,?_,?_⟩)|((with_reducible refine A5 ?_);refine⟨_,rfl,?_,?_⟩)| ((with_reducible refine IV ?_);refine⟨(_,_),rfl,?_⟩)
 all_goals first|omega|(simp<;>omega)|skip
 refine LJ (α:=(List BT)×Nat) (so:=HU) (l0:=?l1) (m0:=?m1) (fun x=>[(5000013,.mapB Sp (Oj x.1) x.2)]) (fun n x=>x.1=EW ((a.spots.take n).filter p) 0 0/\x.2=x.1.length) (fun e x=>False) ([],0) (H7 a g) E' ?h01 ?he1 (by simp[PC.noR]) ?hw1 ?hI1 ?step1 ?hend1 ?hjump1
 case h01=>(simp -implicitDefEqProofs only[go_sem,Aa,AP];(try simp only[or_true,true_or,true_and]);first|rfl|(refine⟨.inl ⟨_,rfl,rfl⟩,?_⟩<;>rfl)|exact⟨.inl ⟨⟨_,rfl,rfl⟩,rfl⟩,rfl⟩|exact⟨.inr ⟨rfl,rfl⟩,rfl⟩)
 case he1=>rfl
 case hw1=>simp -implicitDefEqProofs only[go_sem]
 case' hjump1=>(rintro e ⟨es,cl⟩ hI;try dsimp only at hI)
 case' hend1=>(rintro⟨es,cl⟩ hI;try dsimp only at hI)
 case' step1=>(rintro n ⟨es,cl⟩ ds hds hI;try dsimp only at hI)
 case' hI1=>try dsimp only
 ·exact⟨rfl,rfl⟩
 ·obtain⟨rfl,rfl⟩:=hI
  rw[List.getElem?_map] at hds
  simp only[Option.map_eq_some_iff] at hds
  obtain⟨x,hx,rfl⟩:=hds
  refine⟨rfl,?_⟩
  have hT:=ht x
  have hnew:=Yf (v:=0) (cl:=(EW ((a.spots.take n).filter p) 0 0).length) (cU hx p 0 0)
  have htk:=Fp hx p
  have hnl:=TB ((a.spots.take n).filter p) x 0 0
  have hll:=Vk ((a.spots.take n).filter p) 0 0
  have hty:=J8 x
  obtain⟨L,hL⟩:∃L,(a.spots.take n).filter p=L:=⟨_,rfl⟩
  rw[hL] at hnew htk hnl hll ⊢
  obtain⟨N,hN⟩:∃N,(EW L 0 0).length=N:=⟨_,rfl⟩
  rw[hN] at hnew hll ⊢
  rw[Ah,Af] at hnew hT hty
  obtain⟨B,hB⟩:∃B,p x=B:=⟨_,rfl⟩
  rw[hB] at hT htk
  obtain⟨hn1,hn2⟩:=hnew
  (try (simp -implicitDefEqProofs only[go_sem,Ah,Af]));repeat' first|(with_reducible first|exact tI|refine aI ?_ ?_|intro _)|((first|with_reducible refine AU ?_ ?_<;>intro _)<;>try (simp -implicitDefEqProofs only[go_sem,Ah,Af]))|simp (disch:=omega) only[Al]|((with_reducible refine Ba ?_);refine⟨(_,_,_),rfl,?_,?_⟩)|((with_reducible refine A0 ?_);refine⟨(_,_),rfl,?_,?_⟩)|((with_reducible refine A5 ?_);refine⟨_,rfl,?_,?_⟩)| ((with_reducible refine IV ?_);refine⟨(_,_),rfl,?_⟩)
  all_goals first|exact hb|skip
  refine Mk hT (Ho (d:=.agg [.int .i64 x.at',.int .i64 x.sp]) rfl hcs) ?_
  cases B with
  |false =>
   (try (simp -implicitDefEqProofs only[go_sem,Ah,Af,hn1,hn2,hty]));repeat' first|(with_reducible first|exact tI|refine aI ?_ ?_|intro _)|((first|with_reducible refine AU ?_ ?_<;>intro _)<;>try (simp -implicitDefEqProofs only[go_sem,Ah,Af,hn1,hn2,hty]))|simp (disch:=omega) only[Al]|((with_reducible refine Ba ?_);refine⟨(_,_,_),rfl,?_,?_⟩)|((with_reducible refine A0 ?_);refine⟨(_,_),rfl,?_,?_⟩)|((with_reducible refine A5 ?_);refine⟨_,rfl,?_,?_⟩)| ((with_reducible refine IV ?_);refine⟨(_,_),rfl,?_⟩)
   ·show EW L 0 0=_
    rw[htk];simp
   ·exact hN.symm
  |true =>
   (try (simp -implicitDefEqProofs only[go_sem,Ah,Af,hn1,hn2,hty]));repeat' first|(with_reducible first|exact tI|refine aI ?_ ?_|intro _)|((first|with_reducible refine AU ?_ ?_<;>intro _)<;>try (simp -implicitDefEqProofs only[go_sem,Ah,Af,hn1,hn2,hty]))|simp (disch:=omega) only[Al]|((with_reducible refine Ba ?_);refine⟨(_,_,_),rfl,?_,?_⟩)|((with_reducible refine A0 ?_);refine⟨(_,_),rfl,?_,?_⟩)|((with_reducible refine A5 ?_);refine⟨_,rfl,?_,?_⟩)| ((with_reducible refine IV ?_);refine⟨(_,_),rfl,?_⟩)
   ·rw[htk,if_pos rfl,hnl,hll,Nat.zero_add]
   ·rw[List.length_append,hN];rfl
 ·obtain⟨rfl,rfl⟩:=hI
  rw[List.length_map,List.take_of_length_le (Nat.le_refl _),show EW (a.spots.filter p) 0 0=GX a p from rfl,hCL]
  (try (simp -implicitDefEqProofs only[go_sem,Aa,AP]));repeat' first|(with_reducible first|exact tI|refine aI ?_ ?_|intro _)|((first|with_reducible refine AU ?_ ?_<;>intro _)<;>try (simp -implicitDefEqProofs only[go_sem,Aa,AP]))|simp (disch:=omega) only[Al]|((with_reducible refine Ba ?_);refine⟨(_,_,_),rfl,?_,?_⟩)|((with_reducible refine A0 ?_);refine⟨(_,_),rfl,?_,?_⟩)|((with_reducible refine A5 ?_);refine⟨_,rfl,?_,?_⟩)| ((with_reducible refine IV ?_);refine⟨(_,_),rfl,?_⟩)
  all_goals first|omega|(simp<;>omega)|skip
  refine Ao (α:=(List BT)) (l0:=?l2) (m0:=?m2) (fun x=>[]) (fun x=>[(5000013,.mapB Sp (Oj x) CL)]) (fun x=>KI a p x) (fun x=>x.length) (GX a p) ?h02 ?he2 ?he22 ?hI2 ?step2
  case h02=>(simp -implicitDefEqProofs only[go_sem];rfl)
  case he2=>rfl
  case he22=>rfl
  case' step2=>(rintro es hI;try dsimp only at hI)
  case' hI2=>try dsimp only
  ·exact dz a g p
  ·have hd:=hI.d
   have hn:=hI.n
   (try (simp -implicitDefEqProofs only[go_sem,Aa,AP]));repeat' first|(with_reducible first|exact tI|refine aI ?_ ?_|intro _)|((first|with_reducible refine AU ?_ ?_<;>intro _)<;>try (simp -implicitDefEqProofs only[go_sem,Aa,AP]))|simp (disch:=omega) only[Al]|((with_reducible refine Ba ?_);refine⟨(_,_,_),rfl,?_,?_⟩)|((with_reducible refine A0 ?_);refine⟨(_,_),rfl,?_,?_⟩)|((with_reducible refine A5 ?_);refine⟨_,rfl,?_,?_⟩)| ((with_reducible refine IV ?_);refine⟨(_,_),rfl,?_⟩)
   all_goals first|omega|(simp<;>omega)|skip
   refine Ao (α:=(List Nat)×(List Bv)×Bool) (l0:=?l3) (m0:=?m3) (fun x=>[]) (fun x=>[(23,.mitO 5000013 0 CL x.1),(41,.row 63 2 x.2.2 (H' x.2.1))]) (fun x=>x.2.2=x.2.1.isEmpty/\Uw a es x.1 x.2.1/\x.2.1.length+MM es x.1<=es.length) (fun x=>MM es x.1) ([],[],true) ?h03 ?he3 ?he23 ?hI3 ?step3
   case h03=>(simp -implicitDefEqProofs only[go_sem];rfl)
   case he3=>rfl
   case he23=>rfl
   case' step3=>(rintro⟨seen,out,nl⟩ hI2;try dsimp only at hI2)
   case' hI3=>try dsimp only
   ·exact⟨rfl,dR a es,by show 0+MM es []<=_;rw[Nat.zero_add];exact List.length_filter_le _ _⟩
   ·obtain⟨hnl,hO,hle⟩:=hI2
    change nl=out.isEmpty at hnl
    change Uw a es seen out at hO
    change out.length+MM es seen<=es.length at hle
    have hb697:=hI.b
    (try (simp -implicitDefEqProofs only[go_sem,Aa,AP]));repeat' first|(with_reducible first|exact tI|refine aI ?_ ?_|intro _)|((first|with_reducible refine AU ?_ ?_<;>intro _)<;>try (simp -implicitDefEqProofs only[go_sem,Aa,AP]))|simp (disch:=omega) only[Al]|((with_reducible refine Ba ?_);refine⟨(_,_,_),rfl,?_,?_⟩)|((with_reducible refine A0 ?_);refine⟨(_,_),rfl,?_,?_⟩)|((with_reducible refine A5 ?_);refine⟨_,rfl,?_,?_⟩)| ((with_reducible refine IV ?_);refine⟨(_,_),rfl,?_⟩)
    refine kG (fun e he hs=>?_) (fun hall=>?_)
    ·obtain⟨e0,he0,rfl⟩:=List.mem_map.1 he
     change seen.contains e0.1=false at hs
     have hfind:=IY hn he0
     have hlast:(seen++[e0.1]).getLast?=some e0.1:=by simp
     have hmu:=ZE he0 hs
     have cC:=GO a g e0.2.1 (Nc g (hI.s _ he0)) (.bnd E5 [.map Sp (Vs es)]) (CI es) (.inl ⟨_,_,rfl,Nz,rfl,fun x=>F8 es x⟩)
     have hgood:=fun h=>Zy hO hn he0 h
     have hbad:=fun h=>dS hO hn he0 h
     obtain⟨c,hc⟩:∃c,(HQ a (CI es) e0.2.1).getD 0=c:=⟨_,rfl⟩
     obtain⟨B,hB⟩:∃B,(HQ a (CI es) e0.2.1).isSome=B:=⟨_,rfl⟩
     rw[hc,hB,←Fx,Aa,AP,Ah,Af] at cC
     rw[hB] at hgood hbad
     rw[Ah,Af] at hfind
     cases B with
     |true =>
      have hg:=hgood rfl
      (try (simp -implicitDefEqProofs only[go_sem,Ah,Af,hfind,hlast]));repeat' first|(with_reducible first|exact tI|refine aI ?_ ?_|intro _)|((first|with_reducible refine AU ?_ ?_<;>intro _|(with_reducible refine isCall ?_);first|refine Mj (cC) rfl (by simp[D.flat,D.flat1,D.prim]) ?_)<;>try (simp -implicitDefEqProofs only[go_sem,Ah,Af,hfind,hlast]))|simp (disch:=omega) only[Al]|((with_reducible refine Ba ?_);refine⟨(_,_,_),rfl,?_,?_⟩)|((with_reducible refine A0 ?_);refine⟨(_,_),rfl,?_,?_⟩)|((with_reducible refine A5 ?_);refine⟨_,rfl,?_,?_⟩)| ((with_reducible refine IV ?_);refine⟨(_,_),rfl,?_⟩)
      ·exact hnl
      ·exact hg
      ·omega
      ·exact hmu
     |false =>
      have hb:=hbad rfl
      (try (simp -implicitDefEqProofs only[go_sem,Ah,Af,hfind,hlast]));repeat' first|(with_reducible first|exact tI|refine aI ?_ ?_|intro _)|((first|with_reducible refine AU ?_ ?_<;>intro _|(with_reducible refine isCall ?_);first|refine Mj (cC) rfl (by simp[D.flat,D.flat1,D.prim]) ?_)<;>try (simp -implicitDefEqProofs only[go_sem,Ah,Af,hfind,hlast]))|simp (disch:=omega) only[Al]|((with_reducible refine Ba ?_);refine⟨(_,_,_),rfl,?_,?_⟩)|((with_reducible refine A0 ?_);refine⟨(_,_),rfl,?_,?_⟩)|((with_reducible refine A5 ?_);refine⟨_,rfl,?_,?_⟩)| ((with_reducible refine IV ?_);refine⟨(_,_),rfl,?_⟩)
      ·rw[BS];omega
      ·rw[Gj]
       refine⟨(seen++[e0.1],out++[e0.2.1],false),rfl,⟨?_,hb,?_⟩,hmu⟩
       ·show false=(out++[e0.2.1]).isEmpty
        simp
       ·show (out++[e0.2.1]).length+MM es (seen++[e0.1])<=es.length
        rw[List.length_append,List.length_singleton];omega
    ·have hall':∀e,e∈es->seen.contains e.1=true:=fun e he=>hall _ (List.mem_map_of_mem he)
     have hend:=gM hO hall'
     cases hout:out with
     |nil =>
      subst hout
      subst hnl
      have hes:=kR hI (by rw[←hend];simp)
      rw[←hes]
      (try (simp -implicitDefEqProofs only[go_sem,Aa,AP]));repeat' first|(with_reducible first|exact tI|refine aI ?_ ?_|intro _)|((first|with_reducible refine AU ?_ ?_<;>intro _)<;>try (simp -implicitDefEqProofs only[go_sem,Aa,AP]))|simp (disch:=omega) only[Al]|((with_reducible refine Ba ?_);refine⟨(_,_,_),rfl,?_,?_⟩)|((with_reducible refine A0 ?_);refine⟨(_,_),rfl,?_,?_⟩)|((with_reducible refine A5 ?_);refine⟨_,rfl,?_,?_⟩)| ((with_reducible refine IV ?_);refine⟨(_,_),rfl,?_⟩)
      all_goals first|omega|rfl|trace_state
     |cons o os =>
      have hne:=j_ hO (by rw[hout];simp)
      have hnl':nl=false:=by rw[hnl,hout];rfl
      subst hnl'
      rw[←hout]
      obtain⟨hk1,hk2⟩:=gn hI hne
      have hds:=fun i hi=>@YL es hd out i hi
      have hda:=bK es out
      rw[hend] at hda
      (try (simp -implicitDefEqProofs only[go_sem,Aa,AP]));repeat' first|(with_reducible first|exact tI|refine aI ?_ ?_|intro _)|((first|with_reducible refine AU ?_ ?_<;>intro _)<;>try (simp -implicitDefEqProofs only[go_sem,Aa,AP]))|simp (disch:=omega) only[Al]|((with_reducible refine Ba ?_);refine⟨(_,_,_),rfl,?_,?_⟩)|((with_reducible refine A0 ?_);refine⟨(_,_),rfl,?_,?_⟩)|((with_reducible refine A5 ?_);refine⟨_,rfl,?_,?_⟩)| ((with_reducible refine IV ?_);refine⟨(_,_),rfl,?_⟩)
      all_goals first|omega|(simp<;>omega)|skip
      refine Ao (α:=Nat×(List BT)) (l0:=?l4) (m0:=?m4) (fun x=>[(47,.d (.int .i64 (x.1:Int)))]) (fun x=>[(5000013,.mapB Sp (Oj x.2) CL)]) (fun x=>x.1<=out.length/\x.2=Nj es out x.1) (fun x=>out.length-x.1) (0,es) ?h04 ?he4 ?he24 ?hI4 ?step4
      case h04=>(simp -implicitDefEqProofs only[go_sem];rfl)
      case he4=>rfl
      case he24=>rfl
      case' step4=>(rintro⟨i,M⟩ hI3;try dsimp only at hI3)
      case' hI4=>try dsimp only
      ·exact⟨Nat.zero_le _,(iR es out).symm⟩
      ·obtain⟨i1,i2⟩:=hI3
       change M=Nj es out i at i2
       subst i2
       by_cases hi:i<out.length
       ·have hi':(i:Int)<(out.length:Int):=by omega
        have wi:IntKind.i64.wrap ((i:Int)+1)=((i+1:Nat):Int):=by rw[Ad _ (by omega)];omega
        have hdi:=hds i hi
        obtain⟨x,hx⟩:∃x,out[i]?.getD default=x:=⟨_,rfl⟩
        have hty:=J8 x
        rw[hx,Ah,Af] at hdi
        rw[Ah,Af] at hty
        (try (simp -implicitDefEqProofs only[go_sem,hi',BS,DF,C9,hi,hx,Ah,Af,hdi,hty,wi]));repeat' first|(with_reducible first|exact tI|refine aI ?_ ?_|intro _)|((first|with_reducible refine AU ?_ ?_<;>intro _)<;>try (simp -implicitDefEqProofs only[go_sem,hi',BS,DF,C9,hi,hx,Ah,Af,hdi,hty,wi]))|simp (disch:=omega) only[Al]|((with_reducible refine Ba ?_);refine⟨(_,_,_),rfl,?_,?_⟩)|((with_reducible refine A0 ?_);refine⟨(_,_),rfl,?_,?_⟩)|((with_reducible refine A5 ?_);refine⟨_,rfl,?_,?_⟩)| ((with_reducible refine IV ?_);refine⟨(_,_),rfl,?_⟩)
        all_goals first|omega|rfl|exact⟨_,rfl,rfl⟩|trace_state
       ·have hi':¬(i:Int)<(out.length:Int):=by omega
        have hie:i=out.length:=by omega
        subst hie
        rw[hda]
        (try (simp -implicitDefEqProofs only[go_sem,hi',BS]));repeat' first|(with_reducible first|exact tI|refine aI ?_ ?_|intro _)|((first|with_reducible refine AU ?_ ?_<;>intro _)<;>try (simp -implicitDefEqProofs only[go_sem,hi',BS]))|simp (disch:=omega) only[Al]|((with_reducible refine Ba ?_);refine⟨(_,_,_),rfl,?_,?_⟩)|((with_reducible refine A0 ?_);refine⟨(_,_),rfl,?_,?_⟩)|((with_reducible refine A5 ?_);refine⟨_,rfl,?_,?_⟩)| ((with_reducible refine IV ?_);refine⟨(_,_),rfl,?_⟩)
        ·exact hk1
        ·exact hk2
end Go.Pw
end
section
open Go Go.Pw Go.Proofs
namespace Go.Pw
set_option maxRecDepth 100000
set_option maxHeartbeats 3200000
def Iy (a:A1) (t:Int) (s:Bv):Bool:=Gn (IntKind.i64.wrap (s.at'-t)) (-a.gate) a.gate && Gn s.sp (-a.slow) a.slow
def Sq (a:A1) (t:Int):List D:=[.ptr [.int .i64 t],.ptr (Se a)]
theorem J9 (a:A1) (t:Int):Sq a t=[.ptr [.int .i64 t],.ptr (Se a)]:=rfl
theorem PZ:BC E0.P DD=true:=by kernel_rfl
theorem YV:BC E0.P Ej=true:=by kernel_rfl
theorem LV:BC E0.P GJ=true:=by kernel_rfl
theorem bX:BC E0.P Hx=true:=by kernel_rfl
attribute [local congr] DX B3 B4 Bc DZ Bj Bl Bk Bb BN BF A6 Be BG Bg CD CE CF Cd Ce B9 Bf BL Bi BM B8 Cf BK CB CC B_ B6 B7 B2 DY B5 Bd BI BH BJ Bh CA
attribute [local irreducible] IntKind.wrap CK Option.getD and or
theorem Ku (a:A1) (g:a.Good) (t:Int) (s:Bv):Ca E0 DD (F7 s::Sq a t) (.bool (Iy a t s)):=by
 refine AW Lg Aq (by simp[Sq]) fun hwf=>?_
 have g2:=g.g;have g3:=g.w;have g4:=g.s
 have w1:IntKind.i64.wrap (0-a.gate)=-a.gate:=by rw[Ad _ (by omega)];omega
 have w2:IntKind.i64.wrap (0-a.slow)=-a.slow:=by rw[Ad _ (by omega)];omega
 have c1:=Bz (IntKind.i64.wrap (s.at'-t)) (-a.gate) a.gate
 have c2:=Bz s.sp (-a.slow) a.slow
 rw[AZ];unfold G9 Iy
 obtain⟨W,hW⟩:∃W,IntKind.i64.wrap (s.at'-t)=W:=⟨_,rfl⟩
 rw[hW] at c1 ⊢
 generalize Gn W (-a.gate) a.gate=b1 at *
 generalize Gn s.sp (-a.slow) a.slow=b2 at *
 cases b1<;>cases b2
 all_goals ((try (simp -implicitDefEqProofs only[go_sem,Ah,Af,J9,AP,w1,w2,hW]));repeat' first|(with_reducible first|exact tI|refine aI ?_ ?_|intro _)|((first|with_reducible refine AU ?_ ?_<;>intro _|(with_reducible refine isCall ?_);first|refine AF c1 ?_|refine AF c2 ?_)<;>try (simp -implicitDefEqProofs only[go_sem,Ah,Af,J9,AP,w1,w2,hW]))|simp (disch:=omega) only[Al] )
 all_goals first|rfl|(simp;done)
theorem L2 (a:A1) (t:Int):Ca E0 Jz [FW a,.int .i64 t] (.fn DD (Sq a t)):=by
 refine AW Nt Aq (by simp) fun hwf=>?_
 rw[AZ];unfold IP
 (try (simp -implicitDefEqProofs only[go_sem,Aa,AP,J9]));repeat' first|(with_reducible first|exact tI|refine aI ?_ ?_|intro _)|((first|with_reducible refine AU ?_ ?_<;>intro _)<;>try (simp -implicitDefEqProofs only[go_sem,Aa,AP,J9]))|simp (disch:=omega) only[Al]
 all_goals first|rfl|(simp;done)
theorem Sa (es:List BT) (n:Int) (x:Bv):Ca E0 Ej (F7 x::[.ptr [.map Sp (Vs es)],.ptr [.int .i64 n]]) (.bool (gV es n x)):=by
 refine AW Mg Aq (by simp) fun hwf=>?_
 have hty:=J8 x
 rw[AZ];unfold Hh gV
 cases hv:Cv es x with
 |none =>
  have hl:=IT hv
  rw[Ah,Af] at hl hty
  (try (simp -implicitDefEqProofs only[go_sem,Ah,Af,hl,hty]));repeat' first|(with_reducible first|exact tI|refine aI ?_ ?_|intro _)|((first|with_reducible refine AU ?_ ?_<;>intro _)<;>try (simp -implicitDefEqProofs only[go_sem,Ah,Af,hl,hty]))|simp (disch:=omega) only[Al]
  all_goals first|rfl|(simp;done)|trace_state
 |some v =>
  have hl:=IR hv
  rw[Ah,Af] at hl hty
  (try (simp -implicitDefEqProofs only[go_sem,Ah,Af,hl,hty]));repeat' first|(with_reducible first|exact tI|refine aI ?_ ?_|intro _)|((first|with_reducible refine AU ?_ ?_<;>intro _)<;>try (simp -implicitDefEqProofs only[go_sem,Ah,Af,hl,hty]))|simp (disch:=omega) only[Al]
  all_goals first|rfl|(simp_all;done)|(simp;omega)|trace_state
theorem N2 (a:A1) (g:a.Good) (es:List BT) (s:Bv) (hs:s.near):Ca E0 LA [FW a,.map Sp (Vs es),F7 s] (.int .i64 (HD a es s)):=by
 refine AW Oz Aq (by simp) fun hwf=>?_
 have hty:=J8 s
 rw[AZ];unfold Jk HD
 obtain⟨n,hn⟩:∃n,(Cv es s).getD 0=n:=⟨_,rfl⟩
 have cC:=GO a g s hs (.fn Ej [.ptr [.map Sp (Vs es)],.ptr [.int .i64 n]]) (gV es n) (.inr ⟨_,_,rfl,YV,rfl,fun x=>Sa es n x⟩)
 rw[hn]
 rw[Aa,AP,Ah,Af] at cC
 cases hv:Cv es s with
 |none =>
  rw[hv] at hn
  have hl:=IT hv
  have hn0:n=0:=by rw[←hn];simp
  subst hn0
  rw[Ah,Af] at hl hty
  (try (simp -implicitDefEqProofs only[go_sem,Aa,AP,Ah,Af,hl,hty]));repeat' first|(with_reducible first|exact tI|refine aI ?_ ?_|intro _)|((first|with_reducible refine AU ?_ ?_<;>intro _|(with_reducible refine isCall ?_);first|refine AF cC ?_)<;>try (simp -implicitDefEqProofs only[go_sem,Aa,AP,Ah,Af,hl,hty]))|simp (disch:=omega) only[Al]
  all_goals first|rfl|(simp;done)|trace_state
 |some v =>
  rw[hv] at hn
  have hl:=IR hv
  have hn0:n=v:=by rw[←hn];simp
  subst hn0
  rw[Ah,Af] at hl hty
  (try (simp -implicitDefEqProofs only[go_sem,Aa,AP,Ah,Af,hl,hty]));repeat' first|(with_reducible first|exact tI|refine aI ?_ ?_|intro _)|((first|with_reducible refine AU ?_ ?_<;>intro _|(with_reducible refine isCall ?_);first|refine AF cC ?_)<;>try (simp -implicitDefEqProofs only[go_sem,Aa,AP,Ah,Af,hl,hty]))|simp (disch:=omega) only[Al]
  all_goals first|rfl|(simp;done)|trace_state
theorem Sg (nl:Bool) (xs:List Bv) (f:FuncId) (cs:List D) (p:Bv->Bool) (hb:BC E0.P f=true) (hcs:Aw AV.toD1 (cs.map .d)=some cs) (h:∀x,x∈xs->Ca E0 f (F7 x::cs) (.bool (p x))) :
  Ca E0 DK [.list nl (H' xs),.fn f cs] (.int .i64 (match xs.findIdx? p with|some i=>i|none=>-1)):=by
 refine AW EY Aq (by simp) fun hwf=>?_
 simp only[ML,LG,LF,Iw,OK,OJ,Sm,OI,FA,Fm,Fn,LQ,Gl,List.length_map,FQ,true_and,and_true,BS] at hwf
 rw[AZ];unfold DA
 simp -implicitDefEqProofs only[go_sem,BS]
 refine Ao (α:=Int) (l0:=?l1) (m0:=?m1) (fun x=>[(8,.d (.int .i64 x))]) (fun x=>[]) (fun x=>0<=x/\x<=xs.length/\∀(j:Nat) (hj:j<xs.length),(j:Int)<x->p xs[j]=false) (fun x=>(xs.length-x).toNat) ?a1_0 ?h01 ?he1 ?he21 ?hI1 ?step1
 case h01=>(simp -implicitDefEqProofs only[go_sem,BS];rfl)
 case he1=>rfl
 case he21=>rfl
 case' step1=>(rintro i hI;try dsimp only at hI)
 case' hI1=>try dsimp only
 ·simp
  omega
 ·(try (simp -implicitDefEqProofs only[go_sem,BS,C9,DF,Ah,Af]));repeat' first|(with_reducible first|exact tI|refine aI ?_ ?_|intro _)|((first|with_reducible refine AU ?_ ?_<;>intro _)<;>try (simp -implicitDefEqProofs only[go_sem,BS,C9,DF,Ah,Af]))|simp (disch:=omega) only[Al]|((with_reducible refine A5 ?_);refine⟨_,rfl,?_,?_⟩)
  all_goals first|omega|(simp<;>omega)|skip
  ·have hx:xs[i.toNat]?.getD default=xs[i.toNat]'(by omega):=by rw[List.getElem?_eq_getElem (by omega),Option.getD_some]
   rw[hx]
   refine fB (h _ (List.getElem_mem _)) (Ho rfl hcs) (fun hp=>?_) (fun hp=>?_)
   ·simp -implicitDefEqProofs only[go_sem]
    have:xs.findIdx? p=some i.toNat:=by rw[List.findIdx?_eq_some_iff_getElem];exact⟨by omega,hp,fun j hj=>by simp[hI.2.2 j (by omega) (by omega)]⟩
    rw[this];simp;omega
   ·(try (simp -implicitDefEqProofs only[go_sem,BS]));repeat' first|(with_reducible first|exact tI|refine aI ?_ ?_|intro _)|((first|with_reducible refine AU ?_ ?_<;>intro _)<;>try (simp -implicitDefEqProofs only[go_sem,BS]))|simp (disch:=omega) only[Al]|((with_reducible refine A5 ?_);refine⟨_,rfl,?_,?_⟩)
    all_goals first|omega|(simp<;>omega)|skip
    rename_i j hj hlt
    by_cases hjk:j=i.toNat
    ·subst hjk;exact hp
    ·exact hI.2.2 j hj (by omega)
  ·have:xs.findIdx? p=none:=by
    rw[List.findIdx?_eq_none_iff];intro x hx;obtain⟨j,hj,rfl⟩:=List.getElem_of_mem hx;exact hI.2.2 j hj (by omega)
   rw[this]
theorem Ih (nl:Bool) (xs:List Bv) (f:FuncId) (cs:List D) (p:Bv->Bool) (hb:BC E0.P f=true) (hcs:Aw AV.toD1 (cs.map .d)=some cs) (h:∀x,x∈xs->Ca E0 f (F7 x::cs) (.bool (p x))) :
  Ca E0 C5 [.list nl (H' xs),.fn f cs] (.bool (xs.any p)):=by
 refine AW EA Aq (by simp) fun hwf=>?_
 rw[AZ];unfold Cx
 simp -implicitDefEqProofs only[go_sem]
 refine Mk (Sg nl xs f cs p hb hcs h) rfl ?_
 simp -implicitDefEqProofs only[go_sem]
 have key:(0:Int)<=(match xs.findIdx? p with|some i=>(i:Int)|none=>-1)↔xs.any p=true:=by
  cases hf:xs.findIdx? p with
  |none=>rw[List.findIdx?_eq_none_iff] at hf;simp;intro x hx;simp[hf x hx]
  |some i=>rw[List.findIdx?_eq_some_iff_getElem] at hf;simp;exact⟨_,List.getElem_mem hf.1,hf.2.1⟩
 grind
theorem Sh (nl:Bool) (xs:List Int) (f:FuncId) (cs:List D) (p:Int->Bool) (hb:BC E0.P f=true) (hcs:Aw AV.toD1 (cs.map .d)=some cs) (h:∀x,x∈xs->Ca E0 f (.int .i64 x::cs) (.bool (p x))) :
  Ca E0 Eb [.list nl (Bs xs),.fn f cs] (.int .i64 (match xs.findIdx? p with|some i=>i|none=>-1)):=by
 refine AW GM Aq (by simp) fun hwf=>?_
 simp only[ML,LG,LF,Iw,OK,OJ,Sm,OI,FA,Fm,Fn,LQ,Gl,List.length_map,FQ,true_and,and_true] at hwf
 rw[AZ];unfold EO
 simp -implicitDefEqProofs only[go_sem]
 refine Ao (α:=Int) (l0:=?l2) (m0:=?m2) (fun x=>[(8,.d (.int .i64 x))]) (fun x=>[]) (fun x=>0<=x/\x<=xs.length/\∀(j:Nat) (hj:j<xs.length),(j:Int)<x->p xs[j]=false) (fun x=>(xs.length-x).toNat) ?a2_0 ?h02 ?he2 ?he22 ?hI2 ?step2
 case h02=>(simp -implicitDefEqProofs only[go_sem];rfl)
 case he2=>rfl
 case he22=>rfl
 case' step2=>(rintro i hI;try dsimp only at hI)
 case' hI2=>try dsimp only
 ·simp
  omega
 ·(try (simp -implicitDefEqProofs only[go_sem]));repeat' first|(with_reducible first|exact tI|refine aI ?_ ?_|intro _)|((first|with_reducible refine AU ?_ ?_<;>intro _)<;>try (simp -implicitDefEqProofs only[go_sem]))|simp (disch:=omega) only[Al]|((with_reducible refine A5 ?_);refine⟨_,rfl,?_,?_⟩)
  all_goals first|omega|(simp<;>omega)|skip
  ·have hx:xs[i.toNat]?.getD 0=xs[i.toNat]'(by omega):=by rw[List.getElem?_eq_getElem (by omega),Option.getD_some]
   rw[hx]
   refine fB (h _ (List.getElem_mem _)) (Ho rfl hcs) (fun hp=>?_) (fun hp=>?_)
   ·simp -implicitDefEqProofs only[go_sem]
    have:xs.findIdx? p=some i.toNat:=by rw[List.findIdx?_eq_some_iff_getElem];exact⟨by omega,hp,fun j hj=>by simp[hI.2.2 j (by omega) (by omega)]⟩
    rw[this];simp;omega
   ·(try (simp -implicitDefEqProofs only[go_sem]));repeat' first|(with_reducible first|exact tI|refine aI ?_ ?_|intro _)|((first|with_reducible refine AU ?_ ?_<;>intro _)<;>try (simp -implicitDefEqProofs only[go_sem]))|simp (disch:=omega) only[Al]|((with_reducible refine A5 ?_);refine⟨_,rfl,?_,?_⟩)
    all_goals first|omega|(simp<;>omega)|skip
    rename_i j hj hlt
    by_cases hjk:j=i.toNat
    ·subst hjk;exact hp
    ·exact hI.2.2 j hj (by omega)
  ·have:xs.findIdx? p=none:=by
    rw[List.findIdx?_eq_none_iff];intro x hx;obtain⟨j,hj,rfl⟩:=List.getElem_of_mem hx;exact hI.2.2 j hj (by omega)
   rw[this]
theorem O5 (nl:Bool) (xs:List Int) (f:FuncId) (cs:List D) (p:Int->Bool) (hb:BC E0.P f=true) (hcs:Aw AV.toD1 (cs.map .d)=some cs) (h:∀x,x∈xs->Ca E0 f (.int .i64 x::cs) (.bool (p x))) :
  Ca E0 D0 [.list nl (Bs xs),.fn f cs] (.bool (xs.any p)):=by
 refine AW Ff Aq (by simp) fun hwf=>?_
 rw[AZ];unfold Dp
 simp -implicitDefEqProofs only[go_sem]
 refine Mk (Sh nl xs f cs p hb hcs h) rfl ?_
 simp -implicitDefEqProofs only[go_sem]
 have key:(0:Int)<=(match xs.findIdx? p with|some i=>(i:Int)|none=>-1)↔xs.any p=true:=by
  cases hf:xs.findIdx? p with
  |none=>rw[List.findIdx?_eq_none_iff] at hf;simp;intro x hx;simp[hf x hx]
  |some i=>rw[List.findIdx?_eq_some_iff_getElem] at hf;simp;exact⟨_,List.getElem_mem hf.1,hf.2.1⟩
 grind
theorem Us (a:A1) (g:a.Good) (s:Bv):Ca E0 GJ (F7 s::[.ptr (Se a)]) (.bool (!a.has s)):=by
 refine AW SS Aq (by simp) fun hwf=>?_
 have c1:=Pa a g s
 rw[AZ];unfold NG
 rw[Aa,AP,Ah,Af] at c1
 obtain⟨b,hb⟩:∃b,a.has s=b:=⟨_,rfl⟩
 rw[hb] at c1 ⊢
 cases b
 all_goals ((try (simp -implicitDefEqProofs only[go_sem,AP,Ah,Af]));repeat' first|(with_reducible first|exact tI|refine aI ?_ ?_|intro _)|((first|with_reducible refine AU ?_ ?_<;>intro _|(with_reducible refine isCall ?_);first|refine AF c1 ?_)<;>try (simp -implicitDefEqProofs only[go_sem,AP,Ah,Af]))|simp (disch:=omega) only[Al] )
 all_goals first|rfl|(simp;done)
theorem Uu (a:A1) (g:a.Good) (n:Int):Ca E0 Hx (.int .i64 n::[.ptr (Se a)]) (.bool (!Gn n (-a.shake) a.shake)):=by
 refine AW SW Aq (by simp) fun hwf=>?_
 have g2:=g.k
 have w1:IntKind.i64.wrap (0-a.shake)=-a.shake:=by rw[Ad _ (by omega)];omega
 have c1:=Bz n (-a.shake) a.shake
 rw[AZ];unfold NK
 obtain⟨b,hb⟩:∃b,Gn n (-a.shake) a.shake=b:=⟨_,rfl⟩
 rw[hb] at c1 ⊢
 cases b
 all_goals ((try (simp -implicitDefEqProofs only[go_sem,AP,w1]));repeat' first|(with_reducible first|exact tI|refine aI ?_ ?_|intro _)|((first|with_reducible refine AU ?_ ?_<;>intro _|(with_reducible refine isCall ?_);first|refine AF c1 ?_)<;>try (simp -implicitDefEqProofs only[go_sem,AP,w1]))|simp (disch:=omega) only[Al] )
 all_goals first|rfl|(simp;done)
def iu (a:A1) (t:Int) (s:Bv):Int:=if a.ok then (if Gn t 0 a.last then (if a.has s then 0 else 61) else 1) else 60
theorem Pb (a:A1) (t:Int) (s:Bv):Ca E0 O6 [FW a,.int .i64 t,.list false [F7 s]] (.tup [FW a,.int .i64 (iu a t s)]):=by
 refine AW PU Aq (by simp) fun hwf=>?_
 have c1:=H8 a
 have c2:=Bz t 0 a.last
 rw[AZ];unfold MT iu
 rw[Aa,AP] at c1
 cases hok:a.ok with
 |false =>
  rw[hok] at c1
  (try (simp -implicitDefEqProofs only[go_sem,Aa,AP]));repeat' first|(with_reducible first|exact tI|refine aI ?_ ?_|intro _)|((first|with_reducible refine AU ?_ ?_<;>intro _|(with_reducible refine isCall ?_);first|refine AF c1 ?_)<;>try (simp -implicitDefEqProofs only[go_sem,Aa,AP]))|simp (disch:=omega) only[Al]
  all_goals first|rfl|(simp;done)|trace_state
 |true =>
  rw[hok] at c1
  have g:=Kv hok
  cases hin:Gn t 0 a.last with
  |false =>
   rw[hin] at c2
   (try (simp -implicitDefEqProofs only[go_sem,Aa,AP]));repeat' first|(with_reducible first|exact tI|refine aI ?_ ?_|intro _)|((first|with_reducible refine AU ?_ ?_<;>intro _|(with_reducible refine isCall ?_);first|refine AF c1 ?_|refine AF c2 ?_)<;>try (simp -implicitDefEqProofs only[go_sem,Aa,AP]))|simp (disch:=omega) only[Al]
   all_goals first|rfl|(simp;done)|trace_state
  |true =>
   rw[hin] at c2
   have c3:=Ih false [s] GJ [.ptr (Se a)] (fun x=>!a.has x) LV rfl (fun x _=>Us a g x)
   rw[show ([s].any fun x=>!a.has x)=!a.has s from by simp,show H' [s]=[F7 s] from rfl,AP] at c3
   cases hh:a.has s with
   |false =>
    rw[hh] at c3
    (try (simp -implicitDefEqProofs only[go_sem,Aa,AP]));repeat' first|(with_reducible first|exact tI|refine aI ?_ ?_|intro _)|((first|with_reducible refine AU ?_ ?_<;>intro _|(with_reducible refine isCall ?_);first|refine AF c1 ?_|refine AF c2 ?_|refine AF c3 ?_)<;>try (simp -implicitDefEqProofs only[go_sem,Aa,AP]))|simp (disch:=omega) only[Al]
    all_goals first|rfl|(simp;done)|trace_state
   |true =>
    rw[hh] at c3
    (try (simp -implicitDefEqProofs only[go_sem,Aa,AP]));repeat' first|(with_reducible first|exact tI|refine aI ?_ ?_|intro _)|((first|with_reducible refine AU ?_ ?_<;>intro _|(with_reducible refine isCall ?_);first|refine AF c1 ?_|refine AF c2 ?_|refine AF c3 ?_)<;>try (simp -implicitDefEqProofs only[go_sem,Aa,AP]))|simp (disch:=omega) only[Al]
    all_goals first|rfl|(simp;done)|trace_state
end Go.Pw
end
section
open Go Go.Pw Go.Proofs
namespace Go.Pw
set_option maxRecDepth 100000
set_option maxHeartbeats 3200000
structure PI (a:A1) (p:Bv->Bool) (n:Int) (es:List BT) (cl:Nat):Prop where
 n1:1<=n
 b:n+NU a es<=698
 k:∃f,NU a es<f/\KK a f n es cl=GA a p
theorem dM (a:A1) (g:a.Good) (p:Bv->Bool):PI a p 1 (E2 a p) (GX a p).length where
 n1:=Int.le_refl 1
 b:=by
  have h1:NU a (E2 a p)<=a.spots.length:=List.length_filter_le _ _
  have h2:=Gt g
  omega
 k:=⟨_,Nat.lt_succ_self _,rfl⟩
theorem gI {a:A1}{p:Bv->Bool}{n:Int}{es:List BT}{cl:Nat}(h:PI a p n es cl) (hne:Ey a es≠[]):PI a p (n+1) (es++EW (Ey a es) cl n) (cl+(Ey a es).length):=by
 have hlt:=Y4 (cl:=cl) (v:=n) hne
 have h1:=h.n1;have h2:=h.b
 refine⟨by omega,by omega,?_⟩
 obtain⟨f,h3,h4⟩:=h.k
 match f,h3,h4 with
 |0,h3,_=>omega
 |f+1,h3,h4 =>
  rw[KK,if_neg hne] at h4
  exact⟨f,by omega,h4⟩
theorem j7 {a:A1}{p:Bv->Bool}{n:Int}{es:List BT}{cl:Nat}(h:PI a p n es cl) (he:Ey a es=[]):GA a p=(es,cl):=by
 obtain⟨f,h3,h4⟩:=h.k
 match f,h3,h4 with
 |0,h3,_=>omega
 |f+1,h3,h4=>rw[KK,if_pos he] at h4;exact h4.symm
theorem Xm (a:A1) (es:List BT):(Ey a es).Nodup:=List.Nodup.sublist List.filter_sublist (F6 a)
theorem gf {a:A1}(g:a.Good) (es:List BT):(Ey a es).length<=697:=Nat.le_trans (List.length_filter_le _ _) (Gt g)
theorem dq {a:A1}{es:List BT}{l:List Bv}(hl:Ey a es=l) {i:Nat}(hi:i<l.length) (cl:Nat) (v:Int):Cv (es++EW (l.take i) cl v) (l[i]?.getD default)=none:=by
 have hx:l[i]?.getD default=l[i]:=by rw[List.getElem?_eq_getElem hi];rfl
 rw[hx]
 have h1:CI es l[i]=false:=by
  have hm:l[i]∈Ey a es:=by rw[hl];exact List.getElem_mem hi
  have:=(List.mem_filter.1 hm).2
  rw[Bool.and_eq_true] at this
  simpa using this.1
 have h2:l[i]∉l.take i:=fun hm=>by
  obtain⟨j,hj,he⟩:=List.getElem_of_mem hm
  rw[List.length_take] at hj
  rw[List.getElem_take] at he
  have hnd:l.Nodup:=by rw[←hl];exact Xm a es
  have:=(List.getElem_inj hnd).1 he
  omega
 have h3:=RD es (l.take i) cl v l[i]
 rw[h1,decide_eq_false h2] at h3
 cases hv:Cv (es++EW (l.take i) cl v) l[i] with
 |none=>rfl
 |some w=>unfold CI at h3;rw[hv] at h3;cases h3
theorem Z' {es:List BT}{l:List Bv}{i:Nat}(hi:i<l.length) (cl:Nat) (v:Int):es++EW (l.take i) cl v++[(cl+i,l[i]?.getD default,v)]=es++EW (l.take (i+1)) cl v:=by
 rw[List.take_add_one,List.getElem?_eq_getElem hi,Option.toList_some,TB,List.append_assoc,List.length_take,Nat.min_eq_left (by omega)];rfl
def mO (a:A1) (es:List BT) (cl:Nat):List Bv->List (Nat×Nat×Ae)
 |[]=>[(5000002,0,.cells [.d (.int .i64 a.last),.d (.int .i64 a.speed),.d (.int .i64 a.force),.d (.int .i64 a.shake),.d (.int .i64 a.gate),.d (.int .i64 a.slow)]),(5000005,0,.cells [.map 5000017 0]),(5000007,0,.cells [.d (.list true [])]),(5000017,0,.mapB Sp (Oj es) cl)]
 |x::xs=>[(38,0,.row 63 2 false (H' (x::xs))),(5000002,0,.cells [.d (.int .i64 a.last),.d (.int .i64 a.speed),.d (.int .i64 a.force),.d (.int .i64 a.shake),.d (.int .i64 a.gate),.d (.int .i64 a.slow)]),(5000005,0,.cells [.map 5000017 0]),(5000007,0,.cells [.own 38 0]),(5000017,0,.mapB Sp (Oj es) cl)]
theorem Lo (a:A1) (es:List BT) (cl:Nat):mO a es cl []=[(5000002,0,.cells [.d (.int .i64 a.last),.d (.int .i64 a.speed),.d (.int .i64 a.force),.d (.int .i64 a.shake),.d (.int .i64 a.gate),.d (.int .i64 a.slow)]),(5000005,0,.cells [.map 5000017 0]),(5000007,0,.cells [.d (.list true [])]),(5000017,0,.mapB Sp (Oj es) cl)]:=rfl
theorem PK (a:A1) (es:List BT) (cl:Nat) (x:Bv) (xs:List Bv):mO a es cl (x::xs)=[(38,0,.row 63 2 false (H' (x::xs))),(5000002,0,.cells [.d (.int .i64 a.last),.d (.int .i64 a.speed),.d (.int .i64 a.force),.d (.int .i64 a.shake),.d (.int .i64 a.gate),.d (.int .i64 a.slow)]),(5000005,0,.cells [.map 5000017 0]),(5000007,0,.cells [.own 38 0]),(5000017,0,.mapB Sp (Oj es) cl)]:=rfl
attribute [local congr] DX B3 B4 Bc DZ Bj Bl Bk Bb BN BF A6 Be BG Bg CD CE CF Cd Ce B9 Bf BL Bi BM B8 Cf BK CB CC B_ B6 B7 B2 DY B5 Bd BI BH BJ Bh CA
attribute [local irreducible] IntKind.wrap CK Option.getD and or
theorem Mm (a:A1) (g:a.Good) (t:Int) :
  OG E0 K_ [] [.d (FW a),.d (.int .i64 t)] [(5000017,0,.mapB Sp (Oj (GA a (Iy a t)).1) (GA a (Iy a t)).2)] (.map 5000017 0):=by
 obtain⟨p,hp⟩:∃p,Iy a t=p:=⟨_,rfl⟩
 have c1:=L2 a t
 have cK:=Rn a g DD (Sq a t) (Iy a t) PZ rfl (fun x=>Ku a g t x)
 have hst:=dM a g p
 rw[hp] at cK ⊢
 obtain⟨CL,hCL⟩:∃CL,(GX a p).length=CL:=⟨_,rfl⟩
 obtain⟨E1,hE1⟩:∃E1,E2 a p=E1:=⟨_,rfl⟩
 rw[hCL,hE1] at cK hst
 rw[Aa,AP] at c1 cK
 refine GG Oy Aq (by simp) (by simp[US,DW,DB]) (by simp[IW]) fun hwf hwo=>?_
 rw[Dv];unfold Jj
 (try (simp -implicitDefEqProofs only[go_sem,Aa,AP]));repeat' first|(with_reducible first|exact tI|refine aI ?_ ?_|intro _)|((first|with_reducible refine AU ?_ ?_<;>intro _|(with_reducible refine isCall ?_);first|refine AF c1 ?_|(refine H6 ([]) ([((5000013,0),(17,1))]) (cK) (by repeat' first|exact True.intro|exact rfl|refine And.intro ?_ ?_) (by simp[D7,EQ.get,Ae.ren,AV.ren,AV.ren.renL,AO.get,A7,CZ,Fd,AO.reach,AV.sites,AV.sites.sitesL,AO.osites]) (by simp[Db,IW,DW,EQ.get,Fd,DB,CN,F0,Eh]) (by rfl) (by simp only[FG,EQ.get,Ae.ren,AV.ren,AV.ren.renL,and_self,and_true,true_and,if_true,reduceIte];rfl) ?_))<;>try (simp -implicitDefEqProofs only[go_sem,Aa,AP]))|simp (disch:=omega) only[Al]|((with_reducible refine Ba ?_);refine⟨(_,_,_),rfl,?_,?_⟩)
 all_goals first|omega|(simp<;>omega)|skip
 refine Ao (α:=Int×(List BT)×Nat) (l0:=?l1) (m0:=?m1) (fun x=>[(6,.d (.int .i64 x.1))]) (fun x=>[(17,.mapB Sp (Oj x.2.1) x.2.2)]) (fun x=>PI a p x.1 x.2.1 x.2.2) (fun x=>NU a x.2.1) (1,E1,CL) ?h01 ?he1 ?he21 ?hI1 ?step1
 case h01=>(simp -implicitDefEqProofs only[go_sem,decide_true,decide_false];rfl)
 case he1=>rfl
 case he21=>rfl
 case' step1=>(rintro⟨n,es,cl⟩ hI;try dsimp only at hI)
 case' hI1=>try dsimp only
 ·exact hst
 ·change PI a p n es cl at hI
  have hn1:=hI.n1
  have hnb:=hI.b
  have hmle:=gf g es
  (try (simp -implicitDefEqProofs only[go_sem,Aa,AP]));repeat' first|(with_reducible first|exact tI|refine aI ?_ ?_|intro _)|((first|with_reducible refine AU ?_ ?_<;>intro _)<;>try (simp -implicitDefEqProofs only[go_sem,Aa,AP]))|simp (disch:=omega) only[Al]|((with_reducible refine Ba ?_);refine⟨(_,_,_),rfl,?_,?_⟩)
  all_goals first|omega|(simp<;>omega)|skip
  have cR:=H7 a g
  refine QO (α:=List Bv) (fun l=>⟨A7 (mO a es cl l),fun _=>1⟩) (fun k l=>l=(a.spots.take k).filter fun s=>!CI es s && (HQ a (CI es) s).isSome) (fun e x=>False) [] (sl1:=Dc ?l7) ?h07 (fun _=>rfl) E' (by simp[PC.noR]) cR ?hw7 rfl ?step7 ?hend7 (fun e x h=>h.elim)
  case h07 =>
   simp -implicitDefEqProofs only[go_sem,Aa,AP,Lo]
   refine⟨.inl ⟨_,rfl,rfl⟩,?_⟩<;>rfl
  case hw7 =>
   simp -implicitDefEqProofs only[go_sem,Lo]
  case step7 =>
   intro k l ds hds hl
   rw[List.getElem?_map] at hds
   simp only[Option.map_eq_some_iff] at hds
   obtain⟨x,hx,rfl⟩:=hds
   change l=(a.spots.take k).filter fun s=>!CI es s && (HQ a (CI es) s).isSome at hl
   refine⟨rfl,?_⟩
   have htk:=Fp hx fun s=>!CI es s && (HQ a (CI es) s).isSome
   have hxs:a.has x=true:=IA.1 (List.mem_of_getElem? hx)
   have hlen:l.length<=697:=by
    rw[hl]
    exact Nat.le_trans (List.length_filter_le _ _) (Nat.le_trans (by rw[List.length_take];exact Nat.min_le_right _ _) (Gt g))
   have c3:=F8 es x
   have cC:=GO a g x (Nc g hxs) (.bnd E5 [.map Sp (Vs es)]) (CI es) (.inl ⟨_,_,rfl,Nz,rfl,fun x=>F8 es x⟩)
   rw[←Fx,Ah,Af] at c3
   rw[←Fx,Aa,AP,Ah,Af] at cC
   obtain⟨c,hc⟩:∃c,(HQ a (CI es) x).getD 0=c:=⟨_,rfl⟩
   rw[hc] at cC
   cases l with
   |nil =>
    cases hmm:CI es x with
    |true =>
     rw[hmm] at c3
     have hq:(!CI es x && (HQ a (CI es) x).isSome)=false:=by rw[hmm];simp
     rw[if_neg (by rw[hq];simp),List.append_nil,←hl] at htk
     (try (simp -implicitDefEqProofs only[go_sem,Lo,Ah,Af]));repeat' first|(with_reducible first|exact tI|refine aI ?_ ?_|intro _)|((first|with_reducible refine AU ?_ ?_<;>intro _|(with_reducible refine isCall ?_);first|refine AF c3 ?_)<;>try (simp -implicitDefEqProofs only[go_sem,Lo,Ah,Af]))|simp (disch:=omega) only[Al]|((with_reducible refine Ba ?_);refine⟨(_,_,_),rfl,?_,?_⟩)
     all_goals first|exact⟨_,rfl,htk.symm⟩|trace_state
    |false =>
     rw[hmm] at c3
     cases hB:(HQ a (CI es) x).isSome with
     |false =>
      rw[hB] at cC
      have hq:(!CI es x && (HQ a (CI es) x).isSome)=false:=by rw[hB];simp
      rw[if_neg (by rw[hq];simp),List.append_nil,←hl] at htk
      (try (simp -implicitDefEqProofs only[go_sem,Lo,Ah,Af]));repeat' first|(with_reducible first|exact tI|refine aI ?_ ?_|intro _)|((first|with_reducible refine AU ?_ ?_<;>intro _|(with_reducible refine isCall ?_);first|refine AF c3 ?_|refine Mj (cC) rfl (by simp[D.flat,D.flat1,D.prim]) ?_)<;>try (simp -implicitDefEqProofs only[go_sem,Lo,Ah,Af]))|simp (disch:=omega) only[Al]|((with_reducible refine Ba ?_);refine⟨(_,_,_),rfl,?_,?_⟩)
      all_goals first|exact⟨_,rfl,htk.symm⟩|trace_state
     |true =>
      rw[hB] at cC
      have hq:(!CI es x && (HQ a (CI es) x).isSome)=true:=by rw[hmm,hB];simp
      rw[if_pos hq,←hl] at htk
      (try (simp -implicitDefEqProofs only[go_sem,Lo,Ah,Af]));repeat' first|(with_reducible first|exact tI|refine aI ?_ ?_|intro _)|((first|with_reducible refine AU ?_ ?_<;>intro _|(with_reducible refine isCall ?_);first|refine AF c3 ?_|refine Mj (cC) rfl (by simp[D.flat,D.flat1,D.prim]) ?_)<;>try (simp -implicitDefEqProofs only[go_sem,Lo,Ah,Af]))|simp (disch:=omega) only[Al]|((with_reducible refine Ba ?_);refine⟨(_,_,_),rfl,?_,?_⟩)
      all_goals first|(rw[BS];omega)|(rw[Gj];exact⟨_,rfl,htk.symm⟩)|exact⟨_,rfl,htk.symm⟩|trace_state
   |cons y ys =>
    cases hmm:CI es x with
    |true =>
     rw[hmm] at c3
     have hq:(!CI es x && (HQ a (CI es) x).isSome)=false:=by rw[hmm];simp
     rw[if_neg (by rw[hq];simp),List.append_nil,←hl] at htk
     (try (simp -implicitDefEqProofs only[go_sem,PK,Ah,Af]));repeat' first|(with_reducible first|exact tI|refine aI ?_ ?_|intro _)|((first|with_reducible refine AU ?_ ?_<;>intro _|(with_reducible refine isCall ?_);first|refine AF c3 ?_)<;>try (simp -implicitDefEqProofs only[go_sem,PK,Ah,Af]))|simp (disch:=omega) only[Al]|((with_reducible refine Ba ?_);refine⟨(_,_,_),rfl,?_,?_⟩)
     all_goals first|exact⟨_,rfl,htk.symm⟩|trace_state
    |false =>
     rw[hmm] at c3
     cases hB:(HQ a (CI es) x).isSome with
     |false =>
      rw[hB] at cC
      have hq:(!CI es x && (HQ a (CI es) x).isSome)=false:=by rw[hB];simp
      rw[if_neg (by rw[hq];simp),List.append_nil,←hl] at htk
      (try (simp -implicitDefEqProofs only[go_sem,PK,Ah,Af]));repeat' first|(with_reducible first|exact tI|refine aI ?_ ?_|intro _)|((first|with_reducible refine AU ?_ ?_<;>intro _|(with_reducible refine isCall ?_);first|refine AF c3 ?_|refine Mj (cC) rfl (by simp[D.flat,D.flat1,D.prim]) ?_)<;>try (simp -implicitDefEqProofs only[go_sem,PK,Ah,Af]))|simp (disch:=omega) only[Al]|((with_reducible refine Ba ?_);refine⟨(_,_,_),rfl,?_,?_⟩)
      all_goals first|exact⟨_,rfl,htk.symm⟩|trace_state
     |true =>
      rw[hB] at cC
      have hq:(!CI es x && (HQ a (CI es) x).isSome)=true:=by rw[hmm,hB];simp
      rw[if_pos hq,←hl] at htk
      (try (simp -implicitDefEqProofs only[go_sem,PK,Ah,Af]));repeat' first|(with_reducible first|exact tI|refine aI ?_ ?_|intro _)|((first|with_reducible refine AU ?_ ?_<;>intro _|(with_reducible refine isCall ?_);first|refine AF c3 ?_|refine Mj (cC) rfl (by simp[D.flat,D.flat1,D.prim]) ?_)<;>try (simp -implicitDefEqProofs only[go_sem,PK,Ah,Af]))|simp (disch:=omega) only[Al]|((with_reducible refine Ba ?_);refine⟨(_,_,_),rfl,?_,?_⟩)
      all_goals first|(rw[BS];omega)|(rw[Gj];exact⟨_,rfl,htk.symm⟩)|exact⟨_,rfl,htk.symm⟩|trace_state
  case hend7 =>
   intro l hl
   rw[List.length_map,List.take_of_length_le (Nat.le_refl _)] at hl
   change l=Ey a es at hl
   cases l with
   |nil =>
    have hend:=j7 hI hl.symm
    rw[hend]
    (try (simp -implicitDefEqProofs only[go_sem,Lo]));repeat' first|(with_reducible first|exact tI|refine aI ?_ ?_|intro _)|((first|with_reducible refine AU ?_ ?_<;>intro _)<;>try (simp -implicitDefEqProofs only[go_sem,Lo]))|simp (disch:=omega) only[Al]|((with_reducible refine Ba ?_);refine⟨(_,_,_),rfl,?_,?_⟩)
    all_goals first|rfl|trace_state
   |cons y ys =>
    have hne:Ey a es≠[]:=by rw[←hl];simp
    have hnx:=gI hI hne
    have hlt:=Y4 (cl:=cl) (v:=n) hne
    rw[←hl] at hmle hnx hlt
    obtain⟨l,hll⟩:∃l,y::ys=l:=⟨_,rfl⟩
    have hsn:=fun i hi=>@Z' es l i hi cl n
    have hnw:=fun i hi=>dq (hl.symm.trans hll) (i:=i) hi cl n
    (try (simp -implicitDefEqProofs only[go_sem,PK]));repeat' first|(with_reducible first|exact tI|refine aI ?_ ?_|intro _)|((first|with_reducible refine AU ?_ ?_<;>intro _)<;>try (simp -implicitDefEqProofs only[go_sem,PK]))|simp (disch:=omega) only[Al]|((with_reducible refine Ba ?_);refine⟨(_,_,_),rfl,?_,?_⟩)
    all_goals first|omega|(simp<;>omega)|skip
    rw[hll] at hmle hnx hlt ⊢
    refine Ao (α:=Nat×(List BT)×Nat) (l0:=?l2) (m0:=?m2) (fun x=>[(44,.d (.int .i64 (x.1:Int)))]) (fun x=>[(5000017,.mapB Sp (Oj x.2.1) x.2.2)]) (fun x=>x.1<=l.length/\x.2.1=es++EW (l.take x.1) cl n/\x.2.2=cl+x.1) (fun x=>l.length-x.1) (0,es,cl) ?h02 ?he2 ?he22 ?hI2 ?step2
    case h02=>(simp -implicitDefEqProofs only[go_sem];rfl)
    case he2=>rfl
    case he22=>rfl
    case' step2=>(rintro⟨i,M,q⟩ hI2;try dsimp only at hI2)
    case' hI2=>try dsimp only
    ·exact⟨Nat.zero_le _,by simp[EW],rfl⟩
    ·obtain⟨i1,i2,i3⟩:=hI2
     change M=es++EW (l.take i) cl n at i2
     change q=cl+i at i3
     subst i2 i3
     by_cases hi:i<l.length
     ·have hi':(i:Int)<(l.length:Int):=by omega
      have wi:IntKind.i64.wrap ((i:Int)+1)=((i+1:Nat):Int):=by rw[Ad _ (by omega)];omega
      have hnew:=Yf (v:=n) (cl:=cl+i) (hnw i hi)
      rw[hsn i hi] at hnew
      obtain⟨x,hx⟩:∃x,l[i]?.getD default=x:=⟨_,rfl⟩
      have hty:=J8 x
      rw[hx,Ah,Af] at hnew
      obtain⟨hn1,hn2⟩:=hnew
      rw[Ah,Af] at hty
      (try (simp -implicitDefEqProofs only[go_sem,hi',BS,DF,C9,hi,hx,Ah,Af,hn1,hn2,hty,wi]));repeat' first|(with_reducible first|exact tI|refine aI ?_ ?_|intro _)|((first|with_reducible refine AU ?_ ?_<;>intro _)<;>try (simp -implicitDefEqProofs only[go_sem,hi',BS,DF,C9,hi,hx,Ah,Af,hn1,hn2,hty,wi]))|simp (disch:=omega) only[Al]|((with_reducible refine Ba ?_);refine⟨(_,_,_),rfl,?_,?_⟩)
      all_goals first|omega|rfl|exact⟨_,rfl,rfl⟩|trace_state
     ·have hi':¬(i:Int)<(l.length:Int):=by omega
      have hie:i=l.length:=by omega
      subst hie
      have wn:IntKind.i64.wrap (n+1)=n+1:=Ad _ (by omega)
      rw[List.take_length]
      (try (simp -implicitDefEqProofs only[go_sem,hi',BS,wn,decide_true,decide_false]));repeat' first|(with_reducible first|exact tI|refine aI ?_ ?_|intro _)|((first|with_reducible refine AU ?_ ?_<;>intro _)<;>try (simp -implicitDefEqProofs only[go_sem,hi',BS,wn,decide_true,decide_false]))|simp (disch:=omega) only[Al]|((with_reducible refine Ba ?_);refine⟨(_,_,_),rfl,?_,?_⟩)
      all_goals first|exact hnx|exact hlt|omega|trace_state
end Go.Pw
end
