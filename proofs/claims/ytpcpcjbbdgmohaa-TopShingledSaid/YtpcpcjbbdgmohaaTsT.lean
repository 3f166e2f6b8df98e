/- A part of the proof. -/
import Derived.Test.YtpcpcjbbdgmohaaTsS
import Derived.Test.YtpcpcjbbdgmohaaTsLgB
set_option linter.all false
open Go Go.Pw Go.Proofs
namespace Go.Pw
set_option maxRecDepth 100000
set_option maxHeartbeats 6400000
theorem bC {B:Nat}{t:Ap}(h:RI B t) {b:Nat}(hb:b<B) {n:Int}(hn:0<=n):RI B (t.setL b n):=by
 have hlast:t.last<t.eps.length:=by have:=h.ne;unfold Ap.last;omega
 have hm:=BL hlast
 have h6:=h.six _ hm
 have hl:(t.setL b n).eps.length=t.eps.length:=by simp[Ap.setL]
 refine⟨h.b1,h.b6,h.ml,Ja h.six b n,by rw[hl];exact h.ne,by rw[hl];exact h.le,?_,?_⟩
 ·intro r hr i hi
  rcases List.mem_or_eq_of_mem_set hr with hr|rfl
  ·exact h.no r hr i hi
  ·by_cases hbl:b<(t.eps[t.last]?.getD []).length
   ·rw[Dw hbl]
    split
    ·omega
    ·exact h.no _ hm i hi
   ·rw[List.set_eq_of_length_le (by omega)];exact h.no _ hm i hi
 ·intro r hr i hB hi
  rcases List.mem_or_eq_of_mem_set hr with hr|rfl
  ·exact h.hi r hr i hB hi
  ·by_cases hbl:b<(t.eps[t.last]?.getD []).length
   ·rw[Dw hbl,if_neg (by omega)]
    exact h.hi _ hm i hB hi
   ·rw[List.set_eq_of_length_le (by omega)];exact h.hi _ hm i hB hi
theorem Ve {B:Nat}(hB:B<=6):P_ B DI=List.replicate B (-1):=by
 have:B=0\/B=1\/B=2\/B=3\/B=4\/B=5\/B=6:=by omega
 rcases this with rfl|rfl|rfl|rfl|rfl|rfl|rfl<;>rfl
theorem dG {B:Nat}(hB:B<=6):Ap.begin.med.take B=List.replicate B (-1):=by
 have:B=0\/B=1\/B=2\/B=3\/B=4\/B=5\/B=6:=by omega
 rcases this with rfl|rfl|rfl|rfl|rfl|rfl|rfl<;>rfl
theorem YX {B:Nat}{t:Ap}{b:Nat}{n:Int}(hn:0<=n):Hy B (t.setL b n)=(Hy B t).set t.last ((P_ B (t.eps[t.last]?.getD [])).set b n):=by
 have hc:X6 n=n:=by unfold X6;rw[if_neg (by omega)]
 rw[←hc,Vd,Vf _ t.med t.wr,hc];rfl
theorem P5 (t:Ap) (b:Nat) (n:Int):(t.setL b n).med=t.med:=rfl
theorem SN (t:Ap) (b:Nat) (n:Int):(t.setL b n).wr=t.wr:=rfl
theorem T9 (t:Ap) (b:Nat) (n:Int):(t.setL b n).last=t.last:=by unfold Ap.last Ap.setL;simp
theorem WS (t:Ap) (b:Nat) (n:Int):(t.setL b n).eps.length=t.eps.length:=by simp[Ap.setL]
theorem iA {b B:Nat}(h:b<B):HS (b:Int) 0 ((B:Int)-1)=true:=by simp[HS];omega
structure gU (B:Nat) (o:Cx):Prop where
 k:o.kind=1\/o.kind=2\/o.kind=3\/o.kind=4
 b:0<=o.blk/\o.blk<B
attribute [local congr] Dy CG CH Bn D0 Bu Bw Bv Bm BU BN BG Bp BO Br CT CU CS CV CW CX Bo CN CM Bq BS Bt BT CK C8 BR CQ CR CL CI CJ Dz BP BQ Bs CO CP
attribute [local irreducible] IntKind.wrap Cf Option.getD and or
theorem PT (c:Au) (hb:1<=c.blocks/\c.blocks<=6):E9 E0 NU [HN c] (.list false (Bi (List.replicate c.blocks.toNat (-1)))):=by
 refine Ao Pi A3 (by simp) fun hwf=>?_
 rw[Az];unfold Lp
 rw[Am,AI]
 obtain⟨B,hB⟩:∃B:Nat,c.blocks=(B:Int):=⟨c.blocks.toNat,by omega⟩
 rw[hB,Int.toNat_natCast]
 (try (simp -implicitDefEqProofs only[go_sem]));repeat' first|(with_reducible first|exact tI|refine aI ?_ ?_|intro _)|((first|with_reducible refine Af ?_ ?_<;>intro _)<;>try (simp -implicitDefEqProofs only[go_sem]))|simp (disch:=omega) only[A8]|((with_reducible refine BF ?_);refine⟨_,rfl,?_,?_⟩)
 all_goals first|omega|(simp<;>omega)|skip
 refine BB (α:=Nat) (l0:=?l1) (m0:=?m1) (fun x=>[(3,.own 13 0),(4,.d (.int .i64 (x:Int)))]) (fun x=>[(13,.row 3 1 (decide (x=0)) (Bi (List.replicate x (-1))))]) (fun x=>x<=B) (fun x=>B-x) 0 ?h01 ?he1 ?he21 ?hI1 ?step1
 case h01=>(simp -implicitDefEqProofs only[go_sem];rfl)
 case he1=>rfl
 case he21=>rfl
 case' step1=>(rintro i hI;try dsimp only at hI)
 case' hI1=>try dsimp only
 ·exact Nat.zero_le _
 ·by_cases hi:i<B
  ·have hi':(i:Int)<(B:Int):=by omega
   have wi:IntKind.i64.wrap ((i:Int)+1)=((i+1:Nat):Int):=by rw[BM _ (by omega)];omega
   have hr:List.replicate i (-1:Int)++[-1]=List.replicate (i+1) (-1):=by rw[List.replicate_succ']
   (try (simp -implicitDefEqProofs only[go_sem,hi',wi,IM,hr,List.length_replicate]));repeat' first|(with_reducible first|exact tI|refine aI ?_ ?_|intro _)|((first|with_reducible refine Af ?_ ?_<;>intro _)<;>try (simp -implicitDefEqProofs only[go_sem,hi',wi,IM,hr,List.length_replicate]))|simp (disch:=omega) only[A8]|((with_reducible refine BF ?_);refine⟨_,rfl,?_,?_⟩)
   all_goals first|omega|rfl|exact .inl True.intro|trace_state
  ·have hie:i=B:=by omega
   subst hie
   have hi':¬(i:Int)<(i:Int):=by omega
   have h0:decide (i=0)=false:=decide_eq_false (by omega)
   rw[h0]
   (try (simp -implicitDefEqProofs only[go_sem,hi']));repeat' first|(with_reducible first|exact tI|refine aI ?_ ?_|intro _)|((first|with_reducible refine Af ?_ ?_<;>intro _)<;>try (simp -implicitDefEqProofs only[go_sem,hi']))|simp (disch:=omega) only[A8]|((with_reducible refine BF ?_);refine⟨_,rfl,?_,?_⟩)
   all_goals first|omega|rfl|exact .inl True.intro|trace_state
theorem Ng (c:Au) (hb:1<=c.blocks/\c.blocks<=6):E9 E0 K2 [HN c] (YN c.blocks.toNat Ap.begin):=by
 have cO:=PT c hb
 rw[Am,AI] at cO
 have h1:=dG (B:=c.blocks.toNat) (by omega)
 have h2:Im (Hy c.blocks.toNat Ap.begin)=[.list false (Bi (List.replicate c.blocks.toNat (-1)))]:=by
  show [D.list false (Bi (P_ c.blocks.toNat DI))]=_
  rw[Ve (by omega)]
 refine Ao No A3 (by simp) fun hwf=>?_
 rw[Az];unfold Jo
 rw[Am,AI,Cb,Cc,h1,h2]
 (try (simp -implicitDefEqProofs only[go_sem]));repeat' first|(with_reducible first|exact tI|refine aI ?_ ?_|intro _)|((first|with_reducible refine Af ?_ ?_<;>intro _|(with_reducible refine isCall ?_);first|refine Ae cO ?_)<;>try (simp -implicitDefEqProofs only[go_sem]))|simp (disch:=omega) only[A8]
 all_goals first|omega|rfl|exact .inl True.intro|trace_state
theorem Ln (B:Nat) (t:Ap) (h:RI B t) (b:Nat) (hb:b<B) (hc:t.can b=true):E9 E0 JM [YN B t,.int .i64 (b:Int)] (.tup [YN B (t.drain0 b),.bool true]):=by
 have hB:=h.b6
 have cF:=Nf B t h
 unfold Ap.can at hc
 unfold Ap.drain0
 cases hf:t.first with
 |none=>rw[hf] at hc;cases hc
 |some e =>
  rw[hf] at hc
  have he:e<t.eps.length:=by
   unfold Ap.first at hf
   rw[List.findIdx?_eq_some_iff_getElem] at hf
   exact hf.1
  have hfI:t.fI=(e:Int):=by unfold Ap.fI;rw[hf]
  rw[hf,hfI] at cF
  have cW:=Ge B t h e b he hb
  have hm:=BL he
  have h6:=h.six _ hm
  have hno:=h.no _ hm b (by omega)
  have hat:=RD (B:=B) he
  have hle:=h.le
  have hrb:=UE h6 hb hB
  have hrl:=KI h6 hB
  have h3:(t.eps[e]?.getD [])[b]?.getD 0≠-3:=by have h9:=of_decide_eq_true hc;exact h9
  have hc2:X6 ((t.eps[e]?.getD [])[b]?.getD 0)=(t.eps[e]?.getD [])[b]?.getD 0:=by unfold X6;rw[if_neg h3]
  rw[hc2] at hrb
  rw[←hrb] at hno
  obtain⟨r,hr⟩:∃r,P_ B (t.eps[e]?.getD [])=r:=⟨_,rfl⟩
  rw[hr] at hat hrl hno
  have hEl:=KJ B t
  have he':(e:Int)<((Hy B t).length:Int):=by omega
  have he2:e<(Hy B t).length:=by omega
  have hml:(t.med.take B).length=B:=by rw[List.length_take,h.ml];omega
  have wB:IntKind.i64.wrap ((B:Int)-1)=(B:Int)-1:=BM _ (by omega)
  have cI:=EA (b:Int) 0 ((B:Int)-1)
  have hin:HS (b:Int) 0 ((B:Int)-1)=true:=iA hb
  rw[hin] at cI
  have hb':(b:Int)<(B:Int):=by omega
  rw[Option.isSome_some] at cF
  rw[Cb,Cc] at cF
  rw[Cb,Cc,Cb,Cc] at cW
  refine Ao MI A3 (by simp) fun hwf=>?_
  rw[Az];unfold IA
  rw[Option.getD_some,Cb,Cc,Cb,Cc]
  obtain⟨W,hW⟩:∃W,t.write e b=W:=⟨_,rfl⟩
  rw[hW] at cW ⊢
  (try (simp -implicitDefEqProofs only[go_sem,DZ,D3,EY,EM,hat,hrl,hno,he',he2,hb',hb,hml,wB,Int.toNat_natCast]));repeat' first|(with_reducible first|exact tI|refine aI ?_ ?_|intro _)|((first|with_reducible refine Af ?_ ?_<;>intro _|(with_reducible refine isCall ?_);first|refine Ae cF ?_|refine Ae cI ?_|refine Ae cW ?_)<;>try (simp -implicitDefEqProofs only[go_sem,DZ,D3,EY,EM,hat,hrl,hno,he',he2,hb',hb,hml,wB,Int.toNat_natCast]))|simp (disch:=omega) only[A8]
  all_goals first|omega|rfl|exact .inl True.intro|trace_state
theorem Lo (B:Nat) (t:Ap) (h:RI B t) (hle:t.eps.length<=90) (n:Int) (hn:0<=n) (o:Cx) (ho:gU B o):E9 E0 PL [YN B t,Nh o,.int .i64 n] (YN B (t.ord0 n o)):=by
 have hB:=h.b6;have hB1:=h.b1;have hml:=h.ml
 have hlast:t.last<t.eps.length:=by have:=h.ne;unfold Ap.last;omega
 have hm:=BL hlast
 have h6:=h.six _ hm
 have hEl:=KJ B t
 have hnE:Hy B t≠[]:=fun hx=>by rw[hx] at hEl;simp at hEl;omega
 have hmL:(t.med.take B).length=B:=by rw[List.length_take];omega
 have hmm:t.med.take B≠[]:=fun hx=>by rw[hx] at hmL;simp at hmL;omega
 have cC:=Jg (t.med.take B) (Hy B t) t.wr hmm (by omega) (fun r hr=>by
  obtain⟨r0,h0,rfl⟩:=List.mem_map.1 hr
  have h1:=KI (h.six _ h0) hB
  exact⟨fun hx=>by rw[hx] at h1;simp at h1;omega,by omega⟩) (by omega) hnE
 have hat:=RD (B:=B) hlast
 have hrl:=KI h6 hB
 have hsE:=fun b=>YX (B:=B) (t:=t) (b:=b) hn
 obtain⟨r,hr⟩:∃r,P_ B (t.eps[t.last]?.getD [])=r:=⟨_,rfl⟩
 rw[hr] at hat hrl hsE
 have hl1:(t.last:Int)<((Hy B t).length:Int):=by omega
 have hl2:t.last<(Hy B t).length:=by omega
 have wl:IntKind.i64.wrap ((t.eps.length:Int)-1)=(t.last:Int):=by rw[BM _ (by omega)];unfold Ap.last;omega
 obtain⟨bb,hbb⟩:∃bb:Nat,o.blk=(bb:Int):=⟨o.blk.toNat,by have:=ho.b;omega⟩
 have hbt:o.blk.toNat=bb:=by omega
 have hb:bb<B:=by have:=ho.b;omega
 have hb':(bb:Int)<(B:Int):=by omega
 rw[Q9] at cC
 have hmr:∀E':List (List Int),E'.length=t.eps.length->HU (Vt t.eps.length) (SP E')=Im E':=fun E' he=>by rw[←he];exact Ly E'
 have hsl:∀x,((Hy B t).set t.last x).length=t.eps.length:=fun x=>by rw[List.length_set,hEl]
 have hmS:=fun x=>hmr _ (hsl x)
 rw[hEl] at cC
 unfold Ap.ord0
 rw[hbt]
 by_cases k1:o.kind=1
 ·rw[if_pos k1]
  refine Ao Gz A3 (by simp) fun hwf=>?_
  rw[Az];unfold GP
  rw[Cb,Cc,Cb,Cc,Aa,Ab,P5,SN,hsE,hbb]
  (try (simp -implicitDefEqProofs only[go_sem,FN,D_,Ey,Ex,hEl,wl,k1,hat,hrl,hlast,hl1,hl2,hb',hb,hmS,KH,HH,Int.toNat_natCast]));repeat' first|(with_reducible first|exact tI|refine aI ?_ ?_|intro _)|((first|with_reducible refine Af ?_ ?_<;>intro _|(with_reducible refine isCall ?_);first|(refine Ad ([]) ([((8,0),(11,0)),((29,0),(10011,0))]) (cC) (by repeat' first|exact True.intro|exact rfl|refine And.intro ?_ ?_) (by simp[AW,Ah.get,AE.ren,AV.ren,AV.ren.renL,AB.get,AX,Ag,AY,AB.reach,AV.sites,AV.sites.sitesL,AB.osites]) (by simp[AL,Aq,AK,Ah.get,AY,A2,A9,AZ,AM]) (by rfl) (by simp only[Ai,Ah.get,AE.ren,AV.ren,AV.ren.renL,and_self,and_true,true_and,if_true,reduceIte];rfl) ?_))<;>try (simp -implicitDefEqProofs only[go_sem,FN,D_,Ey,Ex,hEl,wl,k1,hat,hrl,hlast,hl1,hl2,hb',hb,hmS,KH,HH,Int.toNat_natCast]))|simp (disch:=omega) only[A8]|((with_reducible refine BF ?_);refine⟨_,rfl,?_,?_⟩)
  all_goals first|omega|rfl|exact .inl True.intro|trace_state
 rw[if_neg k1]
 by_cases k2:o.kind=2
 ·rw[if_pos k2]
  have hu:=bC h hb hn
  obtain⟨u,hue⟩:∃u,t.setL bb n=u:=⟨_,rfl⟩
  have hul:u.last=t.last:=by rw[←hue,T9]
  have huL:u.eps.length=t.eps.length:=by rw[←hue,WS]
  have hum:u.med=t.med:=by rw[←hue,P5]
  have huw:u.wr=t.wr:=by rw[←hue,SN]
  have huE:=hsE bb
  rw[hue] at hu huE ⊢
  have cA:=G9 B u hu u.last (by omega)
  have hv:=eC (n:=u.last) hu (by omega)
  have cW:=Ge B (u.wrE u.last) hv u.last bb (by rw[Cp];omega) hb
  dsimp only
  obtain⟨v,hve⟩:∃v,u.wrE u.last=v:=⟨_,rfl⟩
  rw[hve] at cA cW ⊢
  obtain⟨w,hwe⟩:∃w,v.write u.last bb=w:=⟨_,rfl⟩
  rw[hwe] at cW ⊢
  rw[Cb,Cc,huE,hum,huw,hul,Cb,Cc] at cA
  rw[Cb,Cc,hul,Cb,Cc] at cW
  refine Ao Gz A3 (by simp) fun hwf=>?_
  rw[Az];unfold GP
  rw[Cb,Cc,Cb,Cc,Aa,Ab,hbb]
  (try (simp -implicitDefEqProofs only[go_sem,FN,D_,Ey,Ex,hEl,wl,k2,hat,hrl,hlast,hl1,hl2,hb',hb,hmS,KH,HH,Int.toNat_natCast]));repeat' first|(with_reducible first|exact tI|refine aI ?_ ?_|intro _)|((first|with_reducible refine Af ?_ ?_<;>intro _|(with_reducible refine isCall ?_);first|(refine Ad ([]) ([((8,0),(11,0)),((29,0),(10011,0))]) (cC) (by repeat' first|exact True.intro|exact rfl|refine And.intro ?_ ?_) (by simp[AW,Ah.get,AE.ren,AV.ren,AV.ren.renL,AB.get,AX,Ag,AY,AB.reach,AV.sites,AV.sites.sitesL,AB.osites]) (by simp[AL,Aq,AK,Ah.get,AY,A2,A9,AZ,AM]) (by rfl) (by simp only[Ai,Ah.get,AE.ren,AV.ren,AV.ren.renL,and_self,and_true,true_and,if_true,reduceIte];rfl) ?_)|refine Ae cA ?_|refine Ae cW ?_)<;>try (simp -implicitDefEqProofs only[go_sem,FN,D_,Ey,Ex,hEl,wl,k2,hat,hrl,hlast,hl1,hl2,hb',hb,hmS,KH,HH,Int.toNat_natCast]))|simp (disch:=omega) only[A8]|((with_reducible refine BF ?_);refine⟨_,rfl,?_,?_⟩)
  all_goals first|omega|rfl|exact .inl True.intro|trace_state
 rw[if_neg k2]
 by_cases k3:o.kind=3
 ·rw[if_pos k3]
  have hnx:Im (Hy B { t with eps:=t.eps++[DI] })=Im (Hy B t++[List.replicate B (-1)]):=by
   unfold Hy;rw[List.map_append,←Ve hB];rfl
  have hmA:HU (Vt (t.eps.length+1)) (SP (Hy B t++[List.replicate B (-1)]))=Im (Hy B t++[List.replicate B (-1)]):=by
   rw[←Ly,List.length_append,List.length_singleton,hEl]
  refine Ao Gz A3 (by simp) fun hwf=>?_
  rw[Az];unfold GP
  rw[Cb,Cc,Cb,Cc,Aa,Ab,hbb,hnx]
  dsimp only
  (try (simp -implicitDefEqProofs only[go_sem,FN,D_,hEl,wl,k3]));repeat' first|(with_reducible first|exact tI|refine aI ?_ ?_|intro _)|((first|with_reducible refine Af ?_ ?_<;>intro _|(with_reducible refine isCall ?_);first|(refine Ad ([]) ([((8,0),(11,0)),((29,0),(10011,0))]) (cC) (by repeat' first|exact True.intro|exact rfl|refine And.intro ?_ ?_) (by simp[AW,Ah.get,AE.ren,AV.ren,AV.ren.renL,AB.get,AX,Ag,AY,AB.reach,AV.sites,AV.sites.sitesL,AB.osites]) (by simp[AL,Aq,AK,Ah.get,AY,A2,A9,AZ,AM]) (by rfl) (by simp only[Ai,Ah.get,AE.ren,AV.ren,AV.ren.renL,and_self,and_true,true_and,if_true,reduceIte];rfl) ?_))<;>try (simp -implicitDefEqProofs only[go_sem,FN,D_,hEl,wl,k3]))|simp (disch:=omega) only[A8]|((with_reducible refine BF ?_);refine⟨_,rfl,?_,?_⟩)
  all_goals first|omega|(simp<;>omega)|skip
  refine BB (α:=Nat) (l0:=?l2) (m0:=?m2) (fun x=>[(8,.own 58 0),(9,.d (.int .i64 (x:Int)))]) (fun x=>[(58,.row 3 1 (decide (x=0)) (Bi (List.replicate x (-1))))]) (fun x=>x<=B) (fun x=>B-x) 0 ?h02 ?he2 ?he22 ?hI2 ?step2
  case h02=>(simp -implicitDefEqProofs only[go_sem];rfl)
  case he2=>rfl
  case he22=>rfl
  case' step2=>(rintro i hI;try dsimp only at hI)
  case' hI2=>try dsimp only
  ·exact Nat.zero_le _
  ·by_cases hi:i<B
   ·have hi':(i:Int)<(B:Int):=by omega
    have wi:IntKind.i64.wrap ((i:Int)+1)=((i+1:Nat):Int):=by rw[BM _ (by omega)];omega
    have hri:List.replicate i (-1:Int)++[-1]=List.replicate (i+1) (-1):=by rw[List.replicate_succ']
    (try (simp -implicitDefEqProofs only[go_sem,hmL,hi',wi,IM,hri,List.length_replicate]));repeat' first|(with_reducible first|exact tI|refine aI ?_ ?_|intro _)|((first|with_reducible refine Af ?_ ?_<;>intro _)<;>try (simp -implicitDefEqProofs only[go_sem,hmL,hi',wi,IM,hri,List.length_replicate]))|simp (disch:=omega) only[A8]|((with_reducible refine BF ?_);refine⟨_,rfl,?_,?_⟩)
    all_goals first|omega|rfl|exact .inl True.intro|trace_state
   ·have hie:i=B:=by omega
    subst hie
    have hi':¬(i:Int)<(i:Int):=by omega
    have h0:decide (i=0)=false:=decide_eq_false (by omega)
    rw[h0]
    (try (simp -implicitDefEqProofs only[go_sem,hmL,hi',FN,Lf,D_,L4,hEl,hmA]));repeat' first|(with_reducible first|exact tI|refine aI ?_ ?_|intro _)|((first|with_reducible refine Af ?_ ?_<;>intro _)<;>try (simp -implicitDefEqProofs only[go_sem,hmL,hi',FN,Lf,D_,L4,hEl,hmA]))|simp (disch:=omega) only[A8]|((with_reducible refine BF ?_);refine⟨_,rfl,?_,?_⟩)
    all_goals first|omega|rfl|exact .inl True.intro|trace_state
 rw[if_neg k3]
 have k4:o.kind=4:=by have:=ho.k;omega
 rw[if_pos k4]
 have cA:=G9 B t h t.eps.length (Nat.le_refl _)
 obtain⟨v,hve⟩:∃v,t.wrE t.eps.length=v:=⟨_,rfl⟩
 rw[hve] at cA ⊢
 have wl2:IntKind.i64.wrap ((t.last:Int)+1)=(t.eps.length:Int):=by rw[BM _ (by omega)];unfold Ap.last;omega
 rw[Cb,Cc,Cb,Cc] at cA
 have hm0:=hmr (Hy B t) hEl
 refine Ao Gz A3 (by simp) fun hwf=>?_
 rw[Az];unfold GP
 rw[Cb,Cc,Cb,Cc,Aa,Ab,hbb]
 (try (simp -implicitDefEqProofs only[go_sem,FN,D_,hEl,wl,wl2,k4,hm0]));repeat' first|(with_reducible first|exact tI|refine aI ?_ ?_|intro _)|((first|with_reducible refine Af ?_ ?_<;>intro _|(with_reducible refine isCall ?_);first|(refine Ad ([]) ([((8,0),(11,0)),((29,0),(10011,0))]) (cC) (by repeat' first|exact True.intro|exact rfl|refine And.intro ?_ ?_) (by simp[AW,Ah.get,AE.ren,AV.ren,AV.ren.renL,AB.get,AX,Ag,AY,AB.reach,AV.sites,AV.sites.sitesL,AB.osites]) (by simp[AL,Aq,AK,Ah.get,AY,A2,A9,AZ,AM]) (by rfl) (by simp only[Ai,Ah.get,AE.ren,AV.ren,AV.ren.renL,and_self,and_true,true_and,if_true,reduceIte];rfl) ?_)|refine Ae cA ?_)<;>try (simp -implicitDefEqProofs only[go_sem,FN,D_,hEl,wl,wl2,k4,hm0]))|simp (disch:=omega) only[A8]|((with_reducible refine BF ?_);refine⟨_,rfl,?_,?_⟩)
 all_goals first|omega|rfl|exact .inl True.intro|trace_state
end Go.Pw
