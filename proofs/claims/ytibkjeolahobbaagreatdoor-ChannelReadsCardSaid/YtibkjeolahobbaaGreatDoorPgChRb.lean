/- A part of the proof. -/
import Derived.Test.YtibkjeolahobbaaGreatDoorPgChrBt
import Derived.Test.YtibkjeolahobbaaGreatDoorPgChM
set_option linter.all false
open Go Go.Pw Go.Proofs
namespace Go.Pw
set_option maxRecDepth 100000
set_option maxHeartbeats 3200000
section
def oM (o:Option Nat):D:=.tup [.int .i64 ((o.getD 0:Nat):Int),.bool o.isSome]
theorem eu (s:Nat):oM (some s)=.tup [.int .i64 (s:Int),.bool true]:=rfl
theorem ew:oM none=.tup [.int .i64 0,.bool false]:=rfl
theorem dJ {l:List Nat}{k:Nat}(h:k<l.length):l[k]?.getD 0∈l:=by rw[List.getElem?_eq_getElem h];exact List.getElem_mem h
theorem jw {c:AW}{p:List Int}(h:∀s,s<16->c.stm s≠p):Kw c p=none:=by
 cases he:Kw c p with
 |none=>rfl
 |some s=>obtain⟨h1,h2⟩:=MI he;exact absurd h2 (h s h1)
def Tt (X:List Int) (ms:List Nat):List Int:=ms.foldl (fun a i=>a.set i 0) X
theorem Vr (ms:List Nat):∀X:List Int,(Tt X ms).length=X.length:=by
 induction ms with
 |nil=>intro X;rfl
 |cons m ms ih=>intro X;show (Tt (X.set m 0) ms).length=_;rw[ih,List.length_set]
theorem io (X:List Int) (ms:List Nat) (m:Nat):Tt X (ms++[m])=(Tt X ms).set m 0:=by simp[Tt]
theorem mI (ms:List Nat) {i:Nat}(h:i∉ms):∀X:List Int,(Tt X ms)[i]?=X[i]?:=by
 induction ms with
 |nil=>intro X;rfl
 |cons m ms ih =>
  intro X
  show (Tt (X.set m 0) ms)[i]?=_
  rw[ih fun hh=>h (List.mem_cons_of_mem _ hh),List.getElem?_set_ne fun e=>h (by rw[e];exact List.mem_cons_self)]
theorem mH (ms:List Nat):∀X:List Int,(∀x,x∈X->0<=x/\x<=15)->∀x,x∈Tt X ms->0<=x/\x<=15:=by
 induction ms with
 |nil=>intro X h;exact h
 |cons m ms ih =>
  intro X h
  refine ih (X.set m 0) fun x hx=>?_
  rcases List.mem_or_eq_of_mem_set hx with hx|rfl
  ·exact h x hx
  ·omega
theorem lN {sy:List (Option Nat)}(h:∀i,i<sy.length->∀s,sy[i]?.getD none=some s->s<16):∀x,x∈HJ sy->0<=x/\x<=15:=fun x hx=>by
 simp only[HJ,List.mem_map] at hx
 obtain⟨o,ho,rfl⟩:=hx
 cases o with
 |none=>exact⟨by simp,by simp⟩
 |some s =>
  obtain⟨i,hi⟩:=List.getElem?_of_mem ho
  have hl:=(List.getElem?_eq_some_iff.1 hi).1
  have:=h i hl s (by rw[hi];rfl)
  simp only[Option.getD_some];omega
theorem jx {c:AY}{bits:List Int}{a:Nat}:∀i,i<(c.syL bits a).length->∀s,(c.syL bits a)[i]?.getD none=some s->s<16:=fun i hi s hs=>by
 rw[Jw] at hi
 simp[AY.syL,hi] at hs
 exact(MI hs).1
theorem be {xs:List Int}{n:Int}(hl:(xs.length:Int)=n) (h:∀x,x∈xs->0<=x/\x<=15):CP xs n=true:=by
 have:iv (fs xs)=xs:=Xb (by
  rw[List.all_eq_true]
  intro x hx
  have:=h x hx
  unfold Kx;rw[decide_eq_true_eq];omega)
 rw[←this,Wa,decide_eq_true_eq,Vf];exact hl
theorem gm {c:AY}(hk:HU c) {sy:List (Option Nat)}(hl:sy.length=c.syms) :
  le c.L c.P c.Q (Tt (CG c.seed (HJ sy)) (Na sy)) (ni (Na sy))=Zd c sy/\g_ c.L c.P c.Q (Tt (CG c.seed (HJ sy)) (Na sy)) (ni (Na sy))=bC c sy:=by
 obtain⟨l,p,q,h1,h2,h3,b1,b2,b3,b4,b5,b6,b7,hc⟩:=IB hk.wev
 have hs:c.syms=l*q:=by
  have:=hk.syms.2.2
  rw[h1,h3] at this
  have e:(q:Int)*(l:Int)=((l*q:Nat):Int):=by push_cast;exact Int.mul_comm ..
  rw[e] at this;omega
 obtain⟨g1,g2⟩:=nL hk h1 h2 h3 hs hl
 have hxl:(CG c.seed (HJ sy)).length=c.syms:=by rw[CX,EB,hl]
 have hel:(Tt (CG c.seed (HJ sy)) (Na sy)).length=c.syms:=by rw[Vr,hxl]
 have hsy:CP (Tt (CG c.seed (HJ sy)) (Na sy)) (c.Q*c.L)=true:=be (by rw[hel];exact hk.syms.2.2.symm) (mH _ _ (Hd _ _))
 have hmks:Yd (l*q) (Na sy):=⟨List.Pairwise.filter _ List.pairwise_lt_range,fun j hj=>by
  have:=(List.mem_filter.1 hj).1
  rw[List.mem_range] at this
  omega⟩
 have hm:Da (ni (Na sy)) ((Tt (CG c.seed (HJ sy)) (Na sy)).length:Int)=true:=by
  rw[hel,hs];exact Qj hmks
 have key:=g8 (L:=l) (P:=p) (q:=q) (B:=fs (Tt (CG c.seed (HJ sy)) (Na sy))) (C:=fs (CG c.seed (HJ sy))) b2 (by omega) hmks fun i hi hn=>by
  simp only[fs,List.getElem?_map]
  rw[mI _ hn]
 rw[g1,g2]
 unfold le g_
 rw[if_pos hk.wev,if_pos hsy,if_pos hm,if_pos hk.wev,if_pos hsy,if_pos hm,f9,h1,h2,h3,Int.toNat_natCast,Int.toNat_natCast,Int.toNat_natCast,key]
 exact⟨rfl,rfl⟩
theorem gS {sy:List (Option Nat)}{k:Nat}(h:k<sy.length):(HJ sy).take k++[((sy[k].getD 0:Nat):Int)]=(HJ sy).take (k+1):=by
 rw[List.take_add_one,List.getElem?_eq_getElem (by rw[EB];exact h)]
 simp[HJ]
theorem im (X:List Int) (ms:List Nat) {k:Nat}(h:k<ms.length):(Tt X (ms.take k)).set (ms[k]?.getD 0) 0=Tt X (ms.take (k+1)):=by
 rw[←io,List.take_add_one,List.getElem?_eq_getElem h];rfl
attribute [local congr] Bm A' BA Au Bn Az A1 A0 Ar Al Af Aa Aw Ag Ax BM BQ BO BP BN BR BG Aj Ay Ak BE BX Ai BK BL BF BH BJ BI BC BD A_ Bp BB Av Ah
attribute [local irreducible] IntKind.wrap A3 Option.getD and or
theorem Pi (c:AY) (hk:HU c) (nb:Bool) (p:List Int):CA E0 Lw [DX c,.list nb (Ab p)] (oM (Kw c.code p)):=by
 refine AL P3 An (by simp) fun hwf=>?_
 rw[AR];unfold KL
 (try (simp -implicitDefEqProofs only[go_sem,AP,AO]));repeat' first|(with_reducible first|exact tI|refine aI ?_ ?_|intro _)|((first|with_reducible refine AK ?_ ?_<;>intro _)<;>try (simp -implicitDefEqProofs only[go_sem,AP,AO]))|simp (disch:=omega) only[Ae]|((with_reducible refine Ad ?_);refine⟨_,rfl,?_,?_⟩)
 all_goals first|omega|(simp<;>omega)|skip
 refine AX (α:=Nat) (l0:=?l1) (m0:=?m1) (fun x=>[(6,.d (.int .i64 (x:Int)))]) (fun x=>[]) (fun x=>x<=16/\∀j,j<x->c.code.stm j≠p) (fun x=>16-x) 0 ?h01 ?he1 ?he21 ?hI1 ?step1
 case h01=>(simp -implicitDefEqProofs only[go_sem];rfl)
 case he1=>rfl
 case he21=>rfl
 case' step1=>(rintro s hI;try dsimp only at hI)
 case' hI1=>try dsimp only
 ·exact⟨Nat.zero_le _,fun j hj=>by omega⟩
 ·obtain⟨s1,s2⟩:=hI
  by_cases hs:s<16
  ·have hs':(s:Int)<16:=by omega
   have hws:IntKind.i64.wrap ((s:Int)+1)=((s+1:Nat):Int):=by rw[AZ _ (by omega)];omega
   have c1:=Ex c hk.code s hs
   have c2:=Ej false nb (c.code.stm s) p
   by_cases he:c.code.stm s=p
   ·have hr:oM (Kw c.code p)=.tup [.int .i64 (s:Int),.bool true]:=by rw[←he,Rs hk.dst hs,eu]
    rw[decide_eq_true he] at c2
    rw[hr]
    (try (simp -implicitDefEqProofs only[go_sem,AP,AO,hs']));repeat' first|(with_reducible first|exact tI|refine aI ?_ ?_|intro _)|((first|with_reducible refine AK ?_ ?_<;>intro _|(with_reducible refine isCall ?_);first|refine AE c1 ?_|refine AE c2 ?_)<;>try (simp -implicitDefEqProofs only[go_sem,AP,AO,hs']))|simp (disch:=omega) only[Ae]|((with_reducible refine Ad ?_);refine⟨_,rfl,?_,?_⟩)
    all_goals first|omega|(simp<;>omega)|skip
    all_goals first|rfl|skip
   ·rw[decide_eq_false he] at c2
    (try (simp -implicitDefEqProofs only[go_sem,AP,AO,hs',hws]));repeat' first|(with_reducible first|exact tI|refine aI ?_ ?_|intro _)|((first|with_reducible refine AK ?_ ?_<;>intro _|(with_reducible refine isCall ?_);first|refine AE c1 ?_|refine AE c2 ?_)<;>try (simp -implicitDefEqProofs only[go_sem,AP,AO,hs',hws]))|simp (disch:=omega) only[Ae]|((with_reducible refine Ad ?_);refine⟨_,rfl,?_,?_⟩)
    all_goals first|omega|(simp<;>omega)|skip
    rename_i j hj
    have hj2:j<s+1:=hj
    rcases Nat.lt_or_ge j s with h|h
    ·exact s2 j h
    ·have:j=s:=by omega
     subst this;exact he
  ·have hs':¬(s:Int)<16:=by omega
   have hr:oM (Kw c.code p)=.tup [.int .i64 0,.bool false]:=by rw[jw fun j hj=>s2 j (by omega),ew]
   rw[hr]
   (try (simp -implicitDefEqProofs only[go_sem,hs']));repeat' first|(with_reducible first|exact tI|refine aI ?_ ?_|intro _)|((first|with_reducible refine AK ?_ ?_<;>intro _)<;>try (simp -implicitDefEqProofs only[go_sem,hs']))|simp (disch:=omega) only[Ae]|((with_reducible refine Ad ?_);refine⟨_,rfl,?_,?_⟩)
   all_goals first|omega|(simp<;>omega)|skip
   all_goals first|rfl|skip
theorem R_ (c:AY) (hk:HU c) (nb:Bool) (bits:List Int) (a:Nat) (ha:a+c.tot<=bits.length) (hb:bits.length<=1000) :
  CA E0 PJ [DX c,.list nb (Ab bits),.int .i64 (a:Int)] (.tup [.list false (Ab (Tt (CG c.seed (HJ (c.syL bits a))) (Na (c.syL bits a)))),.list (Na (c.syL bits a)).isEmpty (Ab (ni (Na (c.syL bits a))))]):=by
 have hm:=hk.markl
 have ht:=hk.tot
 have hs:=hk.syms
 have hz:=Ha hk.code
 have htt:c.tot=c.mark.length+c.syms*c.code.sz:=rfl
 have cS:=Ec c hk.wev
 have cZ:=LC c hk.code
 rw[hs.2.2] at cS
 have hsl:=Jw c bits a
 have hsr:=lN (@jx c bits a)
 have hget:∀i,i<c.syms->∀h:i<(c.syL bits a).length,(c.syL bits a)[i]=Kw c.code (c.part bits a i):=fun i hi h=>by simp[AY.syL]
 obtain⟨sy,hsy⟩:∃sy,c.syL bits a=sy:=⟨_,rfl⟩
 simp only[hsy] at hsl hsr hget ⊢
 have hkl:=EB sy
 refine AL Sm An (by simp) fun hwf=>?_
 rw[AR];unfold Ms
 (try (simp -implicitDefEqProofs only[go_sem,AP,AO]));repeat' first|(with_reducible first|exact tI|refine aI ?_ ?_|intro _)|((first|with_reducible refine AK ?_ ?_<;>intro _)<;>try (simp -implicitDefEqProofs only[go_sem,AP,AO]))|simp (disch:=omega) only[Ae]|((with_reducible refine Ao ?_);refine⟨(_,_,_),rfl,?_,?_⟩)|((with_reducible refine Ad ?_);refine⟨_,rfl,?_,?_⟩)
 all_goals first|omega|(simp<;>omega)|skip
 refine AX (α:=Nat×Bool×Bool) (l0:=?l2) (m0:=?m2) (fun x=>[(8,.d (.int .i64 (x.1:Int)))]) (fun x=>[(51,.row 3 1 x.2.2 (Ab ((HJ sy).take x.1))),(47,.row 3 1 x.2.1 (Ab (ni (TW sy x.1))))]) (fun x=>x.1<=sy.length/\x.2.1=(TW sy x.1).isEmpty/\x.2.2=decide (x.1=0)) (fun x=>sy.length-x.1) (0,true,true) ?h02 ?he2 ?he22 ?hI2 ?step2
 case h02=>(simp -implicitDefEqProofs only[go_sem];rfl)
 case he2=>rfl
 case he22=>rfl
 case' step2=>(rintro⟨i,e,f⟩ hI;try dsimp only at hI)
 case' hI2=>try dsimp only
 ·exact⟨Nat.zero_le _,rfl,rfl⟩
 ·obtain⟨i1,i2,i3⟩:=hI
  change e=(TW sy i).isEmpty at i2
  change f=decide (i=0) at i3
  by_cases hi:i<sy.length
  ·have hi':(i:Int)<((c.syms:Nat):Int):=by omega
   have hwi:IntKind.i64.wrap ((i:Int)+1)=((i+1:Nat):Int):=by rw[AZ _ (by omega)];omega
   have h1:i*c.code.sz+c.code.sz<=c.syms*c.code.sz:=by have:=Nat.mul_le_mul_right c.code.sz (show i+1<=c.syms by omega);rw[Nat.add_mul,Nat.one_mul] at this;exact this
   have v0:IntKind.i64.wrap ((a:Int)+(c.mark.length:Int))=((a+c.mark.length:Nat):Int):=by rw[AZ _ (by omega)];omega
   have v1:IntKind.i64.wrap ((i:Int)*(c.code.sz:Int))=((i*c.code.sz:Nat):Int):=by rw[←Int.natCast_mul];exact AZ _ (by omega)
   have v2:IntKind.i64.wrap (((a+c.mark.length:Nat):Int)+((i*c.code.sz:Nat):Int))=((a+c.mark.length+i*c.code.sz:Nat):Int):=by rw[AZ _ (by omega)];omega
   have v3:IntKind.i64.wrap (((a+c.mark.length+i*c.code.sz:Nat):Int)+(c.code.sz:Int))=((a+c.mark.length+i*c.code.sz+c.code.sz:Nat):Int):=by rw[AZ _ (by omega)];omega
   obtain⟨g,hg⟩:∃g,a+c.mark.length+i*c.code.sz=g:=⟨_,rfl⟩
   have hpa:(bits.drop g).take c.code.sz=c.part bits a i:=by unfold AY.part;rw[←hg]
   rw[hg] at v2 v3
   have hsub:g+c.code.sz-g=c.code.sz:=by omega
   have g1:((g+c.code.sz:Nat):Int)<=(bits.length:Int):=by omega
   have g3:(g:Int)<=((g+c.code.sz:Nat):Int):=by omega
   have c1:=Pi c hk nb (c.part bits a i)
   have hsi:=hget i (by omega) hi
   have hkn:=gS hi
   have hl32:((HJ sy).take i).length<=32:=by rw[List.length_take];omega
   have hmk:=ZN sy i
   have hml:=VU (TW sy i)
   have hfe:false=decide (i+1=0):=by simp
   rw[←hsi] at c1
   cases hsv:sy[i] with
   |none =>
    rw[hsv] at c1 hkn
    simp only[oM,Option.isSome_none,Option.getD_none] at c1 hkn
    have h2:=XS sy hi hsv
    have h3:=XK (TW sy i) i
    have h4:false=(TW sy i++[i]).isEmpty:=by cases TW sy i<;>rfl
    rw[←h2] at h4 h3
    (try (simp -implicitDefEqProofs only[go_sem,AP,AO,hi',hwi,v0,v1,v2,v3,hpa,hsub,g1,g3,hkn,h3]));repeat' first|(with_reducible first|exact tI|refine aI ?_ ?_|intro _)|((first|with_reducible refine AK ?_ ?_<;>intro _|(with_reducible refine isCall ?_);first|refine AE cS ?_|refine AE cZ ?_|refine AE c1 ?_)<;>try (simp -implicitDefEqProofs only[go_sem,AP,AO,hi',hwi,v0,v1,v2,v3,hpa,hsub,g1,g3,hkn,h3]))|simp (disch:=omega) only[Ae]|((with_reducible refine Ao ?_);refine⟨(_,_,_),rfl,?_,?_⟩)|((with_reducible refine Ad ?_);refine⟨_,rfl,?_,?_⟩)
    all_goals first|omega|(simp<;>omega)|skip
    all_goals exact⟨(i+1,false,false),rfl,⟨by show i+1<=sy.length;omega,h4,hfe⟩,by show sy.length-(i+1)<sy.length-i;omega⟩
   |some x =>
    rw[hsv] at c1 hkn
    simp only[oM,Option.isSome_some,Option.getD_some] at c1 hkn
    have h2:=XR sy hi hsv
    (try (simp -implicitDefEqProofs only[go_sem,AP,AO,hi',hwi,v0,v1,v2,v3,hpa,hsub,g1,g3,hkn]));repeat' first|(with_reducible first|exact tI|refine aI ?_ ?_|intro _)|((first|with_reducible refine AK ?_ ?_<;>intro _|(with_reducible refine isCall ?_);first|refine AE cS ?_|refine AE cZ ?_|refine AE c1 ?_)<;>try (simp -implicitDefEqProofs only[go_sem,AP,AO,hi',hwi,v0,v1,v2,v3,hpa,hsub,g1,g3,hkn]))|simp (disch:=omega) only[Ae]|((with_reducible refine Ao ?_);refine⟨(_,_,_),rfl,?_,?_⟩)|((with_reducible refine Ad ?_);refine⟨_,rfl,?_,?_⟩)
    all_goals first|omega|(simp<;>omega)|skip
    rw[←h2] at i2
    all_goals (rw[←h2];exact⟨(i+1,e,false),rfl,⟨by show i+1<=sy.length;omega,i2,hfe⟩,by show sy.length-(i+1)<sy.length-i;omega⟩)
  ·have hie:i=sy.length:=by omega
   subst hie
   have hi':¬((sy.length:Nat):Int)<((c.syms:Nat):Int):=by omega
   have htk:(HJ sy).take sy.length=HJ sy:=List.take_of_length_le (by omega)
   have hf0:f=false:=by rw[i3];exact decide_eq_false (by omega)
   rw[htk,hf0,a6] at *
   have cR:=HC c false (HJ sy) hk.seed (by omega) (by omega) hsr
   have hXl:=CX (HJ sy) c.seed
   obtain⟨X,hX⟩:∃X,CG c.seed (HJ sy)=X:=⟨_,rfl⟩
   rw[hX] at cR hXl ⊢
   have hmn:∀m,m∈Na sy->m<sy.length:=fun m hm=>by
    have:=(List.mem_filter.1 hm).1
    rwa [List.mem_range] at this
   have hmsl:(Na sy).length<=sy.length:=ZN sy sy.length
   obtain⟨ms,hms⟩:∃ms,Na sy=ms:=⟨_,rfl⟩
   rw[hms] at hmn hmsl i2 ⊢
   have hnl:=VU ms
   subst i2
   (try (simp -implicitDefEqProofs only[go_sem,AP,AO,hi']));repeat' first|(with_reducible first|exact tI|refine aI ?_ ?_|intro _)|((first|with_reducible refine AK ?_ ?_<;>intro _|(with_reducible refine isCall ?_);first|refine AE cS ?_|refine pu (cR) rfl (by simp[EF]) ?_)<;>try (simp -implicitDefEqProofs only[go_sem,AP,AO,hi']))|simp (disch:=omega) only[Ae]|((with_reducible refine Ao ?_);refine⟨(_,_,_),rfl,?_,?_⟩)|((with_reducible refine Ad ?_);refine⟨_,rfl,?_,?_⟩)
   all_goals first|omega|(simp<;>omega)|skip
   refine AX (α:=Nat) (l0:=?l3) (m0:=?m3) (fun x=>[(13,.d (.int .i64 (x:Int)))]) (fun x=>[(54,.row 3 1 false (Ab (Tt X (ms.take x))))]) (fun x=>x<=ms.length) (fun x=>ms.length-x) 0 ?h03 ?he3 ?he23 ?hI3 ?step3
   case h03=>(simp -implicitDefEqProofs only[go_sem];rfl)
   case he3=>rfl
   case he23=>rfl
   case' step3=>(rintro k hI2;try dsimp only at hI2)
   case' hI3=>try dsimp only
   ·exact Nat.zero_le _
   ·have hel:=Vr (ms.take k) X
    by_cases hkm:k<ms.length
    ·have hk':(k:Int)<((ni ms).length:Int):=by omega
     have hkn:k<(ni ms).length:=by omega
     have hwk:IntKind.i64.wrap ((k:Int)+1)=((k+1:Nat):Int):=by rw[AZ _ (by omega)];omega
     have hgk:=VV ms k hkm
     have hmk:ms[k]?.getD 0<sy.length:=hmn _ (dJ hkm)
     have hst:=im X ms hkm
     have hbd:ms[k]?.getD 0<(Tt X (ms.take k)).length:=by omega
     (try (simp -implicitDefEqProofs only[go_sem,hk',hkn,hwk,hgk,hbd,hst]));repeat' first|(with_reducible first|exact tI|refine aI ?_ ?_|intro _)|((first|with_reducible refine AK ?_ ?_<;>intro _)<;>try (simp -implicitDefEqProofs only[go_sem,hk',hkn,hwk,hgk,hbd,hst]))|simp (disch:=omega) only[Ae]|((with_reducible refine Ao ?_);refine⟨(_,_,_),rfl,?_,?_⟩)|((with_reducible refine Ad ?_);refine⟨_,rfl,?_,?_⟩)
     all_goals first|omega|(simp<;>omega)|skip
     all_goals exact⟨k+1,rfl,hkm,by omega⟩
    ·have hk':¬(k:Int)<((ni ms).length:Int):=by omega
     have htk2:ms.take k=ms:=List.take_of_length_le (by omega)
     rw[htk2]
     (try (simp -implicitDefEqProofs only[go_sem,hk']));repeat' first|(with_reducible first|exact tI|refine aI ?_ ?_|intro _)|((first|with_reducible refine AK ?_ ?_<;>intro _)<;>try (simp -implicitDefEqProofs only[go_sem,hk']))|simp (disch:=omega) only[Ae]|((with_reducible refine Ao ?_);refine⟨(_,_,_),rfl,?_,?_⟩)|((with_reducible refine Ad ?_);refine⟨_,rfl,?_,?_⟩)
     all_goals first|omega|(simp<;>omega)|skip
     all_goals first|rfl|skip
theorem SA (c:AY) (nl:Bool) (bits:List Int):CA E0 PM [DX c,.list nl (Ab bits)] (Th c bits):=by
 have c1:=EG c
 refine AL Sp An (by simp) fun hwf=>?_
 rw[AR];unfold Mv Th SJ UM UL
 rcases hok:c.ok with _|_
 ·rw[Vq hok] at c1
  simp only[Bool.false_eq_true,if_false]
  (try (simp -implicitDefEqProofs only[go_sem,AP,AO]));repeat' first|(with_reducible first|exact tI|refine aI ?_ ?_|intro _)|((first|with_reducible refine AK ?_ ?_<;>intro _|(with_reducible refine isCall ?_);first|refine AE c1 ?_)<;>try (simp -implicitDefEqProofs only[go_sem,AP,AO]))|simp (disch:=omega) only[Ae]
  all_goals first|rfl|skip
 ·have hk:=HT hok
  rw[Sh hok] at c1
  have c2:=OM nl bits
  simp only[if_true]
  cases hb:Ps bits with
  |false =>
   rw[hb] at c2
   simp only[Bool.false_eq_true,if_false]
   (try (simp -implicitDefEqProofs only[go_sem,AP,AO]));repeat' first|(with_reducible first|exact tI|refine aI ?_ ?_|intro _)|((first|with_reducible refine AK ?_ ?_<;>intro _|(with_reducible refine isCall ?_);first|refine AE c1 ?_|refine AE c2 ?_)<;>try (simp -implicitDefEqProofs only[go_sem,AP,AO]))|simp (disch:=omega) only[Ae]
   all_goals first|rfl|skip
  |true =>
   rw[hb] at c2
   have hbl:bits.length<=1000:=by unfold Ps at hb;simp only[Bool.and_eq_true,decide_eq_true_eq] at hb;exact hb.1
   simp only[if_true]
   have c3:=SB c hk nl bits hbl
   unfold dR at c3
   cases hf:c.find bits with
   |none =>
    rw[hf] at c3
    simp only[Option.isSome_none] at c3 ⊢
    (try (simp -implicitDefEqProofs only[go_sem,AP,AO]));repeat' first|(with_reducible first|exact tI|refine aI ?_ ?_|intro _)|((first|with_reducible refine AK ?_ ?_<;>intro _|(with_reducible refine isCall ?_);first|refine AE c1 ?_|refine AE c2 ?_|refine AE c3 ?_)<;>try (simp -implicitDefEqProofs only[go_sem,AP,AO]))|simp (disch:=omega) only[Ae]
    all_goals first|rfl|skip
   |some a =>
    rw[hf] at c3
    simp only[Option.isSome_some] at c3 ⊢
    have c4:=R_ c hk nl bits a (MR.1 hf).1 hbl
    obtain⟨e1,e2⟩:=gm hk (Jw c bits a)
    have hel:=Vr (Na (c.syL bits a)) (CG c.seed (HJ (c.syL bits a)))
    rw[CX,EB,Jw] at hel
    have hs:=hk.syms
    have c5:=fun n n2=>Pn c.L c.P c.Q n n2 (Tt (CG c.seed (HJ (c.syL bits a))) (Na (c.syL bits a))) (ni (Na (c.syL bits a))) (by omega)
    rw[e1,e2] at c5
    have h0:=@nM c (c.syL bits a)
    obtain⟨X,hX⟩:∃X,Tt (CG c.seed (HJ (c.syL bits a))) (Na (c.syL bits a))=X:=⟨_,rfl⟩
    obtain⟨Y,hY⟩:∃Y,Na (c.syL bits a)=Y:=⟨_,rfl⟩
    obtain⟨E,hE⟩:∃E,Zd c (c.syL bits a)=E:=⟨_,rfl⟩
    obtain⟨G,hG⟩:∃G,bC c (c.syL bits a)=G:=⟨_,rfl⟩
    rw[hX,hY] at c4
    rw[hX,hY,hE,hG] at c5
    rw[hE,hG] at h0
    rw[hE,hG]
    by_cases he:E=0
    ·subst he
     simp only[if_true]
     (try (simp -implicitDefEqProofs only[go_sem,AP,AO]));repeat' first|(with_reducible first|exact tI|refine aI ?_ ?_|intro _)|((first|with_reducible refine AK ?_ ?_<;>intro _|(with_reducible refine isCall ?_);first|refine AE c1 ?_|refine AE c2 ?_|refine AE c3 ?_|refine AE c4 ?_|refine AE (c5 _ _) ?_)<;>try (simp -implicitDefEqProofs only[go_sem,AP,AO]))|simp (disch:=omega) only[Ae]
     all_goals first|rfl|skip
    ·rw[if_neg he,h0 he]
     rw[h0 he] at c5
     (try (simp -implicitDefEqProofs only[go_sem,AP,AO,he]));repeat' first|(with_reducible first|exact tI|refine aI ?_ ?_|intro _)|((first|with_reducible refine AK ?_ ?_<;>intro _|(with_reducible refine isCall ?_);first|refine AE c1 ?_|refine AE c2 ?_|refine AE c3 ?_|refine AE c4 ?_|refine AE (c5 _ _) ?_)<;>try (simp -implicitDefEqProofs only[go_sem,AP,AO,he]))|simp (disch:=omega) only[Ae]
     all_goals first|rfl|skip
end
section
attribute [local congr] Bm A' BA Au Bn Az A1 A0 Ar Al Af Aa Aw Ag Ax BM BQ BO BP BN BR BG Aj Ay Ak BE BX Ai BK BL BF BH BJ BI BC BD A_ Bp BB Av Ah
attribute [local irreducible] IntKind.wrap A3 Option.getD and or
end
section
theorem jG (c:AY):JU (D6 c)=JU c:=by unfold JU;rw[Jc]
theorem lx {c:AY}(h:Zp c=false):c.code.far=false/\c.mark.length<=40/\c.Q<=8/\c.L<=15:=by
 unfold Zp at h
 simp only[Bool.or_eq_false_iff,decide_eq_false_iff_not] at h
 exact⟨h.1,by omega,by omega,by omega⟩
attribute [local congr] Bm A' BA Au Bn Az A1 A0 Ar Al Af Aa Aw Ag Ax BM BQ BO BP BN BR BG Aj Ay Ak BE BX Ai BK BL BF BH BJ BI BC BD A_ Bp BB Av Ah
attribute [local irreducible] IntKind.wrap A3 Option.getD and or
end
section
theorem eA (c:AY) (X:List Int):(D6 c).flat X=c.flat X:=by
 unfold AY.flat;rw[show (D6 c).code=Fh c.code from rfl,Nv]
theorem jA (c:AY) (d:List Int):eP (D6 c) d=eP c d:=by
 unfold eP MZ;rw[Jc,eA];rfl
theorem jB (c:AY) (d:List Int):jf (D6 c) d=jf c d:=by
 unfold jf;rw[Jc];rfl
theorem YC (c:AY) (bits:List Int):∀n a,(D6 c).fnd bits n a=c.fnd bits n a
 |0,_=>rfl
 |n+1,a=>by
  unfold AY.fnd
  rw[YC c bits n];rfl
theorem jD (c:AY) (p:List Int):Kw (Fh c.code) p=Kw c.code p:=by unfold Kw;rw[Nv]
theorem jE (c:AY) (bits:List Int) (a:Nat):(D6 c).syL bits a=c.syL bits a:=by
 unfold AY.syL
 refine List.map_congr_left fun i _=>?_
 exact jD c _
theorem eB (c:AY) (bits:List Int):(D6 c).find bits=c.find bits:=YC c bits _ _
theorem mO (c:AY) (bits:List Int):Th (D6 c) bits=Th c bits:=by
 have h1:∀sy,Zd (D6 c) sy=Zd c sy:=fun _=>rfl
 have h2:∀sy,bC (D6 c) sy=bC c sy:=fun _=>rfl
 unfold Th SJ UM UL
 simp only[Jc,eB,jE,h1,h2]
theorem jC (c:AY):(D6 c).tot=c.tot:=rfl
attribute [local congr] Bm A' BA Au Bn Az A1 A0 Ar Al Af Aa Aw Ag Ax BM BQ BO BP BN BR BG Aj Ay Ak BE BX Ai BK BL BF BH BJ BI BC BD A_ Bp BB Av Ah
attribute [local irreducible] IntKind.wrap A3 Option.getD and or
theorem QR (c:AY) (n1 n2:Bool) (d bits:List Int):CA E0 Gv [DX c,.agg [.list n1 (Ab d),.list n2 (Ab bits)]] (.bool true):=by
 have c0:=Q4
 have c1:=Tk c
 refine AL J7 An (by simp) fun hwf=>?_
 rw[AR];unfold GG
 cases hf:Zp c with
 |true =>
  rw[hf] at c1
  (try (simp -implicitDefEqProofs only[go_sem,AP,AO]));repeat' first|(with_reducible first|exact tI|refine aI ?_ ?_|intro _)|((first|with_reducible refine AK ?_ ?_<;>intro _|(with_reducible refine isCall ?_);first|refine AE c0 ?_|refine AE c1 ?_)<;>try (simp -implicitDefEqProofs only[go_sem,AP,AO]))|simp (disch:=omega) only[Ae]
  all_goals first|rfl|skip
 |false =>
  rw[hf] at c1
  by_cases hd:100<(d.length:Int)
  ·(try (simp -implicitDefEqProofs only[go_sem,AP,AO,hd]));repeat' first|(with_reducible first|exact tI|refine aI ?_ ?_|intro _)|((first|with_reducible refine AK ?_ ?_<;>intro _|(with_reducible refine isCall ?_);first|refine AE c0 ?_|refine AE c1 ?_)<;>try (simp -implicitDefEqProofs only[go_sem,AP,AO,hd]))|simp (disch:=omega) only[Ae]
   all_goals first|rfl|skip
  by_cases hb:1100<(bits.length:Int)
  ·(try (simp -implicitDefEqProofs only[go_sem,AP,AO,hd,hb]));repeat' first|(with_reducible first|exact tI|refine aI ?_ ?_|intro _)|((first|with_reducible refine AK ?_ ?_<;>intro _|(with_reducible refine isCall ?_);first|refine AE c0 ?_|refine AE c1 ?_)<;>try (simp -implicitDefEqProofs only[go_sem,AP,AO,hd,hb]))|simp (disch:=omega) only[Ae]
   all_goals first|rfl|skip
  obtain⟨f1,f2,f3,f4⟩:=lx hf
  have c2:=SC c f1 (by omega)
  have c3:=PD (D6 c)
  have c4:=EG c
  have c5:=QO (D6 c)
  have c6:=SD c
  have c7:=fun nb=>IY (D6 c) nb d
  have c8:=Qz c n1 d
  have c9:=fun nb=>Jd (D6 c) nb bits
  have cA:=SA c n2 bits
  simp only[jG,Jc,jC,jA,jB,mO] at c3 c5 c7 c9
  have eX:=YD c
  obtain⟨T,hT⟩:∃T,(if c.ok=true then (c.tot:Int) else 0)=T:=⟨_,rfl⟩
  obtain⟨E,hE⟩:∃E,JU c=E:=⟨_,rfl⟩
  obtain⟨W,hW⟩:∃W,eP c d=W:=⟨_,rfl⟩
  obtain⟨V,hV⟩:∃V,jf c d=V:=⟨_,rfl⟩
  unfold Th at c9 cA
  obtain⟨G,hG⟩:∃G,SJ c bits=G:=⟨_,rfl⟩
  obtain⟨A,hA⟩:∃A,UM c bits=A:=⟨_,rfl⟩
  obtain⟨H,hH⟩:∃H,UL c bits=H:=⟨_,rfl⟩
  rw[hT,hE] at c5 c6
  rw[hE] at c3 c4
  rw[hW,hV] at c8
  simp only[hW,hV] at c7
  rw[hG,hA,hH] at cA
  simp only[hG,hA,hH] at c9
  have cB:=Ej W.isEmpty W.isEmpty W W
  have cC:=Ej G.isEmpty G.isEmpty G G
  rw[decide_eq_true rfl] at cB cC
  (try (simp -implicitDefEqProofs only[go_sem,AP,AO,eX,hd,hb]));repeat' first|(with_reducible first|exact tI|refine aI ?_ ?_|intro _)|((first|with_reducible refine AK ?_ ?_<;>intro _|(with_reducible refine isCall ?_);first|refine AE c0 ?_|refine AE c1 ?_|refine AE c2 ?_|refine AE c3 ?_|refine AE c4 ?_|refine AE c5 ?_|refine AE c6 ?_|refine AE (c7 _) ?_|refine AE c8 ?_|refine AE (c9 _) ?_|refine AE cA ?_|refine AE cB ?_|refine AE cC ?_)<;>try (simp -implicitDefEqProofs only[go_sem,AP,AO,eX,hd,hb]))|simp (disch:=omega) only[Ae]
  all_goals first|rfl|omega|(exfalso;rename_i h;exact h rfl)|skip
end
end Go.Pw
