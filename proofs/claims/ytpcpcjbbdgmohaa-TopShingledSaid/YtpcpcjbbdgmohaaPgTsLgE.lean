/- A part of the proof. -/
import Derived.Test.YtpcpcjbbdgmohaaPgTsLgB2
set_option linter.all false
section
open Go Go.Pw Go.Proofs
namespace Go.Pw
set_option maxRecDepth 100000
set_option maxHeartbeats 3200000
theorem Bh (a b c d e f:Int):PQ [a,b,c,d,e,f]=.agg [.int .i64 a,.int .i64 b,.int .i64 c,.int .i64 d,.int .i64 e,.int .i64 f]:=rfl
attribute [local congr] Dy CG CH Bn D0 Bu Bw Bv Bm BU BN BG Bp BO Br CT CU CS CV CW CX Bo CN CM Bq BS Bt BT CK C8 BR CQ CR CL CI CJ Dz BP BQ Bs CO CP
attribute [local irreducible] IntKind.wrap Cf Option.getD and or
theorem Kw (nl:Bool) (xs:List (List Int)) (f:FuncId) (cs:List D) (p:List Int->Bool) (hb:Ci E0.P f=true) (hcs:A6 AV.toD1 (cs.map .d)=some cs) (h6:∀r,r∈xs->r.length=6) (h:∀r,r∈xs->E9 E0 f (PQ r::cs) (.bool (p r))) :
  E9 E0 Bb [.list nl (C2 xs),.fn f cs] (.int .i64 (match xs.findIdx? p with|some i=>i|none=>-1)):=by
 refine Ao EG A3 (by simp) fun hwf=>?_
 simp only[Md,LT,LS,KF,N_,N9,Rr,N8,GN,G5,G6,L7,IJ,List.length_map,HI,true_and,and_true,AR] at hwf
 have hu:=QZ h6
 rw[Az];unfold C0
 simp -implicitDefEqProofs only[go_sem,AR]
 refine BB (α:=Int) (l0:=?l1) (m0:=?m1) (fun x=>[(8,.d (.int .i64 x))]) (fun x=>[]) (fun x=>0<=x/\x<=xs.length/\∀(j:Nat) (hj:j<xs.length),(j:Int)<x->p xs[j]=false) (fun x=>(xs.length-x).toNat) ?a1_0 ?h01 ?he1 ?he21 ?hI1 ?step1
 case h01=>(simp -implicitDefEqProofs only[go_sem,AR];rfl)
 case he1=>rfl
 case he21=>rfl
 case' step1=>(rintro i hI;try dsimp only at hI)
 case' hI1=>try dsimp only
 ·simp
  omega
 ·by_cases hi:i<xs.length
  ·have hlt:i.toNat<xs.length:=by omega
   have hx:xs[i.toNat]?.getD []=xs[i.toNat]'hlt:=by rw[List.getElem?_eq_getElem hlt,Option.getD_some]
   have hc:=h _ (List.getElem_mem hlt)
   have hl6:=h6 _ (List.getElem_mem hlt)
   have hp0:∀b,p xs[i.toNat]=b->p (xs[i.toNat]?.getD [])=b:=fun b hb=>by rw[hx];exact hb
   obtain⟨r,hr⟩:∃r,xs[i.toNat]?.getD []=r:=⟨_,rfl⟩
   rw[←hx,hr] at hc hl6
   rw[hr] at hp0
   obtain⟨r0,r1,r2,r3,r4,r5,rfl⟩:=RN hl6
   rw[Bh] at hc
   (try (simp -implicitDefEqProofs only[go_sem,AR,hu,AO,hr,Bh,hi]));repeat' first|(with_reducible first|exact tI|refine aI ?_ ?_|intro _)|((first|with_reducible refine Af ?_ ?_<;>intro _)<;>try (simp -implicitDefEqProofs only[go_sem,AR,hu,AO,hr,Bh,hi]))|simp (disch:=omega) only[A8]|((with_reducible refine BF ?_);refine⟨_,rfl,?_,?_⟩)
   all_goals first|omega|(simp<;>omega)|skip
   refine VH hc (J5 rfl hcs) (fun hp=>?_) (fun hp=>?_)
   ·rw[←hr,hx] at hp
    simp -implicitDefEqProofs only[go_sem]
    have:xs.findIdx? p=some i.toNat:=by rw[List.findIdx?_eq_some_iff_getElem];exact⟨by omega,hp,fun j hj=>by simp[hI.2.2 j (by omega) (by omega)]⟩
    rw[this];simp;omega
   ·rw[←hr,hx] at hp
    (try (simp -implicitDefEqProofs only[go_sem,AR]));repeat' first|(with_reducible first|exact tI|refine aI ?_ ?_|intro _)|((first|with_reducible refine Af ?_ ?_<;>intro _)<;>try (simp -implicitDefEqProofs only[go_sem,AR]))|simp (disch:=omega) only[A8]|((with_reducible refine BF ?_);refine⟨_,rfl,?_,?_⟩)
    all_goals first|omega|(simp<;>omega)|skip
    rename_i j hj hjlt
    by_cases hjk:j=i.toNat
    ·subst hjk;exact hp
    ·exact hI.2.2 j hj (by omega)
  ·have:xs.findIdx? p=none:=by
    rw[List.findIdx?_eq_none_iff];intro x hx;obtain⟨j,hj,rfl⟩:=List.getElem_of_mem hx;exact hI.2.2 j hj (by omega)
   rw[this]
   (try (simp -implicitDefEqProofs only[go_sem,AR,hi]));repeat' first|(with_reducible first|exact tI|refine aI ?_ ?_|intro _)|((first|with_reducible refine Af ?_ ?_<;>intro _)<;>try (simp -implicitDefEqProofs only[go_sem,AR,hi]))|simp (disch:=omega) only[A8]|((with_reducible refine BF ?_);refine⟨_,rfl,?_,?_⟩)
   all_goals first|omega|(simp<;>omega)|skip
def RP (s:Ap):Int:=match s.first with|some e=>(e:Int)|none=>-1
theorem XK (s:Ap) (hs:s.Ok):E9 E0 Bb [.list false (C2 s.eps),.fn Dn []] (.int .i64 (RP s)) :=
 Kw false s.eps Dn [] (fun r=>decide (r≠DI)) (by kernel_rfl) rfl hs.el fun r hr=>by
  obtain⟨a,b,c,d,e,f,rfl⟩:=RN (hs.el r hr)
  rw[Bh];exact S8 a b c d e f
theorem QD (s:Ap) (hs:s.Ok) (hl:s.eps.length<=1000):D1 E0 Gv (Kb s 901000) [.ptr 900000 0 0] (Kb s 901000) (.tup [.d (.int .i64 (RP s)),.d (.bool (decide (0<=RP s)))]):=by
 have c1:=XK s hs
 unfold Kb C1
 refine Av JS A3 (by simp) (by simp[D4,AK,A2,AE.isHist]) (by simp[Aq]) fun hwf hwo=>?_
 rw[A5];unfold GR
 (try (simp -implicitDefEqProofs only[go_sem]));repeat' first|(with_reducible first|exact tI|refine aI ?_ ?_|intro _)|((first|with_reducible refine Af ?_ ?_<;>intro _|(with_reducible refine isCall ?_);first|refine M3 (c1) rfl (by simp[D.flat,D.flat1,D.prim]) ?_)<;>try (simp -implicitDefEqProofs only[go_sem]))|simp (disch:=omega) only[A8]
 all_goals first|omega|rfl|(simp_all;done)|skip
theorem Vi (s:Ap) (hs:s.Ok) (b:Nat) (hb:b<6) (hl:s.eps.length<=1000):D1 E0 Hq (Kb s 901000) [.ptr 900000 0 0,.d (.int .i64 (b:Int))] (Kb s 901000) (.d (.bool (s.can b))):=by
 have c1:=QD s hs hl
 unfold Kb C1 at *
 refine Av Ki A3 (by simp) (by simp[D4,AK,A2,AE.isHist]) (by simp[Aq]) fun hwf hwo=>?_
 rw[A5];unfold HE Ap.can
 cases hf:s.first with
 |none =>
  have hfi:RP s=-1:=by unfold RP;rw[hf]
  rw[hfi,decide_eq_false (by omega)] at c1
  (try (simp -implicitDefEqProofs only[go_sem]));repeat' first|(with_reducible first|exact tI|refine aI ?_ ?_|intro _)|((first|with_reducible refine Af ?_ ?_<;>intro _|(with_reducible refine isCall ?_);first|(refine Ad ([((900000,0),(900000,0)),((901000,0),(901000,0))]) ([((900000,0),(900000,0)),((901000,0),(901000,0))]) (c1) (by repeat' first|exact True.intro|exact rfl|refine And.intro ?_ ?_) (by simp[AW,Ah.get,AE.ren,AV.ren,AV.ren.renL,AB.get,AX,Ag,AY,AB.reach,AV.sites,AV.sites.sitesL,AB.osites]) (by simp[AL,Aq,AK,Ah.get,AY,A2,A9,AZ,AM]) (by rfl) (by simp only[Ai,Ah.get,AE.ren,AV.ren,AV.ren.renL,and_self,and_true,true_and,if_true,reduceIte];rfl) ?_))<;>try (simp -implicitDefEqProofs only[go_sem]))|simp (disch:=omega) only[A8]
  all_goals first|omega|rfl|skip
 |some e =>
  have hfi:RP s=(e:Int):=by unfold RP;rw[hf]
  rw[hfi,decide_eq_true (by omega)] at c1
  have he:e<s.eps.length:=by
   unfold Ap.first at hf
   rw[List.findIdx?_eq_some_iff_getElem] at hf
   exact hf.1
  have he':(e:Int)<(s.eps.length:Int):=by omega
  have hr0:=hs.el _ (BL he)
  obtain⟨r,hr⟩:∃r,s.eps[e]?.getD []=r:=⟨_,rfl⟩
  rw[hr] at hr0
  obtain⟨r0,r1,r2,r3,r4,r5,rfl⟩:=RN hr0
  simp only[Ap.ent,hr]
  rcases a8 hb with h|h|h|h|h|h<;>subst h
  all_goals simp only[List.getElem?_cons_zero,List.getElem?_cons_succ,Option.getD_some]
  all_goals ((try (simp -implicitDefEqProofs only[go_sem,AR,AO,hr,Bh,he,he',Int.toNat_natCast,Option.getD_some]));repeat' first|(with_reducible first|exact tI|refine aI ?_ ?_|intro _)|((first|with_reducible refine Af ?_ ?_<;>intro _|(with_reducible refine isCall ?_);first|(refine Ad ([((900000,0),(900000,0)),((901000,0),(901000,0))]) ([((900000,0),(900000,0)),((901000,0),(901000,0))]) (c1) (by repeat' first|exact True.intro|exact rfl|refine And.intro ?_ ?_) (by simp[AW,Ah.get,AE.ren,AV.ren,AV.ren.renL,AB.get,AX,Ag,AY,AB.reach,AV.sites,AV.sites.sitesL,AB.osites]) (by simp[AL,Aq,AK,Ah.get,AY,A2,A9,AZ,AM]) (by rfl) (by simp only[Ai,Ah.get,AE.ren,AV.ren,AV.ren.renL,and_self,and_true,true_and,if_true,reduceIte];rfl) ?_))<;>try (simp -implicitDefEqProofs only[go_sem,AR,AO,hr,Bh,he,he',Int.toNat_natCast,Option.getD_some]))|simp (disch:=omega) only[A8] )
  all_goals first|omega|rfl|(simp_all;done)|skip
end Go.Pw
end
section
open Go Go.Pw Go.Proofs
namespace Go.Pw
set_option maxRecDepth 100000
set_option maxHeartbeats 3200000
def Vr (r:List Int):Bool:=decide (r≠DI)
def X5 (r:List Int):Bool:=decide (r=DI)
theorem Sq (r:List Int):Vr r=!X5 r:=by unfold Vr X5;simp
theorem IQ (l:List (List Int)) (n:Nat):(C2 l).take n=C2 (l.take n):=by simp[C2,List.map_take]
theorem Z9 {l L:List (List Int)}{i j:Nat}(hij:i<j) (hj:j<l.length) (hL:L.length=l.length) (h1:L.take i=(l.take j).filter Vr) (h2:L.drop j=l.drop j) :
  (X5 (l[j]?.getD [])=true->L.take i=(l.take (j+1)).filter Vr/\L.drop (j+1)=l.drop (j+1)) /\
  (X5 (l[j]?.getD [])=false->(L.set i (l[j]?.getD [])).take (i+1)=(l.take (j+1)).filter Vr/\(L.set i (l[j]?.getD [])).drop (j+1)=l.drop (j+1))/\L[j]?.getD []=l[j]?.getD []:=by
 have e0:L.drop (j+1)=l.drop (j+1):=by
  have:=congrArg (List.drop 1) h2
  simpa[List.drop_drop,Nat.add_comm] using this
 have e1:l.take (j+1)=l.take j++[l[j]?.getD []]:=by
  rw[List.take_add_one,List.getElem?_eq_getElem hj,Option.getD_some];rfl
 have e2:L[j]?=l[j]?:=by
  have a:=congrArg (fun q=>q[0]?) h2
  simpa using a
 refine⟨fun hn=>⟨?_,e0⟩,fun hn=>⟨?_,?_⟩,by rw[e2]⟩
 ·rw[e1,List.filter_append,←h1]
  simp[Sq,hn]
 ·rw[e1,List.filter_append,←h1,List.take_add_one,List.take_set,List.getElem?_set]
  have:i<L.length:=by omega
  simp only[Sq,hn,this,if_true,Bool.not_false,List.filter_cons,List.filter_nil]
  rw[List.set_eq_of_length_le (by rw[List.length_take];omega)];rfl
 ·rw[List.drop_set,if_pos (by omega)];exact e0
attribute [local congr] Dy CG CH Bn D0 Bu Bw Bv Bm BU BN BG Bp BO Br CT CU CS CV CW CX Bo CN CM Bq BS Bt BT CK C8 BR CQ CR CL CI CJ Dz BP BQ Bs CO CP
attribute [local irreducible] IntKind.wrap Cf Option.getD and or
theorem R0 (l:List (List Int)) (h6:∀r,r∈l->r.length=6):E9 E0 Bb [.list false (C2 l),.fn Cg []] (.int .i64 (match l.findIdx? X5 with|some i=>i|none=>-1)) :=
 Kw false l Cg [] X5 (by kernel_rfl) rfl h6 fun r hr=>by
  obtain⟨a,b,c,d,e,f,rfl⟩:=RN (h6 r hr)
  rw[Bh];exact OH a b c d e f
theorem UJ (l:List (List Int)) (h6:∀r,r∈l->r.length=6) (hl:l.length<=1000) (hn:l.findIdx? X5=none) :
  D1 E0 B3 [(900000,0,.row 125 6 false (C2 l))] [.own 900000 0,.d (.fn Cg [])] [(900000,0,.row 125 6 false (C2 l))] (.own 900000 0):=by
 have c1:=R0 l h6
 rw[hn] at c1
 refine Av Ct A3 (by simp) (by simp[D4,AK,A2,AE.isHist]) (by simp[Aq]) fun hwf hwo=>?_
 rw[A5];unfold B1
 (try (simp -implicitDefEqProofs only[go_sem]));repeat' first|(with_reducible first|exact tI|refine aI ?_ ?_|intro _)|((first|with_reducible refine Af ?_ ?_<;>intro _|(with_reducible refine isCall ?_);first|refine M3 (c1) rfl (by simp[D.flat,D.flat1,D.prim]) ?_)<;>try (simp -implicitDefEqProofs only[go_sem]))|simp (disch:=omega) only[A8]
 all_goals first|omega|rfl|(simp_all;done)|skip
theorem bT (l:List (List Int)) (h6:∀r,r∈l->r.length=6) (hl:l.length<=1000) (i0:Nat) (hn:l.findIdx? X5=some i0) :
  D1 E0 B3 [(800000,0,.row 125 6 false (C2 l))] [.own 800000 0,.d (.fn Cg [])] [(800000,1,.row 125 6 false (C2 (l.filter Vr)))] (.own 800000 1):=by
 have c1:=R0 l h6
 rw[hn] at c1
 rw[List.findIdx?_eq_some_iff_getElem] at hn
 obtain⟨hi0,hp,hbef⟩:=hn
 have hst:l.take i0=(l.take (i0+1)).filter Vr:=by
  rw[List.take_add_one,List.getElem?_eq_getElem hi0,List.filter_append]
  have e1:(l.take i0).filter Vr=l.take i0:=by
   rw[List.filter_eq_self];intro r hr
   obtain⟨j,hj,rfl⟩:=List.getElem_of_mem hr
   rw[List.getElem_take,Sq]
   have hj':j<i0:=by rw[List.length_take] at hj;omega
   simp[hbef j hj']
  rw[e1];simp[Sq,hp]
 refine Av Ct A3 (by simp) (by simp[D4,AK,A2,AE.isHist]) (by simp[Aq,A2]) fun hwf hwo=>?_
 have w0:IntKind.i64.wrap ((i0:Int)+1)=((i0+1:Nat):Int):=by rw[BM _ (by omega)];omega
 have hne:¬(i0:Int)=-1:=by omega
 have hB:Ci E0.P Cg=true:=by kernel_rfl
 rw[A5];unfold B1
 (try (simp -implicitDefEqProofs only[go_sem,w0,hne]));repeat' first|(with_reducible first|exact tI|refine aI ?_ ?_|intro _)|((first|with_reducible refine Af ?_ ?_<;>intro _|(with_reducible refine isCall ?_);first|refine M3 (c1) rfl (by simp[D.flat,D.flat1,D.prim]) ?_)<;>try (simp -implicitDefEqProofs only[go_sem,w0,hne]))|simp (disch:=omega) only[A8]|((with_reducible refine B5 ?_);refine⟨(_,_,_),rfl,?_,?_⟩)
 all_goals first|omega|(simp<;>omega)|skip
 refine BB (α:=Nat×Nat×((List (List Int)))) (l0:=?l1) (m0:=?m1) (fun x=>[(5,.d (.int .i64 (x.1:Int))),(6,.d (.int .i64 (x.2.1:Int)))]) (fun x=>[(800000,.row 125 6 false (C2 x.2.2))]) (fun x=>(x.1<x.2.1/\x.2.1<=l.length/\x.2.2.length=l.length)/\x.2.2.take x.1=(l.take x.2.1).filter Vr/\x.2.2.drop x.2.1=l.drop x.2.1/\(∀r,r∈x.2.2->r.length=6)) (fun x=>l.length-x.2.1) (i0,(i0+1),l) ?h01 ?he1 ?he21 ?hI1 ?step1
 case h01=>(simp -implicitDefEqProofs only[go_sem];rfl)
 case he1=>rfl
 case he21=>rfl
 case' step1=>(rintro⟨i,j,L⟩ hI;try dsimp only at hI)
 case' hI1=>try dsimp only
 ·exact⟨⟨by omega,by omega,rfl⟩,hst,rfl,h6⟩
 ·obtain⟨⟨a1,a2,a3⟩,a4,a5,a6⟩:=hI
  have hu:=QZ a6
  by_cases hj:j<l.length
  ·have hj':(j:Int)<(l.length:Int):=by omega
   have wj:IntKind.i64.wrap ((j:Int)+1)=((j+1:Nat):Int):=by rw[BM _ (by omega)];omega
   have wi:IntKind.i64.wrap ((i:Int)+1)=((i+1:Nat):Int):=by rw[BM _ (by omega)];omega
   obtain⟨d1,d2,d3⟩:=Z9 a1 hj a3 a4 a5
   have hr6:(l[j]?.getD []).length=6:=h6 _ (BL hj)
   obtain⟨r,hr⟩:∃r,l[j]?.getD []=r:=⟨_,rfl⟩
   rw[hr] at d1 d2 d3 hr6
   have hset6:∀q,q∈L.set i r->q.length=6:=fun q hq=>by
    rcases List.mem_or_eq_of_mem_set hq with hq|rfl
    ·exact a6 q hq
    ·exact hr6
   obtain⟨r0,r1,r2,r3,r4,r5,rfl⟩:=RN hr6
   have c2:=OH r0 r1 r2 r3 r4 r5
   rw[show decide ([r0,r1,r2,r3,r4,r5]=DI)=X5 [r0,r1,r2,r3,r4,r5] from rfl] at c2
   have hes:(C2 L).set i (.agg [.int .i64 r0,.int .i64 r1,.int .i64 r2,.int .i64 r3,.int .i64 r4,.int .i64 r5])=C2 (L.set i [r0,r1,r2,r3,r4,r5]):=B_ L i [r0,r1,r2,r3,r4,r5]
   have hLi:6<=(PQ (L[i]?.getD [])).cells.length:=by
    have:=a6 _ (BL (l:=L) (i:=i) (by omega))
    simp[PQ,D.cells,Bi,this]
   have hiL:(i:Int)<(l.length:Int):=by omega
   have hjL:j<L.length:=by omega
   cases hb:X5 [r0,r1,r2,r3,r4,r5] with
   |true =>
    rw[hb] at c2
    obtain⟨f1,f2⟩:=d1 hb
    (try (simp -implicitDefEqProofs only[go_sem,AR,hu,AO,d3,Bh,hj',wj,a3,hjL,Int.toNat_natCast]));repeat' first|(with_reducible first|exact tI|refine aI ?_ ?_|intro _)|((first|with_reducible refine Af ?_ ?_<;>intro _|(with_reducible refine isCall ?_);first|refine Ae c2 ?_)<;>try (simp -implicitDefEqProofs only[go_sem,AR,hu,AO,d3,Bh,hj',wj,a3,hjL,Int.toNat_natCast]))|simp (disch:=omega) only[A8]|((with_reducible refine B5 ?_);refine⟨(_,_,_),rfl,?_,?_⟩)
    all_goals first|omega|(simp<;>omega)|skip
    all_goals first|exact hB|exact a6 _ (by assumption)|exact hset6 _ (by assumption)
   |false =>
    rw[hb] at c2
    obtain⟨f1,f2⟩:=d2 hb
    (try (simp -implicitDefEqProofs only[go_sem,AR,hu,AO,d3,Bh,hj',wj,wi,a3,hjL,hiL,hes,Int.toNat_natCast]));repeat' first|(with_reducible first|exact tI|refine aI ?_ ?_|intro _)|((first|with_reducible refine Af ?_ ?_<;>intro _|(with_reducible refine isCall ?_);first|refine Ae c2 ?_)<;>try (simp -implicitDefEqProofs only[go_sem,AR,hu,AO,d3,Bh,hj',wj,wi,a3,hjL,hiL,hes,Int.toNat_natCast]))|simp (disch:=omega) only[A8]|((with_reducible refine B5 ?_);refine⟨(_,_,_),rfl,?_,?_⟩)
    all_goals first|omega|(simp<;>omega)|skip
    all_goals first|exact hB|exact hLi|exact a6 _ (by assumption)|exact hset6 _ (by assumption)
  ·have hjl:j=l.length:=by omega
   subst hjl
   have hj':¬(l.length:Int)<(l.length:Int):=by omega
   have hiL:(i:Int)<=(l.length:Int):=by omega
   (try (simp -implicitDefEqProofs only[go_sem,AR,hu,a3,hj',hiL,Int.toNat_natCast]));repeat' first|(with_reducible first|exact tI|refine aI ?_ ?_|intro _)|((first|with_reducible refine Af ?_ ?_<;>intro _)<;>try (simp -implicitDefEqProofs only[go_sem,AR,hu,a3,hj',hiL,Int.toNat_natCast]))|simp (disch:=omega) only[A8]|((with_reducible refine B5 ?_);refine⟨(_,_,_),rfl,?_,?_⟩)
   all_goals first|omega|(simp<;>omega)|skip
   ·simp[AR,a3];omega
   ·rw[List.take_append_of_le_length (by simp[AR,a3];omega),List.take_take,Nat.min_self,IQ,a4,List.take_length]
end Go.Pw
end
section
open Go Go.Pw Go.Proofs
namespace Go.Pw
set_option maxRecDepth 100000
set_option maxHeartbeats 3200000
def LX (s:Ap) (k:Nat):List (Nat×Nat×AE):=[(900000,0,.cells (C1 s 801000 k)),(801000,k,.row 125 6 false (C2 s.eps))]
theorem S_ {l:List (List Int)}(h:l.findIdx? X5=none):l.filter Vr=l:=by
 rw[List.filter_eq_self];intro r hr
 rw[List.findIdx?_eq_none_iff] at h
 rw[Sq];simpa using h r hr
theorem OG (s:Ap):s.tidy.eps=(s.eps.take s.last).filter Vr++[s.eps[s.last]?.getD []]:=rfl
theorem Qn (s:Ap) (i:Nat):s.tidy.m i=s.m i:=rfl
theorem Nt (s:Ap):s.tidy.wr=s.wr:=rfl
theorem IR (l:List (List Int)) (a b c d e f:Int):C2 l++[.agg [.int .i64 a,.int .i64 b,.int .i64 c,.int .i64 d,.int .i64 e,.int .i64 f]]=C2 (l++[[a,b,c,d,e,f]]):=by simp[C2,PQ,Bi]
attribute [local congr] Dy CG CH Bn D0 Bu Bw Bv Bm BU BN BG Bp BO Br CT CU CS CV CW CX Bo CN CM Bq BS Bt BT CK C8 BR CQ CR CL CI CJ Dz BP BQ Bs CO CP
attribute [local irreducible] IntKind.wrap Cf Option.getD and or
theorem Dj (s:Ap) (hs:s.Ok) (hne:1<=s.eps.length) (hl:s.eps.length<=1000):∃k,(k=2\/k=3)/\D1 E0 HR (LX s 0) [.ptr 900000 0 0] (LX s.tidy k) (.tup []):=by
 have c1:=NG s 901000 rfl hne hl
 have hl':s.last<s.eps.length:=by unfold Ap.last;omega
 have hll:(s.last:Int)<=(s.eps.length:Int):=by omega
 have w1:IntKind.i64.wrap ((s.eps.length:Int)-1)=((s.last:Nat):Int):=by rw[BM _ (by omega)];unfold Ap.last;omega
 have h6:∀r,r∈s.eps.take s.last->r.length=6:=fun r hr=>hs.el r (List.mem_of_mem_take hr)
 have hlt:(s.eps.take s.last).length<=1000:=by rw[List.length_take];omega
 have hr0:=hs.el _ (BL hl')
 have ht:=OG s
 obtain⟨r,hr⟩:∃r,s.eps[s.last]?.getD []=r:=⟨_,rfl⟩
 rw[hr] at hr0 ht
 obtain⟨r0,r1,r2,r3,r4,r5,rfl⟩:=RN hr0
 unfold Kb C1 at c1
 cases hf:(s.eps.take s.last).findIdx? X5 with
 |none =>
  refine⟨2,.inl rfl,?_⟩
  have cd:=UJ _ h6 hlt hf
  rw[S_ hf] at ht
  unfold LX C1
  refine Av GW A3 (by simp) (by simp[D4,AK,A2,AE.isHist]) (by simp[Aq,A2]) fun hwf hwo=>?_
  rw[A5];unfold FA
  (try (simp -implicitDefEqProofs only[go_sem,AR,AO,hr,Bh,w1,hl',hll,IQ,Int.toNat_natCast,Nat.sub_zero,IR,ht,Qn,Nt]));repeat' first|(with_reducible first|exact tI|refine aI ?_ ?_|intro _)|((first|with_reducible refine Af ?_ ?_<;>intro _|(with_reducible refine isCall ?_);first|(refine Ad ([((900000,0),(900000,0)),((901000,0),(801000,0))]) ([((900000,0),(900000,0)),((901000,0),(801000,0))]) (c1) (by repeat' first|exact True.intro|exact rfl|refine And.intro ?_ ?_) (by simp[AW,Ah.get,AE.ren,AV.ren,AV.ren.renL,AB.get,AX,Ag,AY,AB.reach,AV.sites,AV.sites.sitesL,AB.osites]) (by simp[AL,Aq,AK,Ah.get,AY,A2,A9,AZ,AM]) (by rfl) (by simp only[Ai,Ah.get,AE.ren,AV.ren,AV.ren.renL,and_self,and_true,true_and,if_true,reduceIte];rfl) ?_)|(refine Ad ([((900000,0),(801000,1))]) ([((900000,0),(801000,1))]) (cd) (by repeat' first|exact True.intro|exact rfl|refine And.intro ?_ ?_) (by simp[AW,Ah.get,AE.ren,AV.ren,AV.ren.renL,AB.get,AX,Ag,AY,AB.reach,AV.sites,AV.sites.sitesL,AB.osites]) (by simp[AL,Aq,AK,Ah.get,AY,A2,A9,AZ,AM]) (by rfl) (by simp only[Ai,Ah.get,AE.ren,AV.ren,AV.ren.renL,and_self,and_true,true_and,if_true,reduceIte];rfl) ?_))<;>try (simp -implicitDefEqProofs only[go_sem,AR,AO,hr,Bh,w1,hl',hll,IQ,Int.toNat_natCast,Nat.sub_zero,IR,ht,Qn,Nt]))|simp (disch:=omega) only[A8]
  all_goals first|omega|rfl|skip
 |some i0 =>
  refine⟨3,.inr rfl,?_⟩
  have hfl:((s.eps.take s.last).filter Vr).length<=1073741823:=by have:=List.length_filter_le Vr (s.eps.take s.last);omega
  have cd:=bT _ h6 hlt i0 hf
  unfold LX C1
  refine Av GW A3 (by simp) (by simp[D4,AK,A2,AE.isHist]) (by simp[Aq,A2]) fun hwf hwo=>?_
  rw[A5];unfold FA
  (try (simp -implicitDefEqProofs only[go_sem,AR,AO,hr,Bh,w1,hl',hll,IQ,Int.toNat_natCast,Nat.sub_zero,IR,ht,Qn,Nt]));repeat' first|(with_reducible first|exact tI|refine aI ?_ ?_|intro _)|((first|with_reducible refine Af ?_ ?_<;>intro _|(with_reducible refine isCall ?_);first|(refine Ad ([((900000,0),(900000,0)),((901000,0),(801000,0))]) ([((900000,0),(900000,0)),((901000,0),(801000,0))]) (c1) (by repeat' first|exact True.intro|exact rfl|refine And.intro ?_ ?_) (by simp[AW,Ah.get,AE.ren,AV.ren,AV.ren.renL,AB.get,AX,Ag,AY,AB.reach,AV.sites,AV.sites.sitesL,AB.osites]) (by simp[AL,Aq,AK,Ah.get,AY,A2,A9,AZ,AM]) (by rfl) (by simp only[Ai,Ah.get,AE.ren,AV.ren,AV.ren.renL,and_self,and_true,true_and,if_true,reduceIte];rfl) ?_)|(refine Ad ([((800000,0),(801000,1))]) ([((800000,1),(801000,2))]) (cd) (by repeat' first|exact True.intro|exact rfl|refine And.intro ?_ ?_) (by simp[AW,Ah.get,AE.ren,AV.ren,AV.ren.renL,AB.get,AX,Ag,AY,AB.reach,AV.sites,AV.sites.sitesL,AB.osites]) (by simp[AL,Aq,AK,Ah.get,AY,A2,A9,AZ,AM]) (by rfl) (by simp only[Ai,Ah.get,AE.ren,AV.ren,AV.ren.renL,and_self,and_true,true_and,if_true,reduceIte];rfl) ?_))<;>try (simp -implicitDefEqProofs only[go_sem,AR,AO,hr,Bh,w1,hl',hll,IQ,Int.toNat_natCast,Nat.sub_zero,IR,ht,Qn,Nt]))|simp (disch:=omega) only[A8]
  all_goals first|omega|rfl|skip
end Go.Pw
end
