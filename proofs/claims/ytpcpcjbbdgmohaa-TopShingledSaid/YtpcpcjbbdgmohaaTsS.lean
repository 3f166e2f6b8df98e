/- A part of the proof. -/
import Derived.Test.YtpcpcjbbdgmohaaPgTsP
set_option linter.all false
open Go Go.Pw Go.Proofs
namespace Go.Pw
set_option maxRecDepth 100000
set_option maxHeartbeats 3200000
def X6 (x:Int):Int:=if x=-3 then -1 else x
def P_ (B:Nat) (r:List Int):List Int:=(r.take B).map X6
def Hy (B:Nat) (t:Ap):List (List Int):=t.eps.map (P_ B)
def ge (B:Nat) (t:Ap):List D:=d8 (t.med.take B) (Hy B t) t.wr
def YN (B:Nat) (t:Ap):D:=.agg (ge B t)
theorem Cb (B:Nat) (t:Ap):YN B t=.agg (ge B t):=rfl
theorem Cc (B:Nat) (t:Ap):ge B t=[.list false (Bi (t.med.take B)),.list false (Im (Hy B t)),.int .i64 t.wr]:=rfl
structure RI (B:Nat) (t:Ap):Prop where
 b1:1<=B
 b6:B<=6
 ml:t.med.length=6
 six:Nr t
 ne:1<=t.eps.length
 le:t.eps.length<=100
 no:∀r,r∈t.eps->∀b,b<6->r[b]?.getD 0≠-1
 hi:∀r,r∈t.eps->∀b,B<=b->b<6->r[b]?.getD 0=-3
theorem KJ (B:Nat) (t:Ap):(Hy B t).length=t.eps.length:=by simp[Hy]
theorem KI {B:Nat}{r:List Int}(h:r.length=6) (hB:B<=6):(P_ B r).length=B:=by simp[P_];omega
theorem RD {B:Nat}{t:Ap}{e:Nat}(he:e<t.eps.length):(Hy B t)[e]?.getD []=P_ B (t.eps[e]?.getD []):=by
 unfold Hy;rw[List.getElem?_map,List.getElem?_eq_getElem he];rfl
theorem UE {B:Nat}{r:List Int}{b:Nat}(h6:r.length=6) (hb:b<B) (hB:B<=6):(P_ B r)[b]?.getD 0=X6 (r[b]?.getD 0):=by
 unfold P_
 rw[List.getElem?_map,List.getElem?_take,if_pos hb,List.getElem?_eq_getElem (by omega)];rfl
theorem Vd (B:Nat) (r:List Int) (b:Nat) (v:Int):(P_ B r).set b (X6 v)=P_ B (r.set b v):=by
 unfold P_;rw[List.take_set,List.map_set]
theorem Vf {B:Nat}{t:Ap}{e:Nat}(r:List Int) (M W):(Hy B t).set e (P_ B r)=Hy B ⟨M,t.eps.set e r,W⟩:=by
 unfold Hy;rw[List.map_set]
theorem EM:(default:List Int)=[]:=rfl
theorem Yf {B:Nat}{t:Ap}(h:RI B t) {e b:Nat}(he:e<t.eps.length):RI B (t.write e b):=by
 have h6:=KG h.six e b
 have hl:=Bz t e b
 refine⟨h.b1,h.b6,?_,h6,by rw[hl];exact h.ne,by rw[hl];exact h.le,?_,?_⟩
 ·unfold Ap.write;split
  ·exact h.ml
  ·simp[h.ml]
 ·unfold Ap.write;split
  ·exact h.no
  ·intro r hr i hi
   rcases List.mem_or_eq_of_mem_set hr with hr|rfl
   ·exact h.no r hr i hi
   ·have hm:=BL he
    by_cases hb:b<(t.eps[e]?.getD []).length
    ·rw[Dw hb]
     split
     ·decide
     ·exact h.no _ hm i hi
    ·rw[List.set_eq_of_length_le (by omega)];exact h.no _ hm i hi
 ·unfold Ap.write;split
  ·exact h.hi
  ·intro r hr i hB hi
   rcases List.mem_or_eq_of_mem_set hr with hr|rfl
   ·exact h.hi r hr i hB hi
   ·have hm:=BL he
    by_cases hb:b<(t.eps[e]?.getD []).length
    ·rw[Dw hb]
     split
     ·rfl
     ·exact h.hi _ hm i hB hi
    ·rw[List.set_eq_of_length_le (by omega)];exact h.hi _ hm i hB hi
theorem RC {B:Nat}{t:Ap}(h:RI B t) {e:Nat}(he:e<t.eps.length):∀k,RI B (t.wrB e k)
 |0=>h
 |k+1=>Yf (RC h he k) (by rw[Gx];exact he)
def Ql (B:Nat) (t:Ap):Nat->Ap
 |0=>t
 |e+1=>(Ql B t e).wrB e B
theorem LR (B:Nat) (t:Ap):∀n,(Ql B t n).eps.length=t.eps.length
 |0=>rfl
 |n+1=>by rw[Ql,Gx,LR B t n]
theorem Nv {B:Nat}{t:Ap}(h:RI B t):∀n,n<=t.eps.length->RI B (Ql B t n)
 |0,_=>h
 |n+1,hn=>RC (Nv h n (by omega)) (by rw[LR];omega) B
theorem X' {B:Nat}{t:Ap}(h:RI B t) {e:Nat}(he:e<t.eps.length):∀d,B+d<=6->t.wrB e (B+d)=t.wrB e B
 |0,_=>rfl
 |d+1,hd=>by
  have h1:=RC h he (B+d)
  have hm:=BL (l:=(t.wrB e (B+d)).eps) (i:=e) (by rw[Gx];exact he)
  have h2:(t.wrB e (B+d)).ent e (B+d)=-3:=h1.hi _ hm (B+d) (by omega) (by omega)
  show (t.wrB e (B+d)).write e (B+d)=_
  have hw:(t.wrB e (B+d)).write e (B+d)=t.wrB e (B+d):=by unfold Ap.write;rw[if_pos h2]
  rw[hw,X' h he d (by omega)]
theorem X_ {B:Nat}{t:Ap}(h:RI B t):∀n,n<=t.eps.length->t.wrE n=Ql B t n
 |0,_=>rfl
 |n+1,hn=>by
  have h1:=Nv h n (by omega)
  have hB:=h.b6
  have h2:=X' h1 (e:=n) (by rw[LR];omega) (6-B) (by omega)
  have h3:B+(6-B)=6:=by omega
  rw[h3] at h2
  show (t.wrE n).wrB n 6=_
  rw[X_ h n (by omega),h2];rfl
theorem eC {B:Nat}{t:Ap}(h:RI B t) {n:Nat}(hn:n<=t.eps.length):RI B (t.wrE n):=by rw[X_ h n hn];exact Nv h n hn
theorem bB {B:Nat}{r:List Int}(h6:r.length=6) (h1:∀b,b<B->r[b]?.getD 0=-3) (h2:∀b,B<=b->b<6->r[b]?.getD 0=-3):r=DI:=by
 have h:∀b,b<6->r[b]?.getD 0=-3:=fun b hb=>by
  by_cases hbB:b<B
  ·exact h1 b hbB
  ·exact h2 b (by omega) hb
 match r,h6 with
 |[a,b,c,d,e,f],_ =>
  have a0:=h 0 (by omega);have a1:=h 1 (by omega);have a2:=h 2 (by omega);have a3:=h 3 (by omega);have a4:=h 4 (by omega);have a5:=h 5 (by omega)
  simp at a0 a1 a2 a3 a4 a5
  subst a0 a1 a2 a3 a4 a5;rfl
theorem Uq {t:Ap}{i:Nat}(hi:i<t.eps.length) (h:∀k,k<i->t.eps[k]?.getD []=DI) (hr:t.eps[i]?.getD []≠DI):t.first=some i:=by
 unfold Ap.first
 rw[List.findIdx?_eq_some_iff_getElem]
 rw[List.getElem?_eq_getElem hi] at hr
 refine⟨hi,by simpa using hr,fun j hj=>?_⟩
 have:=h j hj
 rw[List.getElem?_eq_getElem (by omega),Option.getD_some] at this
 rw[this];simp
theorem Ur {t:Ap}(h:∀k,k<t.eps.length->t.eps[k]?.getD []=DI):t.first=none:=by
 unfold Ap.first
 rw[List.findIdx?_eq_none_iff]
 intro r hr
 obtain⟨k,hk,rfl⟩:=List.getElem_of_mem hr
 have:=h k hk
 rw[List.getElem?_eq_getElem hk,Option.getD_some] at this
 rw[this];simp
def Ap.fI (t:Ap):Int:=match t.first with
 |some e=>e
 |none=>0
attribute [local congr] Dy CG CH Bn D0 Bu Bw Bv Bm BU BN BG Bp BO Br CT CU CS CV CW CX Bo CN CM Bq BS Bt BT CK C8 BR CQ CR CL CI CJ Dz BP BQ Bs CO CP
attribute [local irreducible] IntKind.wrap Cf Option.getD and or
theorem Ge (B:Nat) (t:Ap) (h:RI B t) (e b:Nat) (he:e<t.eps.length) (hb:b<B):E9 E0 Kz [YN B t,.int .i64 (e:Int),.int .i64 (b:Int)] (YN B (t.write e b)):=by
 have hB:=h.b6;have hB1:=h.b1;have hml:=h.ml
 have hm:=BL he
 have h6:=h.six _ hm
 have hno:=h.no _ hm b (by omega)
 have hnE:Hy B t≠[]:=fun hx=>by have:=KJ B t;rw[hx] at this;simp at this;omega
 have hmm:t.med.take B≠[]:=by
  intro hx
  have h1:(t.med.take B).length=0:=by rw[hx];rfl
  rw[List.length_take] at h1;omega
 have hmL:(t.med.take B).length=B:=by rw[List.length_take];omega
 have cC:=Jg (t.med.take B) (Hy B t) t.wr hmm (by omega) (fun r hr=>by
  obtain⟨r0,h0,rfl⟩:=List.mem_map.1 hr
  have h1:=KI (h.six _ h0) hB
  exact⟨fun hx=>by rw[hx] at h1;simp at h1;omega,by omega⟩) (by rw[KJ];have:=h.le;omega) hnE
 have hEl:=KJ B t
 have hat:=RD (B:=B) he
 have hent:t.ent e b=(t.eps[e]?.getD [])[b]?.getD 0:=rfl
 obtain⟨r,hr⟩:∃r,t.eps[e]?.getD []=r:=⟨_,rfl⟩
 rw[hr] at hat hent h6 hno
 have hrb:=UE h6 hb hB
 have hrl:=KI h6 hB
 have he':(e:Int)<((Hy B t).length:Int):=by omega
 have he2:e<(Hy B t).length:=by omega
 have hb':(b:Int)<(B:Int):=by omega
 have hbm:b<(t.med.take B).length:=by omega
 have hbm':(b:Int)<((t.med.take B).length:Int):=by omega
 rw[Q9] at cC
 obtain⟨v,hv⟩:∃v,r[b]?.getD 0=v:=⟨_,rfl⟩
 rw[hv] at hrb hent hno
 by_cases h3:v=-3
 ·have hw:t.write e b=t:=by unfold Ap.write;rw[hent,if_pos h3]
  have hc:X6 v=-1:=by rw[h3];rfl
  rw[hc] at hrb
  rw[hw]
  refine Ao JF A3 (by simp) fun hwf=>?_
  rw[Az];unfold HC
  rw[Cb,Cc]
  (try (simp -implicitDefEqProofs only[go_sem,D_,Ey,Ex,hat,hrb,hrl,he',he2,hb',hb,Ly,Int.toNat_natCast]));repeat' first|(with_reducible first|exact tI|refine aI ?_ ?_|intro _)|((first|with_reducible refine Af ?_ ?_<;>intro _|(with_reducible refine isCall ?_);first|(refine Ad ([]) ([((8,0),(10,0)),((29,0),(10010,0))]) (cC) (by repeat' first|exact True.intro|exact rfl|refine And.intro ?_ ?_) (by simp[AW,Ah.get,AE.ren,AV.ren,AV.ren.renL,AB.get,AX,Ag,AY,AB.reach,AV.sites,AV.sites.sitesL,AB.osites]) (by simp[AL,Aq,AK,Ah.get,AY,A2,A9,AZ,AM]) (by rfl) (by simp only[Ai,Ah.get,AE.ren,AV.ren,AV.ren.renL,and_self,and_true,true_and,if_true,reduceIte];rfl) ?_))<;>try (simp -implicitDefEqProofs only[go_sem,D_,Ey,Ex,hat,hrb,hrl,he',he2,hb',hb,Ly,Int.toNat_natCast]))|simp (disch:=omega) only[A8]
  all_goals first|omega|rfl|trace_state
 ·have hw:t.write e b=⟨t.med.set b v,t.eps.set e (r.set b (-3)),IntKind.i64.wrap (t.wr+1)⟩:=by unfold Ap.write;rw[hent,if_neg h3,hr]
  have hc:X6 v=v:=by unfold X6;rw[if_neg h3]
  rw[hc] at hrb
  have hs1:(t.med.set b v).take B=(t.med.take B).set b v:=by rw[List.take_set]
  have hs2:Hy B ⟨t.med.set b v,t.eps.set e (r.set b (-3)),IntKind.i64.wrap (t.wr+1)⟩=(Hy B t).set e ((P_ B r).set b (-1)):=by
   rw[←Vf (r.set b (-3)),←Vd];rfl
  have hmr:HU (Vt (Hy B t).length) (SP ((Hy B t).set e ((P_ B r).set b (-1))))=Im ((Hy B t).set e ((P_ B r).set b (-1))):=by
   have:=Ly ((Hy B t).set e ((P_ B r).set b (-1)))
   rw[List.length_set] at this;exact this
  rw[hw]
  refine Ao JF A3 (by simp) fun hwf=>?_
  rw[Az];unfold HC
  rw[Cb,Cc,Cb,Cc]
  dsimp only
  rw[hs1,hs2]
  (try (simp -implicitDefEqProofs only[go_sem,D_,Ey,Ex,hat,hrb,hrl,he',he2,hb',hb,hmr,hbm,hbm',hno,KH,Int.toNat_natCast,HH,hmL]));repeat' first|(with_reducible first|exact tI|refine aI ?_ ?_|intro _)|((first|with_reducible refine Af ?_ ?_<;>intro _|(with_reducible refine isCall ?_);first|(refine Ad ([]) ([((8,0),(10,0)),((29,0),(10010,0))]) (cC) (by repeat' first|exact True.intro|exact rfl|refine And.intro ?_ ?_) (by simp[AW,Ah.get,AE.ren,AV.ren,AV.ren.renL,AB.get,AX,Ag,AY,AB.reach,AV.sites,AV.sites.sitesL,AB.osites]) (by simp[AL,Aq,AK,Ah.get,AY,A2,A9,AZ,AM]) (by rfl) (by simp only[Ai,Ah.get,AE.ren,AV.ren,AV.ren.renL,and_self,and_true,true_and,if_true,reduceIte];rfl) ?_))<;>try (simp -implicitDefEqProofs only[go_sem,D_,Ey,Ex,hat,hrb,hrl,he',he2,hb',hb,hmr,hbm,hbm',hno,KH,Int.toNat_natCast,HH,hmL]))|simp (disch:=omega) only[A8]
  all_goals first|omega|rfl|exact .inl True.intro|trace_state
theorem G9 (B:Nat) (t:Ap) (h:RI B t) (n:Nat) (hn:n<=t.eps.length):E9 E0 Ie [YN B t,.int .i64 (n:Int)] (YN B (t.wrE n)):=by
 rw[X_ h n hn]
 obtain⟨R,hR⟩:∃R,Ql B t n=R:=⟨_,rfl⟩
 rw[hR]
 have hle:=h.le
 have hB:=h.b6
 refine Ao LL A3 (by simp) fun hwf=>?_
 rw[Az];unfold He
 rw[Cb,Cc,Cb,Cc]
 (try (simp -implicitDefEqProofs only[go_sem]));repeat' first|(with_reducible first|exact tI|refine aI ?_ ?_|intro _)|((first|with_reducible refine Af ?_ ?_<;>intro _)<;>try (simp -implicitDefEqProofs only[go_sem]))|simp (disch:=omega) only[A8]|((with_reducible refine Eo ?_);refine⟨(_,_),rfl,?_,?_⟩)
 all_goals first|omega|(simp<;>omega)|skip
 refine BB (α:=Nat×Ap) (l0:=?l1) (m0:=?m1) (fun x=>[(5,.d (.int .i64 (x.1:Int)))]) (fun x=>[(2,.cells [.d (.list false (Bi (x.2.med.take B))),.d (.list false (Im (Hy B x.2))),.d (.int .i64 x.2.wr)])]) (fun x=>x.1<=n/\x.2=Ql B t x.1) (fun x=>n-x.1) (0,t) ?h01 ?he1 ?he21 ?hI1 ?step1
 case h01=>(simp -implicitDefEqProofs only[go_sem];rfl)
 case he1=>rfl
 case he21=>rfl
 case' step1=>(rintro⟨i,u⟩ hI;try dsimp only at hI)
 case' hI1=>try dsimp only
 ·exact⟨Nat.zero_le _,rfl⟩
 ·obtain⟨i1,i2⟩:=hI
  change u=Ql B t i at i2
  by_cases hi:i<n
  ·have hi':(i:Int)<(n:Int):=by omega
   have wi:IntKind.i64.wrap ((i:Int)+1)=((i+1:Nat):Int):=by rw[BM _ (by omega)];omega
   have hu:RI B u:=by rw[i2];exact Nv h i (by omega)
   have hul:u.eps.length=t.eps.length:=by rw[i2,LR]
   (try (simp -implicitDefEqProofs only[go_sem,hi']));repeat' first|(with_reducible first|exact tI|refine aI ?_ ?_|intro _)|((first|with_reducible refine Af ?_ ?_<;>intro _)<;>try (simp -implicitDefEqProofs only[go_sem,hi']))|simp (disch:=omega) only[A8]|((with_reducible refine Eo ?_);refine⟨(_,_),rfl,?_,?_⟩)
   all_goals first|omega|(simp<;>omega)|skip
   refine BB (α:=Nat×Ap) (l0:=?l2) (m0:=?m2) (fun x=>[(6,.d (.int .i64 (x.1:Int)))]) (fun x=>[(2,.cells [.d (.list false (Bi (x.2.med.take B))),.d (.list false (Im (Hy B x.2))),.d (.int .i64 x.2.wr)])]) (fun x=>x.1<=B/\x.2=u.wrB i x.1) (fun x=>B-x.1) (0,u) ?h02 ?he2 ?he22 ?hI2 ?step2
   case h02=>(simp -implicitDefEqProofs only[go_sem];rfl)
   case he2=>rfl
   case he22=>rfl
   case' step2=>(rintro⟨j,v⟩ hI2;try dsimp only at hI2)
   case' hI2=>try dsimp only
   ·exact⟨Nat.zero_le _,rfl⟩
   ·obtain⟨j1,j2⟩:=hI2
    change v=u.wrB i j at j2
    have hv:RI B v:=by rw[j2];exact RC hu (by omega) j
    have hvl:v.eps.length=t.eps.length:=by rw[j2,Gx,hul]
    have hml:(v.med.take B).length=B:=by rw[List.length_take,hv.ml];omega
    by_cases hj:j<B
    ·have hj':(j:Int)<(B:Int):=by omega
     have wj:IntKind.i64.wrap ((j:Int)+1)=((j+1:Nat):Int):=by rw[BM _ (by omega)];omega
     have cW:=Ge B v hv i j (by omega) hj
     have hnx:v.write i j=u.wrB i (j+1):=by rw[j2];rfl
     rw[Cb,Cc,Cb,Cc] at cW
     (try (simp -implicitDefEqProofs only[go_sem,hml,hj',wj]));repeat' first|(with_reducible first|exact tI|refine aI ?_ ?_|intro _)|((first|with_reducible refine Af ?_ ?_<;>intro _|(with_reducible refine isCall ?_);first|refine Ae cW ?_)<;>try (simp -implicitDefEqProofs only[go_sem,hml,hj',wj]))|simp (disch:=omega) only[A8]|((with_reducible refine Eo ?_);refine⟨(_,_),rfl,?_,?_⟩)
     all_goals first|omega|exact .inl True.intro|skip
     exact hnx
    ·have hje:j=B:=by omega
     have hj':¬(j:Int)<(B:Int):=by omega
     have hnx:v=Ql B t (i+1):=by rw[j2,hje,i2];rfl
     (try (simp -implicitDefEqProofs only[go_sem,hml,hj',wi]));repeat' first|(with_reducible first|exact tI|refine aI ?_ ?_|intro _)|((first|with_reducible refine Af ?_ ?_<;>intro _)<;>try (simp -implicitDefEqProofs only[go_sem,hml,hj',wi]))|simp (disch:=omega) only[A8]|((with_reducible refine Eo ?_);refine⟨(_,_),rfl,?_,?_⟩)
     all_goals first|omega|exact .inl True.intro|exact hnx
  ·have hie:i=n:=by omega
   have hi':¬(i:Int)<(n:Int):=by omega
   have hu:R=u:=by rw[←hR,i2,hie]
   rw[hu]
   (try (simp -implicitDefEqProofs only[go_sem,hi']));repeat' first|(with_reducible first|exact tI|refine aI ?_ ?_|intro _)|((first|with_reducible refine Af ?_ ?_<;>intro _)<;>try (simp -implicitDefEqProofs only[go_sem,hi']))|simp (disch:=omega) only[A8]|((with_reducible refine Eo ?_);refine⟨(_,_),rfl,?_,?_⟩)
   all_goals first|omega|rfl|exact .inl True.intro|trace_state
theorem Nf (B:Nat) (t:Ap) (h:RI B t):E9 E0 K0 [YN B t] (.tup [.int .i64 t.fI,.bool t.first.isSome]):=by
 have hle:=h.le
 have hB:=h.b6
 have hEl:=KJ B t
 refine Ao Nm A3 (by simp) fun hwf=>?_
 rw[Az];unfold Jm
 rw[Cb,Cc]
 (try (simp -implicitDefEqProofs only[go_sem]));repeat' first|(with_reducible first|exact tI|refine aI ?_ ?_|intro _)|((first|with_reducible refine Af ?_ ?_<;>intro _)<;>try (simp -implicitDefEqProofs only[go_sem]))|simp (disch:=omega) only[A8]|((with_reducible refine BF ?_);refine⟨_,rfl,?_,?_⟩)
 all_goals first|omega|(simp<;>omega)|skip
 refine BB (α:=Nat) (l0:=?l3) (m0:=?m3) (fun x=>[(4,.d (.int .i64 (x:Int)))]) (fun x=>[]) (fun x=>x<=t.eps.length/\∀k,k<x->t.eps[k]?.getD []=DI) (fun x=>t.eps.length-x) 0 ?h03 ?he3 ?he23 ?hI3 ?step3
 case h03=>(simp -implicitDefEqProofs only[go_sem];rfl)
 case he3=>rfl
 case he23=>rfl
 case' step3=>(rintro i hI;try dsimp only at hI)
 case' hI3=>try dsimp only
 ·exact⟨Nat.zero_le _,fun k hk=>by omega⟩
 ·obtain⟨i1,i2⟩:=hI
  by_cases hi:i<t.eps.length
  ·have hi':(i:Int)<((Hy B t).length:Int):=by omega
   have hi2:i<(Hy B t).length:=by omega
   have wi:IntKind.i64.wrap ((i:Int)+1)=((i+1:Nat):Int):=by rw[BM _ (by omega)];omega
   have hm:=BL hi
   have h6:=h.six _ hm
   have hhi:=h.hi _ hm
   have hno:=h.no _ hm
   have hat:=RD (B:=B) hi
   obtain⟨r,hr⟩:∃r,t.eps[i]?.getD []=r:=⟨_,rfl⟩
   rw[hr] at h6 hhi hno hat
   have hrl:=KI h6 hB
   have hrat:=fun b hb=>UE (b:=b) h6 hb hB
   (try (simp -implicitDefEqProofs only[go_sem,DZ,hi']));repeat' first|(with_reducible first|exact tI|refine aI ?_ ?_|intro _)|((first|with_reducible refine Af ?_ ?_<;>intro _)<;>try (simp -implicitDefEqProofs only[go_sem,DZ,hi']))|simp (disch:=omega) only[A8]|((with_reducible refine BF ?_);refine⟨_,rfl,?_,?_⟩)
   all_goals first|omega|(simp<;>omega)|skip
   refine BB (α:=Nat) (l0:=?l4) (m0:=?m4) (fun x=>[(5,.d (.int .i64 (x:Int)))]) (fun x=>[]) (fun x=>x<=B/\∀k,k<x->r[k]?.getD 0=-3) (fun x=>B-x) 0 ?h04 ?he4 ?he24 ?hI4 ?step4
   case h04=>(simp -implicitDefEqProofs only[go_sem];rfl)
   case he4=>rfl
   case he24=>rfl
   case' step4=>(rintro j hI2;try dsimp only at hI2)
   case' hI4=>try dsimp only
   ·exact⟨Nat.zero_le _,fun k hk=>by omega⟩
   ·obtain⟨j1,j2⟩:=hI2
    by_cases hj:j<B
    ·have hj':(j:Int)<(B:Int):=by omega
     have wj:IntKind.i64.wrap ((j:Int)+1)=((j+1:Nat):Int):=by rw[BM _ (by omega)];omega
     have hc:=hrat j hj
     by_cases h3:r[j]?.getD 0=-3
     ·rw[h3] at hc
      change (P_ B r)[j]?.getD 0=-1 at hc
      (try (simp -implicitDefEqProofs only[go_sem,DZ,D3,EY,EM,hat,hrl,hc,hi',hi2,hj',hj,wj,Int.toNat_natCast]));repeat' first|(with_reducible first|exact tI|refine aI ?_ ?_|intro _)|((first|with_reducible refine Af ?_ ?_<;>intro _)<;>try (simp -implicitDefEqProofs only[go_sem,DZ,D3,EY,EM,hat,hrl,hc,hi',hi2,hj',hj,wj,Int.toNat_natCast]))|simp (disch:=omega) only[A8]|((with_reducible refine BF ?_);refine⟨_,rfl,?_,?_⟩)
      all_goals first|omega|exact .inl True.intro|skip
      rename_i k hk
      by_cases hkj:k=j
      ·subst hkj;exact h3
      ·exact j2 k (by omega)
     ·have hc2:X6 (r[j]?.getD 0)=r[j]?.getD 0:=by unfold X6;rw[if_neg h3]
      have hn1:=hno j (by omega)
      rw[hc2] at hc
      rw[←hc] at hn1
      have hf:t.first=some i:=Uq hi i2 (by
       rw[hr];intro hx;rw[hx] at h3;exact h3 (Lu (by omega)))
      have hfI:t.fI=(i:Int):=by unfold Ap.fI;rw[hf]
      rw[hfI,hf]
      (try (simp -implicitDefEqProofs only[go_sem,DZ,D3,EY,EM,hat,hrl,hn1,hi',hi2,hj',hj,wj,Int.toNat_natCast]));repeat' first|(with_reducible first|exact tI|refine aI ?_ ?_|intro _)|((first|with_reducible refine Af ?_ ?_<;>intro _)<;>try (simp -implicitDefEqProofs only[go_sem,DZ,D3,EY,EM,hat,hrl,hn1,hi',hi2,hj',hj,wj,Int.toNat_natCast]))|simp (disch:=omega) only[A8]|((with_reducible refine BF ?_);refine⟨_,rfl,?_,?_⟩)
      all_goals first|omega|rfl|exact .inl True.intro|trace_state
    ·have hj':¬(j:Int)<(B:Int):=by omega
     have hrn:r=DI:=bB h6 (fun b hb=>j2 b (by omega)) hhi
     (try (simp -implicitDefEqProofs only[go_sem,DZ,D3,EY,EM,hat,hrl,hi',hi2,hj',wi,Int.toNat_natCast]));repeat' first|(with_reducible first|exact tI|refine aI ?_ ?_|intro _)|((first|with_reducible refine Af ?_ ?_<;>intro _)<;>try (simp -implicitDefEqProofs only[go_sem,DZ,D3,EY,EM,hat,hrl,hi',hi2,hj',wi,Int.toNat_natCast]))|simp (disch:=omega) only[A8]|((with_reducible refine BF ?_);refine⟨_,rfl,?_,?_⟩)
     all_goals first|omega|exact .inl True.intro|skip
     rename_i k hk
     by_cases hki:k=i
     ·subst hki;rw[hr,hrn]
     ·exact i2 k (by omega)
  ·have hi':¬(i:Int)<((Hy B t).length:Int):=by omega
   have hf:t.first=none:=Ur fun k hk=>i2 k (by omega)
   have hfI:t.fI=0:=by unfold Ap.fI;rw[hf]
   rw[hfI,hf]
   (try (simp -implicitDefEqProofs only[go_sem,DZ,hi']));repeat' first|(with_reducible first|exact tI|refine aI ?_ ?_|intro _)|((first|with_reducible refine Af ?_ ?_<;>intro _)<;>try (simp -implicitDefEqProofs only[go_sem,DZ,hi']))|simp (disch:=omega) only[A8]|((with_reducible refine BF ?_);refine⟨_,rfl,?_,?_⟩)
   all_goals first|omega|rfl|exact .inl True.intro|trace_state
end Go.Pw
