/- A part of the proof. -/
import Derived.Test.YtpcpcjbbdgmohaaPgTsN
import Derived.Test.YtpcpcjbbdgmohaaTsT
import Derived.Test.YtpcpcjbbdgmohaaTsLgJ
set_option linter.all false
section
open Go Go.Pw Go.Proofs
namespace Go.Pw
set_option maxRecDepth 100000
set_option maxHeartbeats 6400000
def GB.ok (b:GB):Bool:=HS b.bands 1 6 && (HS b.tracks 1 6 && (HS b.blocks 1 4 && (HS b.cache 1 12 && HS b.limit 1 20)))
theorem Vw {b:GB}(h:b.ok=true):b.Good:=by
 unfold GB.ok at h
 simp only[Bool.and_eq_true,L8] at h
 exact⟨h.1,h.2.1,h.2.2.1,h.2.2.2.1,h.2.2.2.2⟩
def fR:GB:=⟨3,2,2,3,2⟩
def gD:List Ga:=[(0,5),(3,6),(5,7),(0,8),(8,9),(4,1),(7,2)]
theorem Zx:fR.Good:=Vw (by kernel_rfl)
theorem e_:∀w,w∈gD->(0<=w.1/\w.1<fR.many)/\(0<=w.2/\w.2<=999):=by
 intro w hw
 simp only[gD,List.mem_cons,List.not_mem_nil,or_false] at hw
 have hm:fR.many=12:=by rfl
 rw[hm]
 rcases hw with rfl|rfl|rfl|rfl|rfl|rfl|rfl<;>exact⟨⟨by decide,by decide⟩,by decide,by decide⟩
theorem gE:E8 (FC fR gD) 8=9:=by kernel_rfl
def gH:Au:=⟨3,false,[⟨1,0⟩,⟨1,1⟩,⟨3,0⟩,⟨1,0⟩,⟨2,2⟩,⟨1,1⟩]⟩
theorem fA:gH.ok=true:=by kernel_rfl
theorem gG:Ek gH [] false=0:=by kernel_rfl
theorem gF:Fj gH [] false=[0,1,4]:=by kernel_rfl
theorem ZP {α:Type}(l:List α) (y:α):(l++[y]).isEmpty=false:=by cases l<;>rfl
attribute [local congr] Dy CG CH Bn D0 Bu Bw Bv Bm BU BN BG Bp BO Br CT CU CS CV CW CX Bo CN CM Bq BS Bt BT CK C8 BR CQ CR CL CI CJ Dz BP BQ Bs CO CP
attribute [local irreducible] IntKind.wrap Cf Option.getD and or
theorem L2:E9 E0 JP [] (HN gH):=by
 refine Ao MN A3 (by simp) fun hwf=>?_
 rw[Az];unfold IE
 (try (simp -implicitDefEqProofs only[go_sem]));repeat' first|(with_reducible first|exact tI|refine aI ?_ ?_|intro _)|((first|with_reducible refine Af ?_ ?_<;>intro _)<;>try (simp -implicitDefEqProofs only[go_sem]))|simp (disch:=omega) only[A8]
 all_goals first|omega|rfl|skip
theorem L1:E9 E0 JO [] (.tup [Fv fR,.list false (J4 gD)]):=by
 refine Ao ML A3 (by simp) fun hwf=>?_
 rw[Az];unfold IC
 (try (simp -implicitDefEqProofs only[go_sem]));repeat' first|(with_reducible first|exact tI|refine aI ?_ ?_|intro _)|((first|with_reducible refine Af ?_ ?_<;>intro _)<;>try (simp -implicitDefEqProofs only[go_sem]))|simp (disch:=omega) only[A8]
 all_goals first|omega|rfl|skip
theorem OD:E9 E0 MX [] (.bool true):=by
 have c1:=L1
 have c2:=H2 fR Zx false gD (by decide) e_ 8 (by decide)
 rw[gE] at c2
 have c3:=L2
 have c4:=J3 gH fA (by decide) true [] false
 rw[gG,if_pos rfl,gF] at c4
 rw[BX,BZ] at c1 c2
 rw[Am] at c3 c4
 refine Ao O1 A3 (by simp) fun hwf=>?_
 rw[Az];unfold Kn
 (try (simp -implicitDefEqProofs only[go_sem,Option.getD_some]));repeat' first|(with_reducible first|exact tI|refine aI ?_ ?_|intro _)|((first|with_reducible refine Af ?_ ?_<;>intro _|(with_reducible refine isCall ?_);first|refine Ae c1 ?_|refine Ae c2 ?_|refine Ae c3 ?_|refine Ae c4 ?_)<;>try (simp -implicitDefEqProofs only[go_sem,Option.getD_some]))|simp (disch:=omega) only[A8]
 all_goals first|omega|rfl|skip
theorem Dg (n lo hi:Int):E9 E0 J9 [.int .i64 n,.int .i64 lo,.int .i64 hi] (.bool (HS n lo hi)):=by
 refine Ao My A3 (by simp) fun hwf=>?_
 rw[Az];unfold I_ HS
 by_cases h:lo<=n
 ·rw[decide_eq_true h]
  (try (simp -implicitDefEqProofs only[go_sem,h]));repeat' first|(with_reducible first|exact tI|refine aI ?_ ?_|intro _)|((first|with_reducible refine Af ?_ ?_<;>intro _)<;>try (simp -implicitDefEqProofs only[go_sem,h]))|simp (disch:=omega) only[A8]
  all_goals first|omega|rfl|(rename_i hq;rw[decide_eq_true hq];done)|(rename_i hq;rw[decide_eq_false hq];done)|(simp;done)|skip
 ·rw[decide_eq_false h]
  (try (simp -implicitDefEqProofs only[go_sem,h]));repeat' first|(with_reducible first|exact tI|refine aI ?_ ?_|intro _)|((first|with_reducible refine Af ?_ ?_<;>intro _)<;>try (simp -implicitDefEqProofs only[go_sem,h]))|simp (disch:=omega) only[A8]
  all_goals first|omega|rfl|(rename_i hq;rw[decide_eq_true hq];done)|(rename_i hq;rw[decide_eq_false hq];done)|(simp;done)|skip
theorem Ll (b:GB):E9 E0 JK [Fv b] (.bool b.ok):=by
 have c:=fun n lo hi=>Dg n lo hi
 refine Ao MG A3 (by simp) fun hwf=>?_
 rw[Az];unfold H_ GB.ok
 rw[BX,BZ]
 have c1:=Dg b.bands 1 6
 have c2:=Dg b.tracks 1 6
 have c3:=Dg b.blocks 1 4
 have c4:=Dg b.cache 1 12
 have c5:=Dg b.limit 1 20
 cases h1:HS b.bands 1 6 with
 |false =>
  rw[h1] at c1
  (try (simp -implicitDefEqProofs only[go_sem]));repeat' first|(with_reducible first|exact tI|refine aI ?_ ?_|intro _)|((first|with_reducible refine Af ?_ ?_<;>intro _|(with_reducible refine isCall ?_);first|refine Ae c1 ?_)<;>try (simp -implicitDefEqProofs only[go_sem]))|simp (disch:=omega) only[A8]
  all_goals first|omega|rfl|(simp;done)|skip
 |true =>
 rw[h1] at c1
 cases h2:HS b.tracks 1 6 with
 |false =>
  rw[h2] at c2
  (try (simp -implicitDefEqProofs only[go_sem]));repeat' first|(with_reducible first|exact tI|refine aI ?_ ?_|intro _)|((first|with_reducible refine Af ?_ ?_<;>intro _|(with_reducible refine isCall ?_);first|refine Ae c1 ?_|refine Ae c2 ?_)<;>try (simp -implicitDefEqProofs only[go_sem]))|simp (disch:=omega) only[A8]
  all_goals first|omega|rfl|(simp;done)|skip
 |true =>
 rw[h2] at c2
 cases h3:HS b.blocks 1 4 with
 |false =>
  rw[h3] at c3
  (try (simp -implicitDefEqProofs only[go_sem]));repeat' first|(with_reducible first|exact tI|refine aI ?_ ?_|intro _)|((first|with_reducible refine Af ?_ ?_<;>intro _|(with_reducible refine isCall ?_);first|refine Ae c1 ?_|refine Ae c2 ?_|refine Ae c3 ?_)<;>try (simp -implicitDefEqProofs only[go_sem]))|simp (disch:=omega) only[A8]
  all_goals first|omega|rfl|(simp;done)|skip
 |true =>
 rw[h3] at c3
 cases h4:HS b.cache 1 12 with
 |false =>
  rw[h4] at c4
  (try (simp -implicitDefEqProofs only[go_sem]));repeat' first|(with_reducible first|exact tI|refine aI ?_ ?_|intro _)|((first|with_reducible refine Af ?_ ?_<;>intro _|(with_reducible refine isCall ?_);first|refine Ae c1 ?_|refine Ae c2 ?_|refine Ae c3 ?_|refine Ae c4 ?_)<;>try (simp -implicitDefEqProofs only[go_sem]))|simp (disch:=omega) only[A8]
  all_goals first|omega|rfl|(simp;done)|skip
 |true =>
 rw[h4] at c4
 (try (simp -implicitDefEqProofs only[go_sem]));repeat' first|(with_reducible first|exact tI|refine aI ?_ ?_|intro _)|((first|with_reducible refine Af ?_ ?_<;>intro _|(with_reducible refine isCall ?_);first|refine Ae c1 ?_|refine Ae c2 ?_|refine Ae c3 ?_|refine Ae c4 ?_|refine Ae c5 ?_)<;>try (simp -implicitDefEqProofs only[go_sem]))|simp (disch:=omega) only[A8]
 all_goals first|omega|rfl|(rename_i hq;rw[hq];done)|(simp;done)|skip
theorem Kd (b:GB):E9 E0 Ho [Fv b,.list true []] (.bool true):=by
 refine Ao Kg A3 (by simp) fun hwf=>?_
 rw[Az];unfold HB
 rw[BX,BZ]
 (try (simp -implicitDefEqProofs only[go_sem]));repeat' first|(with_reducible first|exact tI|refine aI ?_ ?_|intro _)|((first|with_reducible refine Af ?_ ?_<;>intro _)<;>try (simp -implicitDefEqProofs only[go_sem]))|simp (disch:=omega) only[A8]|((with_reducible refine BF ?_);refine⟨_,rfl,?_,?_⟩)
 all_goals first|omega|(simp<;>omega)|skip
 refine BB (α:=Nat) (l0:=?l1) (m0:=?m1) (fun x=>[(5,.d (.int .i64 (x:Int)))]) (fun x=>[]) (fun x=>x=0) (fun x=>x) 0 ?h01 ?he1 ?he21 ?hI1 ?step1
 case h01=>(simp -implicitDefEqProofs only[go_sem];rfl)
 case he1=>rfl
 case he21=>rfl
 case' step1=>(rintro i hI;try dsimp only at hI)
 case' hI1=>try dsimp only
 ·subst hI
  (try (simp -implicitDefEqProofs only[go_sem]));repeat' first|(with_reducible first|exact tI|refine aI ?_ ?_|intro _)|((first|with_reducible refine Af ?_ ?_<;>intro _)<;>try (simp -implicitDefEqProofs only[go_sem]))|simp (disch:=omega) only[A8]|((with_reducible refine BF ?_);refine⟨_,rfl,?_,?_⟩)
  all_goals first|omega|rfl|exact .inl True.intro|trace_state
theorem Nd (b:GB):E9 E0 Ky [Fv b,.list true []] (.int .i64 (if b.ok then 0 else 90)):=by
 have c1:=Ll b
 have c2:=Kd b
 rw[BX,BZ] at c1 c2
 refine Ao Nl A3 (by simp) fun hwf=>?_
 rw[Az];unfold Jl
 rw[BX,BZ]
 cases h:b.ok with
 |false =>
  rw[h] at c1
  (try (simp -implicitDefEqProofs only[go_sem]));repeat' first|(with_reducible first|exact tI|refine aI ?_ ?_|intro _)|((first|with_reducible refine Af ?_ ?_<;>intro _|(with_reducible refine isCall ?_);first|refine Ae c1 ?_)<;>try (simp -implicitDefEqProofs only[go_sem]))|simp (disch:=omega) only[A8]
  all_goals first|omega|rfl|(simp;done)|skip
 |true =>
  rw[h] at c1
  (try (simp -implicitDefEqProofs only[go_sem]));repeat' first|(with_reducible first|exact tI|refine aI ?_ ?_|intro _)|((first|with_reducible refine Af ?_ ?_<;>intro _|(with_reducible refine isCall ?_);first|refine Ae c1 ?_|refine Ae c2 ?_)<;>try (simp -implicitDefEqProofs only[go_sem]))|simp (disch:=omega) only[A8]
  all_goals first|omega|rfl|(simp;done)|skip
theorem OS (b:GB) (g:b.Good):E9 E0 MY [Fv b] (.int .i64 b.many):=by
 have hm:=KQ g
 have g1:=g.n;have g2:=g.t;have g3:=g.k
 unfold GB.many at *
 have h1:b.bands*b.tracks<=6*6:=Int.mul_le_mul g1.2 g2.2 (by omega) (by omega)
 have h3:0<=b.bands*b.tracks:=Int.mul_nonneg (by omega) (by omega)
 obtain⟨p,hp⟩:∃p,b.bands*b.tracks=p:=⟨_,rfl⟩
 rw[hp] at hm h1 h3 ⊢
 obtain⟨q,hq⟩:∃q,p*b.blocks=q:=⟨_,rfl⟩
 rw[hq] at hm ⊢
 have w1:IntKind.i64.wrap p=p:=BM _ (by omega)
 have w2:IntKind.i64.wrap q=q:=BM _ (by omega)
 refine Ao O2 A3 (by simp) fun hwf=>?_
 rw[Az];unfold Ko
 rw[BX,BZ]
 (try (simp -implicitDefEqProofs only[go_sem,hp,hq,w1,w2]));repeat' first|(with_reducible first|exact tI|refine aI ?_ ?_|intro _)|((first|with_reducible refine Af ?_ ?_<;>intro _)<;>try (simp -implicitDefEqProofs only[go_sem,hp,hq,w1,w2]))|simp (disch:=omega) only[A8]
 all_goals first|omega|rfl|(simp;done)|skip
theorem Mg (l:List Ga) (hl:l.length<=1000) (B:Nat) (hB:B<=6) (m n:List Int) (hm:m.length=B) (hn:n.length=B) (hv:∀i,i<B->-1<=n[i]?.getD 0/\n[i]?.getD 0<=1000) :
  D1 E0 Qj [(800000,0,.row 134 2 l.isEmpty (J4 l))] [.own 800000 0,.d (.list false (Bi m)),.d (.list false (Bi n))]
   [(800000,1,.row 134 2 (FP l m n B).isEmpty (J4 (FP l m n B)))] (.own 800000 1):=by
 obtain⟨R,hR⟩:∃R,FP l m n B=R:=⟨_,rfl⟩
 rw[hR]
 refine Av TM A3 (by simp) (by simp[D4,AK,A2,AE.isHist]) (by simp[Aq,A2]) fun hwf hwo=>?_
 rw[A5];unfold Oa
 (try (simp -implicitDefEqProofs only[go_sem]));repeat' first|(with_reducible first|exact tI|refine aI ?_ ?_|intro _)|((first|with_reducible refine Af ?_ ?_<;>intro _)<;>try (simp -implicitDefEqProofs only[go_sem]))|simp (disch:=omega) only[A8]|((with_reducible refine B5 ?_);refine⟨(_,_,_),rfl,?_,?_⟩)
 all_goals first|omega|(simp<;>omega)|skip
 refine BB (α:=Nat×((List Ga))×Bool) (l0:=?l2) (m0:=?m2) (fun x=>[(7,.d (.int .i64 (x.1:Int)))]) (fun x=>[(800000,.row 134 2 x.2.2 (J4 x.2.1))]) (fun x=>x.1<=B/\x.2.1=FP l m n x.1/\x.2.2=x.2.1.isEmpty) (fun x=>B-x.1) (0,l,l.isEmpty) ?h02 ?he2 ?he22 ?hI2 ?step2
 case h02=>(simp -implicitDefEqProofs only[go_sem];rfl)
 case he2=>rfl
 case he22=>rfl
 case' step2=>(rintro⟨i,L,nl⟩ hI;try dsimp only at hI)
 case' hI2=>try dsimp only
 ·exact⟨Nat.zero_le _,rfl,rfl⟩
 ·obtain⟨i1,i2,i3⟩:=hI
  change L=FP l m n i at i2
  change nl=L.isEmpty at i3
  by_cases hi:i<B
  ·have hi1:(i:Int)<(m.length:Int):=by omega
   have hi2:(i:Int)<(n.length:Int):=by omega
   have hi3:i<m.length:=by omega
   have hi4:i<n.length:=by omega
   have wi:IntKind.i64.wrap ((i:Int)+1)=((i+1:Nat):Int):=by rw[BM _ (by omega)];omega
   have hvi:=hv i hi
   have hLl:=(OW l m n i).1
   rw[←i2] at hLl
   have hnx:FP l m n (i+1)=if m[i]?.getD 0≠n[i]?.getD 0 then FP l m n i++[((i:Int),n[i]?.getD 0+1)] else FP l m n i:=rfl
   rw[←i2] at hnx
   obtain⟨y,hy⟩:∃y,n[i]?.getD 0=y:=⟨_,rfl⟩
   rw[hy] at hvi hnx
   have wy:IntKind.i64.wrap (y+1)=y+1:=BM _ (by omega)
   by_cases hne:m[i]?.getD 0=y
   ·rw[if_neg (fun h=>h hne)] at hnx
    (try (simp -implicitDefEqProofs only[go_sem,hi1,hi2,hi3,hi4,wi,hy,hne,Int.toNat_natCast]));repeat' first|(with_reducible first|exact tI|refine aI ?_ ?_|intro _)|((first|with_reducible refine Af ?_ ?_<;>intro _)<;>try (simp -implicitDefEqProofs only[go_sem,hi1,hi2,hi3,hi4,wi,hy,hne,Int.toNat_natCast]))|simp (disch:=omega) only[A8]|((with_reducible refine B5 ?_);refine⟨(_,_,_),rfl,?_,?_⟩)
    all_goals first|omega|rfl|exact .inl True.intro|exact hnx.symm|exact i3|trace_state
   ·rw[if_pos hne] at hnx
    (try (simp -implicitDefEqProofs only[go_sem,hi1,hi2,hi3,hi4,wi,hy,hne,wy,Dc,G3,Qf,Int.toNat_natCast]));repeat' first|(with_reducible first|exact tI|refine aI ?_ ?_|intro _)|((first|with_reducible refine Af ?_ ?_<;>intro _)<;>try (simp -implicitDefEqProofs only[go_sem,hi1,hi2,hi3,hi4,wi,hy,hne,wy,Dc,G3,Qf,Int.toNat_natCast]))|simp (disch:=omega) only[A8]|((with_reducible refine B5 ?_);refine⟨(_,_,_),rfl,?_,?_⟩)
    all_goals first|omega|rfl|exact .inl True.intro|exact hnx.symm|exact(ZP _ _).symm|trace_state
  ·have hie:i=B:=by omega
   have hi1:¬(i:Int)<(m.length:Int):=by omega
   have hL:R=L:=by rw[i2,hie];exact hR.symm
   rw[hL,i3]
   (try (simp -implicitDefEqProofs only[go_sem,hi1]));repeat' first|(with_reducible first|exact tI|refine aI ?_ ?_|intro _)|((first|with_reducible refine Af ?_ ?_<;>intro _)<;>try (simp -implicitDefEqProofs only[go_sem,hi1]))|simp (disch:=omega) only[A8]|((with_reducible refine B5 ?_);refine⟨(_,_,_),rfl,?_,?_⟩)
   all_goals first|omega|rfl|exact .inl True.intro|trace_state
end Go.Pw
end
section
open Go Go.Pw Go.Proofs
namespace Go.Pw
theorem Mm {c:Au}(hc:c.ok=true) {t:Ap}(h:t.Inv c) (hl:t.eps.length<=100):RI c.blocks.toNat t:=by
 have cb:=Cr hc
 refine⟨by omega,by omega,h.ml,h.el,h.ne,hl,fun r hr b hb=>?_,fun r hr b hB hb=>?_⟩
 ·rcases h.eh r hr b hb with h1|⟨h1,_⟩<;>omega
 ·rcases h.eh r hr b hb with h1|⟨h1,h2,h3,h4⟩
  ·exact h1
  ·have:=RH (Fe hc (n:=(r[b]?.getD 0).toNat) (by omega)) h3
   omega
structure LI (c:Au) (b:GB) (ds:List Ew) (f:Ap) (i k:Nat) (t:Ap) (L:List Ga):Prop where
 inv:t.Inv c
 le:t.eps.length<=i+1
 lw:LW c b t.med L
 len:L.length<=3*i+k
 fin:∃s,N5 t s/\Nr s/\LJ c (ds.drop k) s i=some f
theorem YU {s t:Ap}(h:N5 s t):1<=t.eps.length:=by
 obtain⟨P,Q,L,_,_,h3,_⟩:=h
 rw[h3];simp
theorem Mw {ds:List Ew}{k:Nat}(hk:k<ds.length):ds.drop k=(ds[k]?.getD default)::ds.drop (k+1):=by
 rw[List.drop_eq_getElem_cons hk,List.getElem?_eq_getElem hk];rfl
theorem ZK {c:Au}{b:GB}(hc:c.ok=true) {ds:List Ew}{f:Ap}(hf:LJ c ds Ap.begin 0=some f):LI c b ds f 0 0 Ap.begin []:=by
 have cb:=Cr hc
 exact⟨KT c,Nat.le_refl _,ZE c b (by omega),Nat.le_refl _,Ap.begin,YS (Nat.le_refl _),(KT c).el,hf⟩
theorem Ny {c:Au}{b:GB}{ds:List Ew}{f:Ap}{i k:Nat}{t:Ap}{L:List Ga}(h:LI c b ds f i k t L) (hk:k<ds.length) :
  ((i:Int)<=(ds[k]?.getD default).aft/\(ds[k]?.getD default).aft<=c.ords.length)/\(0<=(ds[k]?.getD default).blk/\(ds[k]?.getD default).blk<=c.blocks-1):=by
 obtain⟨s,h1,h2,h3⟩:=h.fin
 rw[Mw hk] at h3
 exact e9 h3
theorem ZJ {c:Au}{b:GB}(hc:c.ok=true) {ds:List Ew}{f:Ap}{i k:Nat}{t:Ap}{L:List Ga}(h:LI c b ds f i k t L) (hk:k<ds.length) (ha:(ds[k]?.getD default).aft=(i:Int)) :
  t.can (ds[k]?.getD default).blk.toNat=true/\LI c b ds f i (k+1) (t.drain0 (ds[k]?.getD default).blk.toNat) (FP L t.med (t.drain0 (ds[k]?.getD default).blk.toNat).med c.blocks.toNat):=by
 have cb:=Cr hc
 have hh:=Ny h hk
 obtain⟨s,h1,h2,h3⟩:=h.fin
 rw[Mw hk] at h3
 obtain⟨h4,h5⟩:=XM h3 ha
 obtain⟨x,hx⟩:∃x,(ds[k]?.getD default).blk.toNat=x:=⟨_,rfl⟩
 rw[hx] at h4 h5 ⊢
 have hc2:t.can x=true:=by rw[VZ h1];exact h4
 have hi:=Ug h.inv (b:=x) (by omega)
 refine⟨hc2,hi,by rw[O0];exact h.le,ZD h.lw hi cb.2.1,?_,s.drain x,WO h1 hc2,?_,h5⟩
 ·obtain⟨v,hv⟩:=U8 t x
  have hl:=QB L t.med x v c.blocks.toNat
  rw[←hv] at hl
  have hL:=h.len
  split at hl<;>omega
 ·rw[Oz]
  refine SH (T4 h2 x) ?_
  rw[O0];exact YU h1
theorem bU (s:Ap) (n:Int) (o:Cx) (h:1<=s.eps.length):1<=(s.ord0 n o).eps.length:=by
 have hset:∀b v,(s.setL b v).eps.length=s.eps.length:=fun b v=>by simp[Ap.setL]
 unfold Ap.ord0
 split
 ·rw[hset];exact h
 ·split
  ·dsimp only;rw[Bz,Cp,hset];exact h
  ·split
   ·simp
   ·split
    ·rw[Cp];exact h
    ·exact h
theorem So {c:Au}{b:GB}(hc:c.ok=true) (hb:c.blocks<=3) {ds:List Ew}{f:Ap}{i k:Nat}{t:Ap}{L:List Ga}(h:LI c b ds f i k t L) (hi:i<c.ords.length) (hd:¬(k<ds.length/\(ds[k]?.getD default).aft=(i:Int))) :
  LI c b ds f (i+1) k (t.ord0 (i:Int) (c.ords[i]?.getD default)) (FP L t.med (t.ord0 (i:Int) (c.ords[i]?.getD default)).med c.blocks.toNat):=by
 have cb:=Cr hc
 have hinv:=ZQ hc h.inv hi
 obtain⟨s,h1,h2,h3⟩:=h.fin
 refine⟨hinv,?_,ZD h.lw hinv cb.2.1,?_,s.order (i:Int) (c.ords[i]?.getD default),WM h1 h.inv.el h2 _ _,?_,?_⟩
 ·have:=Yw t (i:Int) (c.ords[i]?.getD default)
  have:=h.le;omega
 ·have:=(OW L t.med (t.ord0 (i:Int) (c.ords[i]?.getD default)).med c.blocks.toNat).1
  have:=h.len;omega
 ·rw[Ob]
  exact SH (YQ h2 _ _) (bU _ _ _ (YU h1))
 ·rw[←XL hi fun d l hdl=>?_]
  ·exact h3
  ·by_cases hk:k<ds.length
   ·have hh:=Ny h hk
    rw[Mw hk] at hdl
    simp only[List.cons.injEq] at hdl
    rw[←hdl.1]
    have:(ds[k]?.getD default).aft≠(i:Int):=fun ha=>hd ⟨hk,ha⟩
    omega
   ·rw[List.drop_of_length_le (by omega)] at hdl;cases hdl
theorem eg {c:Au}{b:GB}{ds:List Ew}{f:Ap}{i k:Nat}{t:Ap}{L:List Ga}(h:LI c b ds f i k t L) (hi:i=c.ords.length) (hd:¬(k<ds.length/\(ds[k]?.getD default).aft=(i:Int))):t.med=f.med:=by
 have hk:¬k<ds.length:=fun hk=>by
  have hh:=Ny h hk
  exact hd ⟨hk,by omega⟩
 obtain⟨s,h1,h2,h3⟩:=h.fin
 rw[List.drop_of_length_le (by omega),hi,cZ,Option.some.injEq] at h3
 obtain⟨_,_,_,h4,_⟩:=h1
 rw[h4,h3]
theorem ft {c:Au}(hc:c.ok=true) {i:Nat}(hi:i<c.ords.length):gU c.blocks.toNat (c.ords[i]?.getD default):=by
 have cb:=Cr hc
 have ho:=Fe hc hi
 obtain⟨o,hoe⟩:∃o,c.ords[i]?.getD default=o:=⟨_,rfl⟩
 rw[hoe] at ho ⊢
 simp only[Cx.ok,Cx.puts,Bool.or_eq_true,Bool.and_eq_true,HS,decide_eq_true_eq] at ho
 exact⟨by omega,by omega⟩
theorem gC {c:Au}(h:c.far=false) (hc:c.ok=true):c.blocks<=3/\c.ords.length<=7:=by
 unfold Au.far at h
 rw[hc] at h
 simp only[Bool.or_eq_false_iff,Bool.and_eq_false_iff,decide_eq_false_iff_not,Bool.true_and] at h
 omega
theorem aF {c:Au}(h:c.check=0):c.ok=true:=by
 unfold Au.check at h
 cases hc:c.ok with
 |true=>rfl
 |false=>rw[hc] at h;simp at h
theorem dK {c:Au}{ds:List Ew}{torn:Bool}(hc:c.ok=true) (h:Ek c ds torn=0):∀b,b<(Fj c ds torn).length->Vv c (Fj c ds torn) b=true:=by
 obtain⟨h1,h2⟩:=OX h
 intro b hb
 have cb:=Cr hc
 unfold Vv
 rcases h2 b (by omega) with h3|h3|⟨h3,h4,h5,h6⟩
 ·simp[h3]
 ·simp[h3]
 ·simp only[Bool.or_eq_true,decide_eq_true_eq,Bool.and_eq_true]
  exact .inr (.inr ⟨L8.2 ⟨h3,by omega⟩,h5,h6⟩)
theorem Yt {c:Au}{ds:List Ew}{torn:Bool}(hc:c.ok=true):Ek c ds torn=0\/Ek c ds torn=1:=by
 unfold Ek;rw[hc];simp only[Bool.not_true,Bool.false_eq_true,if_false]
 split
 ·exact .inr rfl
 ·split
  ·exact .inr rfl
  ·exact .inl rfl
theorem X0 {c:Au}{b:GB}(g:b.Good) (hm:c.blocks<=b.many) {m:List Int}{L:List Ga}(h:LW c b m L) :
  (∀w,w∈L->0<=w.1/\w.1<b.many)/\(ez b L).med.length=b.many.toNat/\∀i:Nat,i<c.blocks.toNat->(ez b L).med[i]?.getD 0=m[i]?.getD 0+1/\E8 (FC b L) i=m[i]?.getD 0+1:=by
 have hw:∀w,w∈L->0<=w.1/\w.1<b.many:=fun w hw=>by have:=(h.mem w hw).1;omega
 refine⟨hw,?_,fun i hi=>?_⟩
 ·unfold ez;rw[QV,(Vc b L).2]
 ·have h1:=cY g hw (i:=i) (by omega)
  have h2:=h.last i hi
  rw[h2] at h1
  exact h1
theorem H1 {l:List Int}{B i:Nat}(h:i<B):(l.take B)[i]?.getD 0=l[i]?.getD 0:=by rw[List.getElem?_take,if_pos h]
theorem KM (l:List Ga) (m n:List Int) (B:Nat):∀k,k<=B->FP l (m.take B) (n.take B) k=FP l m n k
 |0,_=>rfl
 |k+1,h=>by rw[FP,FP,KM l m n B k (by omega),H1 (by omega),H1 (by omega)]
def LO (c:Au) (b:GB) (ds:List Ew) (f:Ap) (i k:Nat) (t:Ap) (L:List Ga):Prop :=
 (i<=c.ords.length->LI c b ds f i k t L)/\(c.ords.length<i->t.med=f.med/\LW c b f.med L/\L.length<=60/\∀j:Nat,j<6->(-1:Int)<=f.med[j]?.getD 0/\f.med[j]?.getD 0<=(c.ords.length:Int))
theorem ZH {c:Au}{b:GB}{ds:List Ew}{f:Ap}{i k:Nat}{t:Ap}{L:List Ga}(hi:i<=c.ords.length) (h:LI c b ds f i k t L):LO c b ds f i k t L:=⟨fun _=>h,fun h'=>by omega⟩
theorem Nz {c:Au}{t:Ap}(h:t.Inv c) {i:Nat}(hi:i<6):(-1:Int)<=t.med[i]?.getD 0/\t.med[i]?.getD 0<=(c.ords.length:Int):=by
 rcases h.mh i hi with h1|⟨h1,h2,_,_⟩<;>omega
theorem ZI {c:Au}{b:GB}{ds:List Ew}{f:Ap}{i k:Nat}{t:Ap}{L:List Ga}(h:LI c b ds f i k t L) (hi:i=c.ords.length) (h7:c.ords.length<=7) (hk:k<=16) (hd:¬(k<ds.length/\(ds[k]?.getD default).aft=(i:Int))):LO c b ds f (i+1) k t L:=by
 have h1:=eg h hi hd
 refine⟨fun h'=>by omega,fun _=>⟨h1,by rw[←h1];exact h.lw,?_,fun j hj=>by rw[←h1];exact Nz h.inv hj⟩⟩
 have:=h.len;omega
end Go.Pw
end
section
open Go Go.Pw Go.Proofs
namespace Go.Pw
set_option maxRecDepth 100000
set_option maxHeartbeats 12800000
attribute [local congr] Dy CG CH Bn D0 Bu Bw Bv Bm BU BN BG Bp BO Br CT CU CS CV CW CX Bo CN CM Bq BS Bt BT CK C8 BR CQ CR CL CI CJ Dz BP BQ Bs CO CP
attribute [local irreducible] IntKind.wrap Cf Option.getD and or
theorem Ka (c:Au) (b:GB) (nd:Bool) (ds:List Ew):E9 E0 Hm [HN c,Fv b,.list nd (Oy ds)] (.bool true):=by
 refine Ao Ke A3 (by simp) fun hwf=>?_
 simp only[Md,LT,LS,KF,N_,N9,Rr,N8,GN,G5,G6,L7,IJ,List.length_map,HI,true_and,and_true,Am,AI,AG,Aj] at hwf
 have c0:=OD
 have g1:=PX c
 have g2:=I8 c
 have g3:=Nd b
 rw[Am,AI] at g1 g2
 rw[BX,BZ] at g3
 rw[Az];unfold G_
 rw[BX,BZ,Am,AI]
 cases hf:c.far with
 |true =>
  rw[hf] at g1
  (try (simp -implicitDefEqProofs only[go_sem,AG,Aj]));repeat' first|(with_reducible first|exact tI|refine aI ?_ ?_|intro _)|((first|with_reducible refine Af ?_ ?_<;>intro _|(with_reducible refine isCall ?_);first|refine Ae g1 ?_|refine Ae c0 ?_)<;>try (simp -implicitDefEqProofs only[go_sem,AG,Aj]))|simp (disch:=omega) only[A8]|((with_reducible refine Gp ?_);refine⟨(_,_,_,_,_),rfl,?_,?_⟩)|((with_reducible refine Gr ?_);refine⟨(_,_,_,_),rfl,?_,?_⟩)|((with_reducible refine BF ?_);refine⟨_,rfl,?_,?_⟩)
 |false =>
 rw[hf] at g1
 by_cases hk:c.check=0
 case neg =>
  (try (simp -implicitDefEqProofs only[go_sem,AG,Aj,hk]));repeat' first|(with_reducible first|exact tI|refine aI ?_ ?_|intro _)|((first|with_reducible refine Af ?_ ?_<;>intro _|(with_reducible refine isCall ?_);first|refine Ae g1 ?_|refine Ae g2 ?_|refine Ae c0 ?_)<;>try (simp -implicitDefEqProofs only[go_sem,AG,Aj,hk]))|simp (disch:=omega) only[A8]|((with_reducible refine Gp ?_);refine⟨(_,_,_,_,_),rfl,?_,?_⟩)|((with_reducible refine Gr ?_);refine⟨(_,_,_,_),rfl,?_,?_⟩)|((with_reducible refine BF ?_);refine⟨_,rfl,?_,?_⟩)
 rw[hk] at g2
 cases hbo:b.ok with
 |false =>
  rw[hbo,if_neg (by decide)] at g3
  (try (simp -implicitDefEqProofs only[go_sem,AG,Aj]));repeat' first|(with_reducible first|exact tI|refine aI ?_ ?_|intro _)|((first|with_reducible refine Af ?_ ?_<;>intro _|(with_reducible refine isCall ?_);first|refine Ae g1 ?_|refine Ae g2 ?_|refine Ae g3 ?_|refine Ae c0 ?_)<;>try (simp -implicitDefEqProofs only[go_sem,AG,Aj]))|simp (disch:=omega) only[A8]|((with_reducible refine Gp ?_);refine⟨(_,_,_,_,_),rfl,?_,?_⟩)|((with_reducible refine Gr ?_);refine⟨(_,_,_,_),rfl,?_,?_⟩)|((with_reducible refine BF ?_);refine⟨_,rfl,?_,?_⟩)
 |true =>
 rw[hbo,if_pos rfl] at g3
 have g:=Vw hbo
 have g4:=OS b g
 rw[BX,BZ] at g4
 by_cases hmn:b.many<c.blocks
 case pos =>
  (try (simp -implicitDefEqProofs only[go_sem,AG,Aj,hmn]));repeat' first|(with_reducible first|exact tI|refine aI ?_ ?_|intro _)|((first|with_reducible refine Af ?_ ?_<;>intro _|(with_reducible refine isCall ?_);first|refine Ae g1 ?_|refine Ae g2 ?_|refine Ae g3 ?_|refine Ae g4 ?_|refine Ae c0 ?_)<;>try (simp -implicitDefEqProofs only[go_sem,AG,Aj,hmn]))|simp (disch:=omega) only[A8]|((with_reducible refine Gp ?_);refine⟨(_,_,_,_,_),rfl,?_,?_⟩)|((with_reducible refine Gr ?_);refine⟨(_,_,_,_),rfl,?_,?_⟩)|((with_reducible refine BF ?_);refine⟨_,rfl,?_,?_⟩)
 by_cases h40:(40:Int)<(ds.length:Int)
 case pos =>
  (try (simp -implicitDefEqProofs only[go_sem,AG,Aj,hmn,h40]));repeat' first|(with_reducible first|exact tI|refine aI ?_ ?_|intro _)|((first|with_reducible refine Af ?_ ?_<;>intro _|(with_reducible refine isCall ?_);first|refine Ae g1 ?_|refine Ae g2 ?_|refine Ae g3 ?_|refine Ae g4 ?_|refine Ae c0 ?_)<;>try (simp -implicitDefEqProofs only[go_sem,AG,Aj,hmn,h40]))|simp (disch:=omega) only[A8]|((with_reducible refine Gp ?_);refine⟨(_,_,_,_,_),rfl,?_,?_⟩)|((with_reducible refine Gr ?_);refine⟨(_,_,_,_),rfl,?_,?_⟩)|((with_reducible refine BF ?_);refine⟨_,rfl,?_,?_⟩)
 have hok:=aF hk
 obtain⟨b3,o7⟩:=gC hf hok
 have cb:=Cr hok
 have cPl:=J3 c hok b3 nd ds false
 rw[Am,AI] at cPl
 rcases Yt (ds:=ds) (torn:=false) hok with hP|hP
 case inr =>
  rw[hP,if_neg (by decide)] at cPl
  (try (simp -implicitDefEqProofs only[go_sem,AG,Aj,hmn,h40]));repeat' first|(with_reducible first|exact tI|refine aI ?_ ?_|intro _)|((first|with_reducible refine Af ?_ ?_<;>intro _|(with_reducible refine isCall ?_);first|refine Ae g1 ?_|refine Ae g2 ?_|refine Ae g3 ?_|refine Ae g4 ?_|refine Ae cPl ?_|refine Ae c0 ?_)<;>try (simp -implicitDefEqProofs only[go_sem,AG,Aj,hmn,h40]))|simp (disch:=omega) only[A8]|((with_reducible refine Gp ?_);refine⟨(_,_,_,_,_),rfl,?_,?_⟩)|((with_reducible refine Gr ?_);refine⟨(_,_,_,_),rfl,?_,?_⟩)|((with_reducible refine BF ?_);refine⟨_,rfl,?_,?_⟩)
 rw[if_pos hP,hP] at cPl
 have hall:=dK hok hP
 obtain⟨him,_⟩:=OX hP
 obtain⟨f,hf1,hf2,hd16⟩:=Ys hP
 obtain⟨im,himd⟩:∃im,Fj c ds false=im:=⟨_,rfl⟩
 rw[himd] at cPl hall him hf2
 have cI:=Lm c false im (by omega) (by omega) (by omega) hall
 rw[Am,AI] at cI
 have cB:=Ng c ⟨cb.1,by omega⟩
 rw[Am,AI,Cb,Cc] at cB
 obtain⟨B,hB⟩:∃B:Nat,c.blocks=(B:Int):=⟨c.blocks.toNat,by omega⟩
 have hBt:c.blocks.toNat=B:=by omega
 rw[hBt] at cB
 have hli:=ZK (b:=b) hok hf1
 obtain⟨N,hN⟩:∃N,c.ords.length=N:=⟨_,rfl⟩
 (try (simp -implicitDefEqProofs only[go_sem,AG,Aj,hmn,h40]));repeat' first|(with_reducible first|exact tI|refine aI ?_ ?_|intro _)|((first|with_reducible refine Af ?_ ?_<;>intro _|(with_reducible refine isCall ?_);first|refine Ae g1 ?_|refine Ae g2 ?_|refine Ae g3 ?_|refine Ae g4 ?_|refine Ae cPl ?_|refine Ae cI ?_|refine Ae cB ?_)<;>try (simp -implicitDefEqProofs only[go_sem,AG,Aj,hmn,h40]))|simp (disch:=omega) only[A8]|((with_reducible refine Gp ?_);refine⟨(_,_,_,_,_),rfl,?_,?_⟩)|((with_reducible refine Gr ?_);refine⟨(_,_,_,_),rfl,?_,?_⟩)|((with_reducible refine BF ?_);refine⟨_,rfl,?_,?_⟩)
 all_goals first|omega|(simp<;>omega)|skip
 refine BB (α:=Nat×Nat×Ap×((List Ga))×Bool) (l0:=?l1) (m0:=?m1) (fun x=>[(12,.d (.int .i64 (x.1:Int))),(11,.d (.int .i64 (x.2.1:Int))),(10,.own 99 0)]) (fun x=>[(9,.cells [.d (.list false (Bi (x.2.2.1.med.take B))),.d (.list false (Im (Hy B x.2.2.1))),.d (.int .i64 x.2.2.1.wr)]),(99,.row 134 2 x.2.2.2.2 (J4 x.2.2.2.1))]) (fun x=>(x.1<=c.ords.length+1/\x.2.1<=ds.length)/\x.2.2.2.2=x.2.2.2.1.isEmpty/\LO c b ds f x.1 x.2.1 x.2.2.1 x.2.2.2.1) (fun x=>c.ords.length+1-x.1) (0,0,Ap.begin,[],true) ?h01 ?he1 ?he21 ?hI1 ?step1
 case h01=>(simp -implicitDefEqProofs only[go_sem];rfl)
 case he1=>rfl
 case he21=>rfl
 case' step1=>(rintro⟨i,k,t,L,nl⟩ hI;try dsimp only at hI)
 case' hI1=>try dsimp only
 ·exact⟨⟨Nat.zero_le _,Nat.zero_le _⟩,rfl,ZH (Nat.zero_le _) hli⟩
 ·obtain⟨⟨i1,i2⟩,i3,i4⟩:=hI
  change k<=ds.length at i2
  change nl=L.isEmpty at i3
  change LO c b ds f i k t L at i4
  by_cases hi0:i<=c.ords.length
  ·have hi0':(i:Int)<=(c.ords.length:Int):=by omega
   have wi:IntKind.i64.wrap ((i:Int)+1)=((i+1:Nat):Int):=by rw[BM _ (by omega)];omega
   have hl0:=i4.1 hi0
   (try (simp -implicitDefEqProofs only[go_sem,AG,hi0']));repeat' first|(with_reducible first|exact tI|refine aI ?_ ?_|intro _)|((first|with_reducible refine Af ?_ ?_<;>intro _)<;>try (simp -implicitDefEqProofs only[go_sem,AG,hi0']))|simp (disch:=omega) only[A8]|((with_reducible refine Gp ?_);refine⟨(_,_,_,_,_),rfl,?_,?_⟩)|((with_reducible refine Gr ?_);refine⟨(_,_,_,_),rfl,?_,?_⟩)|((with_reducible refine BF ?_);refine⟨_,rfl,?_,?_⟩)
   all_goals first|omega|(simp<;>omega)|skip
   refine BB (α:=Nat×Ap×((List Ga))×Bool) (l0:=?l2) (m0:=?m2) (fun x=>[(11,.d (.int .i64 (x.1:Int))),(10,.own 99 0)]) (fun x=>[(9,.cells [.d (.list false (Bi (x.2.1.med.take B))),.d (.list false (Im (Hy B x.2.1))),.d (.int .i64 x.2.1.wr)]),(99,.row 134 2 x.2.2.2 (J4 x.2.2.1))]) (fun x=>x.1<=ds.length/\x.2.2.2=x.2.2.1.isEmpty/\LI c b ds f i x.1 x.2.1 x.2.2.1) (fun x=>ds.length-x.1) (k,t,L,nl) ?h02 ?he2 ?he22 ?hI2 ?step2
   case h02=>(simp -implicitDefEqProofs only[go_sem];rfl)
   case he2=>rfl
   case he22=>rfl
   case' step2=>(rintro⟨k2,u,M,ml⟩ hI2;try dsimp only at hI2)
   case' hI2=>try dsimp only
   ·exact⟨i2,i3,hl0⟩
   ·obtain⟨q1,q2,q3⟩:=hI2
    change ml=M.isEmpty at q2
    change LI c b ds f i k2 u M at q3
    by_cases hk2:k2<ds.length
    ·have hk':(k2:Int)<(ds.length:Int):=by omega
     have wk:IntKind.i64.wrap ((k2:Int)+1)=((k2+1:Nat):Int):=by rw[BM _ (by omega)];omega
     have hh:=Ny q3 hk2
     have hdr:=fun ha=>ZJ hok q3 hk2 ha
     have hnd0:∀h:¬(ds[k2]?.getD default).aft=(i:Int),¬(k2<ds.length/\(ds[k2]?.getD default).aft=(i:Int)):=fun h h'=>h h'.2
     obtain⟨d,hd⟩:∃d,ds[k2]?.getD default=d:=⟨_,rfl⟩
     by_cases ha:d.aft=(i:Int)
     ·obtain⟨hcan,hl2⟩:=hdr (by rw[hd];exact ha)
      rw[hd] at hcan hl2 hh
      obtain⟨bb,hbb⟩:∃bb:Nat,d.blk=(bb:Int):=⟨d.blk.toNat,by omega⟩
      have hbt:d.blk.toNat=bb:=by omega
      rw[hbt] at hcan hl2
      have hri:=Mm hok q3.inv (by have:=q3.le;omega)
      rw[hBt] at hri hl2
      have cD:=Ln B u hri bb (by omega) hcan
      obtain⟨v,hv⟩:∃v,u.drain0 bb=v:=⟨_,rfl⟩
      rw[hv] at cD hl2
      have cP:=Mg M (by have:=q3.len;omega) B (by omega) (u.med.take B) (v.med.take B) (by rw[List.length_take,q3.inv.ml];omega) (by rw[List.length_take,hl2.inv.ml];omega) (fun j hj=>by
       rw[H1 hj];have:=Nz hl2.inv (show j<6 by omega);omega)
      rw[KM M u.med v.med B B (Nat.le_refl _)] at cP
      obtain⟨X,hX⟩:∃X,FP M u.med v.med B=X:=⟨_,rfl⟩
      rw[hX] at cP hl2
      rw[Cb,Cc,Cb,Cc] at cD
      rw[q2]
      (try (simp -implicitDefEqProofs only[go_sem,Aj,Ax,A1,Bg,hd,hk',hk2,ha,hbb,wk,Int.toNat_natCast]));repeat' first|(with_reducible first|exact tI|refine aI ?_ ?_|intro _)|((first|with_reducible refine Af ?_ ?_<;>intro _|(with_reducible refine isCall ?_);first|refine Ae cD ?_|(refine Ad ([((800000,0),(99,0))]) ([((800000,1),(99,1))]) (cP) (by repeat' first|exact True.intro|exact rfl|refine And.intro ?_ ?_) (by simp[AW,Ah.get,AE.ren,AV.ren,AV.ren.renL,AB.get,AX,Ag,AY,AB.reach,AV.sites,AV.sites.sitesL,AB.osites]) (by simp[AL,Aq,AK,Ah.get,AY,A2,A9,AZ,AM]) (by rfl) (by simp only[Ai,Ah.get,AE.ren,AV.ren,AV.ren.renL,and_self,and_true,true_and,if_true,reduceIte];rfl) ?_))<;>try (simp -implicitDefEqProofs only[go_sem,Aj,Ax,A1,Bg,hd,hk',hk2,ha,hbb,wk,Int.toNat_natCast]))|simp (disch:=omega) only[A8]|((with_reducible refine Gp ?_);refine⟨(_,_,_,_,_),rfl,?_,?_⟩)|((with_reducible refine Gr ?_);refine⟨(_,_,_,_),rfl,?_,?_⟩)|((with_reducible refine BF ?_);refine⟨_,rfl,?_,?_⟩)
      all_goals first|omega|exact .inl True.intro|exact hl2|rfl|trace_state
     ·have hnd:=hnd0 (by rw[hd];exact ha)
      by_cases hi:i<c.ords.length
      ·have hi':(i:Int)<(c.ords.length:Int):=by omega
       have hor:=So hok b3 q3 hi hnd
       have hri:=Mm hok q3.inv (by have:=q3.le;omega)
       rw[hBt] at hor hri
       have hof:=ft hok hi
       rw[hBt] at hof
       obtain⟨o,ho⟩:∃o,c.ords[i]?.getD default=o:=⟨_,rfl⟩
       rw[ho] at hor hof
       have cO:=Lo B u hri (by have:=q3.le;omega) (i:Int) (by omega) o hof
       obtain⟨v,hv⟩:∃v,u.ord0 (i:Int) o=v:=⟨_,rfl⟩
       rw[hv] at hor cO
       have cP:=Mg M (by have:=q3.len;omega) B (by omega) (u.med.take B) (v.med.take B) (by rw[List.length_take,q3.inv.ml];omega) (by rw[List.length_take,hor.inv.ml];omega) (fun j hj=>by
        rw[H1 hj];have:=Nz hor.inv (show j<6 by omega);omega)
       rw[KM M u.med v.med B B (Nat.le_refl _)] at cP
       obtain⟨X,hX⟩:∃X,FP M u.med v.med B=X:=⟨_,rfl⟩
       rw[hX] at cP hor
       rw[Cb,Cc,Aa,Ab,Cb,Cc] at cO
       rw[q2]
       (try (simp -implicitDefEqProofs only[go_sem,AG,A',BH,Aa,Ab,ho,hi',hi,wi,Int.toNat_natCast,Aj,Ax,A1,Bg,hd,hk',hk2,ha]));repeat' first|(with_reducible first|exact tI|refine aI ?_ ?_|intro _)|((first|with_reducible refine Af ?_ ?_<;>intro _|(with_reducible refine isCall ?_);first|refine Ae cO ?_|(refine Ad ([((800000,0),(99,0))]) ([((800000,1),(99,1))]) (cP) (by repeat' first|exact True.intro|exact rfl|refine And.intro ?_ ?_) (by simp[AW,Ah.get,AE.ren,AV.ren,AV.ren.renL,AB.get,AX,Ag,AY,AB.reach,AV.sites,AV.sites.sitesL,AB.osites]) (by simp[AL,Aq,AK,Ah.get,AY,A2,A9,AZ,AM]) (by rfl) (by simp only[Ai,Ah.get,AE.ren,AV.ren,AV.ren.renL,and_self,and_true,true_and,if_true,reduceIte];rfl) ?_))<;>try (simp -implicitDefEqProofs only[go_sem,AG,A',BH,Aa,Ab,ho,hi',hi,wi,Int.toNat_natCast,Aj,Ax,A1,Bg,hd,hk',hk2,ha]))|simp (disch:=omega) only[A8]|((with_reducible refine Gp ?_);refine⟨(_,_,_,_,_),rfl,?_,?_⟩)|((with_reducible refine Gr ?_);refine⟨(_,_,_,_),rfl,?_,?_⟩)|((with_reducible refine BF ?_);refine⟨_,rfl,?_,?_⟩)
       all_goals first|omega|exact .inl True.intro|exact ZH (by omega) hor|rfl|trace_state
      ·have hi':¬(i:Int)<(c.ords.length:Int):=by omega
       have hlo:=ZI q3 (by omega) o7 (by omega) hnd
       (try (simp -implicitDefEqProofs only[go_sem,AG,hi',wi,Aj,Ax,A1,Bg,Int.toNat_natCast,hd,hk',hk2,ha]));repeat' first|(with_reducible first|exact tI|refine aI ?_ ?_|intro _)|((first|with_reducible refine Af ?_ ?_<;>intro _)<;>try (simp -implicitDefEqProofs only[go_sem,AG,hi',wi,Aj,Ax,A1,Bg,Int.toNat_natCast,hd,hk',hk2,ha]))|simp (disch:=omega) only[A8]|((with_reducible refine Gp ?_);refine⟨(_,_,_,_,_),rfl,?_,?_⟩)|((with_reducible refine Gr ?_);refine⟨(_,_,_,_),rfl,?_,?_⟩)|((with_reducible refine BF ?_);refine⟨_,rfl,?_,?_⟩)
       all_goals first|omega|exact .inl True.intro|exact hlo|exact q2|rfl|trace_state
    ·have hk':¬(k2:Int)<(ds.length:Int):=by omega
     have hnd:¬(k2<ds.length/\(ds[k2]?.getD default).aft=(i:Int)):=fun h=>hk2 h.1
     by_cases hi:i<c.ords.length
     ·have hi':(i:Int)<(c.ords.length:Int):=by omega
      have hor:=So hok b3 q3 hi hnd
      have hri:=Mm hok q3.inv (by have:=q3.le;omega)
      rw[hBt] at hor hri
      have hof:=ft hok hi
      rw[hBt] at hof
      obtain⟨o,ho⟩:∃o,c.ords[i]?.getD default=o:=⟨_,rfl⟩
      rw[ho] at hor hof
      have cO:=Lo B u hri (by have:=q3.le;omega) (i:Int) (by omega) o hof
      obtain⟨v,hv⟩:∃v,u.ord0 (i:Int) o=v:=⟨_,rfl⟩
      rw[hv] at hor cO
      have cP:=Mg M (by have:=q3.len;omega) B (by omega) (u.med.take B) (v.med.take B) (by rw[List.length_take,q3.inv.ml];omega) (by rw[List.length_take,hor.inv.ml];omega) (fun j hj=>by
       rw[H1 hj];have:=Nz hor.inv (show j<6 by omega);omega)
      rw[KM M u.med v.med B B (Nat.le_refl _)] at cP
      obtain⟨X,hX⟩:∃X,FP M u.med v.med B=X:=⟨_,rfl⟩
      rw[hX] at cP hor
      rw[Cb,Cc,Aa,Ab,Cb,Cc] at cO
      rw[q2]
      (try (simp -implicitDefEqProofs only[go_sem,AG,A',BH,Aa,Ab,ho,hi',hi,wi,Int.toNat_natCast,Aj,Ax,A1,Bg,hk']));repeat' first|(with_reducible first|exact tI|refine aI ?_ ?_|intro _)|((first|with_reducible refine Af ?_ ?_<;>intro _|(with_reducible refine isCall ?_);first|refine Ae cO ?_|(refine Ad ([((800000,0),(99,0))]) ([((800000,1),(99,1))]) (cP) (by repeat' first|exact True.intro|exact rfl|refine And.intro ?_ ?_) (by simp[AW,Ah.get,AE.ren,AV.ren,AV.ren.renL,AB.get,AX,Ag,AY,AB.reach,AV.sites,AV.sites.sitesL,AB.osites]) (by simp[AL,Aq,AK,Ah.get,AY,A2,A9,AZ,AM]) (by rfl) (by simp only[Ai,Ah.get,AE.ren,AV.ren,AV.ren.renL,and_self,and_true,true_and,if_true,reduceIte];rfl) ?_))<;>try (simp -implicitDefEqProofs only[go_sem,AG,A',BH,Aa,Ab,ho,hi',hi,wi,Int.toNat_natCast,Aj,Ax,A1,Bg,hk']))|simp (disch:=omega) only[A8]|((with_reducible refine Gp ?_);refine⟨(_,_,_,_,_),rfl,?_,?_⟩)|((with_reducible refine Gr ?_);refine⟨(_,_,_,_),rfl,?_,?_⟩)|((with_reducible refine BF ?_);refine⟨_,rfl,?_,?_⟩)
      all_goals first|omega|exact .inl True.intro|exact ZH (by omega) hor|rfl|trace_state
     ·have hi':¬(i:Int)<(c.ords.length:Int):=by omega
      have hlo:=ZI q3 (by omega) o7 (by omega) hnd
      (try (simp -implicitDefEqProofs only[go_sem,AG,hi',wi,Aj,Ax,A1,Bg,Int.toNat_natCast,hk']));repeat' first|(with_reducible first|exact tI|refine aI ?_ ?_|intro _)|((first|with_reducible refine Af ?_ ?_<;>intro _)<;>try (simp -implicitDefEqProofs only[go_sem,AG,hi',wi,Aj,Ax,A1,Bg,Int.toNat_natCast,hk']))|simp (disch:=omega) only[A8]|((with_reducible refine Gp ?_);refine⟨(_,_,_,_,_),rfl,?_,?_⟩)|((with_reducible refine Gr ?_);refine⟨(_,_,_,_),rfl,?_,?_⟩)|((with_reducible refine BF ?_);refine⟨_,rfl,?_,?_⟩)
      all_goals first|omega|exact .inl True.intro|exact hlo|exact q2|rfl|trace_state
  ·have hi0':¬(i:Int)<=(c.ords.length:Int):=by omega
   obtain⟨p1,p2,p3,p4⟩:=i4.2 (by omega)
   obtain⟨e1,e2,e3⟩:=X0 g (by omega) p2
   have hw:∀w,w∈L->(0<=w.1/\w.1<b.many)/\(0<=w.2/\w.2<=999):=fun w h=>⟨e1 w h,by have:=(p2.mem w h).2;omega⟩
   have cF:=Lc b g nl L p3 hw
   have cR:=fun x hx=>H2 b g nl L p3 hw x hx
   have hmy:=KQ g
   rw[Pt,BX,BZ] at cF
   simp only[BX,BZ] at cR
   obtain⟨Y,hY⟩:∃Y,ez b L=Y:=⟨_,rfl⟩
   rw[hY] at cF e2 e3
   have hmY:(Y.med.length:Int)=b.many:=by omega
   (try (simp -implicitDefEqProofs only[go_sem,AG,hi0',hmY]));repeat' first|(with_reducible first|exact tI|refine aI ?_ ?_|intro _)|((first|with_reducible refine Af ?_ ?_<;>intro _|(with_reducible refine isCall ?_);first|refine Ae cF ?_|refine Ae g4 ?_)<;>try (simp -implicitDefEqProofs only[go_sem,AG,hi0',hmY]))|simp (disch:=omega) only[A8]|((with_reducible refine Gp ?_);refine⟨(_,_,_,_,_),rfl,?_,?_⟩)|((with_reducible refine Gr ?_);refine⟨(_,_,_,_),rfl,?_,?_⟩)|((with_reducible refine BF ?_);refine⟨_,rfl,?_,?_⟩)
   all_goals first|omega|(simp<;>omega)|skip
   refine BB (α:=Nat) (l0:=?l3) (m0:=?m3) (fun x=>[(18,.d (.int .i64 (x:Int)))]) (fun x=>[]) (fun x=>x<=B) (fun x=>B-x) 0 ?h03 ?he3 ?he23 ?hI3 ?step3
   case h03=>(simp -implicitDefEqProofs only[go_sem];rfl)
   case he3=>rfl
   case he23=>rfl
   case' step3=>(rintro j hI3;try dsimp only at hI3)
   case' hI3=>try dsimp only
   ·exact Nat.zero_le _
   ·by_cases hj:j<B
    ·have hj':(j:Int)<(B:Int):=by omega
     have wj:IntKind.i64.wrap ((j:Int)+1)=((j+1:Nat):Int):=by rw[BM _ (by omega)];omega
     obtain⟨e4,e5⟩:=e3 j (by omega)
     have cRj:=cR j (by omega)
     have himj:im[j]?.getD 0=f.med[j]?.getD 0:=by rw[hf2,H1 (by omega)]
     obtain⟨x,hx⟩:∃x,f.med[j]?.getD 0=x:=⟨_,rfl⟩
     rw[hx] at e4 e5 himj
     rw[e5] at cRj
     have hxr:=p4 j (by omega)
     rw[hx] at hxr
     have wx:IntKind.i64.wrap (x+1)=x+1:=BM _ (by omega)
     have hjm:j<im.length:=by omega
     have hjm':(j:Int)<(im.length:Int):=by omega
     have hjY:j<Y.med.length:=by omega
     have hjY':(j:Int)<(Y.med.length:Int):=by omega
     (try (simp -implicitDefEqProofs only[go_sem,hB,hj',wj,himj,e4,wx,hjm,hjm',hjY,hjY',Int.toNat_natCast]));repeat' first|(with_reducible first|exact tI|refine aI ?_ ?_|intro _)|((first|with_reducible refine Af ?_ ?_<;>intro _|(with_reducible refine isCall ?_);first|refine Ae cRj ?_)<;>try (simp -implicitDefEqProofs only[go_sem,hB,hj',wj,himj,e4,wx,hjm,hjm',hjY,hjY',Int.toNat_natCast]))|simp (disch:=omega) only[A8]|((with_reducible refine Gp ?_);refine⟨(_,_,_,_,_),rfl,?_,?_⟩)|((with_reducible refine Gr ?_);refine⟨(_,_,_,_),rfl,?_,?_⟩)|((with_reducible refine BF ?_);refine⟨_,rfl,?_,?_⟩)
     all_goals first|omega|exact .inl True.intro|rfl|trace_state
    ·have hj':¬(j:Int)<(B:Int):=by omega
     (try (simp -implicitDefEqProofs only[go_sem,hB,hj']));repeat' first|(with_reducible first|exact tI|refine aI ?_ ?_|intro _)|((first|with_reducible refine Af ?_ ?_<;>intro _|(with_reducible refine isCall ?_);first|refine Ae c0 ?_)<;>try (simp -implicitDefEqProofs only[go_sem,hB,hj']))|simp (disch:=omega) only[A8]|((with_reducible refine Gp ?_);refine⟨(_,_,_,_,_),rfl,?_,?_⟩)|((with_reducible refine Gr ?_);refine⟨(_,_,_,_),rfl,?_,?_⟩)|((with_reducible refine BF ?_);refine⟨_,rfl,?_,?_⟩)
     all_goals first|omega|exact .inl True.intro|rfl|trace_state
end Go.Pw
end
