/- Part. -/
import Derived.Test.YtmdklgapccickaaGreatDoorPgMvA
set_option linter.all false
open Go Go.Pw Go.Proofs
namespace Go.Pw
set_option maxRecDepth 100000
set_option maxHeartbeats 6400000
theorem xn(x:BK):Jo xo (.agg [.int .i64 x.id,.int .i64 x.st,.int .i64 x.sec])=true:=by simp[xo,Jo,D.isAgg,Dk,D.cells]
theorem Uj:D.nilmap.one=true:=rfl
theorem jE:(AV.d .nilmap).cells?=some [.d .nilmap]:=rfl
attribute [local irreducible] IntKind.wrap Ah Option.getD and or
theorem Nx(b:Bool)(h:List (Bool×List BK))(hl:h.length<=10)(ht:(flat h).length<=1000)(hd:(flat h).Pairwise fun a b=>a.id≠b.id) :
  BU E0 LO [.list b (zw h)] (.agg [.map TP (Z8 (flat h)),.map xo (Nz (flat h))]):=by
 have c1:=du b h hl ht;obtain⟨l,p⟩:∃l,flat h=l:=⟨_,rfl⟩
 rw[p]at c1 ht hd ⊢;refine AL P_ AR (by simp) fun u=>?_
 rw[AN];unfold Jw;refine' FA @A_ @Uj @jE;repeat' first|(refine' BJ;(first|refine AF c1 ?_)<;>refine' FA @A_ @Uj @jE)|refine' BI|done
 all_goals try exact BL
 refine BN (α:=Nat×(List BK)) (l0:=?l1) (m0:=?m1) (fun x=>[(12,.d (.int .i64 (x.1:Int)))]) (fun x=>[(6,.map TP (Z8 x.2)),(7,.map xo (Nz x.2))]) (fun x=>x.1<=l.length/\x.2=l.take x.1) (fun x=>l.length-x.1) (0,[]) ?h01 ?he1 ?he21 ?hI1 ?step1
 case h01=>(simp -implicitDefEqProofs only[go_sem,A_,Uj,jE];rfl)
 case he1=>rfl
 case he21=>rfl
 case' step1=>(rintro⟨i,A⟩ q;try dsimp only at q)
 case' hI1=>try dsimp only
 ·exact⟨by omega,rfl⟩
 ·obtain⟨h1,h2⟩:=q
  by_cases hi:i<l.length
  ·have m:(i:Int)<(l.length:Int):=by omega
   have B:=HE (i:=i) (by omega);have hs:=eK hi;have n:A.length=i:=by rw[h2,List.length_take];omega
   have hne:∀y,y∈A->y.id≠(l[i]?.getD default).id:=fun y o=>by
    rw[h2]at o;obtain⟨j,r,rfl⟩:=List.getElem_of_mem o;rw[List.length_take]at r;rw[List.getElem_take,List.getElem?_eq_getElem hi,Option.getD_some];rw[List.pairwise_iff_getElem]at hd;exact hd j i (by omega) hi (by omega)
   obtain⟨x,hx⟩:∃x,l[i]?.getD default=x:=⟨_,rfl⟩
   rw[hx]at hs hne;rw[←h2]at hs;have s1:=tB hne;obtain⟨s2,s3,s4⟩:=rH (A:=A) (x:=x) (fun y o e=>hne y o (by rw[e]));obtain⟨s5,s6⟩:=zg A x;rw[Dx,Dy]at s1 s2 s3 s4 s5 s6;have z:=R1 A;have t1:=eD x.id;have t2:=xn x;have t:IntKind.i64.wrap (0+1)=1:=Am _ (by omega);rw[n]at s5 s6;refine' P4 @A_ @EI @El m hi hx @Dx (aI @Dy (aI s1 (aI s2 (aI s3 (aI s4 (aI s5 (aI s6 (aI z (aI n (aI t1 (aI t2 (aI t (aI B (aI @Uj @jE))))))))))))))
   all_goals first|omega|exact⟨(i+1,A++[x]),by rw[s6],⟨by show i+1<=l.length;omega,hs⟩,by show l.length-(i+1)<l.length-i;omega⟩
  ·have m:¬(i:Int)<(l.length:Int):=by omega
   have G:A=l:=by rw[h2,show i=l.length by omega,List.take_length]
   refine' LV @A_ m G
   all_goals first|omega|rfl|exact .inl True.intro
end Go.Pw
