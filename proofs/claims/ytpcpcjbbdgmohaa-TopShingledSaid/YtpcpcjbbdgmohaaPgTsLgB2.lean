/- A part of the proof. -/
import Derived.Test.YtpcpcjbbdgmohaaTsLgB
set_option linter.all false
section
open Go Go.Pw Go.Proofs
namespace Go.Pw
set_option maxRecDepth 100000
set_option maxHeartbeats 1600000
def Cx.okR (o:Cx) (bl:Int):Bool:=HS o.kind 1 4 && (HS o.blk 0 (bl-1) && (o.puts || decide (o.blk=0)))
theorem eR (o:Cx) {bl:Int}(h:1<=bl):o.okR bl=o.ok bl:=by
 rw[Bool.eq_iff_iff]
 simp only[Cx.okR,Cx.ok,Cx.puts,HS,Bool.and_eq_true,Bool.or_eq_true,decide_eq_true_eq]
 omega
theorem L8 {n a b:Int}:HS n a b=true↔a<=n/\n<=b:=by simp[HS]
theorem dL (l:List Cx) (p:Cx->Bool):l.all p=!l.any fun o=>!p o:=by
 induction l with
 |nil=>rfl
 |cons x l ih=>simp only[List.all_cons,List.any_cons,ih];cases p x<;>simp
def Vv (c:Au) (x:List Int) (b:Nat):Bool :=
 let n:=x[b]?.getD 0
 decide (n=-1) || (decide (n=-2) || (HS n 0 (c.ords.length-1) && ((c.ords[n.toNat]?.getD default).puts && decide ((c.ords[n.toNat]?.getD default).blk=(b:Int)))))
attribute [local congr] Dy CG CH Bn D0 Bu Bw Bv Bm BU BN BG Bp BO Br CT CU CS CV CW CX Bo CN CM Bq BS Bt BT CK C8 BR CQ CR CL CI CJ Dz BP BQ Bs CO CP
attribute [local irreducible] IntKind.wrap Cf Option.getD and or
theorem Nq (c:Au):E9 E0 K4 [HN c] (.int .i64 c.check):=by
 refine Ao Np A3 (by simp) fun hwf=>?_
 have c1:=Dh c.blocks 1 6
 rw[Az];unfold Jp Au.check Au.ok
 cases hq:HS c.blocks 1 6 with
 |false =>
  rw[hq] at c1
  (try (simp -implicitDefEqProofs only[go_sem,Am,AI,AG]));repeat' first|(with_reducible first|exact tI|refine aI ?_ ?_|intro _)|((first|with_reducible refine Af ?_ ?_<;>intro _|(with_reducible refine isCall ?_);first|refine Ae c1 ?_)<;>try (simp -implicitDefEqProofs only[go_sem,Am,AI,AG]))|simp (disch:=omega) only[A8]
  all_goals first|rfl|(simp;done)|skip
 |true =>
  rw[hq] at c1
  have hb:=L8.1 hq
  have c3:=M6 c.on c.ords Gk [.ptr [.fn FO [.ptr (M4 c)]]] (fun o=>!o.ok c.blocks) (by kernel_rfl) rfl (fun x hx=>MU c x hb)
  rw[dL]
  obtain⟨A,hA⟩:∃A,(c.ords.any fun o=>!o.ok c.blocks)=A:=⟨_,rfl⟩
  rw[hA] at c3 ⊢
  rw[AI] at c3
  by_cases hl:c.ords.length<=16
  ·have hl':¬(16:Int)<(c.ords.length:Int):=by omega
   cases A
   all_goals ((try (simp -implicitDefEqProofs only[go_sem,Am,AI,AG,hl']));repeat' first|(with_reducible first|exact tI|refine aI ?_ ?_|intro _)|((first|with_reducible refine Af ?_ ?_<;>intro _|(with_reducible refine isCall ?_);first|refine Ae c1 ?_|refine Ae c3 ?_)<;>try (simp -implicitDefEqProofs only[go_sem,Am,AI,AG,hl']))|simp (disch:=omega) only[A8] )
   all_goals first|rfl|(simp[hl];done)|skip
  ·have hl':(16:Int)<(c.ords.length:Int):=by omega
   (try (simp -implicitDefEqProofs only[go_sem,Am,AI,AG,hl']));repeat' first|(with_reducible first|exact tI|refine aI ?_ ?_|intro _)|((first|with_reducible refine Af ?_ ?_<;>intro _|(with_reducible refine isCall ?_);first|refine Ae c1 ?_)<;>try (simp -implicitDefEqProofs only[go_sem,Am,AI,AG,hl']))|simp (disch:=omega) only[A8]
   all_goals first|rfl|(simp[hl];done)|skip
theorem I8 (c:Au):E9 E0 K1 [HN c] (.int .i64 c.check):=by
 refine Ao Nn A3 (by simp) fun hwf=>?_
 have c1:=EA c.blocks 1 6
 rw[Az];unfold Jn
 by_cases hq:HS c.blocks 1 6=true
 ·have hb:=L8.1 hq
  have w1:IntKind.i64.wrap (c.blocks-1)=c.blocks-1:=BM _ (by omega)
  rw[hq] at c1
  by_cases hl:c.ords.length<=16
  ·have hl':¬(16:Int)<(c.ords.length:Int):=by omega
   have hck:c.check=if c.ords.all fun o=>o.ok c.blocks then 0 else 80:=by
    unfold Au.check Au.ok;simp only[hq,decide_eq_true hl,Bool.true_and]
   rw[hck]
   (try (simp -implicitDefEqProofs only[go_sem,Am,AI,AG,hl']));repeat' first|(with_reducible first|exact tI|refine aI ?_ ?_|intro _)|((first|with_reducible refine Af ?_ ?_<;>intro _|(with_reducible refine isCall ?_);first|refine Ae c1 ?_)<;>try (simp -implicitDefEqProofs only[go_sem,Am,AI,AG,hl']))|simp (disch:=omega) only[A8]|((with_reducible refine BF ?_);refine⟨_,rfl,?_,?_⟩)
   all_goals first|omega|(simp<;>omega)|skip
   refine BB (α:=Int) (l0:=?l1) (m0:=?m1) (fun x=>[(3,.d (.int .i64 x))]) (fun x=>[]) (fun x=>0<=x/\x<=c.ords.length/\∀(j:Nat) (hj:j<c.ords.length),(j:Int)<x->(c.ords[j]).ok c.blocks=true) (fun x=>(c.ords.length-x).toNat) ?a1_0 ?h01 ?he1 ?he21 ?hI1 ?step1
   case h01=>(simp -implicitDefEqProofs only[go_sem,AG];rfl)
   case he1=>rfl
   case he21=>rfl
   case' step1=>(rintro i hI;try dsimp only at hI)
   case' hI1=>try dsimp only
   ·refine⟨by omega,by omega,fun j hj h0=>by omega⟩
   ·obtain⟨h1,h2,h3⟩:=hI
    by_cases hi:i<c.ords.length
    ·have wi:IntKind.i64.wrap (i+1)=i+1:=BM _ (by omega)
     have hlt:i.toNat<c.ords.length:=by omega
     obtain⟨o,ho⟩:∃o,c.ords[i.toNat]?.getD default=o:=⟨_,rfl⟩
     have hoe:c.ords[i.toNat]=o:=by rw[←ho,List.getElem?_eq_getElem hlt,Option.getD_some]
     have e1:=eR o hb.1
     have hbad:o.ok c.blocks=false->(c.ords.all fun o=>o.ok c.blocks)=false:=fun hf=>by
      rw[List.all_eq_false];exact⟨o,by rw[←hoe];exact List.getElem_mem hlt,by simp[hf]⟩
     have hgood:o.ok c.blocks=true->∀(j:Nat) (hj:j<c.ords.length),(j:Int)<i+1->(c.ords[j]).ok c.blocks=true:=fun hf j hj hji=>by
      by_cases hjk:j=i.toNat
      ·subst hjk;rw[hoe];exact hf
      ·exact h3 j hj (by omega)
     have c2:=EA o.kind 1 4
     have c3:=EA o.blk 0 (c.blocks-1)
     have c4:=Jh o
     unfold Cx.okR at e1
     obtain⟨p2,hp2⟩:∃p,HS o.kind 1 4=p:=⟨_,rfl⟩
     obtain⟨p3,hp3⟩:∃p,HS o.blk 0 (c.blocks-1)=p:=⟨_,rfl⟩
     obtain⟨p4,hp4⟩:∃p,o.puts=p:=⟨_,rfl⟩
     rw[hp2] at c2 e1;rw[hp3] at c3 e1;rw[hp4] at c4 e1
     rw[Aa,Ab] at c4
     obtain⟨g,hg⟩:∃g,o.ok c.blocks=g:=⟨_,rfl⟩
     rw[hg] at e1 hbad hgood
     by_cases hz:o.blk=0
     ·rw[hz] at c3 c4
      rw[decide_eq_true hz] at e1
      cases p2<;>cases p3<;>cases p4
      all_goals (simp at e1;subst e1)
      all_goals ((try (simp -implicitDefEqProofs only[go_sem,AI,AG,A',BH,Aa,Ab,ho,hz,w1,wi,hi]));repeat' first|(with_reducible first|exact tI|refine aI ?_ ?_|intro _)|((first|with_reducible refine Af ?_ ?_<;>intro _|(with_reducible refine isCall ?_);first|refine Ae c2 ?_|refine Ae c3 ?_|refine Ae c4 ?_)<;>try (simp -implicitDefEqProofs only[go_sem,AI,AG,A',BH,Aa,Ab,ho,hz,w1,wi,hi]))|simp (disch:=omega) only[A8]|((with_reducible refine BF ?_);refine⟨_,rfl,?_,?_⟩))
      all_goals first|omega|(rw[hbad rfl];rfl)|exact⟨by omega,by omega,hgood rfl⟩|exact hgood rfl|exact hgood rfl _ _ (by assumption)|skip
     ·rw[decide_eq_false hz] at e1
      cases p2<;>cases p3<;>cases p4
      all_goals (simp at e1;subst e1)
      all_goals ((try (simp -implicitDefEqProofs only[go_sem,AI,AG,A',BH,Aa,Ab,ho,hz,w1,wi,hi]));repeat' first|(with_reducible first|exact tI|refine aI ?_ ?_|intro _)|((first|with_reducible refine Af ?_ ?_<;>intro _|(with_reducible refine isCall ?_);first|refine Ae c2 ?_|refine Ae c3 ?_|refine Ae c4 ?_)<;>try (simp -implicitDefEqProofs only[go_sem,AI,AG,A',BH,Aa,Ab,ho,hz,w1,wi,hi]))|simp (disch:=omega) only[A8]|((with_reducible refine BF ?_);refine⟨_,rfl,?_,?_⟩))
      all_goals first|omega|(rw[hbad rfl];rfl)|exact⟨by omega,by omega,hgood rfl⟩|exact hgood rfl|exact hgood rfl _ _ (by assumption)|skip
    ·have hall:(c.ords.all fun o=>o.ok c.blocks)=true:=by
      rw[List.all_eq_true];intro x hx;obtain⟨j,hj,rfl⟩:=List.getElem_of_mem hx;exact h3 j hj (by omega)
     rw[hall]
     (try (simp -implicitDefEqProofs only[go_sem,AG,hi,AI]));repeat' first|(with_reducible first|exact tI|refine aI ?_ ?_|intro _)|((first|with_reducible refine Af ?_ ?_<;>intro _)<;>try (simp -implicitDefEqProofs only[go_sem,AG,hi,AI]))|simp (disch:=omega) only[A8]|((with_reducible refine BF ?_);refine⟨_,rfl,?_,?_⟩)
     all_goals first|omega|rfl|skip
  ·have hl':(16:Int)<(c.ords.length:Int):=by omega
   have hck:c.check=80:=by unfold Au.check Au.ok;rw[decide_eq_false hl];simp
   rw[hck]
   (try (simp -implicitDefEqProofs only[go_sem,Am,AI,AG,hl']));repeat' first|(with_reducible first|exact tI|refine aI ?_ ?_|intro _)|((first|with_reducible refine Af ?_ ?_<;>intro _|(with_reducible refine isCall ?_);first|refine Ae c1 ?_)<;>try (simp -implicitDefEqProofs only[go_sem,Am,AI,AG,hl']))|simp (disch:=omega) only[A8]|((with_reducible refine BF ?_);refine⟨_,rfl,?_,?_⟩)
   all_goals first|rfl|omega|skip
 ·have hq':HS c.blocks 1 6=false:=by simpa using hq
  rw[hq'] at c1
  have hck:c.check=80:=by unfold Au.check Au.ok;rw[hq'];simp
  rw[hck]
  (try (simp -implicitDefEqProofs only[go_sem,Am,AI,AG]));repeat' first|(with_reducible first|exact tI|refine aI ?_ ?_|intro _)|((first|with_reducible refine Af ?_ ?_<;>intro _|(with_reducible refine isCall ?_);first|refine Ae c1 ?_)<;>try (simp -implicitDefEqProofs only[go_sem,Am,AI,AG]))|simp (disch:=omega) only[A8]|((with_reducible refine BF ?_);refine⟨_,rfl,?_,?_⟩)
  all_goals first|rfl|omega|skip
theorem PX (c:Au):E9 E0 NV [HN c] (.bool c.far):=by
 refine Ao Pj A3 (by simp) fun hwf=>?_
 have c1:=I8 c
 rw[Am,AI] at c1
 rw[Az];unfold Lq Au.far
 by_cases h1:40<c.ords.length
 ·have h1':(40:Int)<(c.ords.length:Int):=by omega
  rw[decide_eq_true h1]
  (try (simp -implicitDefEqProofs only[go_sem,Am,AI,AG,h1']));repeat' first|(with_reducible first|exact tI|refine aI ?_ ?_|intro _)|((first|with_reducible refine Af ?_ ?_<;>intro _)<;>try (simp -implicitDefEqProofs only[go_sem,Am,AI,AG,h1']))|simp (disch:=omega) only[A8]
  all_goals first|rfl|(simp;done)|skip
 ·have h1':¬(40:Int)<(c.ords.length:Int):=by omega
  rw[decide_eq_false h1]
  unfold Au.check at c1
  cases hk:c.ok with
  |false =>
   rw[hk] at c1
   (try (simp -implicitDefEqProofs only[go_sem,Am,AI,AG,h1']));repeat' first|(with_reducible first|exact tI|refine aI ?_ ?_|intro _)|((first|with_reducible refine Af ?_ ?_<;>intro _|(with_reducible refine isCall ?_);first|refine Ae c1 ?_)<;>try (simp -implicitDefEqProofs only[go_sem,Am,AI,AG,h1']))|simp (disch:=omega) only[A8]
   all_goals first|rfl|(simp;done)|skip
  |true =>
   rw[hk] at c1
   simp only[if_true] at c1
   by_cases h3:3<c.blocks
   ·(try (simp -implicitDefEqProofs only[go_sem,Am,AI,AG,h1',h3]));repeat' first|(with_reducible first|exact tI|refine aI ?_ ?_|intro _)|((first|with_reducible refine Af ?_ ?_<;>intro _|(with_reducible refine isCall ?_);first|refine Ae c1 ?_)<;>try (simp -implicitDefEqProofs only[go_sem,Am,AI,AG,h1',h3]))|simp (disch:=omega) only[A8]
    all_goals first|rfl|(simp[h3];done)|skip
   ·by_cases h7:7<c.ords.length
    ·have h7':(7:Int)<(c.ords.length:Int):=by omega
     (try (simp -implicitDefEqProofs only[go_sem,Am,AI,AG,h1',h3,h7']));repeat' first|(with_reducible first|exact tI|refine aI ?_ ?_|intro _)|((first|with_reducible refine Af ?_ ?_<;>intro _|(with_reducible refine isCall ?_);first|refine Ae c1 ?_)<;>try (simp -implicitDefEqProofs only[go_sem,Am,AI,AG,h1',h3,h7']))|simp (disch:=omega) only[A8]
     all_goals first|rfl|(simp[h3,h7];done)|skip
    ·have h7':¬(7:Int)<(c.ords.length:Int):=by omega
     (try (simp -implicitDefEqProofs only[go_sem,Am,AI,AG,h1',h3,h7']));repeat' first|(with_reducible first|exact tI|refine aI ?_ ?_|intro _)|((first|with_reducible refine Af ?_ ?_<;>intro _|(with_reducible refine isCall ?_);first|refine Ae c1 ?_)<;>try (simp -implicitDefEqProofs only[go_sem,Am,AI,AG,h1',h3,h7']))|simp (disch:=omega) only[A8]
     all_goals first|rfl|(simp[h3,h7];done)|skip
end Go.Pw
end
section
open Go Go.Pw Go.Proofs
namespace Go.Pw
set_option maxRecDepth 100000
set_option maxHeartbeats 1600000
theorem six {a:Int}(h0:0<=a) (h6:a<=6):a=0\/a=1\/a=2\/a=3\/a=4\/a=5\/a=6:=by omega
attribute [local congr] Dy CG CH Bn D0 Bu Bw Bv Bm BU BN BG Bp BO Br CT CU CS CV CW CX Bo CN CM Bq BS Bt BT CK C8 BR CQ CR CL CI CJ Dz BP BQ Bs CO CP
attribute [local irreducible] IntKind.wrap Cf Option.getD and or
theorem FK (n:Int):E9 E0 NW [.int .i64 n] (.agg [.int .i64 n,.int .i64 n,.int .i64 n,.int .i64 n,.int .i64 n,.int .i64 n]):=by
 refine Ao Pk A3 (by simp) fun hwf=>?_
 rw[Az];unfold Lr
 (try (simp -implicitDefEqProofs only[go_sem]));repeat' first|(with_reducible first|exact tI|refine aI ?_ ?_|intro _)|((first|with_reducible refine Af ?_ ?_<;>intro _)<;>try (simp -implicitDefEqProofs only[go_sem]))|simp (disch:=omega) only[A8]|((with_reducible refine dU ?_);refine⟨(_,_,_,_,_,_,_),rfl,?_,?_⟩)
 all_goals first|omega|(simp<;>omega)|skip
 refine BB (α:=Int×Int×Int×Int×Int×Int×Int) (l0:=?l1) (m0:=?m1) (fun x=>[(4,.d (.int .i64 x.1))]) (fun x=>[(2,.cells [.d (.int .i64 x.2.1),.d (.int .i64 x.2.2.1),.d (.int .i64 x.2.2.2.1),.d (.int .i64 x.2.2.2.2.1),.d (.int .i64 x.2.2.2.2.2.1),.d (.int .i64 x.2.2.2.2.2.2)])]) (fun x=>(0<=x.1/\x.1<=6)/\(0<x.1->x.2.1=n)/\(1<x.1->x.2.2.1=n)/\(2<x.1->x.2.2.2.1=n)/\(3<x.1->x.2.2.2.2.1=n)/\(4<x.1->x.2.2.2.2.2.1=n)/\(5<x.1->x.2.2.2.2.2.2=n)) (fun x=>(6-x.1).toNat) (?a1_0,?a1_1,?a1_2,?a1_3,?a1_4,?a1_5,?a1_6) ?h01 ?he1 ?he21 ?hI1 ?step1
 case h01=>(simp -implicitDefEqProofs only[go_sem];rfl)
 case he1=>rfl
 case he21=>rfl
 case' step1=>(rintro⟨i,a,b,c,d,e,f⟩ hI;try dsimp only at hI)
 case' hI1=>try dsimp only
 ·refine⟨⟨by omega,by omega⟩,?_,?_,?_,?_,?_,?_⟩<;>intro h<;>omega
 ·obtain⟨⟨h0,h6⟩,ha,hb,hc,hd,he,hf⟩:=hI
  have wi:IntKind.i64.wrap (i+1)=i+1:=BM _ (by omega)
  rcases six h0 h6 with h|h|h|h|h|h|h<;>subst h
  all_goals ((try (simp -implicitDefEqProofs only[go_sem]));repeat' first|(with_reducible first|exact tI|refine aI ?_ ?_|intro _)|((first|with_reducible refine Af ?_ ?_<;>intro _)<;>try (simp -implicitDefEqProofs only[go_sem]))|simp (disch:=omega) only[A8]|((with_reducible refine dU ?_);refine⟨(_,_,_,_,_,_,_),rfl,?_,?_⟩))
  all_goals first|omega|(simp_all;done)|skip
theorem OH (a b c d e f:Int):E9 E0 Cg [.agg [.int .i64 a,.int .i64 b,.int .i64 c,.int .i64 d,.int .i64 e,.int .i64 f]] (.bool (decide ([a,b,c,d,e,f]=DI))):=by
 refine Ao Iy A3 (by simp) fun hwf=>?_
 have c1:=FK (-3)
 rw[Az];unfold F8 DI
 by_cases h:a=-3/\b=-3/\c=-3/\d=-3/\e=-3/\f=-3
 ·obtain⟨rfl,rfl,rfl,rfl,rfl,rfl⟩:=h
  (try (simp -implicitDefEqProofs only[go_sem]));repeat' first|(with_reducible first|exact tI|refine aI ?_ ?_|intro _)|((first|with_reducible refine Af ?_ ?_<;>intro _|(with_reducible refine isCall ?_);first|refine Ae c1 ?_)<;>try (simp -implicitDefEqProofs only[go_sem]))|simp (disch:=omega) only[A8]
  all_goals first|rfl|(simp;done)|(simp_all;done)|skip
 ·(try (simp -implicitDefEqProofs only[go_sem]));repeat' first|(with_reducible first|exact tI|refine aI ?_ ?_|intro _)|((first|with_reducible refine Af ?_ ?_<;>intro _|(with_reducible refine isCall ?_);first|refine Ae c1 ?_)<;>try (simp -implicitDefEqProofs only[go_sem]))|simp (disch:=omega) only[A8]
  all_goals first|rfl|(simp;done)|(simp_all;done)|(exfalso;simp_all;done)|skip
theorem S8 (a b c d e f:Int):E9 E0 Dn [.agg [.int .i64 a,.int .i64 b,.int .i64 c,.int .i64 d,.int .i64 e,.int .i64 f]] (.bool (decide ([a,b,c,d,e,f]≠DI))):=by
 refine Ao IX A3 (by simp) fun hwf=>?_
 have c1:=FK (-3)
 rw[Az];unfold Fo DI
 by_cases h:a=-3/\b=-3/\c=-3/\d=-3/\e=-3/\f=-3
 ·obtain⟨rfl,rfl,rfl,rfl,rfl,rfl⟩:=h
  (try (simp -implicitDefEqProofs only[go_sem]));repeat' first|(with_reducible first|exact tI|refine aI ?_ ?_|intro _)|((first|with_reducible refine Af ?_ ?_<;>intro _|(with_reducible refine isCall ?_);first|refine Ae c1 ?_)<;>try (simp -implicitDefEqProofs only[go_sem]))|simp (disch:=omega) only[A8]
  all_goals first|rfl|(simp;done)|(simp_all;done)|skip
 ·(try (simp -implicitDefEqProofs only[go_sem]));repeat' first|(with_reducible first|exact tI|refine aI ?_ ?_|intro _)|((first|with_reducible refine Af ?_ ?_<;>intro _|(with_reducible refine isCall ?_);first|refine Ae c1 ?_)<;>try (simp -implicitDefEqProofs only[go_sem]))|simp (disch:=omega) only[A8]
  all_goals first|rfl|(simp;done)|(simp_all;done)|(exfalso;simp_all;done)|skip
end Go.Pw
end
section
open Go Go.Pw Go.Proofs
namespace Go.Pw
set_option maxRecDepth 100000
set_option maxHeartbeats 1600000
def gy (c:Au):Nat->List Int
 |0=>List.replicate c.blocks.toNat (-1)
 |i+1=>if (c.ords[i]?.getD default).puts=true then (gy c i).set (c.ords[i]?.getD default).blk.toNat i else gy c i
theorem Y4 {c:Au}(h:c.ok=true):c.check=0:=by unfold Au.check;rw[h];rfl
attribute [local congr] Dy CG CH Bn D0 Bu Bw Bv Bm BU BN BG Bp BO Br CT CU CS CV CW CX Bo CN CM Bq BS Bt BT CK C8 BR CQ CR CL CI CJ Dz BP BQ Bs CO CP
attribute [local irreducible] IntKind.wrap Cf Option.getD and or
theorem Lm (c:Au) (nl:Bool) (im:List Int) (hx:(im.length:Int)=c.blocks) (ho:c.ords.length<=1000) (hl:im.length<=1000) (hall:∀b,b<im.length->Vv c im b=true) :
  E9 E0 JL [HN c,.list nl (Bi im)] (.bool true):=by
 refine Ao MH A3 (by simp) fun hwf=>?_
 rw[Az];unfold H'
 have w1:IntKind.i64.wrap ((c.ords.length:Int)-1)=(c.ords.length:Int)-1:=BM _ (by omega)
 (try (simp -implicitDefEqProofs only[go_sem,Am,AI,AG]));repeat' first|(with_reducible first|exact tI|refine aI ?_ ?_|intro _)|((first|with_reducible refine Af ?_ ?_<;>intro _)<;>try (simp -implicitDefEqProofs only[go_sem,Am,AI,AG]))|simp (disch:=omega) only[A8]|((with_reducible refine BF ?_);refine⟨_,rfl,?_,?_⟩)
 all_goals first|omega|(simp<;>omega)|skip
 refine BB (α:=Int) (l0:=?l1) (m0:=?m1) (fun x=>[(5,.d (.int .i64 x))]) (fun x=>[]) (fun x=>0<=x/\x<=im.length) (fun x=>(im.length-x).toNat) ?a1_0 ?h01 ?he1 ?he21 ?hI1 ?step1
 case h01=>(simp -implicitDefEqProofs only[go_sem,AG];rfl)
 case he1=>rfl
 case he21=>rfl
 case' step1=>(rintro i hI;try dsimp only at hI)
 case' hI1=>try dsimp only
 ·exact⟨by omega,by omega⟩
 ·obtain⟨h1,h2⟩:=hI
  by_cases hi:i<im.length
  ·have hi':i<c.blocks:=by omega
   have wi:IntKind.i64.wrap (i+1)=i+1:=BM _ (by omega)
   have hA:=hall i.toNat (by omega)
   unfold Vv at hA
   obtain⟨n,hn⟩:∃n,im[i.toNat]?.getD 0=n:=⟨_,rfl⟩
   rw[hn] at hA
   simp only[Bool.or_eq_true,Bool.and_eq_true,decide_eq_true_eq] at hA
   by_cases k1:n=-1
   ·subst k1
    (try (simp -implicitDefEqProofs only[go_sem,AG,AI,hn,hi,hi',wi]));repeat' first|(with_reducible first|exact tI|refine aI ?_ ?_|intro _)|((first|with_reducible refine Af ?_ ?_<;>intro _)<;>try (simp -implicitDefEqProofs only[go_sem,AG,AI,hn,hi,hi',wi]))|simp (disch:=omega) only[A8]|((with_reducible refine BF ?_);refine⟨_,rfl,?_,?_⟩)
    all_goals first|omega|(simp<;>omega)|skip
   by_cases k2:n=-2
   ·subst k2
    (try (simp -implicitDefEqProofs only[go_sem,AG,AI,hn,hi,hi',wi]));repeat' first|(with_reducible first|exact tI|refine aI ?_ ?_|intro _)|((first|with_reducible refine Af ?_ ?_<;>intro _)<;>try (simp -implicitDefEqProofs only[go_sem,AG,AI,hn,hi,hi',wi]))|simp (disch:=omega) only[A8]|((with_reducible refine BF ?_);refine⟨_,rfl,?_,?_⟩)
    all_goals first|omega|(simp<;>omega)|skip
   obtain⟨k3,k4,k5⟩:=(hA.resolve_left k1).resolve_left k2
   have k6:=L8.1 k3
   have c1:=EA n 0 ((c.ords.length:Int)-1)
   rw[k3] at c1
   obtain⟨o,hoo⟩:∃o,c.ords[n.toNat]?.getD default=o:=⟨_,rfl⟩
   rw[hoo] at k4 k5
   have c2:=Jh o
   rw[Aa,Ab,k4] at c2
   have k7:o.blk=i:=by omega
   rw[k7] at c2
   have hnl:n<c.ords.length:=by omega
   (try (simp -implicitDefEqProofs only[go_sem,AG,AI,A',BH,Aa,Ab,hoo,hn,hi,hi',wi,w1,k1,k2,k7,hnl]));repeat' first|(with_reducible first|exact tI|refine aI ?_ ?_|intro _)|((first|with_reducible refine Af ?_ ?_<;>intro _|(with_reducible refine isCall ?_);first|refine Ae c1 ?_|refine Ae c2 ?_)<;>try (simp -implicitDefEqProofs only[go_sem,AG,AI,A',BH,Aa,Ab,hoo,hn,hi,hi',wi,w1,k1,k2,k7,hnl]))|simp (disch:=omega) only[A8]|((with_reducible refine BF ?_);refine⟨_,rfl,?_,?_⟩)
   all_goals first|omega|(simp<;>omega)|skip
  ·(try (simp -implicitDefEqProofs only[go_sem,AG,AI,hi,hx]));repeat' first|(with_reducible first|exact tI|refine aI ?_ ?_|intro _)|((first|with_reducible refine Af ?_ ?_<;>intro _)<;>try (simp -implicitDefEqProofs only[go_sem,AG,AI,hi,hx]))|simp (disch:=omega) only[A8]|((with_reducible refine BF ?_);refine⟨_,rfl,?_,?_⟩)
   all_goals first|omega|(simp<;>omega)|skip
end Go.Pw
end
section
open Go Go.Pw Go.Proofs
namespace Go.Pw
set_option maxRecDepth 100000
set_option maxHeartbeats 3200000
def PQ (r:List Int):D:=.agg (Bi r)
def C2 (l:List (List Int)):List D:=l.map PQ
theorem Cy (r:List Int):PQ r=.agg (Bi r):=rfl
theorem AR (l:List (List Int)):(C2 l).length=l.length:=by simp[C2]
theorem AO {l:List (List Int)}{i:Nat}{A:D->Prop}:Ay (C2 l)[i]? A=(i<l.length/\A (PQ (l[i]?.getD []))):=FQ
theorem B_ (l:List (List Int)) (i:Nat) (r:List Int):(C2 l).set i (.agg (Bi r))=C2 (l.set i r):=by simp[C2,PQ,List.map_set]
def Ap.m (s:Ap) (i:Nat):Int:=s.med[i]?.getD 0
structure Ap.Ok (s:Ap):Prop where
 ml:s.med.length=6
 el:∀r,r∈s.eps->r.length=6
def C1 (s:Ap) (q p:Nat):List AV:=[.d (.int .i64 (s.m 0)),.d (.int .i64 (s.m 1)),.d (.int .i64 (s.m 2)),.d (.int .i64 (s.m 3)),.d (.int .i64 (s.m 4)),.d (.int .i64 (s.m 5)),.own q p,.d (.int .i64 s.wr)]
def Kb (s:Ap) (q:Nat):List (Nat×Nat×AE):=[(900000,0,.cells (C1 s q 0)),(q,0,.row 125 6 false (C2 s.eps))]
theorem RN {r:List Int}(h:r.length=6):∃a b c d e f,r=[a,b,c,d,e,f]:=by
 match r,h with
 |[a,b,c,d,e,f],_=>exact⟨a,b,c,d,e,f,rfl⟩
theorem a8 {b:Nat}(h:b<6):b=0\/b=1\/b=2\/b=3\/b=4\/b=5:=by omega
theorem QO {s:Ap}{b:Nat}{v W:Int}{E:List (List Int)}(hm:s.med.length=6) (hb:b<6) (i:Nat):(Ap.mk (s.med.set b v) E W).m i=if b=i then v else s.m i:=by
 unfold Ap.m;exact Dw (by omega)
theorem Hz {s:Ap}{e b:Nat}(h:s.ent e b=-3):s.write e b=s:=by unfold Ap.write;rw[if_pos h]
attribute [local congr] Dy CG CH Bn D0 Bu Bw Bv Bm BU BN BG Bp BO Br CT CU CS CV CW CX Bo CN CM Bq BS Bt BT CK C8 BR CQ CR CL CI CJ Dz BP BQ Bs CO CP
attribute [local irreducible] IntKind.wrap Cf Option.getD and or
theorem NG (s:Ap) (q:Nat) (hq:q=901000) (hne:1<=s.eps.length) (hl:s.eps.length<=1000):D1 E0 GD (Kb s q) [.ptr 900000 0 0] (Kb s q) (.rptr q 0 6 s.last 0):=by
 subst hq
 unfold Kb C1
 refine Av IY A3 (by simp) (by simp[D4,AK,A2,AE.isHist]) (by simp[Aq]) fun hwf hwo=>?_
 have w1:IntKind.i64.wrap ((s.eps.length:Int)-1)=((s.last:Nat):Int):=by rw[BM _ (by omega)];unfold Ap.last;omega
 have hl':s.last<s.eps.length:=by unfold Ap.last;omega
 rw[A5];unfold Fp
 (try (simp -implicitDefEqProofs only[go_sem,AR,w1,Int.toNat_natCast]));repeat' first|(with_reducible first|exact tI|refine aI ?_ ?_|intro _)|((first|with_reducible refine Af ?_ ?_<;>intro _)<;>try (simp -implicitDefEqProofs only[go_sem,AR,w1,Int.toNat_natCast]))|simp (disch:=omega) only[A8]
 all_goals first|omega|rfl|skip
theorem FY (s:Ap) (hs:s.Ok) (e b:Nat) (he:e<s.eps.length) (hb:b<6):D1 E0 Gt (Kb s 901000) [.ptr 900000 0 0,.d (.int .i64 (e:Int)),.d (.int .i64 (b:Int))] (Kb (s.write e b) 901000) (.tup []):=by
 unfold Kb C1
 refine Av JR A3 (by simp) (by simp[D4,AK,A2,AE.isHist]) (by simp[Aq]) fun hwf hwo=>?_
 have hr0:=hs.el _ (BL he)
 obtain⟨r,hr⟩:∃r,s.eps[e]?.getD []=r:=⟨_,rfl⟩
 rw[hr] at hr0
 obtain⟨r0,r1,r2,r3,r4,r5,rfl⟩:=RN hr0
 have he':(e:Int)<(s.eps.length:Int):=by omega
 rw[A5];unfold GQ
 have hm:=hs.ml
 rcases a8 hb with h|h|h|h|h|h<;>subst h
 ·have hent:s.ent e 0=r0:=by unfold Ap.ent;rw[hr];simp
  by_cases hv:r0=-3
  ·subst hv
   rw[Hz hent]
   (try (simp -implicitDefEqProofs only[go_sem,AR,AO,hr,Cy,he,he',Int.toNat_natCast,Option.getD_some]));repeat' first|(with_reducible first|exact tI|refine aI ?_ ?_|intro _)|((first|with_reducible refine Af ?_ ?_<;>intro _)<;>try (simp -implicitDefEqProofs only[go_sem,AR,AO,hr,Cy,he,he',Int.toNat_natCast,Option.getD_some]))|simp (disch:=omega) only[A8]
   all_goals first|omega|rfl|skip
  ·have hw:s.write e 0=⟨s.med.set 0 r0,s.eps.set e [-3,r1,r2,r3,r4,r5],IntKind.i64.wrap (s.wr+1)⟩:=by unfold Ap.write;rw[hent,if_neg hv,hr];rfl
   have hms:=fun i=>QO (s:=s) (b:=0) (v:=r0) (E:=s.eps.set e [-3,r1,r2,r3,r4,r5]) (W:=IntKind.i64.wrap (s.wr+1)) hm (by omega) i
   rw[hw]
   (try (simp -implicitDefEqProofs only[go_sem,AR,AO,hr,Cy,he,he',hv,Int.toNat_natCast,Option.getD_some,hms]));repeat' first|(with_reducible first|exact tI|refine aI ?_ ?_|intro _)|((first|with_reducible refine Af ?_ ?_<;>intro _)<;>try (simp -implicitDefEqProofs only[go_sem,AR,AO,hr,Cy,he,he',hv,Int.toNat_natCast,Option.getD_some,hms]))|simp (disch:=omega) only[A8]
   all_goals first|omega|rfl|exact .inr True.intro|exact B_ _ _ _|(rw[←B_];rfl)|skip
 ·have hent:s.ent e 1=r1:=by unfold Ap.ent;rw[hr];simp
  by_cases hv:r1=-3
  ·subst hv
   rw[Hz hent]
   (try (simp -implicitDefEqProofs only[go_sem,AR,AO,hr,Cy,he,he',Int.toNat_natCast,Option.getD_some]));repeat' first|(with_reducible first|exact tI|refine aI ?_ ?_|intro _)|((first|with_reducible refine Af ?_ ?_<;>intro _)<;>try (simp -implicitDefEqProofs only[go_sem,AR,AO,hr,Cy,he,he',Int.toNat_natCast,Option.getD_some]))|simp (disch:=omega) only[A8]
   all_goals first|omega|rfl|skip
  ·have hw:s.write e 1=⟨s.med.set 1 r1,s.eps.set e [r0,-3,r2,r3,r4,r5],IntKind.i64.wrap (s.wr+1)⟩:=by unfold Ap.write;rw[hent,if_neg hv,hr];rfl
   have hms:=fun i=>QO (s:=s) (b:=1) (v:=r1) (E:=s.eps.set e [r0,-3,r2,r3,r4,r5]) (W:=IntKind.i64.wrap (s.wr+1)) hm (by omega) i
   rw[hw]
   (try (simp -implicitDefEqProofs only[go_sem,AR,AO,hr,Cy,he,he',hv,Int.toNat_natCast,Option.getD_some,hms]));repeat' first|(with_reducible first|exact tI|refine aI ?_ ?_|intro _)|((first|with_reducible refine Af ?_ ?_<;>intro _)<;>try (simp -implicitDefEqProofs only[go_sem,AR,AO,hr,Cy,he,he',hv,Int.toNat_natCast,Option.getD_some,hms]))|simp (disch:=omega) only[A8]
   all_goals first|omega|rfl|exact .inr True.intro|exact B_ _ _ _|(rw[←B_];rfl)|skip
 ·have hent:s.ent e 2=r2:=by unfold Ap.ent;rw[hr];simp
  by_cases hv:r2=-3
  ·subst hv
   rw[Hz hent]
   (try (simp -implicitDefEqProofs only[go_sem,AR,AO,hr,Cy,he,he',Int.toNat_natCast,Option.getD_some]));repeat' first|(with_reducible first|exact tI|refine aI ?_ ?_|intro _)|((first|with_reducible refine Af ?_ ?_<;>intro _)<;>try (simp -implicitDefEqProofs only[go_sem,AR,AO,hr,Cy,he,he',Int.toNat_natCast,Option.getD_some]))|simp (disch:=omega) only[A8]
   all_goals first|omega|rfl|skip
  ·have hw:s.write e 2=⟨s.med.set 2 r2,s.eps.set e [r0,r1,-3,r3,r4,r5],IntKind.i64.wrap (s.wr+1)⟩:=by unfold Ap.write;rw[hent,if_neg hv,hr];rfl
   have hms:=fun i=>QO (s:=s) (b:=2) (v:=r2) (E:=s.eps.set e [r0,r1,-3,r3,r4,r5]) (W:=IntKind.i64.wrap (s.wr+1)) hm (by omega) i
   rw[hw]
   (try (simp -implicitDefEqProofs only[go_sem,AR,AO,hr,Cy,he,he',hv,Int.toNat_natCast,Option.getD_some,hms]));repeat' first|(with_reducible first|exact tI|refine aI ?_ ?_|intro _)|((first|with_reducible refine Af ?_ ?_<;>intro _)<;>try (simp -implicitDefEqProofs only[go_sem,AR,AO,hr,Cy,he,he',hv,Int.toNat_natCast,Option.getD_some,hms]))|simp (disch:=omega) only[A8]
   all_goals first|omega|rfl|exact .inr True.intro|exact B_ _ _ _|(rw[←B_];rfl)|skip
 ·have hent:s.ent e 3=r3:=by unfold Ap.ent;rw[hr];simp
  by_cases hv:r3=-3
  ·subst hv
   rw[Hz hent]
   (try (simp -implicitDefEqProofs only[go_sem,AR,AO,hr,Cy,he,he',Int.toNat_natCast,Option.getD_some]));repeat' first|(with_reducible first|exact tI|refine aI ?_ ?_|intro _)|((first|with_reducible refine Af ?_ ?_<;>intro _)<;>try (simp -implicitDefEqProofs only[go_sem,AR,AO,hr,Cy,he,he',Int.toNat_natCast,Option.getD_some]))|simp (disch:=omega) only[A8]
   all_goals first|omega|rfl|skip
  ·have hw:s.write e 3=⟨s.med.set 3 r3,s.eps.set e [r0,r1,r2,-3,r4,r5],IntKind.i64.wrap (s.wr+1)⟩:=by unfold Ap.write;rw[hent,if_neg hv,hr];rfl
   have hms:=fun i=>QO (s:=s) (b:=3) (v:=r3) (E:=s.eps.set e [r0,r1,r2,-3,r4,r5]) (W:=IntKind.i64.wrap (s.wr+1)) hm (by omega) i
   rw[hw]
   (try (simp -implicitDefEqProofs only[go_sem,AR,AO,hr,Cy,he,he',hv,Int.toNat_natCast,Option.getD_some,hms]));repeat' first|(with_reducible first|exact tI|refine aI ?_ ?_|intro _)|((first|with_reducible refine Af ?_ ?_<;>intro _)<;>try (simp -implicitDefEqProofs only[go_sem,AR,AO,hr,Cy,he,he',hv,Int.toNat_natCast,Option.getD_some,hms]))|simp (disch:=omega) only[A8]
   all_goals first|omega|rfl|exact .inr True.intro|exact B_ _ _ _|(rw[←B_];rfl)|skip
 ·have hent:s.ent e 4=r4:=by unfold Ap.ent;rw[hr];simp
  by_cases hv:r4=-3
  ·subst hv
   rw[Hz hent]
   (try (simp -implicitDefEqProofs only[go_sem,AR,AO,hr,Cy,he,he',Int.toNat_natCast,Option.getD_some]));repeat' first|(with_reducible first|exact tI|refine aI ?_ ?_|intro _)|((first|with_reducible refine Af ?_ ?_<;>intro _)<;>try (simp -implicitDefEqProofs only[go_sem,AR,AO,hr,Cy,he,he',Int.toNat_natCast,Option.getD_some]))|simp (disch:=omega) only[A8]
   all_goals first|omega|rfl|skip
  ·have hw:s.write e 4=⟨s.med.set 4 r4,s.eps.set e [r0,r1,r2,r3,-3,r5],IntKind.i64.wrap (s.wr+1)⟩:=by unfold Ap.write;rw[hent,if_neg hv,hr];rfl
   have hms:=fun i=>QO (s:=s) (b:=4) (v:=r4) (E:=s.eps.set e [r0,r1,r2,r3,-3,r5]) (W:=IntKind.i64.wrap (s.wr+1)) hm (by omega) i
   rw[hw]
   (try (simp -implicitDefEqProofs only[go_sem,AR,AO,hr,Cy,he,he',hv,Int.toNat_natCast,Option.getD_some,hms]));repeat' first|(with_reducible first|exact tI|refine aI ?_ ?_|intro _)|((first|with_reducible refine Af ?_ ?_<;>intro _)<;>try (simp -implicitDefEqProofs only[go_sem,AR,AO,hr,Cy,he,he',hv,Int.toNat_natCast,Option.getD_some,hms]))|simp (disch:=omega) only[A8]
   all_goals first|omega|rfl|exact .inr True.intro|exact B_ _ _ _|(rw[←B_];rfl)|skip
 ·have hent:s.ent e 5=r5:=by unfold Ap.ent;rw[hr];simp
  by_cases hv:r5=-3
  ·subst hv
   rw[Hz hent]
   (try (simp -implicitDefEqProofs only[go_sem,AR,AO,hr,Cy,he,he',Int.toNat_natCast,Option.getD_some]));repeat' first|(with_reducible first|exact tI|refine aI ?_ ?_|intro _)|((first|with_reducible refine Af ?_ ?_<;>intro _)<;>try (simp -implicitDefEqProofs only[go_sem,AR,AO,hr,Cy,he,he',Int.toNat_natCast,Option.getD_some]))|simp (disch:=omega) only[A8]
   all_goals first|omega|rfl|skip
  ·have hw:s.write e 5=⟨s.med.set 5 r5,s.eps.set e [r0,r1,r2,r3,r4,-3],IntKind.i64.wrap (s.wr+1)⟩:=by unfold Ap.write;rw[hent,if_neg hv,hr];rfl
   have hms:=fun i=>QO (s:=s) (b:=5) (v:=r5) (E:=s.eps.set e [r0,r1,r2,r3,r4,-3]) (W:=IntKind.i64.wrap (s.wr+1)) hm (by omega) i
   rw[hw]
   (try (simp -implicitDefEqProofs only[go_sem,AR,AO,hr,Cy,he,he',hv,Int.toNat_natCast,Option.getD_some,hms]));repeat' first|(with_reducible first|exact tI|refine aI ?_ ?_|intro _)|((first|with_reducible refine Af ?_ ?_<;>intro _)<;>try (simp -implicitDefEqProofs only[go_sem,AR,AO,hr,Cy,he,he',hv,Int.toNat_natCast,Option.getD_some,hms]))|simp (disch:=omega) only[A8]
   all_goals first|omega|rfl|exact .inr True.intro|exact B_ _ _ _|(rw[←B_];rfl)|skip
end Go.Pw
end
section
open Go Go.Pw Go.Proofs
namespace Go.Pw
set_option maxRecDepth 100000
set_option maxHeartbeats 3200000
theorem FG {s:Ap}(h:s.Ok) {e b:Nat}(he:e<s.eps.length):(s.write e b).Ok:=by
 unfold Ap.write
 split
 ·exact h
 ·refine⟨by simp[h.ml],fun r hr=>?_⟩
  rcases List.mem_or_eq_of_mem_set hr with hr|rfl
  ·exact h.el r hr
  ·simpa using h.el _ (BL he)
theorem UV {s:Ap}(h:s.Ok) {e:Nat}(he:e<s.eps.length):∀b,(s.wrB e b).Ok
 |0=>h
 |b+1=>FG (UV h he b) (by rw[Gx];exact he)
theorem HF {s:Ap}(h:s.Ok):∀e,e<=s.eps.length->(s.wrE e).Ok
 |0,_=>h
 |e+1,he=>UV (HF h e (by omega)) (by rw[Cp];omega) 6
theorem QZ {l:List (List Int)}(h:∀r,r∈l->r.length=6):DY 6 (C2 l)=True:=by
 simp only[eq_iff_iff,iff_true]
 intro y hy
 obtain⟨r,hr,rfl⟩:=List.mem_map.1 hy
 simp[PQ,D.cells,Bi,h r hr]
attribute [local congr] Dy CG CH Bn D0 Bu Bw Bv Bm BU BN BG Bp BO Br CT CU CS CV CW CX Bo CN CM Bq BS Bt BT CK C8 BR CQ CR CL CI CJ Dz BP BQ Bs CO CP
attribute [local irreducible] IntKind.wrap Cf Option.getD and or
theorem ER (s:Ap) (hs:s.Ok) (n:Nat) (hn:n<=s.eps.length) (hl:s.eps.length<=1000):D1 E0 F2 (Kb s 901000) [.ptr 900000 0 0,.d (.int .i64 (n:Int))] (Kb (s.wrE n) 901000) (.tup []):=by
 have cw:=fun(i j:Nat) (hi:i<s.eps.length) (hj:j<6)=>FY ((s.wrE i).wrB i j) (UV (HF hs i (by omega)) (by rw[Cp];exact hi) j) i j (by rw[Gx,Cp];exact hi) hj
 unfold Kb C1 at *
 refine Av Hv A3 (by simp) (by simp[D4,AK,A2,AE.isHist]) (by simp[Aq]) fun hwf hwo=>?_
 rw[A5];unfold FX
 (try (simp -implicitDefEqProofs only[go_sem]));repeat' first|(with_reducible first|exact tI|refine aI ?_ ?_|intro _)|((first|with_reducible refine Af ?_ ?_<;>intro _)<;>try (simp -implicitDefEqProofs only[go_sem]))|simp (disch:=omega) only[A8]|((with_reducible refine BF ?_);refine⟨_,rfl,?_,?_⟩)
 all_goals first|omega|(simp<;>omega)|skip
 refine BB (α:=Nat) (l0:=?l1) (m0:=?m1) (fun x=>[(7,.d (.int .i64 (x:Int)))]) (fun x=>[(900000,.cells [.d (.int .i64 ((s.wrE x).m 0)),.d (.int .i64 ((s.wrE x).m 1)),.d (.int .i64 ((s.wrE x).m 2)),.d (.int .i64 ((s.wrE x).m 3)),.d (.int .i64 ((s.wrE x).m 4)),.d (.int .i64 ((s.wrE x).m 5)),.own 901000 0,.d (.int .i64 (s.wrE x).wr)]),(901000,.row 125 6 false (C2 (s.wrE x).eps))]) (fun x=>x<=n) (fun x=>n-x) 0 ?h01 ?he1 ?he21 ?hI1 ?step1
 case h01=>(simp -implicitDefEqProofs only[go_sem,Ap.wrE];rfl)
 case he1=>rfl
 case he21=>rfl
 case' step1=>(rintro i hI;try dsimp only at hI)
 case' hI1=>try dsimp only
 ·exact Nat.zero_le _
 ·by_cases hi:i<n
  ·have hi':(i:Int)<(n:Int):=by omega
   have wi:IntKind.i64.wrap ((i:Int)+1)=((i+1:Nat):Int):=by rw[BM _ (by omega)];omega
   (try (simp -implicitDefEqProofs only[go_sem,hi']));repeat' first|(with_reducible first|exact tI|refine aI ?_ ?_|intro _)|((first|with_reducible refine Af ?_ ?_<;>intro _)<;>try (simp -implicitDefEqProofs only[go_sem,hi']))|simp (disch:=omega) only[A8]|((with_reducible refine BF ?_);refine⟨_,rfl,?_,?_⟩)
   all_goals first|omega|(simp<;>omega)|skip
   refine BB (α:=Nat) (l0:=?l2) (m0:=?m2) (fun x=>[(10,.d (.int .i64 (x:Int)))]) (fun x=>[(900000,.cells [.d (.int .i64 (((s.wrE i).wrB i x).m 0)),.d (.int .i64 (((s.wrE i).wrB i x).m 1)),.d (.int .i64 (((s.wrE i).wrB i x).m 2)),.d (.int .i64 (((s.wrE i).wrB i x).m 3)),.d (.int .i64 (((s.wrE i).wrB i x).m 4)),.d (.int .i64 (((s.wrE i).wrB i x).m 5)),.own 901000 0,.d (.int .i64 ((s.wrE i).wrB i x).wr)]),(901000,.row 125 6 false (C2 ((s.wrE i).wrB i x).eps))]) (fun x=>x<=6) (fun x=>6-x) 0 ?h02 ?he2 ?he22 ?hI2 ?step2
   case h02=>(simp -implicitDefEqProofs only[go_sem,Ap.wrB];rfl)
   case he2=>rfl
   case he22=>rfl
   case' step2=>(rintro j hI2;try dsimp only at hI2)
   case' hI2=>try dsimp only
   ·omega
   ·by_cases hj:j<6
    ·have hj':(j:Int)<6:=by omega
     have wj:IntKind.i64.wrap ((j:Int)+1)=((j+1:Nat):Int):=by rw[BM _ (by omega)];omega
     have c1:=cw i j (by omega) hj
     rw[show ((s.wrE i).wrB i j).write i j=(s.wrE i).wrB i (j+1) from rfl] at c1
     (try (simp -implicitDefEqProofs only[go_sem,hj',wj]));repeat' first|(with_reducible first|exact tI|refine aI ?_ ?_|intro _)|((first|with_reducible refine Af ?_ ?_<;>intro _|(with_reducible refine isCall ?_);first|(refine Ad ([((900000,0),(900000,0)),((901000,0),(901000,0))]) ([((900000,0),(900000,0)),((901000,0),(901000,0))]) (c1) (by repeat' first|exact True.intro|exact rfl|refine And.intro ?_ ?_) (by simp[AW,Ah.get,AE.ren,AV.ren,AV.ren.renL,AB.get,AX,Ag,AY,AB.reach,AV.sites,AV.sites.sitesL,AB.osites]) (by simp[AL,Aq,AK,Ah.get,AY,A2,A9,AZ,AM]) (by rfl) (by simp only[Ai,Ah.get,AE.ren,AV.ren,AV.ren.renL,and_self,and_true,true_and,if_true,reduceIte];rfl) ?_))<;>try (simp -implicitDefEqProofs only[go_sem,hj',wj]))|simp (disch:=omega) only[A8]|((with_reducible refine BF ?_);refine⟨_,rfl,?_,?_⟩)
     all_goals first|omega|(simp<;>omega)|skip
    ·have hj6:j=6:=by omega
     subst hj6
     rw[show (s.wrE i).wrB i 6=s.wrE (i+1) from rfl]
     (try (simp -implicitDefEqProofs only[go_sem,wi]));repeat' first|(with_reducible first|exact tI|refine aI ?_ ?_|intro _)|((first|with_reducible refine Af ?_ ?_<;>intro _)<;>try (simp -implicitDefEqProofs only[go_sem,wi]))|simp (disch:=omega) only[A8]|((with_reducible refine BF ?_);refine⟨_,rfl,?_,?_⟩)
     all_goals first|omega|(simp<;>omega)|skip
  ·have hin:i=n:=by omega
   subst hin
   have hi':¬(i:Int)<(i:Int):=by omega
   (try (simp -implicitDefEqProofs only[go_sem,hi']));repeat' first|(with_reducible first|exact tI|refine aI ?_ ?_|intro _)|((first|with_reducible refine Af ?_ ?_<;>intro _)<;>try (simp -implicitDefEqProofs only[go_sem,hi']))|simp (disch:=omega) only[A8]|((with_reducible refine BF ?_);refine⟨_,rfl,?_,?_⟩)
   all_goals first|omega|(simp<;>omega)|skip
end Go.Pw
end
