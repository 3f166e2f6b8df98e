/- A part of the proof. -/
import Derived.Test.YtpcpcjbbdgmohaaDoorRows
import Derived.Test.YtpcpcjbbdgmohaaDoorTie
import Derived.Test.YtpcpcjbbdgmohaaDoorCards
import Derived.SevenTiedAt
import Derived.LaidLaws
import Derived.Test.YtpcpcjbbdgmohaaDoorLgPC
import Derived.Test.YtpcpcjbbdgmohaaDoorPgLgA
set_option linter.all false
section
namespace Go.Proofs.YtpcpcjbbdgmohaaDoor
open Go.ChangeShapes Go.WideShapes Go.ChangeAt Go.RowKit Go.Pw
theorem own:ownKnob Tryd.prog.godebug=.none:=by kernel_rfl
theorem laidOut:laidOutB Tryd.prog=true:=by kernel_rfl
abbrev laidL:List (String×DataW Unit) := [("platter/journal.empty",Rows.laid_platter_journal_empty),("platter/journal.bad",Rows.laid_platter_journal_bad)]
theorem gEmpty : Tryd.prog.globalNamed "platter/journal.empty"=some 1:=by kernel_rfl
theorem gBad : Tryd.prog.globalNamed "platter/journal.bad"=some 0:=by kernel_rfl
theorem tyEmpty:(Tryd.prog.globals[1]?).map (·.type)=some 43:=by kernel_rfl
theorem tyBad:(Tryd.prog.globals[0]?).map (·.type)=some 43:=by kernel_rfl
theorem flat43:OI Tryd.prog 20 43=true:=by kernel_rfl
theorem flatE:Lb 20 Rows.laid_platter_journal_empty=some [.int .i64 (-1),.int .i64 0,.int .i64 0,.int .i64 0,.bool false]:=by kernel_rfl
theorem flatB:Lb 20 Rows.laid_platter_journal_bad=some [.int .i64 0,.int .i64 0,.int .i64 0,.int .i64 0,.bool true]:=by kernel_rfl
theorem laid_ok {W:World}(h:laidMet Tryd.prog laidL W):WV E0 W fun _=>False:=by
 intro g cs hg
 change G0 g=some cs at hg
 unfold G0 at hg
 by_cases h1:g=1
 ·subst h1
  simp at hg;subst hg
  exact R7 h (n := "platter/journal.empty") (d:=Rows.laid_platter_journal_empty) (by simp[laidL]) gEmpty tyEmpty flat43 flatE (by simp)
 ·rw[if_neg h1] at hg
  by_cases h0:g=0
  ·subst h0
   simp at hg;subst hg
   exact R7 h (n := "platter/journal.bad") (d:=Rows.laid_platter_journal_bad) (by simp[laidL]) gBad tyBad flat43 flatB (by simp)
  ·rw[if_neg h0] at hg;cases hg
noncomputable def laidWorld (os:Os):World :=
 let w0:=World.holding Tryd.prog os ⟨#[],#[],[]⟩
 { w0 with heap:=(w0.heap.modify 1 fun
  |.cells _ t frozen=>.cells #[.int .i64 (-1),.int .i64 0,.int .i64 0,.int .i64 0,.bool false] t frozen
  |o=>o).modify 0 fun
  |.cells _ t frozen=>.cells #[.int .i64 0,.int .i64 0,.int .i64 0,.int .i64 0,.bool true] t frozen
  |o=>o }
theorem laidWorld_met (os:Os) (args:Array Value):laidMet Tryd.prog laidL ((laidWorld os).forCall (fun _ _=>0) ⟨#[],args,[]⟩).memory :=
 laidMet_of_run' 8 (by kernel_rfl) (by kernel_rfl)
end Go.Proofs.YtpcpcjbbdgmohaaDoor
end
section
open Go Go.Pw Go.Proofs
namespace Go.Pw
set_option maxRecDepth 100000
set_option maxHeartbeats 1600000
def DI.okR (o:DI) (bl:Int):Bool:=Ky o.kind 1 4 && (Ky o.blk 0 (bl-1) && (o.puts || decide (o.blk=0)))
theorem au (o:DI) {bl:Int}(h:1<=bl):o.okR bl=o.ok bl:=by
 rw[Bool.eq_iff_iff]
 simp only[DI.okR,DI.ok,DI.puts,Ky,Bool.and_eq_true,Bool.or_eq_true,decide_eq_true_eq]
 omega
theorem NT {n a b:Int}:Ky n a b=true↔a<=n/\n<=b:=by simp[Ky]
theorem Zw (l:List DI) (p:DI->Bool):l.all p=!l.any fun o=>!p o:=by
 induction l with
 |nil=>rfl
 |cons x l ih=>simp only[List.all_cons,List.any_cons,ih];cases p x<;>simp
def Ue (c:A0) (x:List Int) (b:Nat):Bool :=
 let n:=x[b]?.getD 0
 decide (n=-1) || (decide (n=-2) || (Ky n 0 (c.ords.length-1) && ((c.ords[n.toNat]?.getD default).puts && decide ((c.ords[n.toNat]?.getD default).blk=(b:Int)))))
attribute [local congr] DP B9 B_ Bj DR Bn Bp Bo Bi BW BQ BF Bl BR BU Bm BV CC Cg BT CE CF CD CA CB B8 DQ B' Bk BS
attribute [local irreducible] IntKind.wrap CG Option.getD and or
theorem Ig (c:A0):D6 E0 Kd [Fu c] (.int .i64 c.check):=by
 refine Ap NJ A' (by simp) fun hwf=>?_
 have c1:=DV c.blocks 1 6
 rw[Av];unfold JH A0.check A0.ok
 cases hq:Ky c.blocks 1 6 with
 |false =>
  rw[hq] at c1
  (try (simp -implicitDefEqProofs only[go_sem,AP,AF,AG]));repeat' first|(with_reducible first|exact tI|refine aI ?_ ?_|intro _)|((first|with_reducible refine Ad ?_ ?_<;>intro _|(with_reducible refine isCall ?_);first|refine AH c1 ?_)<;>try (simp -implicitDefEqProofs only[go_sem,AP,AF,AG]))|simp (disch:=omega) only[A7]
  all_goals first|rfl|(simp;done)|skip
 |true =>
  rw[hq] at c1
  have hb:=NT.1 hq
  have c3:=Me c.on c.ords GM [.ptr [.fn FE [.ptr (Mb c)]]] (fun o=>!o.ok c.blocks) (by kernel_rfl) rfl (fun x hx=>Lr c x hb)
  rw[Zw]
  obtain⟨A,hA⟩:∃A,(c.ords.any fun o=>!o.ok c.blocks)=A:=⟨_,rfl⟩
  rw[hA] at c3 ⊢
  rw[AF] at c3
  by_cases hl:c.ords.length<=16
  ·have hl':¬(16:Int)<(c.ords.length:Int):=by omega
   cases A
   all_goals ((try (simp -implicitDefEqProofs only[go_sem,AP,AF,AG,hl']));repeat' first|(with_reducible first|exact tI|refine aI ?_ ?_|intro _)|((first|with_reducible refine Ad ?_ ?_<;>intro _|(with_reducible refine isCall ?_);first|refine AH c1 ?_|refine AH c3 ?_)<;>try (simp -implicitDefEqProofs only[go_sem,AP,AF,AG,hl']))|simp (disch:=omega) only[A7] )
   all_goals first|rfl|(simp[hl];done)|skip
  ·have hl':(16:Int)<(c.ords.length:Int):=by omega
   (try (simp -implicitDefEqProofs only[go_sem,AP,AF,AG,hl']));repeat' first|(with_reducible first|exact tI|refine aI ?_ ?_|intro _)|((first|with_reducible refine Ad ?_ ?_<;>intro _|(with_reducible refine isCall ?_);first|refine AH c1 ?_)<;>try (simp -implicitDefEqProofs only[go_sem,AP,AF,AG,hl']))|simp (disch:=omega) only[A7]
   all_goals first|rfl|(simp[hl];done)|skip
theorem IP (c:A0):D6 E0 KW [Fu c] (.int .i64 c.check):=by
 refine Ap NE A' (by simp) fun hwf=>?_
 have c1:=En c.blocks 1 6
 rw[Av];unfold JD
 by_cases hq:Ky c.blocks 1 6=true
 ·have hb:=NT.1 hq
  have w1:IntKind.i64.wrap (c.blocks-1)=c.blocks-1:=BN _ (by omega)
  rw[hq] at c1
  by_cases hl:c.ords.length<=16
  ·have hl':¬(16:Int)<(c.ords.length:Int):=by omega
   have hck:c.check=if c.ords.all fun o=>o.ok c.blocks then 0 else 80:=by
    unfold A0.check A0.ok;simp only[hq,decide_eq_true hl,Bool.true_and]
   rw[hck]
   (try (simp -implicitDefEqProofs only[go_sem,AP,AF,AG,hl']));repeat' first|(with_reducible first|exact tI|refine aI ?_ ?_|intro _)|((first|with_reducible refine Ad ?_ ?_<;>intro _|(with_reducible refine isCall ?_);first|refine AH c1 ?_)<;>try (simp -implicitDefEqProofs only[go_sem,AP,AF,AG,hl']))|simp (disch:=omega) only[A7]|((with_reducible refine BL ?_);refine⟨_,rfl,?_,?_⟩)
   all_goals first|omega|(simp<;>omega)|skip
   refine BZ (α:=Int) (l0:=?l1) (m0:=?m1) (fun x=>[(3,.d (.int .i64 x))]) (fun x=>[]) (fun x=>0<=x/\x<=c.ords.length/\∀(j:Nat) (hj:j<c.ords.length),(j:Int)<x->(c.ords[j]).ok c.blocks=true) (fun x=>(c.ords.length-x).toNat) ?a1_0 ?h01 ?he1 ?he21 ?hI1 ?step1
   case h01=>(simp -implicitDefEqProofs only[go_sem,AG];rfl)
   case he1=>rfl
   case he21=>rfl
   case' step1=>(rintro i hI;try dsimp only at hI)
   case' hI1=>try dsimp only
   ·refine⟨by omega,by omega,fun j hj h0=>by omega⟩
   ·obtain⟨h1,h2,h3⟩:=hI
    by_cases hi:i<c.ords.length
    ·have wi:IntKind.i64.wrap (i+1)=i+1:=BN _ (by omega)
     have hlt:i.toNat<c.ords.length:=by omega
     obtain⟨o,ho⟩:∃o,c.ords[i.toNat]?.getD default=o:=⟨_,rfl⟩
     have hoe:c.ords[i.toNat]=o:=by rw[←ho,List.getElem?_eq_getElem hlt,Option.getD_some]
     have e1:=au o hb.1
     have hbad:o.ok c.blocks=false->(c.ords.all fun o=>o.ok c.blocks)=false:=fun hf=>by
      rw[List.all_eq_false];exact⟨o,by rw[←hoe];exact List.getElem_mem hlt,by simp[hf]⟩
     have hgood:o.ok c.blocks=true->∀(j:Nat) (hj:j<c.ords.length),(j:Int)<i+1->(c.ords[j]).ok c.blocks=true:=fun hf j hj hji=>by
      by_cases hjk:j=i.toNat
      ·subst hjk;rw[hoe];exact hf
      ·exact h3 j hj (by omega)
     have c2:=En o.kind 1 4
     have c3:=En o.blk 0 (c.blocks-1)
     have c4:=Ge o
     unfold DI.okR at e1
     obtain⟨p2,hp2⟩:∃p,Ky o.kind 1 4=p:=⟨_,rfl⟩
     obtain⟨p3,hp3⟩:∃p,Ky o.blk 0 (c.blocks-1)=p:=⟨_,rfl⟩
     obtain⟨p4,hp4⟩:∃p,o.puts=p:=⟨_,rfl⟩
     rw[hp2] at c2 e1;rw[hp3] at c3 e1;rw[hp4] at c4 e1
     rw[Ag,Ah] at c4
     obtain⟨g,hg⟩:∃g,o.ok c.blocks=g:=⟨_,rfl⟩
     rw[hg] at e1 hbad hgood
     by_cases hz:o.blk=0
     ·rw[hz] at c3 c4
      rw[decide_eq_true hz] at e1
      cases p2<;>cases p3<;>cases p4
      all_goals (simp at e1;subst e1)
      all_goals ((try (simp -implicitDefEqProofs only[go_sem,AF,AG,A_,BA,Ag,Ah,ho,hz,w1,wi,hi]));repeat' first|(with_reducible first|exact tI|refine aI ?_ ?_|intro _)|((first|with_reducible refine Ad ?_ ?_<;>intro _|(with_reducible refine isCall ?_);first|refine AH c2 ?_|refine AH c3 ?_|refine AH c4 ?_)<;>try (simp -implicitDefEqProofs only[go_sem,AF,AG,A_,BA,Ag,Ah,ho,hz,w1,wi,hi]))|simp (disch:=omega) only[A7]|((with_reducible refine BL ?_);refine⟨_,rfl,?_,?_⟩))
      all_goals first|omega|(rw[hbad rfl];rfl)|exact⟨by omega,by omega,hgood rfl⟩|exact hgood rfl|exact hgood rfl _ _ (by assumption)|skip
     ·rw[decide_eq_false hz] at e1
      cases p2<;>cases p3<;>cases p4
      all_goals (simp at e1;subst e1)
      all_goals ((try (simp -implicitDefEqProofs only[go_sem,AF,AG,A_,BA,Ag,Ah,ho,hz,w1,wi,hi]));repeat' first|(with_reducible first|exact tI|refine aI ?_ ?_|intro _)|((first|with_reducible refine Ad ?_ ?_<;>intro _|(with_reducible refine isCall ?_);first|refine AH c2 ?_|refine AH c3 ?_|refine AH c4 ?_)<;>try (simp -implicitDefEqProofs only[go_sem,AF,AG,A_,BA,Ag,Ah,ho,hz,w1,wi,hi]))|simp (disch:=omega) only[A7]|((with_reducible refine BL ?_);refine⟨_,rfl,?_,?_⟩))
      all_goals first|omega|(rw[hbad rfl];rfl)|exact⟨by omega,by omega,hgood rfl⟩|exact hgood rfl|exact hgood rfl _ _ (by assumption)|skip
    ·have hall:(c.ords.all fun o=>o.ok c.blocks)=true:=by
      rw[List.all_eq_true];intro x hx;obtain⟨j,hj,rfl⟩:=List.getElem_of_mem hx;exact h3 j hj (by omega)
     rw[hall]
     (try (simp -implicitDefEqProofs only[go_sem,AG,hi,AF]));repeat' first|(with_reducible first|exact tI|refine aI ?_ ?_|intro _)|((first|with_reducible refine Ad ?_ ?_<;>intro _)<;>try (simp -implicitDefEqProofs only[go_sem,AG,hi,AF]))|simp (disch:=omega) only[A7]|((with_reducible refine BL ?_);refine⟨_,rfl,?_,?_⟩)
     all_goals first|omega|rfl|skip
  ·have hl':(16:Int)<(c.ords.length:Int):=by omega
   have hck:c.check=80:=by unfold A0.check A0.ok;rw[decide_eq_false hl];simp
   rw[hck]
   (try (simp -implicitDefEqProofs only[go_sem,AP,AF,AG,hl']));repeat' first|(with_reducible first|exact tI|refine aI ?_ ?_|intro _)|((first|with_reducible refine Ad ?_ ?_<;>intro _|(with_reducible refine isCall ?_);first|refine AH c1 ?_)<;>try (simp -implicitDefEqProofs only[go_sem,AP,AF,AG,hl']))|simp (disch:=omega) only[A7]|((with_reducible refine BL ?_);refine⟨_,rfl,?_,?_⟩)
   all_goals first|rfl|omega|skip
 ·have hq':Ky c.blocks 1 6=false:=by simpa using hq
  rw[hq'] at c1
  have hck:c.check=80:=by unfold A0.check A0.ok;rw[hq'];simp
  rw[hck]
  (try (simp -implicitDefEqProofs only[go_sem,AP,AF,AG]));repeat' first|(with_reducible first|exact tI|refine aI ?_ ?_|intro _)|((first|with_reducible refine Ad ?_ ?_<;>intro _|(with_reducible refine isCall ?_);first|refine AH c1 ?_)<;>try (simp -implicitDefEqProofs only[go_sem,AP,AF,AG]))|simp (disch:=omega) only[A7]|((with_reducible refine BL ?_);refine⟨_,rfl,?_,?_⟩)
  all_goals first|rfl|omega|skip
theorem O6 (c:A0):D6 E0 Mz [Fu c] (.bool c.far):=by
 refine Ap PB A' (by simp) fun hwf=>?_
 have c1:=IP c
 rw[AP,AF] at c1
 rw[Av];unfold LJ A0.far
 by_cases h1:40<c.ords.length
 ·have h1':(40:Int)<(c.ords.length:Int):=by omega
  rw[decide_eq_true h1]
  (try (simp -implicitDefEqProofs only[go_sem,AP,AF,AG,h1']));repeat' first|(with_reducible first|exact tI|refine aI ?_ ?_|intro _)|((first|with_reducible refine Ad ?_ ?_<;>intro _)<;>try (simp -implicitDefEqProofs only[go_sem,AP,AF,AG,h1']))|simp (disch:=omega) only[A7]
  all_goals first|rfl|(simp;done)|skip
 ·have h1':¬(40:Int)<(c.ords.length:Int):=by omega
  rw[decide_eq_false h1]
  unfold A0.check at c1
  cases hk:c.ok with
  |false =>
   rw[hk] at c1
   (try (simp -implicitDefEqProofs only[go_sem,AP,AF,AG,h1']));repeat' first|(with_reducible first|exact tI|refine aI ?_ ?_|intro _)|((first|with_reducible refine Ad ?_ ?_<;>intro _|(with_reducible refine isCall ?_);first|refine AH c1 ?_)<;>try (simp -implicitDefEqProofs only[go_sem,AP,AF,AG,h1']))|simp (disch:=omega) only[A7]
   all_goals first|rfl|(simp;done)|skip
  |true =>
   rw[hk] at c1
   simp only[if_true] at c1
   by_cases h3:3<c.blocks
   ·(try (simp -implicitDefEqProofs only[go_sem,AP,AF,AG,h1',h3]));repeat' first|(with_reducible first|exact tI|refine aI ?_ ?_|intro _)|((first|with_reducible refine Ad ?_ ?_<;>intro _|(with_reducible refine isCall ?_);first|refine AH c1 ?_)<;>try (simp -implicitDefEqProofs only[go_sem,AP,AF,AG,h1',h3]))|simp (disch:=omega) only[A7]
    all_goals first|rfl|(simp[h3];done)|skip
   ·by_cases h7:7<c.ords.length
    ·have h7':(7:Int)<(c.ords.length:Int):=by omega
     (try (simp -implicitDefEqProofs only[go_sem,AP,AF,AG,h1',h3,h7']));repeat' first|(with_reducible first|exact tI|refine aI ?_ ?_|intro _)|((first|with_reducible refine Ad ?_ ?_<;>intro _|(with_reducible refine isCall ?_);first|refine AH c1 ?_)<;>try (simp -implicitDefEqProofs only[go_sem,AP,AF,AG,h1',h3,h7']))|simp (disch:=omega) only[A7]
     all_goals first|rfl|(simp[h3,h7];done)|skip
    ·have h7':¬(7:Int)<(c.ords.length:Int):=by omega
     (try (simp -implicitDefEqProofs only[go_sem,AP,AF,AG,h1',h3,h7']));repeat' first|(with_reducible first|exact tI|refine aI ?_ ?_|intro _)|((first|with_reducible refine Ad ?_ ?_<;>intro _|(with_reducible refine isCall ?_);first|refine AH c1 ?_)<;>try (simp -implicitDefEqProofs only[go_sem,AP,AF,AG,h1',h3,h7']))|simp (disch:=omega) only[A7]
     all_goals first|rfl|(simp[h3,h7];done)|skip
end Go.Pw
end
section
open Go Go.Pw Go.Proofs
namespace Go.Pw
set_option maxRecDepth 100000
set_option maxHeartbeats 1600000
theorem dC {a:Int}(h0:0<=a) (h6:a<=6):a=0\/a=1\/a=2\/a=3\/a=4\/a=5\/a=6:=by omega
theorem cV (a:Int) (h0:0<=a) (h6:a<=6):CG .and .u64 a 4294967295=a:=by
 rcases dC h0 h6 with h|h|h|h|h|h|h<;>subst h<;>decide
theorem dk (a:Int) (h0:0<=a) (h6:a<=6):a.fdiv (2^min 32 IntKind.u64.bits)=0:=by
 rcases dC h0 h6 with h|h|h|h|h|h|h<;>subst h<;>decide
attribute [local congr] DP B9 B_ Bj DR Bn Bp Bo Bi BW BQ BF Bl BR BU Bm BV CC Cg BT CE CF CD CA CB B8 DQ B' Bk BS
attribute [local irreducible] IntKind.wrap CG Option.getD and or
theorem WR (n:Int) (h:1<=n/\n<=6):D6 E0 HO [.int .u64 1,.int .u64 n] (.tup [.int .u64 0,.int .u64 n]):=by
 refine Ap J6 A' (by simp) fun hwf=>?_
 rw[Av];unfold Gj
 rcases dC (by omega) h.2 with h|h|h|h|h|h|h<;>subst h
 ·omega
 all_goals ((try (simp -implicitDefEqProofs only[go_sem,cV,dk]));repeat' first|(with_reducible first|exact tI|refine aI ?_ ?_|intro _)|((first|with_reducible refine Ad ?_ ?_<;>intro _)<;>try (simp -implicitDefEqProofs only[go_sem,cV,dk]))|simp (disch:=omega) only[A7] )
 all_goals kernel_rfl
theorem Z1 (n:Int) (h:1<=n/\n<=6):D6 E0 Io [.int .u64 1,.int .u64 n] (.tup [.int .u64 0,.int .u64 n]):=by
 refine Ap Lg A' (by simp) fun hwf=>?_
 have c1:=WR n h
 rw[Av];unfold Ha
 (try (simp -implicitDefEqProofs only[go_sem]));repeat' first|(with_reducible first|exact tI|refine aI ?_ ?_|intro _)|((first|with_reducible refine Ad ?_ ?_<;>intro _|(with_reducible refine isCall ?_);first|refine AH c1 ?_)<;>try (simp -implicitDefEqProofs only[go_sem]))|simp (disch:=omega) only[A7]
 all_goals first|rfl|(simp;done)|skip
theorem Wx (v z:Int) (n k m:Nat) (hm:m<=k) (hk:k+m<=n):((List.replicate k v++List.replicate (n-k) z).take k++(List.replicate k v++List.replicate (n-k) z).take m)++(List.replicate k v++List.replicate (n-k) z).drop (k+m)=List.replicate (k+m) v++List.replicate (n-(k+m)) z:=by
 have e1:(List.replicate k v++List.replicate (n-k) z).take k=List.replicate k v:=by rw[List.take_append_of_le_length (by simp),List.take_of_length_le (by simp)]
 have e2:(List.replicate k v++List.replicate (n-k) z).take m=List.replicate m v:=by rw[List.take_append_of_le_length (by simpa using hm),List.take_replicate,Nat.min_eq_left hm]
 have e3:(List.replicate k v++List.replicate (n-k) z).drop (k+m)=List.replicate (n-(k+m)) z:=by
  rw[List.drop_append,List.drop_of_length_le (by simp),List.nil_append,List.length_replicate,List.drop_replicate]
  congr 1;omega
 rw[e1,e2,e3,List.replicate_append_replicate]
theorem UE (v n:Int) (h:1<=n/\n<=6):Ea E0 FU [] [.d (.list false [.int .i64 v]),.d (.int .i64 n)] [(30,0,.row 3 1 false (C6 (List.replicate n.toNat v)))] (.own 30 0):=by
 refine A6 G4 A' (by simp) (by simp[EG,AQ,BH]) (by simp[A3]) fun hwf hwo=>?_
 have c1:=Z1 n h
 have w1:IntKind.u64.wrap n=n:=WY _ (by omega)
 have w2:IntKind.i64.wrap n=n:=BN _ (by omega)
 have w3:IntKind.u64.wrap 1=1:=WY _ (by omega)
 have h1:¬n<0:=by omega
 have h2:¬(9223372036854775807:Int)<n:=by omega
 obtain⟨N,hN⟩:∃N,n.toNat=N:=⟨_,rfl⟩
 rw[BI];unfold E5
 rw[hN]
 (try (simp -implicitDefEqProofs only[go_sem,w1,w2,w3,h1,h2,hN,List.length_replicate]));repeat' first|(with_reducible first|exact tI|refine aI ?_ ?_|intro _)|((first|with_reducible refine Ad ?_ ?_<;>intro _|(with_reducible refine isCall ?_);first|refine AH c1 ?_)<;>try (simp -implicitDefEqProofs only[go_sem,w1,w2,w3,h1,h2,hN,List.length_replicate]))|simp (disch:=omega) only[A7]|((with_reducible refine BL ?_);refine⟨_,rfl,?_,?_⟩)
 all_goals first|omega|(simp<;>omega)|skip
 have e1:min 1 N=1:=by omega
 have e0:List.take N [D.int .i64 v]++C6 (List.drop 1 (List.replicate N 0))=C6 (v::List.replicate (N-1) 0):=by
  rw[List.take_of_length_le (by simp;omega),List.drop_replicate];rfl
 rw[e1,e0]
 refine BZ (α:=Nat) (l0:=?l1) (m0:=?m1) (fun x=>[(8,.d (.int .i64 (x:Int)))]) (fun x=>[(30,.row 3 1 false (C6 (List.replicate x v++List.replicate (N-x) 0)))]) (fun x=>1<=x/\x<=N) (fun x=>N-x) 1 ?h01 ?he1 ?he21 ?hI1 ?step1
 case h01=>(simp -implicitDefEqProofs only[go_sem];rfl)
 case he1=>rfl
 case he21=>rfl
 case' step1=>(rintro k hI;try dsimp only at hI)
 case' hI1=>try dsimp only
 ·exact⟨by omega,by omega⟩
 ·obtain⟨k1,k2⟩:=hI
  have hlen:(List.replicate k v++List.replicate (N-k) (0:Int)).length=N:=by simp;omega
  by_cases hk:k<N
  ·obtain⟨m,hm⟩:∃m,min k (N-k)=m:=⟨_,rfl⟩
   have hrt:=Wx v 0 N k m (by omega) (by omega)
   have hk':(k:Int)<(N:Int):=by omega
   have wk:IntKind.i64.wrap ((k:Int)+(m:Int))=((k+m:Nat):Int):=by rw[BN _ (by omega)];omega
   (try (simp -implicitDefEqProofs only[go_sem,hlen,hm,hrt,hk',wk,Int.toNat_natCast]));repeat' first|(with_reducible first|exact tI|refine aI ?_ ?_|intro _)|((first|with_reducible refine Ad ?_ ?_<;>intro _)<;>try (simp -implicitDefEqProofs only[go_sem,hlen,hm,hrt,hk',wk,Int.toNat_natCast]))|simp (disch:=omega) only[A7]|((with_reducible refine BL ?_);refine⟨_,rfl,?_,?_⟩)
   all_goals first|omega|(simp<;>omega)|skip
  ·have hk':¬(k:Int)<(N:Int):=by omega
   have hkN:k=N:=by omega
   subst hkN
   (try (simp -implicitDefEqProofs only[go_sem,Nat.sub_self,List.length_replicate,hk']));repeat' first|(with_reducible first|exact tI|refine aI ?_ ?_|intro _)|((first|with_reducible refine Ad ?_ ?_<;>intro _)<;>try (simp -implicitDefEqProofs only[go_sem,Nat.sub_self,List.length_replicate,hk']))|simp (disch:=omega) only[A7]|((with_reducible refine BL ?_);refine⟨_,rfl,?_,?_⟩)
   all_goals first|omega|(simp<;>omega)|skip
theorem E_ (n:Int):D6 E0 M1 [.int .i64 n] (.agg [.int .i64 n,.int .i64 n,.int .i64 n,.int .i64 n,.int .i64 n,.int .i64 n]):=by
 refine Ap PE A' (by simp) fun hwf=>?_
 rw[Av];unfold LL
 (try (simp -implicitDefEqProofs only[go_sem]));repeat' first|(with_reducible first|exact tI|refine aI ?_ ?_|intro _)|((first|with_reducible refine Ad ?_ ?_<;>intro _)<;>try (simp -implicitDefEqProofs only[go_sem]))|simp (disch:=omega) only[A7]|((with_reducible refine KM ?_);refine⟨(_,_,_,_,_,_,_),rfl,?_,?_⟩)
 all_goals first|omega|(simp<;>omega)|skip
 refine BZ (α:=Int×Int×Int×Int×Int×Int×Int) (l0:=?l2) (m0:=?m2) (fun x=>[(4,.d (.int .i64 x.1))]) (fun x=>[(2,.cells [.d (.int .i64 x.2.1),.d (.int .i64 x.2.2.1),.d (.int .i64 x.2.2.2.1),.d (.int .i64 x.2.2.2.2.1),.d (.int .i64 x.2.2.2.2.2.1),.d (.int .i64 x.2.2.2.2.2.2)])]) (fun x=>(0<=x.1/\x.1<=6)/\(0<x.1->x.2.1=n)/\(1<x.1->x.2.2.1=n)/\(2<x.1->x.2.2.2.1=n)/\(3<x.1->x.2.2.2.2.1=n)/\(4<x.1->x.2.2.2.2.2.1=n)/\(5<x.1->x.2.2.2.2.2.2=n)) (fun x=>(6-x.1).toNat) (?a2_0,?a2_1,?a2_2,?a2_3,?a2_4,?a2_5,?a2_6) ?h02 ?he2 ?he22 ?hI2 ?step2
 case h02=>(simp -implicitDefEqProofs only[go_sem];rfl)
 case he2=>rfl
 case he22=>rfl
 case' step2=>(rintro⟨i,a,b,c,d,e,f⟩ hI;try dsimp only at hI)
 case' hI2=>try dsimp only
 ·refine⟨⟨by omega,by omega⟩,?_,?_,?_,?_,?_,?_⟩<;>intro h<;>omega
 ·obtain⟨⟨h0,h6⟩,ha,hb,hc,hd,he,hf⟩:=hI
  have wi:IntKind.i64.wrap (i+1)=i+1:=BN _ (by omega)
  rcases dC h0 h6 with h|h|h|h|h|h|h<;>subst h
  all_goals ((try (simp -implicitDefEqProofs only[go_sem]));repeat' first|(with_reducible first|exact tI|refine aI ?_ ?_|intro _)|((first|with_reducible refine Ad ?_ ?_<;>intro _)<;>try (simp -implicitDefEqProofs only[go_sem]))|simp (disch:=omega) only[A7]|((with_reducible refine KM ?_);refine⟨(_,_,_,_,_,_,_),rfl,?_,?_⟩))
  all_goals first|omega|(simp_all;done)|skip
theorem Nz (c:A0) (hl:c.ords.length<=1000):D6 E0 L1 [Fu c] (Fu ⟨c.blocks,false,c.ords⟩):=by
 refine Ap OT A' (by simp) fun hwf=>?_
 simp only[Fm,FB,FA,El,GD,GC,IK,GB,Cy,DF,DG,FD,Di,List.length_map,Dn,true_and,and_true,AP,AF,AG] at hwf
 rw[Av];unfold KE
 (try (simp -implicitDefEqProofs only[go_sem,AP,AF,AG,BA]));repeat' first|(with_reducible first|exact tI|refine aI ?_ ?_|intro _)|((first|with_reducible refine Ad ?_ ?_<;>intro _)<;>try (simp -implicitDefEqProofs only[go_sem,AP,AF,AG,BA]))|simp (disch:=omega) only[A7]
 all_goals first|omega|rfl|(simp;done)|skip
theorem Nn (a b c d e f:Int):D6 E0 CW [.agg [.int .i64 a,.int .i64 b,.int .i64 c,.int .i64 d,.int .i64 e,.int .i64 f]] (.bool (decide ([a,b,c,d,e,f]=JL))):=by
 refine Ap H' A' (by simp) fun hwf=>?_
 have c1:=E_ (-3)
 rw[Av];unfold Fj JL
 by_cases h:a=-3/\b=-3/\c=-3/\d=-3/\e=-3/\f=-3
 ·obtain⟨rfl,rfl,rfl,rfl,rfl,rfl⟩:=h
  (try (simp -implicitDefEqProofs only[go_sem]));repeat' first|(with_reducible first|exact tI|refine aI ?_ ?_|intro _)|((first|with_reducible refine Ad ?_ ?_<;>intro _|(with_reducible refine isCall ?_);first|refine AH c1 ?_)<;>try (simp -implicitDefEqProofs only[go_sem]))|simp (disch:=omega) only[A7]
  all_goals first|rfl|(simp;done)|(simp_all;done)|skip
 ·(try (simp -implicitDefEqProofs only[go_sem]));repeat' first|(with_reducible first|exact tI|refine aI ?_ ?_|intro _)|((first|with_reducible refine Ad ?_ ?_<;>intro _|(with_reducible refine isCall ?_);first|refine AH c1 ?_)<;>try (simp -implicitDefEqProofs only[go_sem]))|simp (disch:=omega) only[A7]
  all_goals first|rfl|(simp;done)|(simp_all;done)|(exfalso;simp_all;done)|skip
theorem SF (a b c d e f:Int):D6 E0 Dd [.agg [.int .i64 a,.int .i64 b,.int .i64 c,.int .i64 d,.int .i64 e,.int .i64 f]] (.bool (decide ([a,b,c,d,e,f]≠JL))):=by
 refine Ap Hn A' (by simp) fun hwf=>?_
 have c1:=E_ (-3)
 rw[Av];unfold Fa JL
 by_cases h:a=-3/\b=-3/\c=-3/\d=-3/\e=-3/\f=-3
 ·obtain⟨rfl,rfl,rfl,rfl,rfl,rfl⟩:=h
  (try (simp -implicitDefEqProofs only[go_sem]));repeat' first|(with_reducible first|exact tI|refine aI ?_ ?_|intro _)|((first|with_reducible refine Ad ?_ ?_<;>intro _|(with_reducible refine isCall ?_);first|refine AH c1 ?_)<;>try (simp -implicitDefEqProofs only[go_sem]))|simp (disch:=omega) only[A7]
  all_goals first|rfl|(simp;done)|(simp_all;done)|skip
 ·(try (simp -implicitDefEqProofs only[go_sem]));repeat' first|(with_reducible first|exact tI|refine aI ?_ ?_|intro _)|((first|with_reducible refine Ad ?_ ?_<;>intro _|(with_reducible refine isCall ?_);first|refine AH c1 ?_)<;>try (simp -implicitDefEqProofs only[go_sem]))|simp (disch:=omega) only[A7]
  all_goals first|rfl|(simp;done)|(simp_all;done)|(exfalso;simp_all;done)|skip
end Go.Pw
end
section
open Go Go.Pw Go.Proofs
namespace Go.Pw
set_option maxRecDepth 100000
set_option maxHeartbeats 1600000
def J1 (c:A0):Nat->List Int
 |0=>List.replicate c.blocks.toNat (-1)
 |i+1=>if (c.ords[i]?.getD default).puts=true then (J1 c i).set (c.ords[i]?.getD default).blk.toNat i else J1 c i
theorem Ju (c:A0):∀i,(J1 c i).length=c.blocks.toNat
 |0=>by simp[J1]
 |i+1=>by rw[J1];split<;>simp[Ju c i]
theorem XJ (c:A0) (i:Int) (h:0<=i):J1 c (i+1).toNat=if (c.ords[i.toNat]?.getD default).puts=true then (J1 c i.toNat).set (c.ords[i.toNat]?.getD default).blk.toNat i else J1 c i.toNat:=by
 rw[show (i+1).toNat=i.toNat+1 by omega,J1,show ((i.toNat:Nat):Int)=i by omega]
theorem Rt {c:A0}(h:c.ok=true):c.check=0:=by unfold A0.check;rw[h];rfl
attribute [local congr] DP B9 B_ Bj DR Bn Bp Bo Bi BW BQ BF Bl BR BU Bm BV CC Cg BT CE CF CD CA CB B8 DQ B' Bk BS
attribute [local irreducible] IntKind.wrap CG Option.getD and or
theorem Ma (c:A0) (hc:c.ok=true):D6 E0 Jm [Fu c] (.list false (C6 (J1 c c.ords.length))):=by
 refine Ap MX A' (by simp) fun hwf=>?_
 have hb:=Ca hc
 have cR:=UE (-1) c.blocks ⟨hb.1,hb.2.1⟩
 have hlen:=Ju c
 rw[Av];unfold IZ
 (try (simp -implicitDefEqProofs only[go_sem,AP,AF,AG]));repeat' first|(with_reducible first|exact tI|refine aI ?_ ?_|intro _)|((first|with_reducible refine Ad ?_ ?_<;>intro _|(with_reducible refine isCall ?_);first|(refine Ak ([]) ([((30,0),(9,0))]) (cR) (by repeat' first|exact True.intro|exact rfl|refine And.intro ?_ ?_) (by simp[Handed,Ar.get,AI.ren,AV.ren,AV.ren.renL,AB.get,Af,Al,Ai,AB.reach,AV.sites,AV.sites.sitesL,AB.osites]) (by simp[AO,A3,AQ,Ar.get,Ai,BH,BJ,Aj,AX]) (by rfl) (by simp only[Au,Ar.get,AI.ren,AV.ren,AV.ren.renL,and_self,and_true,true_and,if_true,reduceIte];rfl) ?_))<;>try (simp -implicitDefEqProofs only[go_sem,AP,AF,AG]))|simp (disch:=omega) only[A7]|((with_reducible refine BL ?_);refine⟨_,rfl,?_,?_⟩)
 all_goals first|omega|(simp<;>omega)|skip
 refine BZ (α:=Int) (l0:=?l1) (m0:=?m1) (fun x=>[(13,.d (.int .i64 x))]) (fun x=>[(9,.row 3 1 false (C6 (J1 c x.toNat)))]) (fun x=>0<=x/\x<=c.ords.length) (fun x=>(c.ords.length-x).toNat) ?a1_0 ?h01 ?he1 ?he21 ?hI1 ?step1
 case h01=>(simp -implicitDefEqProofs only[go_sem,AG,J1];rfl)
 case he1=>rfl
 case he21=>rfl
 case' step1=>(rintro i hI;try dsimp only at hI)
 case' hI1=>try dsimp only
 ·exact⟨by omega,by omega⟩
 ·obtain⟨h1,h2⟩:=hI
  by_cases hi:i<c.ords.length
  ·have wi:IntKind.i64.wrap (i+1)=i+1:=BN _ (by omega)
   have hlt:i.toNat<c.ords.length:=by omega
   have hn:=XJ c i h1
   have hok:=Eu hc hlt
   obtain⟨o,ho⟩:∃o,c.ords[i.toNat]?.getD default=o:=⟨_,rfl⟩
   rw[ho] at hn hok
   have c2:=Ja o
   rw[Ag,Ah] at c2
   have hl:=hlen i.toNat
   have hbk:=LN hok
   obtain⟨p,hp⟩:∃p,o.puts=p:=⟨_,rfl⟩
   rw[hp] at c2 hn hbk
   cases p with
   |true =>
    have hbk':=hbk rfl
    simp only[if_true] at hn
    (try (simp -implicitDefEqProofs only[go_sem,AG,A_,BA,Ag,Ah,ho,wi,hi,hl,hn]));repeat' first|(with_reducible first|exact tI|refine aI ?_ ?_|intro _)|((first|with_reducible refine Ad ?_ ?_<;>intro _|(with_reducible refine isCall ?_);first|refine AH c2 ?_)<;>try (simp -implicitDefEqProofs only[go_sem,AG,A_,BA,Ag,Ah,ho,wi,hi,hl,hn]))|simp (disch:=omega) only[A7]|((with_reducible refine BL ?_);refine⟨_,rfl,?_,?_⟩)
    all_goals first|omega|(simp<;>omega)|skip
    exact⟨i+1,by rw[hn],⟨by omega,by omega⟩,by omega⟩
   |false =>
    simp only[Bool.false_eq_true,if_false] at hn
    (try (simp -implicitDefEqProofs only[go_sem,AG,A_,BA,Ag,Ah,ho,wi,hi,hl,hn]));repeat' first|(with_reducible first|exact tI|refine aI ?_ ?_|intro _)|((first|with_reducible refine Ad ?_ ?_<;>intro _|(with_reducible refine isCall ?_);first|refine AH c2 ?_)<;>try (simp -implicitDefEqProofs only[go_sem,AG,A_,BA,Ag,Ah,ho,wi,hi,hl,hn]))|simp (disch:=omega) only[A7]|((with_reducible refine BL ?_);refine⟨_,rfl,?_,?_⟩)
    all_goals first|omega|(simp<;>omega)|skip
    exact⟨i+1,by rw[hn],⟨by omega,by omega⟩,by omega⟩
  ·have hie:i.toNat=c.ords.length:=by omega
   (try (simp -implicitDefEqProofs only[go_sem,AG,hi,hie]));repeat' first|(with_reducible first|exact tI|refine aI ?_ ?_|intro _)|((first|with_reducible refine Ad ?_ ?_<;>intro _)<;>try (simp -implicitDefEqProofs only[go_sem,AG,hi,hie]))|simp (disch:=omega) only[A7]|((with_reducible refine BL ?_);refine⟨_,rfl,?_,?_⟩)
   all_goals first|omega|(simp<;>omega)|skip
theorem Hp (c:A0) (hc:c.ok=true):D6 E0 Gz [Fu c] (.tup [.list false (C6 (J1 c c.ords.length)),.int .i64 0]):=by
 refine Ap MY A' (by simp) fun hwf=>?_
 have c1:=Ig c
 have c2:=Ma c hc
 rw[Rt hc] at c1
 rw[AP,AF] at c1 c2
 rw[Av];unfold Ia
 (try (simp -implicitDefEqProofs only[go_sem,AP,AF,AG]));repeat' first|(with_reducible first|exact tI|refine aI ?_ ?_|intro _)|((first|with_reducible refine Ad ?_ ?_<;>intro _|(with_reducible refine isCall ?_);first|refine AH c1 ?_|refine AH c2 ?_)<;>try (simp -implicitDefEqProofs only[go_sem,AP,AF,AG]))|simp (disch:=omega) only[A7]
 all_goals first|rfl|skip
theorem LF (c:A0) (nl:Bool) (im:List Int) (hx:(im.length:Int)=c.blocks) (ho:c.ords.length<=1000) (hl:im.length<=1000) (hall:∀b,b<im.length->Ue c im b=true) :
  D6 E0 Im [Fu c,.list nl (C6 im)] (.bool true):=by
 refine Ap Lf A' (by simp) fun hwf=>?_
 rw[Av];unfold HZ
 have w1:IntKind.i64.wrap ((c.ords.length:Int)-1)=(c.ords.length:Int)-1:=BN _ (by omega)
 (try (simp -implicitDefEqProofs only[go_sem,AP,AF,AG]));repeat' first|(with_reducible first|exact tI|refine aI ?_ ?_|intro _)|((first|with_reducible refine Ad ?_ ?_<;>intro _)<;>try (simp -implicitDefEqProofs only[go_sem,AP,AF,AG]))|simp (disch:=omega) only[A7]|((with_reducible refine BL ?_);refine⟨_,rfl,?_,?_⟩)
 all_goals first|omega|(simp<;>omega)|skip
 refine BZ (α:=Int) (l0:=?l2) (m0:=?m2) (fun x=>[(5,.d (.int .i64 x))]) (fun x=>[]) (fun x=>0<=x/\x<=im.length) (fun x=>(im.length-x).toNat) ?a2_0 ?h02 ?he2 ?he22 ?hI2 ?step2
 case h02=>(simp -implicitDefEqProofs only[go_sem,AG];rfl)
 case he2=>rfl
 case he22=>rfl
 case' step2=>(rintro i hI;try dsimp only at hI)
 case' hI2=>try dsimp only
 ·exact⟨by omega,by omega⟩
 ·obtain⟨h1,h2⟩:=hI
  by_cases hi:i<im.length
  ·have hi':i<c.blocks:=by omega
   have wi:IntKind.i64.wrap (i+1)=i+1:=BN _ (by omega)
   have hA:=hall i.toNat (by omega)
   unfold Ue at hA
   obtain⟨n,hn⟩:∃n,im[i.toNat]?.getD 0=n:=⟨_,rfl⟩
   rw[hn] at hA
   simp only[Bool.or_eq_true,Bool.and_eq_true,decide_eq_true_eq] at hA
   by_cases k1:n=-1
   ·subst k1
    (try (simp -implicitDefEqProofs only[go_sem,AG,AF,hn,hi,hi',wi]));repeat' first|(with_reducible first|exact tI|refine aI ?_ ?_|intro _)|((first|with_reducible refine Ad ?_ ?_<;>intro _)<;>try (simp -implicitDefEqProofs only[go_sem,AG,AF,hn,hi,hi',wi]))|simp (disch:=omega) only[A7]|((with_reducible refine BL ?_);refine⟨_,rfl,?_,?_⟩)
    all_goals first|omega|(simp<;>omega)|skip
   by_cases k2:n=-2
   ·subst k2
    (try (simp -implicitDefEqProofs only[go_sem,AG,AF,hn,hi,hi',wi]));repeat' first|(with_reducible first|exact tI|refine aI ?_ ?_|intro _)|((first|with_reducible refine Ad ?_ ?_<;>intro _)<;>try (simp -implicitDefEqProofs only[go_sem,AG,AF,hn,hi,hi',wi]))|simp (disch:=omega) only[A7]|((with_reducible refine BL ?_);refine⟨_,rfl,?_,?_⟩)
    all_goals first|omega|(simp<;>omega)|skip
   obtain⟨k3,k4,k5⟩:=(hA.resolve_left k1).resolve_left k2
   have k6:=NT.1 k3
   have c1:=En n 0 ((c.ords.length:Int)-1)
   rw[k3] at c1
   obtain⟨o,hoo⟩:∃o,c.ords[n.toNat]?.getD default=o:=⟨_,rfl⟩
   rw[hoo] at k4 k5
   have c2:=Ge o
   rw[Ag,Ah,k4] at c2
   have k7:o.blk=i:=by omega
   rw[k7] at c2
   have hnl:n<c.ords.length:=by omega
   (try (simp -implicitDefEqProofs only[go_sem,AG,AF,A_,BA,Ag,Ah,hoo,hn,hi,hi',wi,w1,k1,k2,k7,hnl]));repeat' first|(with_reducible first|exact tI|refine aI ?_ ?_|intro _)|((first|with_reducible refine Ad ?_ ?_<;>intro _|(with_reducible refine isCall ?_);first|refine AH c1 ?_|refine AH c2 ?_)<;>try (simp -implicitDefEqProofs only[go_sem,AG,AF,A_,BA,Ag,Ah,hoo,hn,hi,hi',wi,w1,k1,k2,k7,hnl]))|simp (disch:=omega) only[A7]|((with_reducible refine BL ?_);refine⟨_,rfl,?_,?_⟩)
   all_goals first|omega|(simp<;>omega)|skip
  ·(try (simp -implicitDefEqProofs only[go_sem,AG,AF,hi,hx]));repeat' first|(with_reducible first|exact tI|refine aI ?_ ?_|intro _)|((first|with_reducible refine Ad ?_ ?_<;>intro _)<;>try (simp -implicitDefEqProofs only[go_sem,AG,AF,hi,hx]))|simp (disch:=omega) only[A7]|((with_reducible refine BL ?_);refine⟨_,rfl,?_,?_⟩)
   all_goals first|omega|(simp<;>omega)|skip
end Go.Pw
end
section
open Go Go.Pw Go.Proofs
namespace Go.Pw
set_option maxRecDepth 100000
set_option maxHeartbeats 3200000
def O1 (r:List Int):D:=.agg (C6 r)
def Cq (l:List (List Int)):List D:=l.map O1
theorem Ck (r:List Int):O1 r=.agg (C6 r):=rfl
theorem AZ (l:List (List Int)):(Cq l).length=l.length:=by simp[Cq]
theorem AW {l:List (List Int)}{i:Nat}{A:D->Prop}:Bc (Cq l)[i]? A=(i<l.length/\A (O1 (l[i]?.getD []))):=FF
theorem CM (l:List (List Int)) (i:Nat) (r:List Int):(Cq l).set i (.agg (C6 r))=Cq (l.set i r):=by simp[Cq,O1,List.map_set]
def Bg.m (s:Bg) (i:Nat):Int:=s.med[i]?.getD 0
structure Bg.Ok (s:Bg):Prop where
 ml:s.med.length=6
 el:∀r,r∈s.eps->r.length=6
def Cp (s:Bg) (q p:Nat):List AV:=[.d (.int .i64 (s.m 0)),.d (.int .i64 (s.m 1)),.d (.int .i64 (s.m 2)),.d (.int .i64 (s.m 3)),.d (.int .i64 (s.m 4)),.d (.int .i64 (s.m 5)),.own q p,.d (.int .i64 s.wr)]
def J0 (s:Bg) (q:Nat):List (Nat×Nat×AI):=[(900000,0,.cells (Cp s q 0)),(q,0,.row 103 6 false (Cq s.eps))]
theorem Qe {r:List Int}(h:r.length=6):∃a b c d e f,r=[a,b,c,d,e,f]:=by
 match r,h with
 |[a,b,c,d,e,f],_=>exact⟨a,b,c,d,e,f,rfl⟩
theorem Ye {b:Nat}(h:b<6):b=0\/b=1\/b=2\/b=3\/b=4\/b=5:=by omega
theorem Pr {s:Bg}{b:Nat}{v W:Int}{E:List (List Int)}(hm:s.med.length=6) (hb:b<6) (i:Nat):(Bg.mk (s.med.set b v) E W).m i=if b=i then v else s.m i:=by
 unfold Bg.m;exact DN (by omega)
theorem HU {s:Bg}{e b:Nat}(h:s.ent e b=-3):s.write e b=s:=by unfold Bg.write;rw[if_pos h]
attribute [local congr] DP B9 B_ Bj DR Bn Bp Bo Bi BW BQ BF Bl BR BU Bm BV CC Cg BT CE CF CD CA CB B8 DQ B' Bk BS
attribute [local irreducible] IntKind.wrap CG Option.getD and or
theorem Mn (s:Bg) (q:Nat) (hq:q=901000) (hne:1<=s.eps.length) (hl:s.eps.length<=1000):Ea E0 Fl (J0 s q) [.ptr 900000 0 0] (J0 s q) (.rptr q 0 6 s.last 0):=by
 subst hq
 unfold J0 Cp
 refine A6 Ho A' (by simp) (by simp[EG,AQ,BH,AI.isHist]) (by simp[A3]) fun hwf hwo=>?_
 have w1:IntKind.i64.wrap ((s.eps.length:Int)-1)=((s.last:Nat):Int):=by rw[BN _ (by omega)];unfold Bg.last;omega
 have hl':s.last<s.eps.length:=by unfold Bg.last;omega
 rw[BI];unfold Fb
 (try (simp -implicitDefEqProofs only[go_sem,AZ,w1,Int.toNat_natCast]));repeat' first|(with_reducible first|exact tI|refine aI ?_ ?_|intro _)|((first|with_reducible refine Ad ?_ ?_<;>intro _)<;>try (simp -implicitDefEqProofs only[go_sem,AZ,w1,Int.toNat_natCast]))|simp (disch:=omega) only[A7]
 all_goals first|omega|rfl|skip
theorem FQ (s:Bg) (hs:s.Ok) (e b:Nat) (he:e<s.eps.length) (hb:b<6):Ea E0 GQ (J0 s 901000) [.ptr 900000 0 0,.d (.int .i64 (e:Int)),.d (.int .i64 (b:Int))] (J0 (s.write e b) 901000) (.tup []):=by
 unfold J0 Cp
 refine A6 Iw A' (by simp) (by simp[EG,AQ,BH,AI.isHist]) (by simp[A3]) fun hwf hwo=>?_
 have hr0:=hs.el _ (Cz he)
 obtain⟨r,hr⟩:∃r,s.eps[e]?.getD []=r:=⟨_,rfl⟩
 rw[hr] at hr0
 obtain⟨r0,r1,r2,r3,r4,r5,rfl⟩:=Qe hr0
 have he':(e:Int)<(s.eps.length:Int):=by omega
 rw[BI];unfold Fz
 have hm:=hs.ml
 rcases Ye hb with h|h|h|h|h|h<;>subst h
 ·have hent:s.ent e 0=r0:=by unfold Bg.ent;rw[hr];simp
  by_cases hv:r0=-3
  ·subst hv
   rw[HU hent]
   (try (simp -implicitDefEqProofs only[go_sem,AZ,AW,hr,Ck,he,he',Int.toNat_natCast,Option.getD_some]));repeat' first|(with_reducible first|exact tI|refine aI ?_ ?_|intro _)|((first|with_reducible refine Ad ?_ ?_<;>intro _)<;>try (simp -implicitDefEqProofs only[go_sem,AZ,AW,hr,Ck,he,he',Int.toNat_natCast,Option.getD_some]))|simp (disch:=omega) only[A7]
   all_goals first|omega|rfl|skip
  ·have hw:s.write e 0=⟨s.med.set 0 r0,s.eps.set e [-3,r1,r2,r3,r4,r5],IntKind.i64.wrap (s.wr+1)⟩:=by unfold Bg.write;rw[hent,if_neg hv,hr];rfl
   have hms:=fun i=>Pr (s:=s) (b:=0) (v:=r0) (E:=s.eps.set e [-3,r1,r2,r3,r4,r5]) (W:=IntKind.i64.wrap (s.wr+1)) hm (by omega) i
   rw[hw]
   (try (simp -implicitDefEqProofs only[go_sem,AZ,AW,hr,Ck,he,he',hv,Int.toNat_natCast,Option.getD_some,hms]));repeat' first|(with_reducible first|exact tI|refine aI ?_ ?_|intro _)|((first|with_reducible refine Ad ?_ ?_<;>intro _)<;>try (simp -implicitDefEqProofs only[go_sem,AZ,AW,hr,Ck,he,he',hv,Int.toNat_natCast,Option.getD_some,hms]))|simp (disch:=omega) only[A7]
   all_goals first|omega|rfl|exact .inr True.intro|exact CM _ _ _|(rw[←CM];rfl)|skip
 ·have hent:s.ent e 1=r1:=by unfold Bg.ent;rw[hr];simp
  by_cases hv:r1=-3
  ·subst hv
   rw[HU hent]
   (try (simp -implicitDefEqProofs only[go_sem,AZ,AW,hr,Ck,he,he',Int.toNat_natCast,Option.getD_some]));repeat' first|(with_reducible first|exact tI|refine aI ?_ ?_|intro _)|((first|with_reducible refine Ad ?_ ?_<;>intro _)<;>try (simp -implicitDefEqProofs only[go_sem,AZ,AW,hr,Ck,he,he',Int.toNat_natCast,Option.getD_some]))|simp (disch:=omega) only[A7]
   all_goals first|omega|rfl|skip
  ·have hw:s.write e 1=⟨s.med.set 1 r1,s.eps.set e [r0,-3,r2,r3,r4,r5],IntKind.i64.wrap (s.wr+1)⟩:=by unfold Bg.write;rw[hent,if_neg hv,hr];rfl
   have hms:=fun i=>Pr (s:=s) (b:=1) (v:=r1) (E:=s.eps.set e [r0,-3,r2,r3,r4,r5]) (W:=IntKind.i64.wrap (s.wr+1)) hm (by omega) i
   rw[hw]
   (try (simp -implicitDefEqProofs only[go_sem,AZ,AW,hr,Ck,he,he',hv,Int.toNat_natCast,Option.getD_some,hms]));repeat' first|(with_reducible first|exact tI|refine aI ?_ ?_|intro _)|((first|with_reducible refine Ad ?_ ?_<;>intro _)<;>try (simp -implicitDefEqProofs only[go_sem,AZ,AW,hr,Ck,he,he',hv,Int.toNat_natCast,Option.getD_some,hms]))|simp (disch:=omega) only[A7]
   all_goals first|omega|rfl|exact .inr True.intro|exact CM _ _ _|(rw[←CM];rfl)|skip
 ·have hent:s.ent e 2=r2:=by unfold Bg.ent;rw[hr];simp
  by_cases hv:r2=-3
  ·subst hv
   rw[HU hent]
   (try (simp -implicitDefEqProofs only[go_sem,AZ,AW,hr,Ck,he,he',Int.toNat_natCast,Option.getD_some]));repeat' first|(with_reducible first|exact tI|refine aI ?_ ?_|intro _)|((first|with_reducible refine Ad ?_ ?_<;>intro _)<;>try (simp -implicitDefEqProofs only[go_sem,AZ,AW,hr,Ck,he,he',Int.toNat_natCast,Option.getD_some]))|simp (disch:=omega) only[A7]
   all_goals first|omega|rfl|skip
  ·have hw:s.write e 2=⟨s.med.set 2 r2,s.eps.set e [r0,r1,-3,r3,r4,r5],IntKind.i64.wrap (s.wr+1)⟩:=by unfold Bg.write;rw[hent,if_neg hv,hr];rfl
   have hms:=fun i=>Pr (s:=s) (b:=2) (v:=r2) (E:=s.eps.set e [r0,r1,-3,r3,r4,r5]) (W:=IntKind.i64.wrap (s.wr+1)) hm (by omega) i
   rw[hw]
   (try (simp -implicitDefEqProofs only[go_sem,AZ,AW,hr,Ck,he,he',hv,Int.toNat_natCast,Option.getD_some,hms]));repeat' first|(with_reducible first|exact tI|refine aI ?_ ?_|intro _)|((first|with_reducible refine Ad ?_ ?_<;>intro _)<;>try (simp -implicitDefEqProofs only[go_sem,AZ,AW,hr,Ck,he,he',hv,Int.toNat_natCast,Option.getD_some,hms]))|simp (disch:=omega) only[A7]
   all_goals first|omega|rfl|exact .inr True.intro|exact CM _ _ _|(rw[←CM];rfl)|skip
 ·have hent:s.ent e 3=r3:=by unfold Bg.ent;rw[hr];simp
  by_cases hv:r3=-3
  ·subst hv
   rw[HU hent]
   (try (simp -implicitDefEqProofs only[go_sem,AZ,AW,hr,Ck,he,he',Int.toNat_natCast,Option.getD_some]));repeat' first|(with_reducible first|exact tI|refine aI ?_ ?_|intro _)|((first|with_reducible refine Ad ?_ ?_<;>intro _)<;>try (simp -implicitDefEqProofs only[go_sem,AZ,AW,hr,Ck,he,he',Int.toNat_natCast,Option.getD_some]))|simp (disch:=omega) only[A7]
   all_goals first|omega|rfl|skip
  ·have hw:s.write e 3=⟨s.med.set 3 r3,s.eps.set e [r0,r1,r2,-3,r4,r5],IntKind.i64.wrap (s.wr+1)⟩:=by unfold Bg.write;rw[hent,if_neg hv,hr];rfl
   have hms:=fun i=>Pr (s:=s) (b:=3) (v:=r3) (E:=s.eps.set e [r0,r1,r2,-3,r4,r5]) (W:=IntKind.i64.wrap (s.wr+1)) hm (by omega) i
   rw[hw]
   (try (simp -implicitDefEqProofs only[go_sem,AZ,AW,hr,Ck,he,he',hv,Int.toNat_natCast,Option.getD_some,hms]));repeat' first|(with_reducible first|exact tI|refine aI ?_ ?_|intro _)|((first|with_reducible refine Ad ?_ ?_<;>intro _)<;>try (simp -implicitDefEqProofs only[go_sem,AZ,AW,hr,Ck,he,he',hv,Int.toNat_natCast,Option.getD_some,hms]))|simp (disch:=omega) only[A7]
   all_goals first|omega|rfl|exact .inr True.intro|exact CM _ _ _|(rw[←CM];rfl)|skip
 ·have hent:s.ent e 4=r4:=by unfold Bg.ent;rw[hr];simp
  by_cases hv:r4=-3
  ·subst hv
   rw[HU hent]
   (try (simp -implicitDefEqProofs only[go_sem,AZ,AW,hr,Ck,he,he',Int.toNat_natCast,Option.getD_some]));repeat' first|(with_reducible first|exact tI|refine aI ?_ ?_|intro _)|((first|with_reducible refine Ad ?_ ?_<;>intro _)<;>try (simp -implicitDefEqProofs only[go_sem,AZ,AW,hr,Ck,he,he',Int.toNat_natCast,Option.getD_some]))|simp (disch:=omega) only[A7]
   all_goals first|omega|rfl|skip
  ·have hw:s.write e 4=⟨s.med.set 4 r4,s.eps.set e [r0,r1,r2,r3,-3,r5],IntKind.i64.wrap (s.wr+1)⟩:=by unfold Bg.write;rw[hent,if_neg hv,hr];rfl
   have hms:=fun i=>Pr (s:=s) (b:=4) (v:=r4) (E:=s.eps.set e [r0,r1,r2,r3,-3,r5]) (W:=IntKind.i64.wrap (s.wr+1)) hm (by omega) i
   rw[hw]
   (try (simp -implicitDefEqProofs only[go_sem,AZ,AW,hr,Ck,he,he',hv,Int.toNat_natCast,Option.getD_some,hms]));repeat' first|(with_reducible first|exact tI|refine aI ?_ ?_|intro _)|((first|with_reducible refine Ad ?_ ?_<;>intro _)<;>try (simp -implicitDefEqProofs only[go_sem,AZ,AW,hr,Ck,he,he',hv,Int.toNat_natCast,Option.getD_some,hms]))|simp (disch:=omega) only[A7]
   all_goals first|omega|rfl|exact .inr True.intro|exact CM _ _ _|(rw[←CM];rfl)|skip
 ·have hent:s.ent e 5=r5:=by unfold Bg.ent;rw[hr];simp
  by_cases hv:r5=-3
  ·subst hv
   rw[HU hent]
   (try (simp -implicitDefEqProofs only[go_sem,AZ,AW,hr,Ck,he,he',Int.toNat_natCast,Option.getD_some]));repeat' first|(with_reducible first|exact tI|refine aI ?_ ?_|intro _)|((first|with_reducible refine Ad ?_ ?_<;>intro _)<;>try (simp -implicitDefEqProofs only[go_sem,AZ,AW,hr,Ck,he,he',Int.toNat_natCast,Option.getD_some]))|simp (disch:=omega) only[A7]
   all_goals first|omega|rfl|skip
  ·have hw:s.write e 5=⟨s.med.set 5 r5,s.eps.set e [r0,r1,r2,r3,r4,-3],IntKind.i64.wrap (s.wr+1)⟩:=by unfold Bg.write;rw[hent,if_neg hv,hr];rfl
   have hms:=fun i=>Pr (s:=s) (b:=5) (v:=r5) (E:=s.eps.set e [r0,r1,r2,r3,r4,-3]) (W:=IntKind.i64.wrap (s.wr+1)) hm (by omega) i
   rw[hw]
   (try (simp -implicitDefEqProofs only[go_sem,AZ,AW,hr,Ck,he,he',hv,Int.toNat_natCast,Option.getD_some,hms]));repeat' first|(with_reducible first|exact tI|refine aI ?_ ?_|intro _)|((first|with_reducible refine Ad ?_ ?_<;>intro _)<;>try (simp -implicitDefEqProofs only[go_sem,AZ,AW,hr,Ck,he,he',hv,Int.toNat_natCast,Option.getD_some,hms]))|simp (disch:=omega) only[A7]
   all_goals first|omega|rfl|exact .inr True.intro|exact CM _ _ _|(rw[←CM];rfl)|skip
end Go.Pw
end
