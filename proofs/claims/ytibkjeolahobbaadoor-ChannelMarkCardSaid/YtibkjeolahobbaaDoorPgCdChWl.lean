/- A part of the proof. -/
import Derived.Test.YtibkjeolahobbaaDoorRows
import Derived.Test.YtibkjeolahobbaaDoorTie
import Derived.Test.YtibkjeolahobbaaDoorCards
import Derived.SevenTiedAt
import Derived.LaidLaws
import Derived.Test.YtibkjeolahobbaaDoorCdPC
import Derived.Test.YtibkjeolahobbaaDoorCdChTy
set_option linter.all false
section
namespace Go.Proofs.YtibkjeolahobbaaDoor
open Go.ChangeShapes Go.WideShapes Go.ChangeAt Go.RowKit Go.Pw
theorem own:ownKnob Tryd.prog.godebug=.none:=by kernel_rfl
theorem laidOut:laidOutB Tryd.prog=true:=by kernel_rfl
abbrev laidL:List (String×DataW Unit) := [("platter/correct.powers",Rows.laid_platter_correct_powers),("platter/correct.logs",Rows.laid_platter_correct_logs)]
theorem gEmpty : Tryd.prog.globalNamed "platter/correct.powers"=some 1:=by kernel_rfl
theorem gBad : Tryd.prog.globalNamed "platter/correct.logs"=some 0:=by kernel_rfl
theorem tyEmpty:(Tryd.prog.globals[1]?).map (·.type)=some 122:=by kernel_rfl
theorem tyBad:(Tryd.prog.globals[0]?).map (·.type)=some 121:=by kernel_rfl
theorem flat121:PA Tryd.prog 20 121=true:=by kernel_rfl
theorem flat122:PA Tryd.prog 20 122=true:=by kernel_rfl
theorem flatE:NL 20 Rows.laid_platter_correct_powers=some [.int .u8 1,.int .u8 2,.int .u8 4,.int .u8 8,.int .u8 3,.int .u8 6,.int .u8 12,.int .u8 11,.int .u8 5,.int .u8 10,.int .u8 7,.int .u8 14,.int .u8 15,.int .u8 13,.int .u8 9]:=by kernel_rfl
theorem flatB:NL 20 Rows.laid_platter_correct_logs=some [.int .i64 0,.int .i64 0,.int .i64 1,.int .i64 4,.int .i64 2,.int .i64 8,.int .i64 5,.int .i64 10,.int .i64 3,.int .i64 14,.int .i64 9,.int .i64 7,.int .i64 6,.int .i64 13,.int .i64 11,.int .i64 12]:=by kernel_rfl
theorem laid_ok {W:World}(h:laidMet Tryd.prog laidL W):a5 E0 W fun _=>False:=by
 intro g cs hg
 change G0 g=some cs at hg
 unfold G0 at hg
 by_cases h1:g=1
 ·subst h1
  simp at hg;subst hg
  exact VB h (n := "platter/correct.powers") (d:=Rows.laid_platter_correct_powers) (by simp[laidL]) gEmpty tyEmpty flat122 flatE (by simp)
 ·rw[if_neg h1] at hg
  by_cases h0:g=0
  ·subst h0
   simp at hg;subst hg
   exact VB h (n := "platter/correct.logs") (d:=Rows.laid_platter_correct_logs) (by simp[laidL]) gBad tyBad flat121 flatB (by simp)
  ·rw[if_neg h0] at hg;cases hg
noncomputable def laidWorld (os:Os):World :=
 let w0:=World.holding Tryd.prog os ⟨#[],#[],[]⟩
 { w0 with heap:=(w0.heap.modify 1 fun
  |.cells _ t frozen=>.cells #[.int .u8 1,.int .u8 2,.int .u8 4,.int .u8 8,.int .u8 3,.int .u8 6,.int .u8 12,.int .u8 11,.int .u8 5,.int .u8 10,.int .u8 7,.int .u8 14,.int .u8 15,.int .u8 13,.int .u8 9] t frozen
  |o=>o).modify 0 fun
  |.cells _ t frozen=>.cells #[.int .i64 0,.int .i64 0,.int .i64 1,.int .i64 4,.int .i64 2,.int .i64 8,.int .i64 5,.int .i64 10,.int .i64 3,.int .i64 14,.int .i64 9,.int .i64 7,.int .i64 6,.int .i64 13,.int .i64 11,.int .i64 12] t frozen
  |o=>o }
theorem laidWorld_met (os:Os) (args:Array Value):laidMet Tryd.prog laidL ((laidWorld os).forCall (fun _ _=>0) ⟨#[],args,[]⟩).memory :=
 laidMet_of_run' 8 (by kernel_rfl) (by kernel_rfl)
end Go.Proofs.YtibkjeolahobbaaDoor
end
section
namespace Go.Pw
def j_:Ty:=.str [.list (.int .i64),.int .i64,.list (.int .i64)]
def jm:Ty:=.str [.list (.int .i64),.list (.int .i64),.list (.int .i64),.int .i64]
theorem WO {x:D}(h:Mj j_ x):∃n1 l1 f n3 l3,x=.agg [.list n1 (Al l1),.int .i64 f,.list n3 (Al l3)]:=by
 obtain⟨h,hx⟩:=h
 obtain⟨_,_,e1,h1,h⟩:=Ba h
 obtain⟨_,_,e2,h2,h⟩:=Ba h
 obtain⟨_,_,e3,h3,h⟩:=Ba h
 obtain rfl:=GC h
 obtain⟨n1,l1,rfl⟩:=Dh h1
 obtain⟨f,rfl⟩:=DP h2
 obtain⟨n3,l3,rfl⟩:=Dh h3
 subst e3 e2
 rw[e1] at hx
 exact⟨n1,l1,f,n3,l3,hx⟩
theorem WM {x:D}(h:Mj jm x):∃n1 l1 n2 l2 n3 l3 f,x=.agg [.list n1 (Al l1),.list n2 (Al l2),.list n3 (Al l3),.int .i64 f]:=by
 obtain⟨h,hx⟩:=h
 obtain⟨_,_,e1,h1,h⟩:=Ba h
 obtain⟨_,_,e2,h2,h⟩:=Ba h
 obtain⟨_,_,e3,h3,h⟩:=Ba h
 obtain⟨_,_,e4,h4,h⟩:=Ba h
 obtain rfl:=GC h
 obtain⟨n1,l1,rfl⟩:=Dh h1
 obtain⟨n2,l2,rfl⟩:=Dh h2
 obtain⟨n3,l3,rfl⟩:=Dh h3
 obtain⟨f,rfl⟩:=DP h4
 subst e4 e3 e2
 rw[e1] at hx
 exact⟨n1,l1,n2,l2,n3,l3,f,hx⟩
end Go.Pw
end
