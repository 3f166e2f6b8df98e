/- Part. -/
import Derived.Test.YtmdklgapccickaaGreatDoorRows
import Derived.Test.YtmdklgapccickaaGreatDoorTie
import Derived.Test.YtmdklgapccickaaGreatDoorCards
import Derived.SevenTiedAt
import Derived.LaidLaws
import Derived.Test.YtmdklgapccickaaGreatDoorMvPC
import Derived.Test.YtmdklgapccickaaGreatDoorMvTy
set_option linter.all false
namespace Go.Proofs.YtmdklgapccickaaGreatDoor
open Go.ChangeShapes Go.WideShapes Go.ChangeAt Go.RowKit Go.Pw
theorem own:ownKnob Tryz.prog.godebug=.none:=by kernel_rfl
theorem laidOut:laidOutB Tryz.prog=true:=by kernel_rfl
abbrev laidL:List (String×DataW Unit) := [("platter/correct.powers",Rows.laid_platter_correct_powers),("platter/correct.logs",Rows.laid_platter_correct_logs)]
theorem gEmpty : Tryz.prog.globalNamed "platter/correct.powers"=some 1:=by kernel_rfl
theorem gBad : Tryz.prog.globalNamed "platter/correct.logs"=some 0:=by kernel_rfl
theorem tyEmpty:(Tryz.prog.globals[1]?).map (·.type)=some 200:=by kernel_rfl
theorem tyBad:(Tryz.prog.globals[0]?).map (·.type)=some 199:=by kernel_rfl
theorem flat199:Th Tryz.prog 20 199=true:=by kernel_rfl
theorem flat200:Th Tryz.prog 20 200=true:=by kernel_rfl
theorem flatE:RI 20 Rows.laid_platter_correct_powers=some [.int .u8 1,.int .u8 2,.int .u8 4,.int .u8 8,.int .u8 3,.int .u8 6,.int .u8 12,.int .u8 11,.int .u8 5,.int .u8 10,.int .u8 7,.int .u8 14,.int .u8 15,.int .u8 13,.int .u8 9]:=by kernel_rfl
theorem flatB:RI 20 Rows.laid_platter_correct_logs=some [.int .i64 0,.int .i64 0,.int .i64 1,.int .i64 4,.int .i64 2,.int .i64 8,.int .i64 5,.int .i64 10,.int .i64 3,.int .i64 14,.int .i64 9,.int .i64 7,.int .i64 6,.int .i64 13,.int .i64 11,.int .i64 12]:=by kernel_rfl
theorem laid_ok{W:World}(h:laidMet Tryz.prog laidL W):mn E0 W fun _=>False:=by
 intro g cs hg;change G0 g=some cs at hg;unfold G0 at hg
 by_cases h1:g=1
 ·subst h1;simp at hg;subst hg;exact bv h (n := "platter/correct.powers") (d:=Rows.laid_platter_correct_powers) (by simp[laidL]) gEmpty tyEmpty flat200 flatE (by simp)
 ·rw[if_neg h1]at hg
  by_cases h0:g=0
  ·subst h0;simp at hg;subst hg;exact bv h (n := "platter/correct.logs") (d:=Rows.laid_platter_correct_logs) (by simp[laidL]) gBad tyBad flat199 flatB (by simp)
  ·rw[if_neg h0]at hg;cases hg
noncomputable def laidWorld(os:Os):World :=
 let w0:=World.holding Tryz.prog os ⟨#[],#[],[]⟩
 { w0 with heap:=(w0.heap.modify 1 fun
  |.cells _ t frozen=>.cells #[.int .u8 1,.int .u8 2,.int .u8 4,.int .u8 8,.int .u8 3,.int .u8 6,.int .u8 12,.int .u8 11,.int .u8 5,.int .u8 10,.int .u8 7,.int .u8 14,.int .u8 15,.int .u8 13,.int .u8 9] t frozen
  |o=>o).modify 0 fun
  |.cells _ t frozen=>.cells #[.int .i64 0,.int .i64 0,.int .i64 1,.int .i64 4,.int .i64 2,.int .i64 8,.int .i64 5,.int .i64 10,.int .i64 3,.int .i64 14,.int .i64 9,.int .i64 7,.int .i64 6,.int .i64 13,.int .i64 11,.int .i64 12] t frozen
  |o=>o }
theorem laidWorld_met(os:Os)(e:Array Value):laidMet Tryz.prog laidL ((laidWorld os).forCall (fun _ _=>0) ⟨#[],e,[]⟩).memory :=
 laidMet_of_run' 8 (by kernel_rfl) (by kernel_rfl)
end Go.Proofs.YtmdklgapccickaaGreatDoor
