/- A part of the proof. -/
import Derived.Test.YtpcpcjbbdgmohaaDoorLgH
set_option linter.all false
open Go Go.Pw Go.Proofs
namespace Go.Pw
set_option maxRecDepth 100000
set_option maxHeartbeats 3200000
def I':PC :=
 .seq (.reg [] (AK 0 .mov [.k (.d (.nilptr))]::[]) []) (.seq (.reg [] (AK 1 (.call 90) [.k (.d (.int .i64 (-1)))]::AK 2 (.call 90) [.k (.d (.int .i64 (-3)))]::AE 3 (.mkrowO 103 6 (.agg [.int .i64 0,.int .i64 0,.int .i64 0,.int .i64 0,.int .i64 0,.int .i64 0]) 1 [0]) 2::AN 4 (.build [.int .i64 0,.int .i64 0,.int .i64 0,.int .i64 0,.int .i64 0,.int .i64 0,.list true [],.int .i64 0] [(0,6),(6,1)]) 1 3::AE 5 .box 4::AA 0 5::[]) [0]) (.ret))
theorem NA:D7 E0 Kb I' [.t 0] 6:=Ab (fl:=[3000003]) (by kernel_rfl)
attribute [local congr] DP B9 B_ Bj DR Bn Bp Bo Bi BW BQ BF Bl BR BU Bm BV CC Cg BT CE CF CD CA CB B8 DQ B' Bk BS
attribute [local irreducible] IntKind.wrap CG Option.getD and or
theorem Pk:Ea E0 Kb [] [] [(5,1,.cells (Cp Bg.begin 3 1)),(3,1,.row 103 6 false (Cq Bg.begin.eps))] (.ptr 5 1 0):=by
 have c1:=E_ (-1)
 have c2:=E_ (-3)
 refine A6 NA A' (by simp) (by simp[EG,AQ,BH]) (by simp[A3]) fun hwf hwo=>?_
 rw[BI];unfold I'
 (try (simp -implicitDefEqProofs only[go_sem]));repeat' first|(with_reducible first|exact tI|refine aI ?_ ?_|intro _)|((first|with_reducible refine Ad ?_ ?_<;>intro _|(with_reducible refine isCall ?_);first|refine AH c1 ?_|refine AH c2 ?_)<;>try (simp -implicitDefEqProofs only[go_sem]))|simp (disch:=omega) only[A7]
 all_goals first|omega|rfl|kernel_rfl
end Go.Pw
