/- A part of the proof. -/
import Derived.Test.YtpcpcjbbdgmohaaTsLgH
set_option linter.all false
open Go Go.Pw Go.Proofs
namespace Go.Pw
set_option maxRecDepth 100000
set_option maxHeartbeats 3200000
def Jj:PC :=
 .seq (.reg [] (AQ 0 .mov [.k (.d (.nilptr))]::[]) []) (.seq (.reg [] (AQ 1 (.call 94) [.k (.d (.int .i64 (-1)))]::AQ 2 (.call 94) [.k (.d (.int .i64 (-3)))]::AD 3 (.mkrowO 125 6 (.agg [.int .i64 0,.int .i64 0,.int .i64 0,.int .i64 0,.int .i64 0,.int .i64 0]) 1 [0]) 2::AJ 4 (.build [.int .i64 0,.int .i64 0,.int .i64 0,.int .i64 0,.int .i64 0,.int .i64 0,.list true [],.int .i64 0] [(0,6),(6,1)]) 1 3::AD 5 .box 4::AA 0 5::[]) [0]) (.ret))
theorem Nj:EK E0 K3 Jj [.t 0] 6:=AU (fl:=[3000003]) (by kernel_rfl)
attribute [local congr] Dy CG CH Bn D0 Bu Bw Bv Bm BU BN BG Bp BO Br CT CU CS CV CW CX Bo CN CM Bq BS Bt BT CK C8 BR CQ CR CL CI CJ Dz BP BQ Bs CO CP
attribute [local irreducible] IntKind.wrap Cf Option.getD and or
theorem QF:D1 E0 K3 [] [] [(5,1,.cells (C1 Ap.begin 3 1)),(3,1,.row 125 6 false (C2 Ap.begin.eps))] (.ptr 5 1 0):=by
 have c1:=FK (-1)
 have c2:=FK (-3)
 refine Av Nj A3 (by simp) (by simp[D4,AK,A2]) (by simp[Aq]) fun hwf hwo=>?_
 rw[A5];unfold Jj
 (try (simp -implicitDefEqProofs only[go_sem]));repeat' first|(with_reducible first|exact tI|refine aI ?_ ?_|intro _)|((first|with_reducible refine Af ?_ ?_<;>intro _|(with_reducible refine isCall ?_);first|refine Ae c1 ?_|refine Ae c2 ?_)<;>try (simp -implicitDefEqProofs only[go_sem]))|simp (disch:=omega) only[A8]
 all_goals first|omega|rfl|kernel_rfl
end Go.Pw
