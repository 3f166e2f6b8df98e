/- A part of the proof. -/
import Derived.Test.YtlnppoaghpbpoaaPwVC
import Derived.Test.YtlnppoaghpbpoaaProg
import Derived.KernelRfl
set_option linter.all false
open Go Go.Pw Go.Proofs
namespace Go.Pw
set_option maxRecDepth 100000
noncomputable def E0 : Env := ⟨Try.prog, fun _ => none⟩
theorem mixed : E0.P.follows .mixedOrders = true := by kernel_rfl
abbrev T_int : Nat := 3
abbrev F_gosem_cut_init : Nat := 2
abbrev F_law02_ServoSure : Nat := 3
abbrev F_law02_ServoMore : Nat := 4
-- platter/platterlaw02.ServoFound (3)
abbrev F_law02_ServoFound : Nat := 5
def pc_law02_ServoFound : PC :=
 .seq (.reg [] (
 ⟨some 3, none, .box, [.t 0]⟩ ::
 ⟨some 6, none, .mov, [.k (.d (.bool false))]⟩ ::
 []) [1, 2, 3])
 (.seq (.seq (.reg [] (
 ⟨some 13, none, .load true 6, [.t 3]⟩ ::
 ⟨some 14, none, .mov, [.t 1]⟩ ::
 ⟨some 15, none, .call 13, [.t 13, .t 14]⟩ ::
 ⟨some 16, none, .un .not, [.t 15]⟩ ::
 ⟨some 17, none, .mov, [.t 16]⟩ ::
 ⟨some 18, some (17, false), .mov, [.t 2]⟩ ::
 ⟨some 19, some (17, false), .len false, [.t 18]⟩ ::
 ⟨some 20, some (17, false), .bin .gtr, [.t 19, .k (.d (.int .i64 40))]⟩ ::
 ⟨some 21, none, .pick, [.t 17, .k (.d (.bool true)), .t 20]⟩ ::
 ⟨some 22, none, .mov, [.t 21]⟩ ::
 ⟨some 23, some (22, false), .load true 6, [.t 3]⟩ ::
 ⟨some 24, some (22, false), .mov, [.t 1]⟩ ::
 ⟨some 25, some (22, false), .mov, [.t 2]⟩ ::
 ⟨some 26, some (22, false), .call 22, [.t 23, .t 24, .t 25]⟩ ::
 ⟨some 27, some (22, false), .un .not, [.t 26]⟩ ::
 ⟨some 28, none, .pick, [.t 22, .k (.d (.bool true)), .t 27]⟩ ::
 ⟨some 29, none, .mov, [.t 28]⟩ ::
 ⟨some 30, some (29, false), .mov, [.t 1]⟩ ::
 ⟨some 31, some (29, false), .len false, [.t 30]⟩ ::
 ⟨some 32, some (29, false), .faddr 4, [.t 3]⟩ ::
 ⟨some 33, some (29, false), .load false 1, [.t 32]⟩ ::
 ⟨some 34, some (29, false), .bin .leq, [.t 31, .t 33]⟩ ::
 ⟨some 35, none, .pick, [.t 29, .k (.d (.bool true)), .t 34]⟩ ::
 []) [1, 2, 3, 35])
 (.cond (.t 35)
 (.seq (.reg [] (
 ⟨some 36, none, .call 15, []⟩ ::
 ⟨some 6, none, .mov, [.t 36]⟩ ::
 []) [6])
 (.ret))
 (.skip)))
 (.seq (.seq (.reg [] (
 ⟨some 37, none, .mov, [.t 1]⟩ ::
 ⟨some 38, none, .len false, [.t 37]⟩ ::
 ⟨some 39, none, .bin .sub, [.t 38, .k (.d (.int .i64 1))]⟩ ::
 ⟨some 40, none, .faddr 4, [.t 3]⟩ ::
 ⟨some 41, none, .load false 1, [.t 40]⟩ ::
 ⟨some 42, none, .bin .sub, [.t 39, .t 41]⟩ ::
 ⟨some 7, none, .mov, [.t 42]⟩ ::
 []) [1, 2, 3, 7])
 (.block 0
 (.loop [] [1, 2, 3, 7] [3, 900000, 900001, 900002, 901000, 901001, 901002]
 (.seq (.seq (.reg [] (
 ⟨some 43, none, .mov, [.t 7]⟩ ::
 ⟨some 44, none, .mov, [.t 1]⟩ ::
 ⟨some 45, none, .len false, [.t 44]⟩ ::
 ⟨some 46, none, .bin .lss, [.t 43, .t 45]⟩ ::
 []) [1, 2, 3, 7, 46])
 (.cond (.t 46)
 (.skip)
 (.exit 0)))
 (.seq (.block 1
 (.seq (.draw [] (
 (⟨some 49, none, .mov, [.t 1]⟩, []) ::
 (⟨some 50, none, .mov, [.t 7]⟩, []) ::
 (⟨some 51, none, .iaddrS 2, [.t 49, .t 50]⟩, []) ::
 (⟨some 52, none, .faddr 0, [.t 51]⟩, []) ::
 (⟨some 53, none, .load false 1, [.t 52]⟩, []) ::
 (⟨some 54, none, .bin .eql, [.t 53, .k (.d (.int .i64 (-1)))]⟩, []) ::
 (⟨some 55, none, .mov, [.t 54]⟩, []) ::
 (⟨some 56, some (55, false), .load true 6, [.t 3]⟩, []) ::
 (⟨some 57, some (55, false), .mov, [.t 1]⟩, []) ::
 (⟨some 58, some (55, false), .mov, [.t 7]⟩, []) ::
 (⟨some 59, some (55, false), .iaddrS 2, [.t 57, .t 58]⟩, []) ::
 (⟨some 60, some (55, false), .load true 2, [.t 59]⟩, []) ::
 (⟨some 61, some (55, false), .mov, [.t 7]⟩, []) ::
 (⟨some 62, some (55, false), .mov, [.t 2]⟩, []) ::
 (⟨some 63, some (55, false), .mov, [.t 7]⟩, []) ::
 (⟨some 64, some (55, false), .iaddrS 1, [.t 62, .t 63]⟩, []) ::
 (⟨some 65, some (55, false), .load false 1, [.t 64]⟩, []) ::
 (⟨some 66, some (55, false), .call 23, [.t 56, .t 60, .t 61, .t 65]⟩, []) ::
 (⟨some 67, some (55, false), .un .not, [.t 66]⟩, []) ::
 (⟨some 68, none, .pick, [.t 55, .k (.d (.bool true)), .t 67]⟩, []) ::
 []) [1, 2, 3, 7, 68])
 (.cond (.t 68)
 (.seq (.reg [] (
 ⟨some 69, none, .call 15, []⟩ ::
 ⟨some 6, none, .mov, [.t 69]⟩ ::
 []) [6])
 (.ret))
 (.skip))))
 (.reg [] (
 ⟨some 47, none, .mov, [.t 7]⟩ ::
 ⟨some 48, none, .bin .add, [.t 47, .k (.d (.int .i64 1))]⟩ ::
 ⟨some 7, none, .mov, [.t 48]⟩ ::
 []) [1, 2, 3, 7]))))))
 (.seq (.reg [] (
 ⟨some 71, none, .load true 6, [.t 3]⟩ ::
 ⟨some 72, none, .mov, [.t 1]⟩ ::
 ⟨some 73, none, .call 18, [.t 71, .t 72]⟩ ::
 ⟨some 70, none, .mov, [.t 73]⟩ ::
 ⟨some 74, none, .extract 0, [.t 70]⟩ ::
 ⟨some 75, none, .extract 1, [.t 70]⟩ ::
 ⟨some 8, none, .mov, [.t 74]⟩ ::
 ⟨some 9, none, .mov, [.t 75]⟩ ::
 []) [2, 3, 8, 9])
 (.seq (.seq (.reg [] (
 ⟨some 76, none, .mov, [.t 9]⟩ ::
 ⟨some 77, none, .bin .neq, [.t 76, .k (.d (.int .i64 0))]⟩ ::
 []) [2, 3, 8, 9, 77])
 (.cond (.t 77)
 (.seq (.reg [] (
 ⟨some 78, none, .mov, [.t 9]⟩ ::
 ⟨some 79, none, .bin .eql, [.t 78, .k (.d (.int .i64 3))]⟩ ::
 ⟨some 80, none, .mov, [.t 79]⟩ ::
 ⟨some 81, some (80, true), .call 15, []⟩ ::
 ⟨some 82, none, .pick, [.t 80, .t 81, .k (.d (.bool false))]⟩ ::
 ⟨some 6, none, .mov, [.t 82]⟩ ::
 []) [6])
 (.ret))
 (.skip)))
 (.seq (.reg [] (
 ⟨some 83, none, .faddr 3, [.t 3]⟩ ::
 ⟨some 84, none, .load false 1, [.t 83]⟩ ::
 ⟨some 85, none, .bin .mul, [.k (.d (.int .i64 2)), .t 84]⟩ ::
 ⟨some 86, none, .faddr 2, [.t 3]⟩ ::
 ⟨some 87, none, .load false 1, [.t 86]⟩ ::
 ⟨some 88, none, .bin .mul, [.k (.d (.int .i64 2)), .t 87]⟩ ::
 ⟨some 89, none, .faddr 4, [.t 3]⟩ ::
 ⟨some 90, none, .load false 1, [.t 89]⟩ ::
 ⟨some 91, none, .bin .mul, [.t 88, .t 90]⟩ ::
 ⟨some 92, none, .bin .add, [.t 85, .t 91]⟩ ::
 ⟨some 10, none, .mov, [.t 92]⟩ ::
 []) [2, 8, 10])
 (.seq (.reg [] (
 ⟨some 93, none, .mov, [.t 2]⟩ ::
 ⟨some 94, none, .mov, [.t 2]⟩ ::
 ⟨some 95, none, .len false, [.t 94]⟩ ::
 ⟨some 96, none, .bin .sub, [.t 95, .k (.d (.int .i64 1))]⟩ ::
 ⟨some 97, none, .iaddrS 1, [.t 93, .t 96]⟩ ::
 ⟨some 98, none, .load false 1, [.t 97]⟩ ::
 ⟨some 11, none, .mov, [.t 98]⟩ ::
 []) [8, 10, 11])
 (.seq (.seq (.reg [] (
 ⟨some 12, none, .mov, [.k (.d (.int .i64 0))]⟩ ::
 []) [8, 10, 11, 12])
 (.block 2
 (.loop [] [8, 10, 11, 12] [73, 10073, 901002]
 (.seq (.seq (.reg [] (
 ⟨some 99, none, .mov, [.t 12]⟩ ::
 ⟨some 100, none, .mov, [.t 8]⟩ ::
 ⟨some 101, none, .len false, [.t 100]⟩ ::
 ⟨some 102, none, .bin .lss, [.t 99, .t 101]⟩ ::
 []) [8, 10, 11, 12, 102])
 (.cond (.t 102)
 (.skip)
 (.exit 2)))
 (.seq (.block 3
 (.seq (.reg [] (
 ⟨some 105, none, .mov, [.t 8]⟩ ::
 ⟨some 106, none, .mov, [.t 12]⟩ ::
 ⟨some 107, none, .iaddrS 2, [.t 105, .t 106]⟩ ::
 ⟨some 108, none, .faddr 0, [.t 107]⟩ ::
 ⟨some 109, none, .load false 1, [.t 108]⟩ ::
 ⟨some 110, none, .mov, [.t 11]⟩ ::
 ⟨some 111, none, .mov, [.t 10]⟩ ::
 ⟨some 112, none, .bin .sub, [.t 110, .t 111]⟩ ::
 ⟨some 113, none, .bin .lss, [.t 109, .t 112]⟩ ::
 ⟨some 114, none, .mov, [.t 113]⟩ ::
 ⟨some 115, some (114, false), .mov, [.t 8]⟩ ::
 ⟨some 116, some (114, false), .mov, [.t 12]⟩ ::
 ⟨some 117, some (114, false), .iaddrS 2, [.t 115, .t 116]⟩ ::
 ⟨some 118, some (114, false), .faddr 1, [.t 117]⟩ ::
 ⟨some 119, some (114, false), .load false 1, [.t 118]⟩ ::
 ⟨some 120, some (114, false), .mov, [.t 11]⟩ ::
 ⟨some 121, some (114, false), .mov, [.t 10]⟩ ::
 ⟨some 122, some (114, false), .bin .add, [.t 120, .t 121]⟩ ::
 ⟨some 123, some (114, false), .bin .gtr, [.t 119, .t 122]⟩ ::
 ⟨some 124, none, .pick, [.t 114, .k (.d (.bool true)), .t 123]⟩ ::
 []) [8, 10, 11, 12, 124])
 (.cond (.t 124)
 (.seq (.reg [] (
 ⟨some 6, none, .mov, [.k (.d (.bool false))]⟩ ::
 []) [6])
 (.ret))
 (.skip))))
 (.reg [] (
 ⟨some 103, none, .mov, [.t 12]⟩ ::
 ⟨some 104, none, .bin .add, [.t 103, .k (.d (.int .i64 1))]⟩ ::
 ⟨some 12, none, .mov, [.t 104]⟩ ::
 []) [8, 10, 11, 12]))))))
 (.seq (.reg [] (
 ⟨some 125, none, .mov, [.t 8]⟩ ::
 ⟨some 126, none, .len false, [.t 125]⟩ ::
 ⟨some 127, none, .bin .gtr, [.t 126, .k (.d (.int .i64 0))]⟩ ::
 ⟨some 128, none, .mov, [.t 127]⟩ ::
 ⟨some 129, some (128, true), .call 15, []⟩ ::
 ⟨some 130, none, .pick, [.t 128, .t 129, .k (.d (.bool false))]⟩ ::
 ⟨some 6, none, .mov, [.t 130]⟩ ::
 []) [6])
 (.ret)))))))))
theorem dec_law02_ServoFound : Fun E0 F_law02_ServoFound pc_law02_ServoFound [.t 6] 131 := fun_of_dec (fl := []) (by kernel_rfl)
-- platter/platterlaw02.ServoOneBit (2)
abbrev F_law02_ServoOneBit : Nat := 6
def pc_law02_ServoOneBit : PC :=
 .seq (.reg [] (
 ⟨some 4, none, .mov, [.k (.d (.bool false))]⟩ ::
 []) [0, 1])
 (.seq (.seq (.reg [] (
 ⟨some 15, none, .mov, [.t 0]⟩ ::
 ⟨some 16, none, .bin .lss, [.t 15, .k (.d (.int .i64 0))]⟩ ::
 ⟨some 17, none, .mov, [.t 16]⟩ ::
 ⟨some 18, some (17, false), .mov, [.t 0]⟩ ::
 ⟨some 19, some (17, false), .bin .geq, [.t 18, .k (.d (.int .i64 127))]⟩ ::
 ⟨some 20, none, .pick, [.t 17, .k (.d (.bool true)), .t 19]⟩ ::
 ⟨some 21, none, .mov, [.t 20]⟩ ::
 ⟨some 22, some (21, false), .mov, [.t 1]⟩ ::
 ⟨some 23, some (21, false), .bin .lss, [.t 22, .k (.d (.int .i64 0))]⟩ ::
 ⟨some 24, none, .pick, [.t 21, .k (.d (.bool true)), .t 23]⟩ ::
 []) [0, 1, 24])
 (.cond (.t 24)
 (.seq (.reg [] (
 ⟨some 25, none, .call 15, []⟩ ::
 ⟨some 4, none, .mov, [.t 25]⟩ ::
 []) [4])
 (.ret))
 (.skip)))
 (.seq (.reg [] (
 ⟨some 27, none, .mov, [.t 0]⟩ ::
 ⟨some 28, none, .call 24, [.t 27]⟩ ::
 ⟨some 26, none, .mov, [.t 28]⟩ ::
 ⟨some 29, none, .extract 0, [.t 26]⟩ ::
 ⟨some 30, none, .extract 1, [.t 26]⟩ ::
 ⟨some 5, none, .mov, [.t 29]⟩ ::
 ⟨some 6, none, .mov, [.t 30]⟩ ::
 []) [0, 1, 5, 6])
 (.seq (.reg [] (
 ⟨some 32, none, .mov, [.t 0]⟩ ::
 ⟨some 33, none, .bin .add, [.t 32, .k (.d (.int .i64 1))]⟩ ::
 ⟨some 34, none, .call 24, [.t 33]⟩ ::
 ⟨some 31, none, .mov, [.t 34]⟩ ::
 ⟨some 35, none, .extract 0, [.t 31]⟩ ::
 ⟨some 36, none, .extract 1, [.t 31]⟩ ::
 ⟨some 7, none, .mov, [.t 35]⟩ ::
 ⟨some 8, none, .mov, [.t 36]⟩ ::
 []) [0, 1, 5, 6, 7, 8])
 (.seq (.seq (.reg [] (
 ⟨some 37, none, .mov, [.t 6]⟩ ::
 ⟨some 38, none, .bin .neq, [.t 37, .k (.d (.int .i64 0))]⟩ ::
 ⟨some 39, none, .mov, [.t 38]⟩ ::
 ⟨some 40, some (39, false), .mov, [.t 8]⟩ ::
 ⟨some 41, some (39, false), .bin .neq, [.t 40, .k (.d (.int .i64 0))]⟩ ::
 ⟨some 42, none, .pick, [.t 39, .k (.d (.bool true)), .t 41]⟩ ::
 ⟨some 43, none, .mov, [.t 42]⟩ ::
 ⟨some 44, some (43, false), .mov, [.t 5]⟩ ::
 ⟨some 45, some (43, false), .bin .lss, [.t 44, .k (.d (.int .i64 0))]⟩ ::
 ⟨some 46, none, .pick, [.t 43, .k (.d (.bool true)), .t 45]⟩ ::
 ⟨some 47, none, .mov, [.t 46]⟩ ::
 ⟨some 48, some (47, false), .mov, [.t 5]⟩ ::
 ⟨some 49, some (47, false), .bin .geq, [.t 48, .k (.d (.int .i64 128))]⟩ ::
 ⟨some 50, none, .pick, [.t 47, .k (.d (.bool true)), .t 49]⟩ ::
 ⟨some 51, none, .mov, [.t 50]⟩ ::
 ⟨some 52, some (51, false), .mov, [.t 7]⟩ ::
 ⟨some 53, some (51, false), .bin .lss, [.t 52, .k (.d (.int .i64 0))]⟩ ::
 ⟨some 54, none, .pick, [.t 51, .k (.d (.bool true)), .t 53]⟩ ::
 ⟨some 55, none, .mov, [.t 54]⟩ ::
 ⟨some 56, some (55, false), .mov, [.t 7]⟩ ::
 ⟨some 57, some (55, false), .bin .geq, [.t 56, .k (.d (.int .i64 128))]⟩ ::
 ⟨some 58, none, .pick, [.t 55, .k (.d (.bool true)), .t 57]⟩ ::
 []) [0, 1, 5, 7, 58])
 (.cond (.t 58)
 (.seq (.reg [] (
 ⟨some 4, none, .mov, [.k (.d (.bool false))]⟩ ::
 []) [4])
 (.ret))
 (.skip)))
 (.seq (.reg [] (
 ⟨some 9, none, .mov, [.k (.d (.int .i64 0))]⟩ ::
 []) [0, 1, 5, 7, 9])
 (.seq (.seq (.reg [] (
 ⟨some 10, none, .mov, [.k (.d (.int .i64 0))]⟩ ::
 []) [0, 1, 5, 7, 9, 10])
 (.block 0
 (.loop [] [0, 1, 5, 7, 9, 10] [28, 34, 10028, 10034, 900000, 900001, 901000, 901001]
 (.seq (.seq (.reg [] (
 ⟨some 59, none, .mov, [.t 10]⟩ ::
 ⟨some 60, none, .bin .lss, [.t 59, .k (.d (.int .i64 7))]⟩ ::
 []) [0, 1, 5, 7, 9, 10, 60])
 (.cond (.t 60)
 (.skip)
 (.exit 0)))
 (.seq (.block 1
 (.reg [] (
 ⟨some 63, none, .mov, [.t 9]⟩ ::
 ⟨some 64, none, .mov, [.t 5]⟩ ::
 ⟨some 65, none, .mov, [.t 7]⟩ ::
 ⟨some 66, none, .bin .xor, [.t 64, .t 65]⟩ ::
 ⟨some 67, none, .mov, [.t 10]⟩ ::
 ⟨some 68, none, .conv .u64, [.t 67]⟩ ::
 ⟨some 69, none, .bin .shr, [.t 66, .t 68]⟩ ::
 ⟨some 70, none, .bin .and, [.t 69, .k (.d (.int .i64 1))]⟩ ::
 ⟨some 71, none, .bin .add, [.t 63, .t 70]⟩ ::
 ⟨some 9, none, .mov, [.t 71]⟩ ::
 []) [0, 1, 5, 7, 9, 10]))
 (.reg [] (
 ⟨some 61, none, .mov, [.t 10]⟩ ::
 ⟨some 62, none, .bin .add, [.t 61, .k (.d (.int .i64 1))]⟩ ::
 ⟨some 10, none, .mov, [.t 62]⟩ ::
 []) [0, 1, 5, 7, 9, 10]))))))
 (.seq (.reg [] (
 ⟨some 73, none, .mov, [.t 5]⟩ ::
 ⟨some 74, none, .mov, [.t 1]⟩ ::
 ⟨some 75, none, .bin .and, [.t 73, .t 74]⟩ ::
 ⟨some 76, none, .mov, [.t 7]⟩ ::
 ⟨some 77, none, .mov, [.t 1]⟩ ::
 ⟨some 78, none, .bin .andNot, [.t 76, .t 77]⟩ ::
 ⟨some 79, none, .bin .or, [.t 75, .t 78]⟩ ::
 ⟨some 80, none, .call 25, [.t 79]⟩ ::
 ⟨some 72, none, .mov, [.t 80]⟩ ::
 ⟨some 81, none, .extract 0, [.t 72]⟩ ::
 ⟨some 82, none, .extract 1, [.t 72]⟩ ::
 ⟨some 11, none, .mov, [.t 81]⟩ ::
 ⟨some 12, none, .mov, [.t 82]⟩ ::
 []) [0, 5, 9, 11, 12])
 (.seq (.reg [] (
 ⟨some 84, none, .mov, [.t 5]⟩ ::
 ⟨some 85, none, .call 25, [.t 84]⟩ ::
 ⟨some 83, none, .mov, [.t 85]⟩ ::
 ⟨some 86, none, .extract 0, [.t 83]⟩ ::
 ⟨some 87, none, .extract 1, [.t 83]⟩ ::
 ⟨some 13, none, .mov, [.t 86]⟩ ::
 ⟨some 14, none, .mov, [.t 87]⟩ ::
 []) [0, 9, 11, 12, 13, 14])
 (.seq (.reg [] (
 ⟨some 88, none, .mov, [.t 12]⟩ ::
 ⟨some 89, none, .bin .eql, [.t 88, .k (.d (.int .i64 0))]⟩ ::
 ⟨some 90, none, .mov, [.t 89]⟩ ::
 ⟨some 91, some (90, true), .mov, [.t 14]⟩ ::
 ⟨some 92, some (90, true), .bin .eql, [.t 91, .k (.d (.int .i64 0))]⟩ ::
 ⟨some 93, none, .pick, [.t 90, .t 92, .k (.d (.bool false))]⟩ ::
 ⟨some 94, none, .mov, [.t 93]⟩ ::
 ⟨some 95, some (94, true), .mov, [.t 9]⟩ ::
 ⟨some 96, some (94, true), .bin .eql, [.t 95, .k (.d (.int .i64 1))]⟩ ::
 ⟨some 97, none, .pick, [.t 94, .t 96, .k (.d (.bool false))]⟩ ::
 ⟨some 98, none, .mov, [.t 97]⟩ ::
 ⟨some 99, some (98, true), .mov, [.t 11]⟩ ::
 ⟨some 100, some (98, true), .mov, [.t 0]⟩ ::
 ⟨some 101, some (98, true), .bin .eql, [.t 99, .t 100]⟩ ::
 ⟨some 102, some (98, true), .mov, [.t 101]⟩ ::
 ⟨some 103, some (102, false), .mov, [.t 11]⟩ ::
 ⟨some 104, some (102, false), .mov, [.t 0]⟩ ::
 ⟨some 105, some (102, false), .bin .add, [.t 104, .k (.d (.int .i64 1))]⟩ ::
 ⟨some 106, some (102, false), .bin .eql, [.t 103, .t 105]⟩ ::
 ⟨some 107, some (98, true), .pick, [.t 102, .k (.d (.bool true)), .t 106]⟩ ::
 ⟨some 108, none, .pick, [.t 98, .t 107, .k (.d (.bool false))]⟩ ::
 ⟨some 109, none, .mov, [.t 108]⟩ ::
 ⟨some 110, some (109, true), .mov, [.t 13]⟩ ::
 ⟨some 111, some (109, true), .mov, [.t 0]⟩ ::
 ⟨some 112, some (109, true), .bin .eql, [.t 110, .t 111]⟩ ::
 ⟨some 113, none, .pick, [.t 109, .t 112, .k (.d (.bool false))]⟩ ::
 ⟨some 114, none, .mov, [.t 113]⟩ ::
 ⟨some 115, some (114, true), .call 15, []⟩ ::
 ⟨some 116, none, .pick, [.t 114, .t 115, .k (.d (.bool false))]⟩ ::
 ⟨some 4, none, .mov, [.t 116]⟩ ::
 []) [4])
 (.ret))))))))))
theorem dec_law02_ServoOneBit : Fun E0 F_law02_ServoOneBit pc_law02_ServoOneBit [.t 4] 117 := fun_of_dec (fl := []) (by kernel_rfl)
-- platter/platterlaw02.ServoGrays (2)
abbrev F_law02_ServoGrays : Nat := 7
def pc_law02_ServoGrays : PC :=
 .seq (.reg [] (
 ⟨some 4, none, .mov, [.k (.d (.bool false))]⟩ ::
 []) [0, 1])
 (.seq (.reg [] (
 ⟨some 14, none, .mov, [.t 0]⟩ ::
 ⟨some 15, none, .call 24, [.t 14]⟩ ::
 ⟨some 13, none, .mov, [.t 15]⟩ ::
 ⟨some 16, none, .extract 0, [.t 13]⟩ ::
 ⟨some 17, none, .extract 1, [.t 13]⟩ ::
 ⟨some 5, none, .mov, [.t 16]⟩ ::
 ⟨some 6, none, .mov, [.t 17]⟩ ::
 []) [0, 1, 5, 6])
 (.seq (.reg [] (
 ⟨some 19, none, .mov, [.t 0]⟩ ::
 ⟨some 20, none, .call 26, [.t 19]⟩ ::
 ⟨some 18, none, .mov, [.t 20]⟩ ::
 ⟨some 21, none, .extract 0, [.t 18]⟩ ::
 ⟨some 22, none, .extract 1, [.t 18]⟩ ::
 ⟨some 7, none, .mov, [.t 21]⟩ ::
 ⟨some 8, none, .mov, [.t 22]⟩ ::
 []) [1, 5, 6, 7, 8])
 (.seq (.reg [] (
 ⟨some 24, none, .mov, [.t 1]⟩ ::
 ⟨some 25, none, .call 25, [.t 24]⟩ ::
 ⟨some 23, none, .mov, [.t 25]⟩ ::
 ⟨some 26, none, .extract 0, [.t 23]⟩ ::
 ⟨some 27, none, .extract 1, [.t 23]⟩ ::
 ⟨some 9, none, .mov, [.t 26]⟩ ::
 ⟨some 10, none, .mov, [.t 27]⟩ ::
 []) [1, 5, 6, 7, 8, 9, 10])
 (.seq (.reg [] (
 ⟨some 29, none, .mov, [.t 1]⟩ ::
 ⟨some 30, none, .call 27, [.t 29]⟩ ::
 ⟨some 28, none, .mov, [.t 30]⟩ ::
 ⟨some 31, none, .extract 0, [.t 28]⟩ ::
 ⟨some 32, none, .extract 1, [.t 28]⟩ ::
 ⟨some 11, none, .mov, [.t 31]⟩ ::
 ⟨some 12, none, .mov, [.t 32]⟩ ::
 []) [5, 6, 7, 8, 9, 10, 11, 12])
 (.seq (.reg [] (
 ⟨some 33, none, .mov, [.t 5]⟩ ::
 ⟨some 34, none, .mov, [.t 7]⟩ ::
 ⟨some 35, none, .bin .eql, [.t 33, .t 34]⟩ ::
 ⟨some 36, none, .mov, [.t 35]⟩ ::
 ⟨some 37, some (36, true), .mov, [.t 6]⟩ ::
 ⟨some 38, some (36, true), .mov, [.t 8]⟩ ::
 ⟨some 39, some (36, true), .bin .eql, [.t 37, .t 38]⟩ ::
 ⟨some 40, none, .pick, [.t 36, .t 39, .k (.d (.bool false))]⟩ ::
 ⟨some 41, none, .mov, [.t 40]⟩ ::
 ⟨some 42, some (41, true), .mov, [.t 9]⟩ ::
 ⟨some 43, some (41, true), .mov, [.t 11]⟩ ::
 ⟨some 44, some (41, true), .bin .eql, [.t 42, .t 43]⟩ ::
 ⟨some 45, none, .pick, [.t 41, .t 44, .k (.d (.bool false))]⟩ ::
 ⟨some 46, none, .mov, [.t 45]⟩ ::
 ⟨some 47, some (46, true), .mov, [.t 10]⟩ ::
 ⟨some 48, some (46, true), .mov, [.t 12]⟩ ::
 ⟨some 49, some (46, true), .bin .eql, [.t 47, .t 48]⟩ ::
 ⟨some 50, none, .pick, [.t 46, .t 49, .k (.d (.bool false))]⟩ ::
 ⟨some 51, none, .mov, [.t 50]⟩ ::
 ⟨some 52, some (51, true), .call 15, []⟩ ::
 ⟨some 53, none, .pick, [.t 51, .t 52, .k (.d (.bool false))]⟩ ::
 ⟨some 4, none, .mov, [.t 53]⟩ ::
 []) [4])
 (.ret))))))
theorem dec_law02_ServoGrays : Fun E0 F_law02_ServoGrays pc_law02_ServoGrays [.t 4] 54 := fun_of_dec (fl := []) (by kernel_rfl)
-- platter/platterlaw02.ServoWheres (3)
abbrev F_law02_ServoWheres : Nat := 8
def pc_law02_ServoWheres : PC :=
 .seq (.reg [] (
 ⟨some 3, none, .box, [.t 0]⟩ ::
 ⟨some 6, none, .mov, [.k (.d (.bool false))]⟩ ::
 []) [1, 2, 3])
 (.seq (.seq (.reg [] (
 ⟨some 22, none, .load true 6, [.t 3]⟩ ::
 ⟨some 23, none, .mov, [.t 1]⟩ ::
 ⟨some 24, none, .call 28, [.t 22, .t 23]⟩ ::
 []) [1, 2, 3, 24])
 (.cond (.t 24)
 (.seq (.reg [] (
 ⟨some 25, none, .call 15, []⟩ ::
 ⟨some 6, none, .mov, [.t 25]⟩ ::
 []) [6])
 (.ret))
 (.skip)))
 (.seq (.reg [] (
 ⟨some 26, none, .load true 6, [.t 3]⟩ ::
 ⟨some 27, none, .call 29, [.t 26]⟩ ::
 ⟨some 28, none, .mkrow 2 (.agg [.int .i64 0, .int .i64 0]) 0 [], []⟩ ::
 ⟨some 29, none, .mov, [.t 1]⟩ ::
 ⟨some 30, none, .app 46 2 none true, [.t 28, .t 29]⟩ ::
 ⟨some 7, none, .zero [.int .i64 0, .int .i64 0, .int .i64 0, .int .i64 0, .int .i64 0, .list true []], []⟩ ::
 ⟨none, none, .store 6, [.t 7, .t 27]⟩ ::
 ⟨some 8, none, .mov, [.t 30]⟩ ::
 []) [1, 2, 3, 7, 8])
 (.seq (.seq (.draw [.freeze 8] (
 (⟨some 31, none, .load true 6, [.t 7]⟩, []) ::
 (⟨some 32, none, .mov, [.t 8]⟩, []) ::
 (⟨some 33, none, .call 30, [.t 31, .t 32]⟩, []) ::
 (⟨some 34, none, .load true 6, [.t 3]⟩, [2]) ::
 (⟨some 35, none, .mov, [.t 1]⟩, []) ::
 (⟨some 36, none, .call 31, [.t 34, .t 35]⟩, []) ::
 (⟨some 37, none, .bin .neq, [.t 33, .t 36]⟩, []) ::
 []) [1, 2, 3, 7, 8, 37])
 (.cond (.t 37)
 (.seq (.reg [] (
 ⟨some 6, none, .mov, [.k (.d (.bool false))]⟩ ::
 []) [6])
 (.ret))
 (.skip)))
 (.seq (.reg [.freeze 8] (
 ⟨some 39, none, .load true 6, [.t 7]⟩ ::
 ⟨some 40, none, .mov, [.t 8]⟩ ::
 ⟨some 41, none, .call 18, [.t 39, .t 40]⟩ ::
 ⟨some 38, none, .mov, [.t 41]⟩ ::
 ⟨some 42, none, .extract 0, [.t 38]⟩ ::
 ⟨some 43, none, .extract 1, [.t 38]⟩ ::
 ⟨some 9, none, .mov, [.t 42]⟩ ::
 ⟨some 10, none, .mov, [.t 43]⟩ ::
 []) [1, 2, 3, 7, 8, 9, 10])
 (.seq (.reg [] (
 ⟨some 45, none, .load true 6, [.t 3]⟩ ::
 ⟨some 46, none, .mov, [.t 1]⟩ ::
 ⟨some 47, none, .call 32, [.t 45, .t 46]⟩ ::
 ⟨some 44, none, .mov, [.t 47]⟩ ::
 ⟨some 48, none, .extract 0, [.t 44]⟩ ::
 ⟨some 49, none, .extract 1, [.t 44]⟩ ::
 ⟨some 11, none, .mov, [.t 48]⟩ ::
 ⟨some 12, none, .mov, [.t 49]⟩ ::
 []) [1, 2, 3, 7, 8, 9, 10, 11, 12])
 (.seq (.reg [.freeze 8] (
 ⟨some 51, none, .load true 6, [.t 7]⟩ ::
 ⟨some 52, none, .mov, [.t 8]⟩ ::
 ⟨some 53, none, .mov, [.t 2]⟩ ::
 ⟨some 54, none, .call 19, [.t 51, .t 52, .t 53]⟩ ::
 ⟨some 50, none, .mov, [.t 54]⟩ ::
 ⟨some 55, none, .extract 0, [.t 50]⟩ ::
 ⟨some 56, none, .extract 1, [.t 50]⟩ ::
 ⟨some 13, none, .mov, [.t 55]⟩ ::
 ⟨some 14, none, .mov, [.t 56]⟩ ::
 []) [1, 2, 3, 7, 8, 9, 10, 11, 12, 13, 14])
 (.seq (.reg [] (
 ⟨some 58, none, .load true 6, [.t 3]⟩ ::
 ⟨some 59, none, .mov, [.t 1]⟩ ::
 ⟨some 60, none, .mov, [.t 2]⟩ ::
 ⟨some 61, none, .call 33, [.t 58, .t 59, .t 60]⟩ ::
 ⟨some 57, none, .mov, [.t 61]⟩ ::
 ⟨some 62, none, .extract 0, [.t 57]⟩ ::
 ⟨some 63, none, .extract 1, [.t 57]⟩ ::
 ⟨some 15, none, .mov, [.t 62]⟩ ::
 ⟨some 16, none, .mov, [.t 63]⟩ ::
 []) [1, 3, 7, 8, 9, 10, 11, 12, 13, 14, 15, 16])
 (.seq (.seq (.reg [] (
 ⟨some 64, none, .mov, [.t 9]⟩ ::
 ⟨some 65, none, .mov, [.t 11]⟩ ::
 ⟨some 66, none, .call 20, [.t 64, .t 65]⟩ ::
 ⟨some 67, none, .un .not, [.t 66]⟩ ::
 ⟨some 68, none, .mov, [.t 67]⟩ ::
 ⟨some 69, some (68, false), .mov, [.t 10]⟩ ::
 ⟨some 70, some (68, false), .mov, [.t 12]⟩ ::
 ⟨some 71, some (68, false), .bin .neq, [.t 69, .t 70]⟩ ::
 ⟨some 72, none, .pick, [.t 68, .k (.d (.bool true)), .t 71]⟩ ::
 ⟨some 73, none, .mov, [.t 72]⟩ ::
 ⟨some 74, some (73, false), .mov, [.t 13]⟩ ::
 ⟨some 75, some (73, false), .mov, [.t 15]⟩ ::
 ⟨some 76, some (73, false), .call 20, [.t 74, .t 75]⟩ ::
 ⟨some 77, some (73, false), .un .not, [.t 76]⟩ ::
 ⟨some 78, none, .pick, [.t 73, .k (.d (.bool true)), .t 77]⟩ ::
 ⟨some 79, none, .mov, [.t 78]⟩ ::
 ⟨some 80, some (79, false), .mov, [.t 14]⟩ ::
 ⟨some 81, some (79, false), .mov, [.t 16]⟩ ::
 ⟨some 82, some (79, false), .bin .neq, [.t 80, .t 81]⟩ ::
 ⟨some 83, none, .pick, [.t 79, .k (.d (.bool true)), .t 82]⟩ ::
 []) [1, 3, 7, 8, 83])
 (.cond (.t 83)
 (.seq (.reg [] (
 ⟨some 6, none, .mov, [.k (.d (.bool false))]⟩ ::
 []) [6])
 (.ret))
 (.skip)))
 (.seq (.reg [.freeze 8] (
 ⟨some 85, none, .load true 6, [.t 7]⟩ ::
 ⟨some 86, none, .mov, [.t 8]⟩ ::
 ⟨some 87, none, .call 34, [.t 85, .t 86]⟩ ::
 ⟨some 84, none, .mov, [.t 87]⟩ ::
 ⟨some 88, none, .extract 0, [.t 84]⟩ ::
 ⟨some 89, none, .extract 1, [.t 84]⟩ ::
 ⟨some 17, none, .mov, [.t 88]⟩ ::
 ⟨some 18, none, .mov, [.t 89]⟩ ::
 []) [1, 3, 7, 8, 17, 18])
 (.seq (.reg [] (
 ⟨some 91, none, .load true 6, [.t 3]⟩ ::
 ⟨some 92, none, .mov, [.t 1]⟩ ::
 ⟨some 93, none, .call 35, [.t 91, .t 92]⟩ ::
 ⟨some 90, none, .mov, [.t 93]⟩ ::
 ⟨some 94, none, .extract 0, [.t 90]⟩ ::
 ⟨some 95, none, .extract 1, [.t 90]⟩ ::
 ⟨some 19, none, .mov, [.t 94]⟩ ::
 ⟨some 20, none, .mov, [.t 95]⟩ ::
 []) [1, 3, 7, 8, 17, 18, 19, 20])
 (.seq (.seq (.reg [] (
 ⟨some 21, none, .mov, [.k (.d (.int .i64 0))]⟩ ::
 []) [1, 3, 7, 8, 17, 18, 19, 20, 21])
 (.block 0
 (.loop [.freeze 8] [1, 3, 7, 8, 17, 18, 19, 20, 21] [3, 7, 27, 87, 93, 10027, 10087, 10093, 900000, 900001, 901000, 901001]
 (.seq (.seq (.reg [] (
 ⟨some 96, none, .mov, [.t 21]⟩ ::
 ⟨some 97, none, .mov, [.t 8]⟩ ::
 ⟨some 98, none, .len false, [.t 97]⟩ ::
 ⟨some 99, none, .bin .lss, [.t 96, .t 98]⟩ ::
 []) [1, 3, 7, 8, 17, 18, 19, 20, 21, 99])
 (.cond (.t 99)
 (.skip)
 (.exit 0)))
 (.seq (.block 1
 (.seq (.draw [] (
 (⟨some 102, none, .mov, [.t 8]⟩, []) ::
 (⟨some 103, none, .mov, [.t 21]⟩, []) ::
 (⟨some 104, none, .iaddrS 2, [.t 102, .t 103]⟩, []) ::
 (⟨some 105, none, .load true 2, [.t 104]⟩, []) ::
 (⟨some 106, none, .mov, [.t 1]⟩, []) ::
 (⟨some 107, none, .mov, [.t 21]⟩, []) ::
 (⟨some 108, none, .iaddrS 2, [.t 106, .t 107]⟩, []) ::
 (⟨some 109, none, .load true 2, [.t 108]⟩, []) ::
 (⟨some 110, none, .eqv true (true, [some .i64, some .i64]), [.t 105, .t 109]⟩, []) ::
 []) [1, 3, 7, 8, 17, 18, 19, 20, 21, 110])
 (.cond (.t 110)
 (.seq (.reg [] (
 ⟨some 6, none, .mov, [.k (.d (.bool false))]⟩ ::
 []) [6])
 (.ret))
 (.skip))))
 (.reg [] (
 ⟨some 100, none, .mov, [.t 21]⟩ ::
 ⟨some 101, none, .bin .add, [.t 100, .k (.d (.int .i64 1))]⟩ ::
 ⟨some 21, none, .mov, [.t 101]⟩ ::
 []) [1, 3, 7, 8, 17, 18, 19, 20, 21]))))))
 (.seq (.reg [] (
 ⟨some 111, none, .mov, [.t 17]⟩ ::
 ⟨some 112, none, .mov, [.t 19]⟩ ::
 ⟨some 113, none, .bin .eql, [.t 111, .t 112]⟩ ::
 ⟨some 114, none, .mov, [.t 113]⟩ ::
 ⟨some 115, some (114, true), .mov, [.t 18]⟩ ::
 ⟨some 116, some (114, true), .mov, [.t 20]⟩ ::
 ⟨some 117, some (114, true), .bin .eql, [.t 115, .t 116]⟩ ::
 ⟨some 118, none, .pick, [.t 114, .t 117, .k (.d (.bool false))]⟩ ::
 ⟨some 119, none, .mov, [.t 118]⟩ ::
 ⟨some 120, some (119, true), .faddr 5, [.t 7]⟩ ::
 ⟨some 121, some (119, true), .load false 1, [.t 120]⟩ ::
 ⟨some 122, some (119, true), .faddr 5, [.t 3]⟩ ::
 ⟨some 123, some (119, true), .load false 1, [.t 122]⟩ ::
 ⟨some 124, some (119, true), .call 36, [.t 121, .t 123]⟩ ::
 ⟨some 125, none, .pick, [.t 119, .t 124, .k (.d (.bool false))]⟩ ::
 ⟨some 126, none, .mov, [.t 125]⟩ ::
 ⟨some 127, some (126, true), .call 15, []⟩ ::
 ⟨some 128, none, .pick, [.t 126, .t 127, .k (.d (.bool false))]⟩ ::
 ⟨some 6, none, .mov, [.t 128]⟩ ::
 []) [6])
 (.ret)))))))))))))
theorem dec_law02_ServoWheres : Fun E0 F_law02_ServoWheres pc_law02_ServoWheres [.t 6] 129 := fun_of_dec (fl := []) (by kernel_rfl)
-- platter/platterlaw02.ServoEnds (3)
abbrev F_law02_ServoEnds : Nat := 9
def pc_law02_ServoEnds : PC :=
 .seq (.reg [] (
 ⟨some 3, none, .box, [.t 0]⟩ ::
 ⟨some 6, none, .mov, [.k (.d (.bool false))]⟩ ::
 []) [1, 2, 3])
 (.seq (.seq (.reg [] (
 ⟨some 14, none, .load true 6, [.t 3]⟩ ::
 ⟨some 15, none, .mov, [.t 1]⟩ ::
 ⟨some 16, none, .call 13, [.t 14, .t 15]⟩ ::
 ⟨some 17, none, .un .not, [.t 16]⟩ ::
 ⟨some 18, none, .mov, [.t 17]⟩ ::
 ⟨some 19, some (18, false), .mov, [.t 1]⟩ ::
 ⟨some 20, some (18, false), .len false, [.t 19]⟩ ::
 ⟨some 21, some (18, false), .bin .eql, [.t 20, .k (.d (.int .i64 0))]⟩ ::
 ⟨some 22, none, .pick, [.t 18, .k (.d (.bool true)), .t 21]⟩ ::
 []) [1, 2, 3, 22])
 (.cond (.t 22)
 (.seq (.reg [] (
 ⟨some 23, none, .call 15, []⟩ ::
 ⟨some 6, none, .mov, [.t 23]⟩ ::
 []) [6])
 (.ret))
 (.skip)))
 (.seq (.reg [] (
 ⟨some 25, none, .load true 6, [.t 3]⟩ ::
 ⟨some 26, none, .mov, [.t 1]⟩ ::
 ⟨some 27, none, .call 18, [.t 25, .t 26]⟩ ::
 ⟨some 24, none, .mov, [.t 27]⟩ ::
 ⟨some 28, none, .extract 0, [.t 24]⟩ ::
 ⟨some 29, none, .extract 1, [.t 24]⟩ ::
 ⟨some 7, none, .mov, [.t 28]⟩ ::
 ⟨some 8, none, .mov, [.t 29]⟩ ::
 []) [1, 2, 3, 7, 8])
 (.seq (.seq (.reg [] (
 ⟨some 30, none, .mov, [.t 8]⟩ ::
 ⟨some 31, none, .bin .neq, [.t 30, .k (.d (.int .i64 0))]⟩ ::
 []) [1, 2, 3, 7, 8, 31])
 (.cond (.t 31)
 (.seq (.reg [] (
 ⟨some 32, none, .mov, [.t 8]⟩ ::
 ⟨some 33, none, .bin .eql, [.t 32, .k (.d (.int .i64 3))]⟩ ::
 ⟨some 34, none, .mov, [.t 33]⟩ ::
 ⟨some 35, some (34, true), .call 15, []⟩ ::
 ⟨some 36, none, .pick, [.t 34, .t 35, .k (.d (.bool false))]⟩ ::
 ⟨some 6, none, .mov, [.t 36]⟩ ::
 []) [6])
 (.ret))
 (.skip)))
 (.seq (.reg [] (
 ⟨some 37, none, .mov, [.t 2]⟩ ::
 ⟨some 38, none, .mkrowO 3 1 (.int .i64 0) 1 [0], [.t 37]⟩ ::
 ⟨some 9, none, .mov, [.t 38]⟩ ::
 []) [1, 3, 7, 9])
 (.seq (.seq (.reg [] (
 ⟨some 10, none, .mov, [.k (.d (.int .i64 0))]⟩ ::
 []) [1, 3, 7, 9, 10])
 (.block 0
 (.loop [] [1, 3, 7, 9, 10] [3, 27, 38, 10027, 900000, 900001, 901000, 901001]
 (.seq (.seq (.reg [] (
 ⟨some 39, none, .mov, [.t 10]⟩ ::
 ⟨some 40, none, .mov, [.t 7]⟩ ::
 ⟨some 41, none, .len false, [.t 40]⟩ ::
 ⟨some 42, none, .bin .lss, [.t 39, .t 41]⟩ ::
 []) [1, 3, 7, 9, 10, 42])
 (.cond (.t 42)
 (.skip)
 (.exit 0)))
 (.seq (.block 1
 (.seq (.seq (.draw [] (
 (⟨some 45, none, .mov, [.t 7]⟩, []) ::
 (⟨some 46, none, .mov, [.t 10]⟩, []) ::
 (⟨some 47, none, .iaddrS 2, [.t 45, .t 46]⟩, []) ::
 (⟨some 48, none, .faddr 0, [.t 47]⟩, []) ::
 (⟨some 49, none, .load false 1, [.t 48]⟩, []) ::
 (⟨some 50, none, .bin .lss, [.t 49, .k (.d (.int .i64 0))]⟩, []) ::
 (⟨some 51, none, .mov, [.t 50]⟩, []) ::
 (⟨some 52, some (51, false), .mov, [.t 7]⟩, []) ::
 (⟨some 53, some (51, false), .mov, [.t 10]⟩, []) ::
 (⟨some 54, some (51, false), .iaddrS 2, [.t 52, .t 53]⟩, []) ::
 (⟨some 55, some (51, false), .faddr 0, [.t 54]⟩, []) ::
 (⟨some 56, some (51, false), .load false 1, [.t 55]⟩, []) ::
 (⟨some 57, some (51, false), .mov, [.t 7]⟩, []) ::
 (⟨some 58, some (51, false), .mov, [.t 10]⟩, []) ::
 (⟨some 59, some (51, false), .iaddrS 2, [.t 57, .t 58]⟩, []) ::
 (⟨some 60, some (51, false), .faddr 1, [.t 59]⟩, []) ::
 (⟨some 61, some (51, false), .load false 1, [.t 60]⟩, []) ::
 (⟨some 62, some (51, false), .bin .gtr, [.t 56, .t 61]⟩, []) ::
 (⟨some 63, none, .pick, [.t 51, .k (.d (.bool true)), .t 62]⟩, []) ::
 (⟨some 64, none, .mov, [.t 63]⟩, []) ::
 (⟨some 65, some (64, false), .mov, [.t 7]⟩, []) ::
 (⟨some 66, some (64, false), .mov, [.t 10]⟩, []) ::
 (⟨some 67, some (64, false), .iaddrS 2, [.t 65, .t 66]⟩, []) ::
 (⟨some 68, some (64, false), .faddr 1, [.t 67]⟩, []) ::
 (⟨some 69, some (64, false), .load false 1, [.t 68]⟩, []) ::
 (⟨some 70, some (64, false), .load true 6, [.t 3]⟩, []) ::
 (⟨some 71, some (64, false), .call 37, [.t 70]⟩, [22, 24]) ::
 (⟨some 72, some (64, false), .bin .gtr, [.t 69, .t 71]⟩, []) ::
 (⟨some 73, none, .pick, [.t 64, .k (.d (.bool true)), .t 72]⟩, []) ::
 (⟨some 74, none, .mov, [.t 73]⟩, []) ::
 (⟨some 75, some (74, false), .mov, [.t 10]⟩, []) ::
 (⟨some 76, some (74, false), .bin .gtr, [.t 75, .k (.d (.int .i64 0))]⟩, []) ::
 (⟨some 77, some (74, false), .mov, [.t 76]⟩, []) ::
 (⟨some 78, some (77, true), .mov, [.t 7]⟩, []) ::
 (⟨some 79, some (77, true), .mov, [.t 10]⟩, []) ::
 (⟨some 80, some (77, true), .iaddrS 2, [.t 78, .t 79]⟩, []) ::
 (⟨some 81, some (77, true), .faddr 0, [.t 80]⟩, []) ::
 (⟨some 82, some (77, true), .load false 1, [.t 81]⟩, []) ::
 (⟨some 83, some (77, true), .mov, [.t 7]⟩, []) ::
 (⟨some 84, some (77, true), .mov, [.t 10]⟩, []) ::
 (⟨some 85, some (77, true), .bin .sub, [.t 84, .k (.d (.int .i64 1))]⟩, []) ::
 (⟨some 86, some (77, true), .iaddrS 2, [.t 83, .t 85]⟩, []) ::
 (⟨some 87, some (77, true), .faddr 1, [.t 86]⟩, []) ::
 (⟨some 88, some (77, true), .load false 1, [.t 87]⟩, []) ::
 (⟨some 89, some (77, true), .bin .add, [.t 88, .k (.d (.int .i64 1))]⟩, []) ::
 (⟨some 90, some (77, true), .bin .leq, [.t 82, .t 89]⟩, []) ::
 (⟨some 91, some (74, false), .pick, [.t 77, .t 90, .k (.d (.bool false))]⟩, []) ::
 (⟨some 92, none, .pick, [.t 74, .k (.d (.bool true)), .t 91]⟩, []) ::
 []) [1, 3, 7, 9, 10, 92])
 (.cond (.t 92)
 (.seq (.reg [] (
 ⟨some 6, none, .mov, [.k (.d (.bool false))]⟩ ::
 []) [6])
 (.ret))
 (.skip)))
 (.draw [] (
 (⟨some 93, none, .mov, [.t 9]⟩, []) ::
 (⟨some 94, none, .mov, [.t 7]⟩, []) ::
 (⟨some 95, none, .mov, [.t 10]⟩, []) ::
 (⟨some 96, none, .iaddrS 2, [.t 94, .t 95]⟩, []) ::
 (⟨some 97, none, .faddr 0, [.t 96]⟩, []) ::
 (⟨some 98, none, .load false 1, [.t 97]⟩, []) ::
 (⟨some 99, none, .mov, [.t 7]⟩, []) ::
 (⟨some 100, none, .mov, [.t 10]⟩, []) ::
 (⟨some 101, none, .iaddrS 2, [.t 99, .t 100]⟩, []) ::
 (⟨some 102, none, .faddr 1, [.t 101]⟩, []) ::
 (⟨some 103, none, .load false 1, [.t 102]⟩, []) ::
 (⟨some 104, none, .mkrow 1 (.int .i64 0) 2 [0, 1], [.t 98, .t 103]⟩, []) ::
 (⟨some 105, none, .app 3 1 none true, [.t 93, .t 104]⟩, []) ::
 (⟨some 9, none, .mov, [.t 105]⟩, []) ::
 []) [1, 3, 7, 9, 10])))
 (.reg [] (
 ⟨some 43, none, .mov, [.t 10]⟩ ::
 ⟨some 44, none, .bin .add, [.t 43, .k (.d (.int .i64 1))]⟩ ::
 ⟨some 10, none, .mov, [.t 44]⟩ ::
 []) [1, 3, 7, 9, 10]))))))
 (.seq (.seq (.reg [] (
 ⟨some 106, none, .mov, [.t 7]⟩ ::
 ⟨some 107, none, .len false, [.t 106]⟩ ::
 ⟨some 108, none, .bin .eql, [.t 107, .k (.d (.int .i64 0))]⟩ ::
 []) [1, 3, 7, 9, 108])
 (.cond (.t 108)
 (.seq (.reg [] (
 ⟨some 6, none, .mov, [.k (.d (.bool false))]⟩ ::
 []) [6])
 (.ret))
 (.skip)))
 (.seq (.seq (.reg [] (
 ⟨some 11, none, .mov, [.k (.d (.int .i64 0))]⟩ ::
 []) [1, 3, 7, 9, 11])
 (.block 2
 (.loop [.freeze 9] [1, 3, 7, 9, 11] [3, 27, 10027, 900000, 900001, 901000, 901001]
 (.seq (.seq (.reg [] (
 ⟨some 109, none, .mov, [.t 11]⟩ ::
 ⟨some 110, none, .mov, [.t 9]⟩ ::
 ⟨some 111, none, .len false, [.t 110]⟩ ::
 ⟨some 112, none, .bin .lss, [.t 109, .t 111]⟩ ::
 []) [1, 3, 7, 9, 11, 112])
 (.cond (.t 112)
 (.skip)
 (.exit 2)))
 (.seq (.block 3
 (.seq (.draw [] (
 (⟨some 116, none, .load true 6, [.t 3]⟩, []) ::
 (⟨some 117, none, .mov, [.t 1]⟩, []) ::
 (⟨some 118, none, .mov, [.t 9]⟩, []) ::
 (⟨some 119, none, .mov, [.t 11]⟩, []) ::
 (⟨some 120, none, .iaddrS 1, [.t 118, .t 119]⟩, []) ::
 (⟨some 121, none, .load false 1, [.t 120]⟩, []) ::
 (⟨some 122, none, .call 38, [.t 116, .t 117, .t 121]⟩, []) ::
 (⟨some 115, none, .mov, [.t 122]⟩, []) ::
 (⟨some 123, none, .extract 0, [.t 115]⟩, []) ::
 (⟨some 124, none, .extract 1, [.t 115]⟩, []) ::
 (⟨some 12, none, .mov, [.t 123]⟩, []) ::
 (⟨some 13, none, .mov, [.t 124]⟩, []) ::
 []) [1, 3, 7, 9, 11, 12, 13])
 (.seq (.seq (.draw [] (
 (⟨some 125, none, .mov, [.t 9]⟩, []) ::
 (⟨some 126, none, .mov, [.t 11]⟩, []) ::
 (⟨some 127, none, .iaddrS 1, [.t 125, .t 126]⟩, []) ::
 (⟨some 128, none, .load false 1, [.t 127]⟩, []) ::
 (⟨some 129, none, .bin .lss, [.t 128, .k (.d (.int .i64 0))]⟩, []) ::
 (⟨some 130, none, .mov, [.t 129]⟩, []) ::
 (⟨some 131, some (130, false), .mov, [.t 9]⟩, []) ::
 (⟨some 132, some (130, false), .mov, [.t 11]⟩, []) ::
 (⟨some 133, some (130, false), .iaddrS 1, [.t 131, .t 132]⟩, []) ::
 (⟨some 134, some (130, false), .load false 1, [.t 133]⟩, []) ::
 (⟨some 135, some (130, false), .load true 6, [.t 3]⟩, []) ::
 (⟨some 136, some (130, false), .call 37, [.t 135]⟩, [8, 9]) ::
 (⟨some 137, some (130, false), .bin .gtr, [.t 134, .t 136]⟩, []) ::
 (⟨some 138, none, .pick, [.t 130, .k (.d (.bool true)), .t 137]⟩, []) ::
 []) [1, 3, 7, 9, 11, 12, 13, 138])
 (.cond (.t 138)
 (.seq (.seq (.reg [] (
 ⟨some 139, none, .mov, [.t 13]⟩ ::
 ⟨some 140, none, .bin .neq, [.t 139, .k (.d (.int .i64 1))]⟩ ::
 []) [1, 3, 7, 9, 11, 140])
 (.cond (.t 140)
 (.seq (.reg [] (
 ⟨some 6, none, .mov, [.k (.d (.bool false))]⟩ ::
 []) [6])
 (.ret))
 (.skip)))
 (.exit 3))
 (.skip)))
 (.seq (.seq (.reg [] (
 ⟨some 141, none, .mov, [.t 7]⟩ ::
 ⟨some 142, none, .mov, [.t 9]⟩ ::
 ⟨some 143, none, .mov, [.t 11]⟩ ::
 ⟨some 144, none, .iaddrS 1, [.t 142, .t 143]⟩ ::
 ⟨some 145, none, .load false 1, [.t 144]⟩ ::
 ⟨some 146, none, .call 39, [.t 141, .t 145]⟩ ::
 ⟨some 147, none, .un .not, [.t 146]⟩ ::
 []) [1, 3, 7, 9, 11, 12, 13, 147])
 (.cond (.t 147)
 (.seq (.seq (.reg [] (
 ⟨some 148, none, .mov, [.t 13]⟩ ::
 ⟨some 149, none, .bin .neq, [.t 148, .k (.d (.int .i64 3))]⟩ ::
 []) [1, 3, 7, 9, 11, 149])
 (.cond (.t 149)
 (.seq (.reg [] (
 ⟨some 6, none, .mov, [.k (.d (.bool false))]⟩ ::
 []) [6])
 (.ret))
 (.skip)))
 (.exit 3))
 (.skip)))
 (.seq (.draw [] (
 (⟨some 150, none, .mov, [.t 13]⟩, []) ::
 (⟨some 151, none, .bin .neq, [.t 150, .k (.d (.int .i64 0))]⟩, []) ::
 (⟨some 152, none, .mov, [.t 151]⟩, []) ::
 (⟨some 153, some (152, false), .load true 6, [.t 3]⟩, []) ::
 (⟨some 154, some (152, false), .mov, [.t 1]⟩, []) ::
 (⟨some 155, some (152, false), .mov, [.t 12]⟩, []) ::
 (⟨some 156, some (152, false), .call 22, [.t 153, .t 154, .t 155]⟩, []) ::
 (⟨some 157, some (152, false), .un .not, [.t 156]⟩, []) ::
 (⟨some 158, none, .pick, [.t 152, .k (.d (.bool true)), .t 157]⟩, []) ::
 (⟨some 159, none, .mov, [.t 158]⟩, []) ::
 (⟨some 160, some (159, false), .load true 6, [.t 3]⟩, []) ::
 (⟨some 161, some (159, false), .mov, [.t 1]⟩, []) ::
 (⟨some 162, some (159, false), .mov, [.t 12]⟩, []) ::
 (⟨some 163, some (159, false), .call 40, [.t 160, .t 161, .t 162]⟩, []) ::
 (⟨some 164, some (159, false), .faddr 4, [.t 3]⟩, []) ::
 (⟨some 165, some (159, false), .load false 1, [.t 164]⟩, [13]) ::
 (⟨some 166, some (159, false), .bin .gtr, [.t 163, .t 165]⟩, []) ::
 (⟨some 167, none, .pick, [.t 159, .k (.d (.bool true)), .t 166]⟩, []) ::
 (⟨some 168, none, .mov, [.t 167]⟩, []) ::
 (⟨some 169, some (168, false), .mov, [.t 12]⟩, []) ::
 (⟨some 170, some (168, false), .mov, [.t 12]⟩, []) ::
 (⟨some 171, some (168, false), .len false, [.t 170]⟩, []) ::
 (⟨some 172, some (168, false), .bin .sub, [.t 171, .k (.d (.int .i64 1))]⟩, []) ::
 (⟨some 173, some (168, false), .iaddrS 1, [.t 169, .t 172]⟩, []) ::
 (⟨some 174, some (168, false), .load false 1, [.t 173]⟩, []) ::
 (⟨some 175, some (168, false), .mov, [.t 9]⟩, []) ::
 (⟨some 176, some (168, false), .mov, [.t 11]⟩, []) ::
 (⟨some 177, some (168, false), .iaddrS 1, [.t 175, .t 176]⟩, []) ::
 (⟨some 178, some (168, false), .load false 1, [.t 177]⟩, []) ::
 (⟨some 179, some (168, false), .bin .neq, [.t 174, .t 178]⟩, []) ::
 (⟨some 180, none, .pick, [.t 168, .k (.d (.bool true)), .t 179]⟩, []) ::
 []) [1, 3, 7, 9, 11, 180])
 (.cond (.t 180)
 (.seq (.reg [] (
 ⟨some 6, none, .mov, [.k (.d (.bool false))]⟩ ::
 []) [6])
 (.ret))
 (.skip)))))))
 (.reg [] (
 ⟨some 113, none, .mov, [.t 11]⟩ ::
 ⟨some 114, none, .bin .add, [.t 113, .k (.d (.int .i64 1))]⟩ ::
 ⟨some 11, none, .mov, [.t 114]⟩ ::
 []) [1, 3, 7, 9, 11]))))))
 (.seq (.reg [] (
 ⟨some 181, none, .call 15, []⟩ ::
 ⟨some 6, none, .mov, [.t 181]⟩ ::
 []) [6])
 (.ret)))))))))
theorem dec_law02_ServoEnds : Fun E0 F_law02_ServoEnds pc_law02_ServoEnds [.t 6] 182 := fun_of_dec (fl := [105]) (by kernel_rfl)
-- platter/platterlaw02.ServoTraces (3)
abbrev F_law02_ServoTraces : Nat := 10
def pc_law02_ServoTraces : PC :=
 .seq (.reg [] (
 ⟨some 3, none, .box, [.t 0]⟩ ::
 ⟨some 6, none, .mov, [.k (.d (.bool false))]⟩ ::
 []) [1, 2, 3])
 (.seq (.seq (.reg [] (
 ⟨some 9, none, .load true 6, [.t 3]⟩ ::
 ⟨some 10, none, .mov, [.t 1]⟩ ::
 ⟨some 11, none, .call 28, [.t 9, .t 10]⟩ ::
 []) [1, 2, 3, 11])
 (.cond (.t 11)
 (.seq (.reg [] (
 ⟨some 12, none, .call 15, []⟩ ::
 ⟨some 6, none, .mov, [.t 12]⟩ ::
 []) [6])
 (.ret))
 (.skip)))
 (.seq (.reg [] (
 ⟨some 14, none, .load true 6, [.t 3]⟩ ::
 ⟨some 15, none, .call 29, [.t 14]⟩ ::
 ⟨some 16, none, .mkrow 2 (.agg [.int .i64 0, .int .i64 0]) 0 [], []⟩ ::
 ⟨some 17, none, .mov, [.t 1]⟩ ::
 ⟨some 18, none, .app 46 2 none false, [.t 16, .t 17]⟩ ::
 ⟨some 19, none, .mov, [.t 2]⟩ ::
 ⟨some 20, none, .call 38, [.t 15, .t 18, .t 19]⟩ ::
 ⟨some 13, none, .mov, [.t 20]⟩ ::
 ⟨some 21, none, .extract 0, [.t 13]⟩ ::
 ⟨some 22, none, .extract 1, [.t 13]⟩ ::
 ⟨some 7, none, .mov, [.t 21]⟩ ::
 ⟨some 8, none, .mov, [.t 22]⟩ ::
 []) [1, 2, 3, 7, 8])
 (.seq (.seq (.reg [] (
 ⟨some 23, none, .mov, [.t 8]⟩ ::
 ⟨some 24, none, .load true 6, [.t 3]⟩ ::
 ⟨some 25, none, .mov, [.t 1]⟩ ::
 ⟨some 26, none, .mov, [.t 2]⟩ ::
 ⟨some 27, none, .call 41, [.t 24, .t 25, .t 26]⟩ ::
 ⟨some 28, none, .bin .neq, [.t 23, .t 27]⟩ ::
 ⟨some 29, none, .mov, [.t 28]⟩ ::
 ⟨some 30, some (29, false), .mov, [.t 8]⟩ ::
 ⟨some 31, some (29, false), .bin .neq, [.t 30, .k (.d (.int .i64 0))]⟩ ::
 ⟨some 32, some (29, false), .mov, [.t 31]⟩ ::
 ⟨some 33, some (32, true), .mov, [.t 7]⟩ ::
 ⟨some 34, some (32, true), .len false, [.t 33]⟩ ::
 ⟨some 35, some (32, true), .bin .gtr, [.t 34, .k (.d (.int .i64 0))]⟩ ::
 ⟨some 36, some (29, false), .pick, [.t 32, .t 35, .k (.d (.bool false))]⟩ ::
 ⟨some 37, none, .pick, [.t 29, .k (.d (.bool true)), .t 36]⟩ ::
 []) [1, 2, 3, 7, 8, 37])
 (.cond (.t 37)
 (.seq (.reg [] (
 ⟨some 6, none, .mov, [.k (.d (.bool false))]⟩ ::
 []) [6])
 (.ret))
 (.skip)))
 (.seq (.draw [] (
 (⟨some 38, none, .mov, [.t 8]⟩, []) ::
 (⟨some 39, none, .bin .neq, [.t 38, .k (.d (.int .i64 0))]⟩, []) ::
 (⟨some 40, none, .mov, [.t 39]⟩, []) ::
 (⟨some 41, some (40, false), .load true 6, [.t 3]⟩, []) ::
 (⟨some 42, some (40, false), .mov, [.t 1]⟩, []) ::
 (⟨some 43, some (40, false), .mov, [.t 7]⟩, []) ::
 (⟨some 44, some (40, false), .call 22, [.t 41, .t 42, .t 43]⟩, []) ::
 (⟨some 45, some (40, false), .mov, [.t 44]⟩, []) ::
 (⟨some 46, some (45, true), .load true 6, [.t 3]⟩, []) ::
 (⟨some 47, some (45, true), .mov, [.t 1]⟩, []) ::
 (⟨some 48, some (45, true), .mov, [.t 7]⟩, []) ::
 (⟨some 49, some (45, true), .call 40, [.t 46, .t 47, .t 48]⟩, []) ::
 (⟨some 50, some (45, true), .faddr 4, [.t 3]⟩, []) ::
 (⟨some 51, some (45, true), .load false 1, [.t 50]⟩, [11]) ::
 (⟨some 52, some (45, true), .bin .leq, [.t 49, .t 51]⟩, []) ::
 (⟨some 53, some (40, false), .pick, [.t 45, .t 52, .k (.d (.bool false))]⟩, []) ::
 (⟨some 54, some (40, false), .mov, [.t 53]⟩, []) ::
 (⟨some 55, some (54, true), .mov, [.t 7]⟩, []) ::
 (⟨some 56, some (54, true), .mov, [.t 7]⟩, []) ::
 (⟨some 57, some (54, true), .len false, [.t 56]⟩, []) ::
 (⟨some 58, some (54, true), .bin .sub, [.t 57, .k (.d (.int .i64 1))]⟩, []) ::
 (⟨some 59, some (54, true), .iaddrS 1, [.t 55, .t 58]⟩, []) ::
 (⟨some 60, some (54, true), .load false 1, [.t 59]⟩, []) ::
 (⟨some 61, some (54, true), .mov, [.t 2]⟩, []) ::
 (⟨some 62, some (54, true), .bin .eql, [.t 60, .t 61]⟩, []) ::
 (⟨some 63, some (40, false), .pick, [.t 54, .t 62, .k (.d (.bool false))]⟩, []) ::
 (⟨some 64, none, .pick, [.t 40, .k (.d (.bool true)), .t 63]⟩, []) ::
 (⟨some 65, none, .mov, [.t 64]⟩, []) ::
 (⟨some 66, some (65, true), .call 15, []⟩, []) ::
 (⟨some 67, none, .pick, [.t 65, .t 66, .k (.d (.bool false))]⟩, []) ::
 (⟨some 6, none, .mov, [.t 67]⟩, []) ::
 []) [6])
 (.ret)))))
theorem dec_law02_ServoTraces : Fun E0 F_law02_ServoTraces pc_law02_ServoTraces [.t 6] 68 := fun_of_dec (fl := [18]) (by kernel_rfl)
-- platter/platterlaw02.ServoGates (3)
abbrev F_law02_ServoGates : Nat := 11
def pc_law02_ServoGates : PC :=
 .seq (.reg [] (
 ⟨some 3, none, .box, [.t 0]⟩ ::
 ⟨some 5, none, .box, [.t 2]⟩ ::
 ⟨some 6, none, .mov, [.k (.d (.bool false))]⟩ ::
 []) [1, 3, 5])
 (.seq (.seq (.reg [] (
 ⟨some 17, none, .load true 6, [.t 3]⟩ ::
 ⟨some 18, none, .mov, [.t 1]⟩ ::
 ⟨some 19, none, .call 28, [.t 17, .t 18]⟩ ::
 []) [1, 3, 5, 19])
 (.cond (.t 19)
 (.seq (.reg [] (
 ⟨some 20, none, .call 15, []⟩ ::
 ⟨some 6, none, .mov, [.t 20]⟩ ::
 []) [6])
 (.ret))
 (.skip)))
 (.seq (.reg [] (
 ⟨some 21, none, .load true 6, [.t 3]⟩ ::
 ⟨some 22, none, .call 29, [.t 21]⟩ ::
 ⟨some 23, none, .mkrow 2 (.agg [.int .i64 0, .int .i64 0]) 0 [], []⟩ ::
 ⟨some 24, none, .mov, [.t 1]⟩ ::
 ⟨some 25, none, .app 46 2 none true, [.t 23, .t 24]⟩ ::
 ⟨some 7, none, .zero [.int .i64 0, .int .i64 0, .int .i64 0, .int .i64 0, .int .i64 0, .list true []], []⟩ ::
 ⟨none, none, .store 6, [.t 7, .t 22]⟩ ::
 ⟨some 8, none, .mov, [.t 25]⟩ ::
 []) [1, 3, 5, 7, 8])
 (.seq (.reg [.freeze 8] (
 ⟨some 27, none, .load true 6, [.t 7]⟩ ::
 ⟨some 28, none, .mov, [.t 8]⟩ ::
 ⟨some 29, none, .faddr 0, [.t 5]⟩ ::
 ⟨some 30, none, .load false 1, [.t 29]⟩ ::
 ⟨some 31, none, .faddr 1, [.t 5]⟩ ::
 ⟨some 32, none, .load false 1, [.t 31]⟩ ::
 ⟨some 33, none, .call 16, [.t 27, .t 28, .t 30, .t 32]⟩ ::
 ⟨some 26, none, .mov, [.t 33]⟩ ::
 ⟨some 34, none, .extract 0, [.t 26]⟩ ::
 ⟨some 35, none, .extract 1, [.t 26]⟩ ::
 ⟨some 9, none, .mov, [.t 34]⟩ ::
 ⟨some 10, none, .mov, [.t 35]⟩ ::
 []) [1, 3, 5, 7, 8, 9, 10])
 (.seq (.reg [] (
 ⟨some 37, none, .load true 6, [.t 3]⟩ ::
 ⟨some 38, none, .mov, [.t 1]⟩ ::
 ⟨some 39, none, .faddr 0, [.t 5]⟩ ::
 ⟨some 40, none, .load false 1, [.t 39]⟩ ::
 ⟨some 41, none, .faddr 1, [.t 5]⟩ ::
 ⟨some 42, none, .load false 1, [.t 41]⟩ ::
 ⟨some 43, none, .call 42, [.t 37, .t 38, .t 40, .t 42]⟩ ::
 ⟨some 36, none, .mov, [.t 43]⟩ ::
 ⟨some 44, none, .extract 0, [.t 36]⟩ ::
 ⟨some 45, none, .extract 1, [.t 36]⟩ ::
 ⟨some 11, none, .mov, [.t 44]⟩ ::
 ⟨some 12, none, .mov, [.t 45]⟩ ::
 []) [1, 3, 7, 8, 9, 10, 11, 12])
 (.seq (.reg [.freeze 8] (
 ⟨some 47, none, .load true 6, [.t 7]⟩ ::
 ⟨some 48, none, .mov, [.t 8]⟩ ::
 ⟨some 49, none, .call 43, [.t 47, .t 48]⟩ ::
 ⟨some 46, none, .mov, [.t 49]⟩ ::
 ⟨some 50, none, .extract 0, [.t 46]⟩ ::
 ⟨some 51, none, .extract 1, [.t 46]⟩ ::
 ⟨some 13, none, .mov, [.t 50]⟩ ::
 ⟨some 14, none, .mov, [.t 51]⟩ ::
 []) [1, 3, 9, 10, 11, 12, 13, 14])
 (.seq (.reg [] (
 ⟨some 53, none, .load true 6, [.t 3]⟩ ::
 ⟨some 54, none, .mov, [.t 1]⟩ ::
 ⟨some 55, none, .call 44, [.t 53, .t 54]⟩ ::
 ⟨some 52, none, .mov, [.t 55]⟩ ::
 ⟨some 56, none, .extract 0, [.t 52]⟩ ::
 ⟨some 57, none, .extract 1, [.t 52]⟩ ::
 ⟨some 15, none, .mov, [.t 56]⟩ ::
 ⟨some 16, none, .mov, [.t 57]⟩ ::
 []) [9, 10, 11, 12, 13, 14, 15, 16])
 (.seq (.reg [] (
 ⟨some 58, none, .mov, [.t 9]⟩ ::
 ⟨some 59, none, .mov, [.t 11]⟩ ::
 ⟨some 60, none, .bin .eql, [.t 58, .t 59]⟩ ::
 ⟨some 61, none, .mov, [.t 60]⟩ ::
 ⟨some 62, some (61, true), .mov, [.t 10]⟩ ::
 ⟨some 63, some (61, true), .mov, [.t 12]⟩ ::
 ⟨some 64, some (61, true), .bin .eql, [.t 62, .t 63]⟩ ::
 ⟨some 65, none, .pick, [.t 61, .t 64, .k (.d (.bool false))]⟩ ::
 ⟨some 66, none, .mov, [.t 65]⟩ ::
 ⟨some 67, some (66, true), .mov, [.t 13]⟩ ::
 ⟨some 68, some (66, true), .mov, [.t 15]⟩ ::
 ⟨some 69, some (66, true), .call 36, [.t 67, .t 68]⟩ ::
 ⟨some 70, none, .pick, [.t 66, .t 69, .k (.d (.bool false))]⟩ ::
 ⟨some 71, none, .mov, [.t 70]⟩ ::
 ⟨some 72, some (71, true), .mov, [.t 14]⟩ ::
 ⟨some 73, some (71, true), .mov, [.t 16]⟩ ::
 ⟨some 74, some (71, true), .bin .eql, [.t 72, .t 73]⟩ ::
 ⟨some 75, none, .pick, [.t 71, .t 74, .k (.d (.bool false))]⟩ ::
 ⟨some 76, none, .mov, [.t 75]⟩ ::
 ⟨some 77, some (76, true), .call 15, []⟩ ::
 ⟨some 78, none, .pick, [.t 76, .t 77, .k (.d (.bool false))]⟩ ::
 ⟨some 6, none, .mov, [.t 78]⟩ ::
 []) [6])
 (.ret))))))))
theorem dec_law02_ServoGates : Fun E0 F_law02_ServoGates pc_law02_ServoGates [.t 6] 79 := fun_of_dec (fl := []) (by kernel_rfl)
-- platter/platterlaw02.ServoTrue (3)
abbrev F_law02_ServoTrue : Nat := 12
def pc_law02_ServoTrue : PC :=
 .seq (.reg [] (
 ⟨some 3, none, .box, [.t 0]⟩ ::
 ⟨some 5, none, .box, [.t 2]⟩ ::
 ⟨some 6, none, .mov, [.k (.d (.bool false))]⟩ ::
 []) [1, 3, 5])
 (.seq (.seq (.reg [] (
 ⟨some 17, none, .load true 6, [.t 3]⟩ ::
 ⟨some 18, none, .mov, [.t 1]⟩ ::
 ⟨some 19, none, .call 13, [.t 17, .t 18]⟩ ::
 ⟨some 20, none, .un .not, [.t 19]⟩ ::
 ⟨some 21, none, .mov, [.t 20]⟩ ::
 ⟨some 22, some (21, false), .load true 6, [.t 3]⟩ ::
 ⟨some 23, some (21, false), .mov, [.t 1]⟩ ::
 ⟨some 24, some (21, false), .load true 2, [.t 5]⟩ ::
 ⟨some 25, some (21, false), .call 14, [.t 22, .t 23, .t 24]⟩ ::
 ⟨some 26, some (21, false), .un .not, [.t 25]⟩ ::
 ⟨some 27, none, .pick, [.t 21, .k (.d (.bool true)), .t 26]⟩ ::
 []) [1, 3, 5, 27])
 (.cond (.t 27)
 (.seq (.reg [] (
 ⟨some 28, none, .call 15, []⟩ ::
 ⟨some 6, none, .mov, [.t 28]⟩ ::
 []) [6])
 (.ret))
 (.skip)))
 (.seq (.reg [] (
 ⟨some 30, none, .load true 6, [.t 3]⟩ ::
 ⟨some 31, none, .mov, [.t 1]⟩ ::
 ⟨some 32, none, .call 18, [.t 30, .t 31]⟩ ::
 ⟨some 29, none, .mov, [.t 32]⟩ ::
 ⟨some 33, none, .extract 0, [.t 29]⟩ ::
 ⟨some 34, none, .extract 1, [.t 29]⟩ ::
 ⟨some 7, none, .mov, [.t 33]⟩ ::
 ⟨some 8, none, .mov, [.t 34]⟩ ::
 []) [1, 3, 5, 7, 8])
 (.seq (.reg [] (
 ⟨some 36, none, .load true 6, [.t 3]⟩ ::
 ⟨some 37, none, .mov, [.t 1]⟩ ::
 ⟨some 38, none, .call 43, [.t 36, .t 37]⟩ ::
 ⟨some 35, none, .mov, [.t 38]⟩ ::
 ⟨some 39, none, .extract 0, [.t 35]⟩ ::
 ⟨some 40, none, .extract 1, [.t 35]⟩ ::
 ⟨some 9, none, .mov, [.t 39]⟩ ::
 ⟨some 10, none, .mov, [.t 40]⟩ ::
 []) [1, 3, 5, 7, 8, 9, 10])
 (.seq (.reg [] (
 ⟨some 42, none, .load true 6, [.t 3]⟩ ::
 ⟨some 43, none, .mov, [.t 1]⟩ ::
 ⟨some 44, none, .call 34, [.t 42, .t 43]⟩ ::
 ⟨some 41, none, .mov, [.t 44]⟩ ::
 ⟨some 45, none, .extract 0, [.t 41]⟩ ::
 ⟨some 46, none, .extract 1, [.t 41]⟩ ::
 ⟨some 11, none, .mov, [.t 45]⟩ ::
 ⟨some 12, none, .mov, [.t 46]⟩ ::
 []) [1, 3, 5, 7, 8, 9, 10, 11, 12])
 (.seq (.seq (.reg [] (
 ⟨some 47, none, .mov, [.t 8]⟩ ::
 ⟨some 48, none, .bin .neq, [.t 47, .k (.d (.int .i64 0))]⟩ ::
 ⟨some 49, none, .mov, [.t 48]⟩ ::
 ⟨some 50, some (49, false), .mov, [.t 10]⟩ ::
 ⟨some 51, some (49, false), .bin .neq, [.t 50, .k (.d (.int .i64 0))]⟩ ::
 ⟨some 52, none, .pick, [.t 49, .k (.d (.bool true)), .t 51]⟩ ::
 ⟨some 53, none, .mov, [.t 52]⟩ ::
 ⟨some 54, some (53, false), .mov, [.t 12]⟩ ::
 ⟨some 55, some (53, false), .bin .neq, [.t 54, .k (.d (.int .i64 0))]⟩ ::
 ⟨some 56, none, .pick, [.t 53, .k (.d (.bool true)), .t 55]⟩ ::
 ⟨some 57, none, .mov, [.t 56]⟩ ::
 ⟨some 58, some (57, false), .mov, [.t 7]⟩ ::
 ⟨some 59, some (57, false), .faddr 0, [.t 5]⟩ ::
 ⟨some 60, some (57, false), .load false 1, [.t 59]⟩ ::
 ⟨some 61, some (57, false), .faddr 0, [.t 5]⟩ ::
 ⟨some 62, some (57, false), .load false 1, [.t 61]⟩ ::
 ⟨some 63, some (57, false), .len false, [.t 62]⟩ ::
 ⟨some 64, some (57, false), .bin .sub, [.t 63, .k (.d (.int .i64 1))]⟩ ::
 ⟨some 65, some (57, false), .iaddrS 1, [.t 60, .t 64]⟩ ::
 ⟨some 66, some (57, false), .load false 1, [.t 65]⟩ ::
 ⟨some 67, some (57, false), .call 39, [.t 58, .t 66]⟩ ::
 ⟨some 68, some (57, false), .un .not, [.t 67]⟩ ::
 ⟨some 69, none, .pick, [.t 57, .k (.d (.bool true)), .t 68]⟩ ::
 ⟨some 70, none, .mov, [.t 69]⟩ ::
 ⟨some 71, some (70, false), .load true 6, [.t 3]⟩ ::
 ⟨some 72, some (70, false), .mov, [.t 1]⟩ ::
 ⟨some 73, some (70, false), .faddr 0, [.t 5]⟩ ::
 ⟨some 74, some (70, false), .load false 1, [.t 73]⟩ ::
 ⟨some 75, some (70, false), .call 40, [.t 71, .t 72, .t 74]⟩ ::
 ⟨some 76, some (70, false), .mov, [.t 11]⟩ ::
 ⟨some 77, some (70, false), .bin .lss, [.t 75, .t 76]⟩ ::
 ⟨some 78, none, .pick, [.t 70, .k (.d (.bool true)), .t 77]⟩ ::
 ⟨some 79, none, .mov, [.t 78]⟩ ::
 ⟨some 80, some (79, false), .mov, [.t 9]⟩ ::
 ⟨some 81, some (79, false), .len false, [.t 80]⟩ ::
 ⟨some 82, some (79, false), .mov, [.t 1]⟩ ::
 ⟨some 83, some (79, false), .len false, [.t 82]⟩ ::
 ⟨some 84, some (79, false), .bin .gtr, [.t 81, .t 83]⟩ ::
 ⟨some 85, none, .pick, [.t 79, .k (.d (.bool true)), .t 84]⟩ ::
 []) [1, 3, 5, 9, 85])
 (.cond (.t 85)
 (.seq (.reg [] (
 ⟨some 6, none, .mov, [.k (.d (.bool false))]⟩ ::
 []) [6])
 (.ret))
 (.skip)))
 (.seq (.seq (.reg [] (
 ⟨some 13, none, .mov, [.k (.d (.int .i64 0))]⟩ ::
 []) [1, 3, 5, 9, 13])
 (.block 0
 (.loop [] [1, 3, 5, 9, 13] [3, 5, 38, 10038, 900000, 900001, 900002, 901000, 901001, 901002]
 (.seq (.seq (.reg [] (
 ⟨some 86, none, .mov, [.t 13]⟩ ::
 ⟨some 87, none, .mov, [.t 9]⟩ ::
 ⟨some 88, none, .len false, [.t 87]⟩ ::
 ⟨some 89, none, .bin .lss, [.t 86, .t 88]⟩ ::
 []) [1, 3, 5, 9, 13, 89])
 (.cond (.t 89)
 (.skip)
 (.exit 0)))
 (.seq (.block 1
 (.seq (.draw [] (
 (⟨some 92, none, .mov, [.t 9]⟩, []) ::
 (⟨some 93, none, .mov, [.t 13]⟩, []) ::
 (⟨some 94, none, .iaddrS 1, [.t 92, .t 93]⟩, []) ::
 (⟨some 95, none, .load false 1, [.t 94]⟩, []) ::
 (⟨some 96, none, .bin .lss, [.t 95, .k (.d (.int .i64 0))]⟩, []) ::
 (⟨some 97, none, .mov, [.t 96]⟩, []) ::
 (⟨some 98, some (97, false), .mov, [.t 9]⟩, []) ::
 (⟨some 99, some (97, false), .mov, [.t 13]⟩, []) ::
 (⟨some 100, some (97, false), .iaddrS 1, [.t 98, .t 99]⟩, []) ::
 (⟨some 101, some (97, false), .load false 1, [.t 100]⟩, []) ::
 (⟨some 102, some (97, false), .mov, [.t 1]⟩, []) ::
 (⟨some 103, some (97, false), .len false, [.t 102]⟩, []) ::
 (⟨some 104, some (97, false), .bin .geq, [.t 101, .t 103]⟩, []) ::
 (⟨some 105, none, .pick, [.t 97, .k (.d (.bool true)), .t 104]⟩, []) ::
 (⟨some 106, none, .mov, [.t 105]⟩, []) ::
 (⟨some 107, some (106, false), .mov, [.t 13]⟩, []) ::
 (⟨some 108, some (106, false), .bin .gtr, [.t 107, .k (.d (.int .i64 0))]⟩, []) ::
 (⟨some 109, some (106, false), .mov, [.t 108]⟩, []) ::
 (⟨some 110, some (109, true), .mov, [.t 9]⟩, []) ::
 (⟨some 111, some (109, true), .mov, [.t 13]⟩, []) ::
 (⟨some 112, some (109, true), .iaddrS 1, [.t 110, .t 111]⟩, []) ::
 (⟨some 113, some (109, true), .load false 1, [.t 112]⟩, []) ::
 (⟨some 114, some (109, true), .mov, [.t 9]⟩, []) ::
 (⟨some 115, some (109, true), .mov, [.t 13]⟩, []) ::
 (⟨some 116, some (109, true), .bin .sub, [.t 115, .k (.d (.int .i64 1))]⟩, []) ::
 (⟨some 117, some (109, true), .iaddrS 1, [.t 114, .t 116]⟩, []) ::
 (⟨some 118, some (109, true), .load false 1, [.t 117]⟩, []) ::
 (⟨some 119, some (109, true), .bin .leq, [.t 113, .t 118]⟩, []) ::
 (⟨some 120, some (106, false), .pick, [.t 109, .t 119, .k (.d (.bool false))]⟩, []) ::
 (⟨some 121, none, .pick, [.t 106, .k (.d (.bool true)), .t 120]⟩, []) ::
 (⟨some 122, none, .mov, [.t 121]⟩, []) ::
 (⟨some 123, some (122, false), .load true 6, [.t 3]⟩, []) ::
 (⟨some 124, some (122, false), .mov, [.t 1]⟩, []) ::
 (⟨some 125, some (122, false), .mov, [.t 9]⟩, []) ::
 (⟨some 126, some (122, false), .mov, [.t 13]⟩, []) ::
 (⟨some 127, some (122, false), .iaddrS 1, [.t 125, .t 126]⟩, []) ::
 (⟨some 128, some (122, false), .load false 1, [.t 127]⟩, []) ::
 (⟨some 129, some (122, false), .iaddrS 2, [.t 124, .t 128]⟩, []) ::
 (⟨some 130, some (122, false), .load true 2, [.t 129]⟩, []) ::
 (⟨some 131, some (122, false), .mov, [.t 9]⟩, []) ::
 (⟨some 132, some (122, false), .mov, [.t 13]⟩, []) ::
 (⟨some 133, some (122, false), .iaddrS 1, [.t 131, .t 132]⟩, []) ::
 (⟨some 134, some (122, false), .load false 1, [.t 133]⟩, []) ::
 (⟨some 135, some (122, false), .faddr 0, [.t 5]⟩, []) ::
 (⟨some 136, some (122, false), .load false 1, [.t 135]⟩, []) ::
 (⟨some 137, some (122, false), .mov, [.t 9]⟩, []) ::
 (⟨some 138, some (122, false), .mov, [.t 13]⟩, []) ::
 (⟨some 139, some (122, false), .iaddrS 1, [.t 137, .t 138]⟩, []) ::
 (⟨some 140, some (122, false), .load false 1, [.t 139]⟩, []) ::
 (⟨some 141, some (122, false), .iaddrS 1, [.t 136, .t 140]⟩, []) ::
 (⟨some 142, some (122, false), .load false 1, [.t 141]⟩, []) ::
 (⟨some 143, some (122, false), .call 23, [.t 123, .t 130, .t 134, .t 142]⟩, []) ::
 (⟨some 144, none, .pick, [.t 122, .k (.d (.bool true)), .t 143]⟩, []) ::
 []) [1, 3, 5, 9, 13, 144])
 (.cond (.t 144)
 (.seq (.reg [] (
 ⟨some 6, none, .mov, [.k (.d (.bool false))]⟩ ::
 []) [6])
 (.ret))
 (.skip))))
 (.reg [] (
 ⟨some 90, none, .mov, [.t 13]⟩ ::
 ⟨some 91, none, .bin .add, [.t 90, .k (.d (.int .i64 1))]⟩ ::
 ⟨some 13, none, .mov, [.t 91]⟩ ::
 []) [1, 3, 5, 9, 13]))))))
 (.seq (.seq (.reg [] (
 ⟨some 14, none, .mov, [.k (.d (.int .i64 0))]⟩ ::
 []) [1, 3, 5, 14])
 (.block 2
 (.loop [] [1, 3, 5, 14] [3, 5, 900000, 900001, 900002, 901000, 901001, 901002]
 (.seq (.seq (.reg [] (
 ⟨some 145, none, .mov, [.t 14]⟩ ::
 ⟨some 146, none, .faddr 1, [.t 5]⟩ ::
 ⟨some 147, none, .load false 1, [.t 146]⟩ ::
 ⟨some 148, none, .len false, [.t 147]⟩ ::
 ⟨some 149, none, .bin .lss, [.t 145, .t 148]⟩ ::
 []) [1, 3, 5, 14, 149])
 (.cond (.t 149)
 (.skip)
 (.exit 2)))
 (.seq (.block 3
 (.seq (.reg [] (
 ⟨some 153, none, .load true 6, [.t 3]⟩ ::
 ⟨some 154, none, .mov, [.t 1]⟩ ::
 ⟨some 155, none, .mov, [.t 14]⟩ ::
 ⟨some 156, none, .bin .add, [.t 155, .k (.d (.int .i64 1))]⟩ ::
 ⟨some 157, none, .call 19, [.t 153, .t 154, .t 156]⟩ ::
 ⟨some 152, none, .mov, [.t 157]⟩ ::
 ⟨some 158, none, .extract 0, [.t 152]⟩ ::
 ⟨some 159, none, .extract 1, [.t 152]⟩ ::
 ⟨some 15, none, .mov, [.t 158]⟩ ::
 ⟨some 16, none, .mov, [.t 159]⟩ ::
 []) [1, 3, 5, 14, 15, 16])
 (.seq (.reg [] (
 ⟨some 160, none, .mov, [.t 16]⟩ ::
 ⟨some 161, none, .bin .neq, [.t 160, .k (.d (.int .i64 0))]⟩ ::
 ⟨some 162, none, .mov, [.t 161]⟩ ::
 ⟨some 163, some (162, false), .mov, [.t 15]⟩ ::
 ⟨some 164, some (162, false), .faddr 1, [.t 5]⟩ ::
 ⟨some 165, some (162, false), .load false 1, [.t 164]⟩ ::
 ⟨some 166, some (162, false), .mov, [.t 14]⟩ ::
 ⟨some 167, some (162, false), .iaddrS 1, [.t 165, .t 166]⟩ ::
 ⟨some 168, some (162, false), .load false 1, [.t 167]⟩ ::
 ⟨some 169, some (162, false), .call 39, [.t 163, .t 168]⟩ ::
 ⟨some 170, some (162, false), .un .not, [.t 169]⟩ ::
 ⟨some 171, none, .pick, [.t 162, .k (.d (.bool true)), .t 170]⟩ ::
 []) [1, 3, 5, 14, 171])
 (.cond (.t 171)
 (.seq (.reg [] (
 ⟨some 6, none, .mov, [.k (.d (.bool false))]⟩ ::
 []) [6])
 (.ret))
 (.skip)))))
 (.reg [] (
 ⟨some 150, none, .mov, [.t 14]⟩ ::
 ⟨some 151, none, .bin .add, [.t 150, .k (.d (.int .i64 1))]⟩ ::
 ⟨some 14, none, .mov, [.t 151]⟩ ::
 []) [1, 3, 5, 14]))))))
 (.seq (.reg [] (
 ⟨some 172, none, .call 15, []⟩ ::
 ⟨some 6, none, .mov, [.t 172]⟩ ::
 []) [6])
 (.ret)))))))))
theorem dec_law02_ServoTrue : Fun E0 F_law02_ServoTrue pc_law02_ServoTrue [.t 6] 173 := fun_of_dec (fl := []) (by kernel_rfl)
-- platter/platterlaw02.valid (2)
abbrev F_law02_valid : Nat := 13
def pc_law02_valid : PC :=
 .seq (.reg [] (
 ⟨some 2, none, .box, [.t 0]⟩ ::
 ⟨some 4, none, .mov, [.k (.d (.bool false))]⟩ ::
 []) [1, 2])
 (.seq (.reg [] (
 ⟨some 5, none, .load true 6, [.t 2]⟩ ::
 ⟨some 6, none, .mov, [.t 1]⟩ ::
 ⟨some 7, none, .call 28, [.t 5, .t 6]⟩ ::
 ⟨some 8, none, .un .not, [.t 7]⟩ ::
 ⟨some 9, none, .mov, [.t 8]⟩ ::
 ⟨some 10, some (9, true), .load true 6, [.t 2]⟩ ::
 ⟨some 11, some (9, true), .mov, [.t 1]⟩ ::
 ⟨some 12, some (9, true), .call 31, [.t 10, .t 11]⟩ ::
 ⟨some 13, some (9, true), .bin .eql, [.t 12, .k (.d (.int .i64 0))]⟩ ::
 ⟨some 14, none, .pick, [.t 9, .t 13, .k (.d (.bool false))]⟩ ::
 ⟨some 4, none, .mov, [.t 14]⟩ ::
 []) [4])
 (.ret))
theorem dec_law02_valid : Fun E0 F_law02_valid pc_law02_valid [.t 4] 15 := fun_of_dec (fl := []) (by kernel_rfl)
-- platter/platterlaw02.possible (3)
abbrev F_law02_possible : Nat := 14
def pc_law02_possible : PC :=
 .seq (.reg [] (
 ⟨some 3, none, .box, [.t 0]⟩ ::
 ⟨some 5, none, .box, [.t 2]⟩ ::
 ⟨some 6, none, .mov, [.k (.d (.bool false))]⟩ ::
 []) [1, 3, 5])
 (.seq (.seq (.draw [] (
 (⟨some 9, none, .faddr 0, [.t 5]⟩, []) ::
 (⟨some 10, none, .load false 1, [.t 9]⟩, []) ::
 (⟨some 11, none, .len false, [.t 10]⟩, []) ::
 (⟨some 12, none, .bin .gtr, [.t 11, .k (.d (.int .i64 40))]⟩, []) ::
 (⟨some 13, none, .mov, [.t 12]⟩, []) ::
 (⟨some 14, some (13, false), .faddr 1, [.t 5]⟩, []) ::
 (⟨some 15, some (13, false), .load false 1, [.t 14]⟩, []) ::
 (⟨some 16, some (13, false), .len false, [.t 15]⟩, []) ::
 (⟨some 17, some (13, false), .bin .gtr, [.t 16, .k (.d (.int .i64 12))]⟩, []) ::
 (⟨some 18, none, .pick, [.t 13, .k (.d (.bool true)), .t 17]⟩, []) ::
 (⟨some 19, none, .mov, [.t 18]⟩, []) ::
 (⟨some 20, some (19, false), .load true 6, [.t 3]⟩, []) ::
 (⟨some 21, some (19, false), .mov, [.t 1]⟩, []) ::
 (⟨some 22, some (19, false), .faddr 0, [.t 5]⟩, []) ::
 (⟨some 23, some (19, false), .load false 1, [.t 22]⟩, []) ::
 (⟨some 24, some (19, false), .call 22, [.t 20, .t 21, .t 23]⟩, []) ::
 (⟨some 25, some (19, false), .un .not, [.t 24]⟩, []) ::
 (⟨some 26, none, .pick, [.t 19, .k (.d (.bool true)), .t 25]⟩, []) ::
 (⟨some 27, none, .mov, [.t 26]⟩, []) ::
 (⟨some 28, some (27, false), .load true 6, [.t 3]⟩, []) ::
 (⟨some 29, some (27, false), .mov, [.t 1]⟩, []) ::
 (⟨some 30, some (27, false), .faddr 0, [.t 5]⟩, []) ::
 (⟨some 31, some (27, false), .load false 1, [.t 30]⟩, []) ::
 (⟨some 32, some (27, false), .call 40, [.t 28, .t 29, .t 31]⟩, []) ::
 (⟨some 33, some (27, false), .faddr 4, [.t 3]⟩, []) ::
 (⟨some 34, some (27, false), .load false 1, [.t 33]⟩, [23]) ::
 (⟨some 35, some (27, false), .bin .gtr, [.t 32, .t 34]⟩, []) ::
 (⟨some 36, none, .pick, [.t 27, .k (.d (.bool true)), .t 35]⟩, []) ::
 (⟨some 37, none, .mov, [.t 36]⟩, []) ::
 (⟨some 38, some (37, false), .faddr 0, [.t 5]⟩, []) ::
 (⟨some 39, some (37, false), .load false 1, [.t 38]⟩, []) ::
 (⟨some 40, some (37, false), .len false, [.t 39]⟩, []) ::
 (⟨some 41, some (37, false), .bin .eql, [.t 40, .k (.d (.int .i64 0))]⟩, []) ::
 (⟨some 42, none, .pick, [.t 37, .k (.d (.bool true)), .t 41]⟩, []) ::
 []) [3, 5, 42])
 (.cond (.t 42)
 (.seq (.reg [] (
 ⟨some 6, none, .mov, [.k (.d (.bool false))]⟩ ::
 []) [6])
 (.ret))
 (.skip)))
 (.seq (.reg [] (
 ⟨some 43, none, .faddr 0, [.t 5]⟩ ::
 ⟨some 44, none, .load false 1, [.t 43]⟩ ::
 ⟨some 45, none, .faddr 0, [.t 5]⟩ ::
 ⟨some 46, none, .load false 1, [.t 45]⟩ ::
 ⟨some 47, none, .len false, [.t 46]⟩ ::
 ⟨some 48, none, .bin .sub, [.t 47, .k (.d (.int .i64 1))]⟩ ::
 ⟨some 49, none, .iaddrS 1, [.t 44, .t 48]⟩ ::
 ⟨some 50, none, .load false 1, [.t 49]⟩ ::
 ⟨some 7, none, .mov, [.t 50]⟩ ::
 []) [3, 5, 7])
 (.seq (.seq (.reg [] (
 ⟨some 8, none, .mov, [.k (.d (.int .i64 0))]⟩ ::
 []) [3, 5, 7, 8])
 (.block 0
 (.loop [] [3, 5, 7, 8] [3, 5, 900000, 900002, 901000, 901002]
 (.seq (.seq (.reg [] (
 ⟨some 51, none, .mov, [.t 8]⟩ ::
 ⟨some 52, none, .faddr 1, [.t 5]⟩ ::
 ⟨some 53, none, .load false 1, [.t 52]⟩ ::
 ⟨some 54, none, .len false, [.t 53]⟩ ::
 ⟨some 55, none, .bin .lss, [.t 51, .t 54]⟩ ::
 []) [3, 5, 7, 8, 55])
 (.cond (.t 55)
 (.skip)
 (.exit 0)))
 (.seq (.block 1
 (.seq (.seq (.draw [] (
 (⟨some 58, none, .faddr 1, [.t 5]⟩, []) ::
 (⟨some 59, none, .load false 1, [.t 58]⟩, []) ::
 (⟨some 60, none, .mov, [.t 8]⟩, []) ::
 (⟨some 61, none, .iaddrS 1, [.t 59, .t 60]⟩, []) ::
 (⟨some 62, none, .load false 1, [.t 61]⟩, []) ::
 (⟨some 63, none, .bin .lss, [.t 62, .k (.d (.int .i64 0))]⟩, []) ::
 (⟨some 64, none, .mov, [.t 63]⟩, []) ::
 (⟨some 65, some (64, false), .faddr 1, [.t 5]⟩, []) ::
 (⟨some 66, some (64, false), .load false 1, [.t 65]⟩, []) ::
 (⟨some 67, some (64, false), .mov, [.t 8]⟩, []) ::
 (⟨some 68, some (64, false), .iaddrS 1, [.t 66, .t 67]⟩, []) ::
 (⟨some 69, some (64, false), .load false 1, [.t 68]⟩, []) ::
 (⟨some 70, some (64, false), .load true 6, [.t 3]⟩, []) ::
 (⟨some 71, some (64, false), .call 37, [.t 70]⟩, [8, 10, 11]) ::
 (⟨some 72, some (64, false), .bin .gtr, [.t 69, .t 71]⟩, []) ::
 (⟨some 73, none, .pick, [.t 64, .k (.d (.bool true)), .t 72]⟩, []) ::
 (⟨some 74, none, .mov, [.t 73]⟩, []) ::
 (⟨some 75, some (74, false), .faddr 1, [.t 5]⟩, []) ::
 (⟨some 76, some (74, false), .load false 1, [.t 75]⟩, []) ::
 (⟨some 77, some (74, false), .mov, [.t 8]⟩, []) ::
 (⟨some 78, some (74, false), .iaddrS 1, [.t 76, .t 77]⟩, []) ::
 (⟨some 79, some (74, false), .load false 1, [.t 78]⟩, []) ::
 (⟨some 80, some (74, false), .mov, [.t 7]⟩, []) ::
 (⟨some 81, some (74, false), .bin .sub, [.t 79, .t 80]⟩, []) ::
 (⟨some 82, some (74, false), .faddr 2, [.t 3]⟩, []) ::
 (⟨some 83, some (74, false), .load false 1, [.t 82]⟩, []) ::
 (⟨some 84, some (74, false), .bin .gtr, [.t 81, .t 83]⟩, []) ::
 (⟨some 85, none, .pick, [.t 74, .k (.d (.bool true)), .t 84]⟩, []) ::
 (⟨some 86, none, .mov, [.t 85]⟩, []) ::
 (⟨some 87, some (86, false), .mov, [.t 7]⟩, []) ::
 (⟨some 88, some (86, false), .faddr 1, [.t 5]⟩, []) ::
 (⟨some 89, some (86, false), .load false 1, [.t 88]⟩, []) ::
 (⟨some 90, some (86, false), .mov, [.t 8]⟩, []) ::
 (⟨some 91, some (86, false), .iaddrS 1, [.t 89, .t 90]⟩, []) ::
 (⟨some 92, some (86, false), .load false 1, [.t 91]⟩, []) ::
 (⟨some 93, some (86, false), .bin .sub, [.t 87, .t 92]⟩, []) ::
 (⟨some 94, some (86, false), .faddr 2, [.t 3]⟩, []) ::
 (⟨some 95, some (86, false), .load false 1, [.t 94]⟩, []) ::
 (⟨some 96, some (86, false), .bin .gtr, [.t 93, .t 95]⟩, []) ::
 (⟨some 97, none, .pick, [.t 86, .k (.d (.bool true)), .t 96]⟩, []) ::
 []) [3, 5, 8, 97])
 (.cond (.t 97)
 (.seq (.reg [] (
 ⟨some 6, none, .mov, [.k (.d (.bool false))]⟩ ::
 []) [6])
 (.ret))
 (.skip)))
 (.reg [] (
 ⟨some 98, none, .faddr 1, [.t 5]⟩ ::
 ⟨some 99, none, .load false 1, [.t 98]⟩ ::
 ⟨some 100, none, .mov, [.t 8]⟩ ::
 ⟨some 101, none, .iaddrS 1, [.t 99, .t 100]⟩ ::
 ⟨some 102, none, .load false 1, [.t 101]⟩ ::
 ⟨some 7, none, .mov, [.t 102]⟩ ::
 []) [3, 5, 7, 8])))
 (.reg [] (
 ⟨some 56, none, .mov, [.t 8]⟩ ::
 ⟨some 57, none, .bin .add, [.t 56, .k (.d (.int .i64 1))]⟩ ::
 ⟨some 8, none, .mov, [.t 57]⟩ ::
 []) [3, 5, 7, 8]))))))
 (.seq (.reg [] (
 ⟨some 6, none, .mov, [.k (.d (.bool true))]⟩ ::
 []) [6])
 (.ret)))))
theorem dec_law02_possible : Fun E0 F_law02_possible pc_law02_possible [.t 6] 103 := fun_of_dec (fl := []) (by kernel_rfl)
-- platter/platterlaw02.works (0)
abbrev F_law02_works : Nat := 15
def pc_law02_works : PC :=
 .seq (.reg [] (
 ⟨some 0, none, .mov, [.k (.d (.bool false))]⟩ ::
 []) [])
 (.seq (.reg [] (
 ⟨some 10, none, .call 45, []⟩ ::
 ⟨some 9, none, .mov, [.t 10]⟩ ::
 ⟨some 11, none, .extract 0, [.t 9]⟩ ::
 ⟨some 12, none, .extract 1, [.t 9]⟩ ::
 ⟨some 1, none, .zero [.int .i64 0, .int .i64 0, .int .i64 0, .int .i64 0, .int .i64 0, .list true []], []⟩ ::
 ⟨none, none, .store 6, [.t 1, .t 11]⟩ ::
 ⟨some 2, none, .mov, [.t 12]⟩ ::
 []) [1, 2])
 (.seq (.reg [] (
 ⟨some 14, none, .load true 6, [.t 1]⟩ ::
 ⟨some 15, none, .mov, [.t 2]⟩ ::
 ⟨some 16, none, .call 18, [.t 14, .t 15]⟩ ::
 ⟨some 13, none, .mov, [.t 16]⟩ ::
 ⟨some 17, none, .extract 0, [.t 13]⟩ ::
 ⟨some 18, none, .extract 1, [.t 13]⟩ ::
 ⟨some 3, none, .mov, [.t 17]⟩ ::
 ⟨some 4, none, .mov, [.t 18]⟩ ::
 []) [1, 2, 3, 4])
 (.seq (.reg [] (
 ⟨some 20, none, .load true 6, [.t 1]⟩ ::
 ⟨some 21, none, .mov, [.t 2]⟩ ::
 ⟨some 22, none, .call 16, [.t 20, .t 21, .k (.d (.int .i64 2)), .k (.d (.int .i64 5))]⟩ ::
 ⟨some 19, none, .mov, [.t 22]⟩ ::
 ⟨some 23, none, .extract 0, [.t 19]⟩ ::
 ⟨some 24, none, .extract 1, [.t 19]⟩ ::
 ⟨some 5, none, .mov, [.t 23]⟩ ::
 ⟨some 6, none, .mov, [.t 24]⟩ ::
 []) [3, 4, 5, 6])
 (.seq (.reg [] (
 ⟨some 26, none, .call 25, [.k (.d (.int .i64 3))]⟩ ::
 ⟨some 25, none, .mov, [.t 26]⟩ ::
 ⟨some 27, none, .extract 0, [.t 25]⟩ ::
 ⟨some 28, none, .extract 1, [.t 25]⟩ ::
 ⟨some 7, none, .mov, [.t 27]⟩ ::
 ⟨some 8, none, .mov, [.t 28]⟩ ::
 []) [3, 4, 5, 6, 7, 8])
 (.seq (.reg [] (
 ⟨some 29, none, .mov, [.t 4]⟩ ::
 ⟨some 30, none, .bin .eql, [.t 29, .k (.d (.int .i64 0))]⟩ ::
 ⟨some 31, none, .mov, [.t 30]⟩ ::
 ⟨some 32, some (31, true), .mov, [.t 6]⟩ ::
 ⟨some 33, some (31, true), .bin .eql, [.t 32, .k (.d (.int .i64 0))]⟩ ::
 ⟨some 34, none, .pick, [.t 31, .t 33, .k (.d (.bool false))]⟩ ::
 ⟨some 35, none, .mov, [.t 34]⟩ ::
 ⟨some 36, some (35, true), .mov, [.t 8]⟩ ::
 ⟨some 37, some (35, true), .bin .eql, [.t 36, .k (.d (.int .i64 0))]⟩ ::
 ⟨some 38, none, .pick, [.t 35, .t 37, .k (.d (.bool false))]⟩ ::
 ⟨some 39, none, .mov, [.t 38]⟩ ::
 ⟨some 40, some (39, true), .mov, [.t 5]⟩ ::
 ⟨some 41, some (39, true), .bin .eql, [.t 40, .k (.d (.int .i64 2))]⟩ ::
 ⟨some 42, none, .pick, [.t 39, .t 41, .k (.d (.bool false))]⟩ ::
 ⟨some 43, none, .mov, [.t 42]⟩ ::
 ⟨some 44, some (43, true), .mov, [.t 7]⟩ ::
 ⟨some 45, some (43, true), .bin .eql, [.t 44, .k (.d (.int .i64 2))]⟩ ::
 ⟨some 46, none, .pick, [.t 43, .t 45, .k (.d (.bool false))]⟩ ::
 ⟨some 47, none, .mov, [.t 46]⟩ ::
 ⟨some 48, some (47, true), .mov, [.t 3]⟩ ::
 ⟨some 49, some (47, true), .build [.int .i64 0, .int .i64 0] [(0, 1), (1, 1)], [.k (.d (.int .i64 6)), .k (.d (.int .i64 8))]⟩ ::
 ⟨some 50, some (47, true), .mkrow 2 (.agg [.int .i64 0, .int .i64 0]) 1 [0], [.t 49]⟩ ::
 ⟨some 51, some (47, true), .call 20, [.t 48, .t 50]⟩ ::
 ⟨some 52, none, .pick, [.t 47, .t 51, .k (.d (.bool false))]⟩ ::
 ⟨some 0, none, .mov, [.t 52]⟩ ::
 []) [0])
 (.ret))))))
theorem dec_law02_works : Fun E0 F_law02_works pc_law02_works [.t 0] 53 := fun_of_dec (fl := []) (by kernel_rfl)
-- platter/servo.Gate (4)
abbrev F_servo_Gate : Nat := 16
def pc_servo_Gate : PC :=
 .seq (.reg [] (
 ⟨some 4, none, .box, [.t 0]⟩ ::
 ⟨some 8, none, .mov, [.k (.d (.int .i64 0))]⟩ ::
 ⟨some 9, none, .mov, [.k (.d (.int .i64 0))]⟩ ::
 []) [1, 2, 3, 4])
 (.seq (.draw [] (
 (⟨some 16, none, .load true 6, [.t 4]⟩, []) ::
 (⟨some 17, none, .mov, [.t 1]⟩, []) ::
 (⟨some 18, none, .mov, [.t 2]⟩, []) ::
 (⟨some 19, none, .faddr 0, [.t 4]⟩, []) ::
 (⟨some 20, none, .load false 1, [.t 19]⟩, []) ::
 (⟨some 21, none, .bin .sub, [.t 20, .k (.d (.int .i64 1))]⟩, []) ::
 (⟨some 22, none, .call 47, [.t 18, .k (.d (.int .i64 0)), .t 21]⟩, [0]) ::
 (⟨some 23, none, .mov, [.t 22]⟩, []) ::
 (⟨some 24, some (23, true), .mov, [.t 3]⟩, []) ::
 (⟨some 25, some (23, true), .call 47, [.t 24, .k (.d (.int .i64 0)), .k (.d (.int .i64 16))]⟩, [0]) ::
 (⟨some 26, none, .pick, [.t 23, .t 25, .k (.d (.bool false))]⟩, []) ::
 (⟨some 27, none, .call 46, [.t 16, .t 17, .t 26]⟩, []) ::
 (⟨some 15, none, .mov, [.t 27]⟩, []) ::
 (⟨some 28, none, .extract 0, [.t 15]⟩, []) ::
 (⟨some 29, none, .extract 1, [.t 15]⟩, []) ::
 (⟨some 10, none, .mov, [.t 28]⟩, []) ::
 (⟨some 11, none, .mov, [.t 29]⟩, []) ::
 []) [1, 2, 3, 10, 11])
 (.seq (.seq (.reg [] (
 ⟨some 30, none, .mov, [.t 11]⟩ ::
 ⟨some 31, none, .bin .neq, [.t 30, .k (.d (.int .i64 0))]⟩ ::
 []) [1, 2, 3, 10, 11, 31])
 (.cond (.t 31)
 (.seq (.reg [] (
 ⟨some 32, none, .mov, [.t 11]⟩ ::
 ⟨some 8, none, .mov, [.k (.d (.int .i64 0))]⟩ ::
 ⟨some 9, none, .mov, [.t 32]⟩ ::
 []) [8, 9])
 (.ret))
 (.skip)))
 (.seq (.seq (.reg [] (
 ⟨some 33, none, .mov, [.k (.d (.int .i64 0))]⟩ ::
 []) [1, 2, 3, 10, 33])
 (.block 0
 (.loop [] [1, 2, 3, 10, 33] [27, 10027, 900001, 900002, 900003, 901001, 901002, 901003]
 (.seq (.reg [] (
 ⟨some 34, none, .bin .lss, [.t 33, .k (.d (.int .i64 24))]⟩ ::
 []) [1, 2, 3, 10, 33, 34])
 (.seq (.cond (.t 34)
 (.skip)
 (.exit 0))
 (.seq (.block 1
 (.seq (.reg [] (
 ⟨some 35, none, .mov, [.t 33]⟩ ::
 ⟨some 12, none, .mov, [.t 35]⟩ ::
 []) [1, 2, 3, 10, 12, 33])
 (.seq (.reg [] (
 ⟨some 36, none, .mov, [.t 10]⟩ ::
 ⟨some 37, none, .mov, [.t 2]⟩ ::
 ⟨some 38, none, .mov, [.t 1]⟩ ::
 ⟨some 39, none, .len false, [.t 38]⟩ ::
 ⟨some 40, none, .bin .sub, [.t 39, .k (.d (.int .i64 1))]⟩ ::
 ⟨some 41, none, .mov, [.t 12]⟩ ::
 ⟨some 42, none, .bin .add, [.t 40, .t 41]⟩ ::
 ⟨some 43, none, .minmax true, [.k (.d (.int .i64 0)), .t 42]⟩ ::
 ⟨some 44, none, .call 48, [.t 36, .t 37, .t 43]⟩ ::
 ⟨some 13, none, .mov, [.t 44]⟩ ::
 []) [1, 2, 3, 10, 12, 13, 33])
 (.seq (.reg [] (
 ⟨some 45, none, .mov, [.t 10]⟩ ::
 ⟨some 46, none, .mov, [.t 12]⟩ ::
 ⟨some 47, none, .call 49, [.t 45, .t 46]⟩ ::
 ⟨some 14, none, .mov, [.t 47]⟩ ::
 []) [1, 2, 3, 10, 12, 13, 14, 33])
 (.seq (.reg [] (
 ⟨some 48, none, .mov, [.t 14]⟩ ::
 ⟨some 49, none, .iaddrS 2, [.t 48, .k (.d (.int .i64 0))]⟩ ::
 ⟨some 50, none, .faddr 0, [.t 49]⟩ ::
 ⟨some 51, none, .load false 1, [.t 50]⟩ ::
 ⟨some 52, none, .mov, [.t 13]⟩ ::
 ⟨some 53, none, .mov, [.t 3]⟩ ::
 ⟨some 54, none, .bin .sub, [.t 52, .t 53]⟩ ::
 ⟨some 55, none, .bin .lss, [.t 51, .t 54]⟩ ::
 ⟨some 56, none, .mov, [.t 55]⟩ ::
 ⟨some 57, some (56, false), .mov, [.t 14]⟩ ::
 ⟨some 58, some (56, false), .mov, [.t 14]⟩ ::
 ⟨some 59, some (56, false), .len false, [.t 58]⟩ ::
 ⟨some 60, some (56, false), .bin .sub, [.t 59, .k (.d (.int .i64 1))]⟩ ::
 ⟨some 61, some (56, false), .iaddrS 2, [.t 57, .t 60]⟩ ::
 ⟨some 62, some (56, false), .faddr 1, [.t 61]⟩ ::
 ⟨some 63, some (56, false), .load false 1, [.t 62]⟩ ::
 ⟨some 64, some (56, false), .mov, [.t 13]⟩ ::
 ⟨some 65, some (56, false), .mov, [.t 3]⟩ ::
 ⟨some 66, some (56, false), .bin .add, [.t 64, .t 65]⟩ ::
 ⟨some 67, some (56, false), .bin .gtr, [.t 63, .t 66]⟩ ::
 ⟨some 68, none, .pick, [.t 56, .k (.d (.bool true)), .t 67]⟩ ::
 []) [1, 2, 3, 10, 12, 33, 68])
 (.cond (.t 68)
 (.seq (.reg [] (
 ⟨some 69, none, .mov, [.t 12]⟩ ::
 ⟨some 8, none, .mov, [.t 69]⟩ ::
 ⟨some 9, none, .mov, [.k (.d (.int .i64 0))]⟩ ::
 []) [8, 9])
 (.ret))
 (.skip)))))))
 (.reg [] (
 ⟨some 70, none, .bin .add, [.t 33, .k (.d (.int .i64 1))]⟩ ::
 ⟨some 33, none, .mov, [.t 70]⟩ ::
 []) [1, 2, 3, 10, 33])))))))
 (.seq (.reg [] (
 ⟨some 8, none, .mov, [.k (.d (.int .i64 24))]⟩ ::
 ⟨some 9, none, .mov, [.k (.d (.int .i64 0))]⟩ ::
 []) [8, 9])
 (.ret)))))
theorem dec_servo_Gate : Fun E0 F_servo_Gate pc_servo_Gate [.t 8, .t 9] 71 := fun_of_dec (fl := []) (by kernel_rfl)
-- platter/platterref02.Center (3)
abbrev F_ref02_Center : Nat := 17
def pc_ref02_Center : PC :=
 .seq (.reg [] (
 ⟨some 3, none, .box, [.t 0]⟩ ::
 ⟨some 6, none, .mov, [.k (.d (.int .i64 0))]⟩ ::
 []) [1, 2, 3])
 (.seq (.draw [] (
 (⟨some 7, none, .mov, [.t 1]⟩, []) ::
 (⟨some 8, none, .faddr 1, [.t 3]⟩, []) ::
 (⟨some 9, none, .load false 1, [.t 8]⟩, []) ::
 (⟨some 10, none, .bin .mul, [.t 7, .t 9]⟩, []) ::
 (⟨some 11, none, .faddr 5, [.t 3]⟩, []) ::
 (⟨some 12, none, .load false 1, [.t 11]⟩, []) ::
 (⟨some 13, none, .mov, [.t 2]⟩, []) ::
 (⟨some 14, none, .minmax true, [.k (.d (.int .i64 0)), .t 13]⟩, []) ::
 (⟨some 15, none, .faddr 5, [.t 3]⟩, []) ::
 (⟨some 16, none, .load false 1, [.t 15]⟩, []) ::
 (⟨some 17, none, .len false, [.t 16]⟩, []) ::
 (⟨some 18, none, .bin .rem, [.t 14, .t 17]⟩, []) ::
 (⟨some 19, none, .iaddrS 1, [.t 12, .t 18]⟩, []) ::
 (⟨some 20, none, .load false 1, [.t 19]⟩, []) ::
 (⟨some 21, none, .bin .add, [.t 10, .t 20]⟩, []) ::
 (⟨some 6, none, .mov, [.t 21]⟩, []) ::
 []) [6])
 (.ret))
theorem dec_ref02_Center : Fun E0 F_ref02_Center pc_ref02_Center [.t 6] 22 := fun_of_dec (fl := []) (by kernel_rfl)
-- platter/servo.Where (2)
abbrev F_servo_Where : Nat := 18
def pc_servo_Where : PC :=
 .seq (.reg [] (
 ⟨some 2, none, .box, [.t 0]⟩ ::
 ⟨some 4, none, .mov, [.k (.d (.list true []))]⟩ ::
 ⟨some 5, none, .mov, [.k (.d (.int .i64 0))]⟩ ::
 []) [1, 2])
 (.seq (.reg [] (
 ⟨some 6, none, .load true 6, [.t 2]⟩ ::
 ⟨some 7, none, .mov, [.t 1]⟩ ::
 ⟨some 8, none, .call 19, [.t 6, .t 7, .k (.d (.int .i64 0))]⟩ ::
 ⟨some 9, none, .extract 0, [.t 8]⟩ ::
 ⟨some 10, none, .extract 1, [.t 8]⟩ ::
 ⟨some 4, none, .mov, [.t 9]⟩ ::
 ⟨some 5, none, .mov, [.t 10]⟩ ::
 []) [4, 5])
 (.ret))
theorem dec_servo_Where : Fun E0 F_servo_Where pc_servo_Where [.t 4, .t 5] 11 := fun_of_dec (fl := []) (by kernel_rfl)
-- platter/servo.Ahead (3)
abbrev F_servo_Ahead : Nat := 19
def pc_servo_Ahead : PC :=
 .seq (.reg [] (
 ⟨some 3, none, .box, [.t 0]⟩ ::
 ⟨some 6, none, .mov, [.k (.d (.list true []))]⟩ ::
 ⟨some 7, none, .mov, [.k (.d (.int .i64 0))]⟩ ::
 []) [1, 2, 3])
 (.seq (.draw [] (
 (⟨some 11, none, .load true 6, [.t 3]⟩, []) ::
 (⟨some 12, none, .mov, [.t 1]⟩, []) ::
 (⟨some 13, none, .mov, [.t 2]⟩, []) ::
 (⟨some 14, none, .call 47, [.t 13, .k (.d (.int .i64 0)), .k (.d (.int .i64 24))]⟩, [0]) ::
 (⟨some 15, none, .call 46, [.t 11, .t 12, .t 14]⟩, []) ::
 (⟨some 10, none, .mov, [.t 15]⟩, []) ::
 (⟨some 16, none, .extract 0, [.t 10]⟩, []) ::
 (⟨some 17, none, .extract 1, [.t 10]⟩, []) ::
 (⟨some 8, none, .mov, [.t 16]⟩, []) ::
 (⟨some 9, none, .mov, [.t 17]⟩, []) ::
 []) [2, 8, 9])
 (.seq (.seq (.reg [] (
 ⟨some 18, none, .mov, [.t 9]⟩ ::
 ⟨some 19, none, .bin .neq, [.t 18, .k (.d (.int .i64 0))]⟩ ::
 []) [2, 8, 9, 19])
 (.cond (.t 19)
 (.seq (.reg [] (
 ⟨some 20, none, .mov, [.t 9]⟩ ::
 ⟨some 6, none, .mov, [.k (.d (.list true []))]⟩ ::
 ⟨some 7, none, .mov, [.t 20]⟩ ::
 []) [6, 7])
 (.ret))
 (.skip)))
 (.seq (.reg [] (
 ⟨some 21, none, .mov, [.t 8]⟩ ::
 ⟨some 22, none, .mov, [.t 2]⟩ ::
 ⟨some 23, none, .call 49, [.t 21, .t 22]⟩ ::
 ⟨some 6, none, .mov, [.t 23]⟩ ::
 ⟨some 7, none, .mov, [.k (.d (.int .i64 0))]⟩ ::
 []) [6, 7])
 (.ret))))
theorem dec_servo_Ahead : Fun E0 F_servo_Ahead pc_servo_Ahead [.t 6, .t 7] 24 := fun_of_dec (fl := []) (by kernel_rfl)
-- platter/platterlaw02.sameSpans (2)
abbrev F_law02_sameSpans : Nat := 20
def pc_law02_sameSpans : PC :=
 .seq (.reg [] (
 ⟨some 4, none, .mov, [.k (.d (.bool false))]⟩ ::
 []) [0, 1])
 (.seq (.seq (.reg [] (
 ⟨some 6, none, .mov, [.t 0]⟩ ::
 ⟨some 7, none, .len false, [.t 6]⟩ ::
 ⟨some 8, none, .mov, [.t 1]⟩ ::
 ⟨some 9, none, .len false, [.t 8]⟩ ::
 ⟨some 10, none, .bin .neq, [.t 7, .t 9]⟩ ::
 []) [0, 1, 10])
 (.cond (.t 10)
 (.seq (.reg [] (
 ⟨some 4, none, .mov, [.k (.d (.bool false))]⟩ ::
 []) [4])
 (.ret))
 (.skip)))
 (.seq (.seq (.reg [] (
 ⟨some 5, none, .mov, [.k (.d (.int .i64 0))]⟩ ::
 []) [0, 1, 5])
 (.block 0
 (.loop [] [0, 1, 5] [900000, 900001, 901000, 901001]
 (.seq (.seq (.reg [] (
 ⟨some 11, none, .mov, [.t 5]⟩ ::
 ⟨some 12, none, .mov, [.t 0]⟩ ::
 ⟨some 13, none, .len false, [.t 12]⟩ ::
 ⟨some 14, none, .bin .lss, [.t 11, .t 13]⟩ ::
 []) [0, 1, 5, 14])
 (.cond (.t 14)
 (.skip)
 (.exit 0)))
 (.seq (.block 1
 (.seq (.draw [] (
 (⟨some 17, none, .mov, [.t 0]⟩, []) ::
 (⟨some 18, none, .mov, [.t 5]⟩, []) ::
 (⟨some 19, none, .iaddrS 2, [.t 17, .t 18]⟩, []) ::
 (⟨some 20, none, .load true 2, [.t 19]⟩, []) ::
 (⟨some 21, none, .mov, [.t 1]⟩, []) ::
 (⟨some 22, none, .mov, [.t 5]⟩, []) ::
 (⟨some 23, none, .iaddrS 2, [.t 21, .t 22]⟩, []) ::
 (⟨some 24, none, .load true 2, [.t 23]⟩, []) ::
 (⟨some 25, none, .eqv true (true, [some .i64, some .i64]), [.t 20, .t 24]⟩, []) ::
 []) [0, 1, 5, 25])
 (.cond (.t 25)
 (.seq (.reg [] (
 ⟨some 4, none, .mov, [.k (.d (.bool false))]⟩ ::
 []) [4])
 (.ret))
 (.skip))))
 (.reg [] (
 ⟨some 15, none, .mov, [.t 5]⟩ ::
 ⟨some 16, none, .bin .add, [.t 15, .k (.d (.int .i64 1))]⟩ ::
 ⟨some 5, none, .mov, [.t 16]⟩ ::
 []) [0, 1, 5]))))))
 (.seq (.reg [] (
 ⟨some 4, none, .mov, [.k (.d (.bool true))]⟩ ::
 []) [4])
 (.ret))))
theorem dec_law02_sameSpans : Fun E0 F_law02_sameSpans pc_law02_sameSpans [.t 4] 26 := fun_of_dec (fl := []) (by kernel_rfl)
-- platter/platterlaw02.within (3)
abbrev F_law02_within : Nat := 21
def pc_law02_within : PC :=
 .seq (.reg [] (
 ⟨some 3, none, .box, [.t 0]⟩ ::
 ⟨some 6, none, .mov, [.k (.d (.bool false))]⟩ ::
 []) [1, 2, 3])
 (.seq (.seq (.reg [] (
 ⟨some 7, none, .mov, [.k (.d (.int .i64 0))]⟩ ::
 []) [1, 2, 3, 7])
 (.block 0
 (.loop [] [1, 2, 3, 7] [3, 900000, 900001, 900002, 901000, 901001, 901002]
 (.seq (.seq (.reg [] (
 ⟨some 8, none, .mov, [.t 7]⟩ ::
 ⟨some 9, none, .load true 6, [.t 3]⟩ ::
 ⟨some 10, none, .call 37, [.t 9]⟩ ::
 ⟨some 11, none, .bin .leq, [.t 8, .t 10]⟩ ::
 []) [1, 2, 3, 7, 11])
 (.cond (.t 11)
 (.skip)
 (.exit 0)))
 (.seq (.block 1
 (.seq (.reg [] (
 ⟨some 14, none, .mov, [.t 1]⟩ ::
 ⟨some 15, none, .mov, [.t 7]⟩ ::
 ⟨some 16, none, .call 39, [.t 14, .t 15]⟩ ::
 ⟨some 17, none, .mov, [.t 16]⟩ ::
 ⟨some 18, some (17, true), .mov, [.t 2]⟩ ::
 ⟨some 19, some (17, true), .mov, [.t 7]⟩ ::
 ⟨some 20, some (17, true), .call 39, [.t 18, .t 19]⟩ ::
 ⟨some 21, some (17, true), .un .not, [.t 20]⟩ ::
 ⟨some 22, none, .pick, [.t 17, .t 21, .k (.d (.bool false))]⟩ ::
 []) [1, 2, 3, 7, 22])
 (.cond (.t 22)
 (.seq (.reg [] (
 ⟨some 6, none, .mov, [.k (.d (.bool false))]⟩ ::
 []) [6])
 (.ret))
 (.skip))))
 (.reg [] (
 ⟨some 12, none, .mov, [.t 7]⟩ ::
 ⟨some 13, none, .bin .add, [.t 12, .k (.d (.int .i64 1))]⟩ ::
 ⟨some 7, none, .mov, [.t 13]⟩ ::
 []) [1, 2, 3, 7]))))))
 (.seq (.reg [] (
 ⟨some 6, none, .mov, [.k (.d (.bool true))]⟩ ::
 []) [6])
 (.ret)))
theorem dec_law02_within : Fun E0 F_law02_within pc_law02_within [.t 6] 23 := fun_of_dec (fl := []) (by kernel_rfl)
-- platter/platterref02.IsPath (3)
abbrev F_ref02_IsPath : Nat := 22
def pc_ref02_IsPath : PC :=
 .seq (.reg [] (
 ⟨some 3, none, .box, [.t 0]⟩ ::
 ⟨some 6, none, .mov, [.k (.d (.bool false))]⟩ ::
 []) [1, 2, 3])
 (.seq (.seq (.reg [] (
 ⟨some 7, none, .mov, [.k (.d (.int .i64 0))]⟩ ::
 []) [1, 2, 3, 7])
 (.block 0
 (.loop [] [1, 2, 3, 7] [3, 900000, 900001, 900002, 901000, 901001, 901002]
 (.seq (.seq (.reg [] (
 ⟨some 8, none, .mov, [.t 7]⟩ ::
 ⟨some 9, none, .mov, [.t 2]⟩ ::
 ⟨some 10, none, .len false, [.t 9]⟩ ::
 ⟨some 11, none, .bin .lss, [.t 8, .t 10]⟩ ::
 []) [1, 2, 3, 7, 11])
 (.cond (.t 11)
 (.skip)
 (.exit 0)))
 (.seq (.block 1
 (.seq (.draw [] (
 (⟨some 14, none, .mov, [.t 2]⟩, []) ::
 (⟨some 15, none, .mov, [.t 7]⟩, []) ::
 (⟨some 16, none, .iaddrS 1, [.t 14, .t 15]⟩, []) ::
 (⟨some 17, none, .load false 1, [.t 16]⟩, []) ::
 (⟨some 18, none, .load true 6, [.t 3]⟩, []) ::
 (⟨some 19, none, .call 37, [.t 18]⟩, [2, 3]) ::
 (⟨some 20, none, .call 50, [.t 17, .k (.d (.int .i64 0)), .t 19]⟩, []) ::
 (⟨some 21, none, .un .not, [.t 20]⟩, []) ::
 (⟨some 22, none, .mov, [.t 21]⟩, []) ::
 (⟨some 23, some (22, false), .mov, [.t 7]⟩, []) ::
 (⟨some 24, some (22, false), .bin .gtr, [.t 23, .k (.d (.int .i64 0))]⟩, []) ::
 (⟨some 25, some (22, false), .mov, [.t 24]⟩, []) ::
 (⟨some 26, some (25, true), .mov, [.t 2]⟩, []) ::
 (⟨some 27, some (25, true), .mov, [.t 7]⟩, []) ::
 (⟨some 28, some (25, true), .iaddrS 1, [.t 26, .t 27]⟩, []) ::
 (⟨some 29, some (25, true), .load false 1, [.t 28]⟩, []) ::
 (⟨some 30, some (25, true), .mov, [.t 2]⟩, []) ::
 (⟨some 31, some (25, true), .mov, [.t 7]⟩, []) ::
 (⟨some 32, some (25, true), .bin .sub, [.t 31, .k (.d (.int .i64 1))]⟩, []) ::
 (⟨some 33, some (25, true), .iaddrS 1, [.t 30, .t 32]⟩, []) ::
 (⟨some 34, some (25, true), .load false 1, [.t 33]⟩, []) ::
 (⟨some 35, some (25, true), .bin .sub, [.t 29, .t 34]⟩, []) ::
 (⟨some 36, some (25, true), .call 51, [.t 35]⟩, []) ::
 (⟨some 37, some (25, true), .faddr 2, [.t 3]⟩, []) ::
 (⟨some 38, some (25, true), .load false 1, [.t 37]⟩, [22]) ::
 (⟨some 39, some (25, true), .bin .gtr, [.t 36, .t 38]⟩, []) ::
 (⟨some 40, some (22, false), .pick, [.t 25, .t 39, .k (.d (.bool false))]⟩, []) ::
 (⟨some 41, none, .pick, [.t 22, .k (.d (.bool true)), .t 40]⟩, []) ::
 []) [1, 2, 3, 7, 41])
 (.cond (.t 41)
 (.seq (.reg [] (
 ⟨some 6, none, .mov, [.k (.d (.bool false))]⟩ ::
 []) [6])
 (.ret))
 (.skip))))
 (.reg [] (
 ⟨some 12, none, .mov, [.t 7]⟩ ::
 ⟨some 13, none, .bin .add, [.t 12, .k (.d (.int .i64 1))]⟩ ::
 ⟨some 7, none, .mov, [.t 13]⟩ ::
 []) [1, 2, 3, 7]))))))
 (.seq (.reg [] (
 ⟨some 42, none, .mov, [.t 2]⟩ ::
 ⟨some 43, none, .len false, [.t 42]⟩ ::
 ⟨some 44, none, .mov, [.t 1]⟩ ::
 ⟨some 45, none, .len false, [.t 44]⟩ ::
 ⟨some 46, none, .bin .eql, [.t 43, .t 45]⟩ ::
 ⟨some 6, none, .mov, [.t 46]⟩ ::
 []) [6])
 (.ret)))
theorem dec_ref02_IsPath : Fun E0 F_ref02_IsPath pc_ref02_IsPath [.t 6] 47 := fun_of_dec (fl := []) (by kernel_rfl)
-- platter/platterref02.Agrees (4)
abbrev F_ref02_Agrees : Nat := 23
def pc_ref02_Agrees : PC :=
 .seq (.reg [] (
 ⟨some 4, none, .box, [.t 0]⟩ ::
 ⟨some 5, none, .box, [.t 1]⟩ ::
 ⟨some 8, none, .mov, [.k (.d (.bool false))]⟩ ::
 []) [2, 3, 4, 5])
 (.seq (.seq (.reg [] (
 ⟨some 12, none, .faddr 0, [.t 5]⟩ ::
 ⟨some 13, none, .load false 1, [.t 12]⟩ ::
 ⟨some 14, none, .bin .eql, [.t 13, .k (.d (.int .i64 (-1)))]⟩ ::
 []) [2, 3, 4, 5, 14])
 (.cond (.t 14)
 (.seq (.reg [] (
 ⟨some 8, none, .mov, [.k (.d (.bool true))]⟩ ::
 []) [8])
 (.ret))
 (.skip)))
 (.seq (.reg [] (
 ⟨some 16, none, .faddr 0, [.t 5]⟩ ::
 ⟨some 17, none, .load false 1, [.t 16]⟩ ::
 ⟨some 18, none, .call 27, [.t 17]⟩ ::
 ⟨some 15, none, .mov, [.t 18]⟩ ::
 ⟨some 19, none, .extract 0, [.t 15]⟩ ::
 ⟨some 20, none, .extract 1, [.t 15]⟩ ::
 ⟨some 9, none, .mov, [.t 19]⟩ ::
 ⟨some 10, none, .mov, [.t 20]⟩ ::
 []) [2, 3, 4, 5, 9])
 (.seq (.reg [] (
 ⟨some 21, none, .mov, [.t 3]⟩ ::
 ⟨some 22, none, .load true 6, [.t 4]⟩ ::
 ⟨some 23, none, .mov, [.t 9]⟩ ::
 ⟨some 24, none, .mov, [.t 2]⟩ ::
 ⟨some 25, none, .call 17, [.t 22, .t 23, .t 24]⟩ ::
 ⟨some 26, none, .bin .sub, [.t 21, .t 25]⟩ ::
 ⟨some 11, none, .mov, [.t 26]⟩ ::
 []) [4, 5, 9, 11])
 (.seq (.draw [] (
 (⟨some 27, none, .mov, [.t 9]⟩, []) ::
 (⟨some 28, none, .faddr 0, [.t 4]⟩, []) ::
 (⟨some 29, none, .load false 1, [.t 28]⟩, []) ::
 (⟨some 30, none, .bin .lss, [.t 27, .t 29]⟩, []) ::
 (⟨some 31, none, .mov, [.t 30]⟩, []) ::
 (⟨some 32, some (31, true), .mov, [.t 11]⟩, []) ::
 (⟨some 33, some (31, true), .call 51, [.t 32]⟩, []) ::
 (⟨some 34, some (31, true), .bin .mul, [.k (.d (.int .i64 2)), .t 33]⟩, []) ::
 (⟨some 35, some (31, true), .faddr 1, [.t 4]⟩, []) ::
 (⟨some 36, some (31, true), .load false 1, [.t 35]⟩, [6]) ::
 (⟨some 37, some (31, true), .bin .leq, [.t 34, .t 36]⟩, []) ::
 (⟨some 38, none, .pick, [.t 31, .t 37, .k (.d (.bool false))]⟩, []) ::
 (⟨some 39, none, .mov, [.t 38]⟩, []) ::
 (⟨some 40, some (39, true), .faddr 1, [.t 5]⟩, []) ::
 (⟨some 41, some (39, true), .load false 1, [.t 40]⟩, []) ::
 (⟨some 42, some (39, true), .mov, [.t 11]⟩, []) ::
 (⟨some 43, some (39, true), .bin .sub, [.t 41, .t 42]⟩, []) ::
 (⟨some 44, some (39, true), .call 51, [.t 43]⟩, []) ::
 (⟨some 45, some (39, true), .faddr 3, [.t 4]⟩, []) ::
 (⟨some 46, some (39, true), .load false 1, [.t 45]⟩, [17]) ::
 (⟨some 47, some (39, true), .bin .leq, [.t 44, .t 46]⟩, []) ::
 (⟨some 48, none, .pick, [.t 39, .t 47, .k (.d (.bool false))]⟩, []) ::
 (⟨some 8, none, .mov, [.t 48]⟩, []) ::
 []) [8])
 (.ret)))))
theorem dec_ref02_Agrees : Fun E0 F_ref02_Agrees pc_ref02_Agrees [.t 8] 49 := fun_of_dec (fl := []) (by kernel_rfl)
-- platter/servo.Gray (1)
abbrev F_servo_Gray : Nat := 24
def pc_servo_Gray : PC :=
 .seq (.reg [] (
 ⟨some 2, none, .mov, [.k (.d (.int .i64 0))]⟩ ::
 ⟨some 3, none, .mov, [.k (.d (.int .i64 0))]⟩ ::
 []) [0])
 (.seq (.seq (.reg [] (
 ⟨some 4, none, .mov, [.t 0]⟩ ::
 ⟨some 5, none, .call 47, [.t 4, .k (.d (.int .i64 0)), .k (.d (.int .i64 127))]⟩ ::
 ⟨some 6, none, .un .not, [.t 5]⟩ ::
 []) [0, 6])
 (.cond (.t 6)
 (.seq (.reg [] (
 ⟨some 2, none, .mov, [.k (.d (.int .i64 0))]⟩ ::
 ⟨some 3, none, .mov, [.k (.d (.int .i64 1))]⟩ ::
 []) [2, 3])
 (.ret))
 (.skip)))
 (.seq (.reg [] (
 ⟨some 7, none, .mov, [.t 0]⟩ ::
 ⟨some 8, none, .call 52, [.t 7]⟩ ::
 ⟨some 2, none, .mov, [.t 8]⟩ ::
 ⟨some 3, none, .mov, [.k (.d (.int .i64 0))]⟩ ::
 []) [2, 3])
 (.ret)))
theorem dec_servo_Gray : Fun E0 F_servo_Gray pc_servo_Gray [.t 2, .t 3] 9 := fun_of_dec (fl := []) (by kernel_rfl)
-- platter/servo.Track (1)
abbrev F_servo_Track : Nat := 25
def pc_servo_Track : PC :=
 .seq (.reg [] (
 ⟨some 2, none, .mov, [.k (.d (.int .i64 0))]⟩ ::
 ⟨some 3, none, .mov, [.k (.d (.int .i64 0))]⟩ ::
 []) [0])
 (.seq (.seq (.reg [] (
 ⟨some 4, none, .mov, [.t 0]⟩ ::
 ⟨some 5, none, .call 47, [.t 4, .k (.d (.int .i64 0)), .k (.d (.int .i64 127))]⟩ ::
 ⟨some 6, none, .un .not, [.t 5]⟩ ::
 []) [0, 6])
 (.cond (.t 6)
 (.seq (.reg [] (
 ⟨some 2, none, .mov, [.k (.d (.int .i64 0))]⟩ ::
 ⟨some 3, none, .mov, [.k (.d (.int .i64 1))]⟩ ::
 []) [2, 3])
 (.ret))
 (.skip)))
 (.seq (.reg [] (
 ⟨some 7, none, .mov, [.t 0]⟩ ::
 ⟨some 8, none, .call 53, [.t 7]⟩ ::
 ⟨some 2, none, .mov, [.t 8]⟩ ::
 ⟨some 3, none, .mov, [.k (.d (.int .i64 0))]⟩ ::
 []) [2, 3])
 (.ret)))
theorem dec_servo_Track : Fun E0 F_servo_Track pc_servo_Track [.t 2, .t 3] 9 := fun_of_dec (fl := []) (by kernel_rfl)
-- platter/platterref02.Gray (1)
abbrev F_ref02_Gray : Nat := 26
def pc_ref02_Gray : PC :=
 .seq (.reg [] (
 ⟨some 2, none, .mov, [.k (.d (.int .i64 0))]⟩ ::
 ⟨some 3, none, .mov, [.k (.d (.int .i64 0))]⟩ ::
 []) [0])
 (.seq (.seq (.reg [] (
 ⟨some 4, none, .mov, [.t 0]⟩ ::
 ⟨some 5, none, .call 50, [.t 4, .k (.d (.int .i64 0)), .k (.d (.int .i64 127))]⟩ ::
 ⟨some 6, none, .un .not, [.t 5]⟩ ::
 []) [0, 6])
 (.cond (.t 6)
 (.seq (.reg [] (
 ⟨some 2, none, .mov, [.k (.d (.int .i64 0))]⟩ ::
 ⟨some 3, none, .mov, [.k (.d (.int .i64 1))]⟩ ::
 []) [2, 3])
 (.ret))
 (.skip)))
 (.seq (.reg [] (
 ⟨some 7, none, .mov, [.t 0]⟩ ::
 ⟨some 8, none, .call 54, [.t 7]⟩ ::
 ⟨some 2, none, .mov, [.t 8]⟩ ::
 ⟨some 3, none, .mov, [.k (.d (.int .i64 0))]⟩ ::
 []) [2, 3])
 (.ret)))
theorem dec_ref02_Gray : Fun E0 F_ref02_Gray pc_ref02_Gray [.t 2, .t 3] 9 := fun_of_dec (fl := []) (by kernel_rfl)
-- platter/platterref02.Track (1)
abbrev F_ref02_Track : Nat := 27
def pc_ref02_Track : PC :=
 .seq (.reg [] (
 ⟨some 2, none, .mov, [.k (.d (.int .i64 0))]⟩ ::
 ⟨some 3, none, .mov, [.k (.d (.int .i64 0))]⟩ ::
 []) [0])
 (.seq (.seq (.reg [] (
 ⟨some 4, none, .mov, [.k (.d (.int .i64 0))]⟩ ::
 []) [0, 4])
 (.block 0
 (.loop [] [0, 4] [900000, 901000]
 (.seq (.seq (.reg [] (
 ⟨some 5, none, .mov, [.t 4]⟩ ::
 ⟨some 6, none, .bin .lss, [.t 5, .k (.d (.int .i64 128))]⟩ ::
 []) [0, 4, 6])
 (.cond (.t 6)
 (.skip)
 (.exit 0)))
 (.seq (.block 1
 (.seq (.reg [] (
 ⟨some 9, none, .mov, [.t 4]⟩ ::
 ⟨some 10, none, .call 54, [.t 9]⟩ ::
 ⟨some 11, none, .mov, [.t 0]⟩ ::
 ⟨some 12, none, .bin .eql, [.t 10, .t 11]⟩ ::
 []) [0, 4, 12])
 (.cond (.t 12)
 (.seq (.reg [] (
 ⟨some 13, none, .mov, [.t 4]⟩ ::
 ⟨some 2, none, .mov, [.t 13]⟩ ::
 ⟨some 3, none, .mov, [.k (.d (.int .i64 0))]⟩ ::
 []) [2, 3])
 (.ret))
 (.skip))))
 (.reg [] (
 ⟨some 7, none, .mov, [.t 4]⟩ ::
 ⟨some 8, none, .bin .add, [.t 7, .k (.d (.int .i64 1))]⟩ ::
 ⟨some 4, none, .mov, [.t 8]⟩ ::
 []) [0, 4]))))))
 (.seq (.reg [] (
 ⟨some 2, none, .mov, [.k (.d (.int .i64 0))]⟩ ::
 ⟨some 3, none, .mov, [.k (.d (.int .i64 1))]⟩ ::
 []) [2, 3])
 (.ret)))
theorem dec_ref02_Track : Fun E0 F_ref02_Track pc_ref02_Track [.t 2, .t 3] 14 := fun_of_dec (fl := []) (by kernel_rfl)
-- platter/platterlaw02.Far (2)
abbrev F_law02_Far : Nat := 28
def pc_law02_Far : PC :=
 .seq (.reg [] (
 ⟨some 2, none, .box, [.t 0]⟩ ::
 ⟨some 4, none, .mov, [.k (.d (.bool false))]⟩ ::
 []) [1, 2])
 (.seq (.seq (.reg [] (
 ⟨some 5, none, .faddr 5, [.t 2]⟩ ::
 ⟨some 6, none, .load false 1, [.t 5]⟩ ::
 ⟨some 7, none, .len false, [.t 6]⟩ ::
 ⟨some 8, none, .bin .gtr, [.t 7, .k (.d (.int .i64 40))]⟩ ::
 ⟨some 9, none, .mov, [.t 8]⟩ ::
 ⟨some 10, some (9, false), .mov, [.t 1]⟩ ::
 ⟨some 11, some (9, false), .len false, [.t 10]⟩ ::
 ⟨some 12, some (9, false), .bin .gtr, [.t 11, .k (.d (.int .i64 40))]⟩ ::
 ⟨some 13, none, .pick, [.t 9, .k (.d (.bool true)), .t 12]⟩ ::
 ⟨some 14, none, .mov, [.t 13]⟩ ::
 ⟨some 15, some (14, false), .mov, [.t 1]⟩ ::
 ⟨some 16, some (14, false), .len false, [.t 15]⟩ ::
 ⟨some 17, some (14, false), .bin .gtr, [.t 16, .k (.d (.int .i64 8))]⟩ ::
 ⟨some 18, some (14, false), .mov, [.t 17]⟩ ::
 ⟨some 19, some (18, true), .mov, [.t 1]⟩ ::
 ⟨some 20, some (18, true), .len false, [.t 19]⟩ ::
 ⟨some 21, some (18, true), .bin .leq, [.t 20, .k (.d (.int .i64 24))]⟩ ::
 ⟨some 22, some (14, false), .pick, [.t 18, .t 21, .k (.d (.bool false))]⟩ ::
 ⟨some 23, none, .pick, [.t 14, .k (.d (.bool true)), .t 22]⟩ ::
 []) [2, 23])
 (.cond (.t 23)
 (.seq (.reg [] (
 ⟨some 4, none, .mov, [.k (.d (.bool true))]⟩ ::
 []) [4])
 (.ret))
 (.skip)))
 (.seq (.reg [] (
 ⟨some 24, none, .load true 6, [.t 2]⟩ ::
 ⟨some 25, none, .call 55, [.t 24]⟩ ::
 ⟨some 26, none, .mov, [.t 25]⟩ ::
 ⟨some 27, some (26, true), .faddr 0, [.t 2]⟩ ::
 ⟨some 28, some (26, true), .load false 1, [.t 27]⟩ ::
 ⟨some 29, some (26, true), .bin .gtr, [.t 28, .k (.d (.int .i64 8))]⟩ ::
 ⟨some 30, some (26, true), .mov, [.t 29]⟩ ::
 ⟨some 31, some (30, false), .faddr 1, [.t 2]⟩ ::
 ⟨some 32, some (30, false), .load false 1, [.t 31]⟩ ::
 ⟨some 33, some (30, false), .bin .gtr, [.t 32, .k (.d (.int .i64 6))]⟩ ::
 ⟨some 34, some (26, true), .pick, [.t 30, .k (.d (.bool true)), .t 33]⟩ ::
 ⟨some 35, none, .pick, [.t 26, .t 34, .k (.d (.bool false))]⟩ ::
 ⟨some 4, none, .mov, [.t 35]⟩ ::
 []) [4])
 (.ret)))
theorem dec_law02_Far : Fun E0 F_law02_Far pc_law02_Far [.t 4] 36 := fun_of_dec (fl := []) (by kernel_rfl)
-- platter/platterref02.Copy (1)
abbrev F_ref02_Copy : Nat := 29
def pc_ref02_Copy : PC :=
 .seq (.reg [] (
 ⟨some 1, none, .box, [.t 0]⟩ ::
 ⟨some 2, none, .zero [.int .i64 0, .int .i64 0, .int .i64 0, .int .i64 0, .int .i64 0, .list true []], []⟩ ::
 []) [1, 2])
 (.seq (.reg [] (
 ⟨some 4, none, .load true 6, [.t 1]⟩ ::
 ⟨some 3, none, .zero [.int .i64 0, .int .i64 0, .int .i64 0, .int .i64 0, .int .i64 0, .list true []], []⟩ ::
 ⟨none, none, .store 6, [.t 3, .t 4]⟩ ::
 []) [1, 2, 3])
 (.seq (.reg [] (
 ⟨some 5, none, .mkrow 1 (.int .i64 0) 0 [], []⟩ ::
 ⟨some 6, none, .faddr 5, [.t 1]⟩ ::
 ⟨some 7, none, .load false 1, [.t 6]⟩ ::
 ⟨some 8, none, .app 3 1 none true, [.t 5, .t 7]⟩ ::
 ⟨some 9, none, .faddr 5, [.t 3]⟩ ::
 ⟨none, none, .store 1, [.t 9, .t 8]⟩ ::
 []) [2, 3])
 (.seq (.reg [] (
 ⟨some 10, none, .load true 6, [.t 3]⟩ ::
 ⟨none, none, .store 6, [.t 2, .t 10]⟩ ::
 []) [2])
 (.ret))))
theorem dec_ref02_Copy : Fun E0 F_ref02_Copy pc_ref02_Copy [.c 2 24 true 6] 11 := fun_of_dec (fl := []) (by kernel_rfl)
-- platter/servo.Check (2)
abbrev F_servo_Check : Nat := 30
def pc_servo_Check : PC :=
 .seq (.reg [] (
 ⟨some 2, none, .box, [.t 0]⟩ ::
 ⟨some 4, none, .mov, [.k (.d (.int .i64 0))]⟩ ::
 []) [1, 2])
 (.seq (.seq (.reg [] (
 ⟨some 6, none, .load true 6, [.t 2]⟩ ::
 ⟨some 7, none, .call 56, [.t 6]⟩ ::
 ⟨some 8, none, .un .not, [.t 7]⟩ ::
 []) [1, 8])
 (.cond (.t 8)
 (.seq (.reg [] (
 ⟨some 4, none, .mov, [.k (.d (.int .i64 20))]⟩ ::
 []) [4])
 (.ret))
 (.skip)))
 (.seq (.reg [] (
 ⟨some 5, none, .zero [.nilfn], []⟩ ::
 ⟨none, none, .store 1, [.t 5, .k (.fn 57 [])]⟩ ::
 []) [1, 5])
 (.seq (.seq (.reg [.frzP 5] (
 ⟨some 9, none, .mov, [.t 1]⟩ ::
 ⟨some 10, none, .len false, [.t 9]⟩ ::
 ⟨some 11, none, .bin .gtr, [.t 10, .k (.d (.int .i64 24))]⟩ ::
 ⟨some 12, none, .mov, [.t 11]⟩ ::
 ⟨some 13, some (12, false), .mov, [.t 1]⟩ ::
 ⟨some 14, some (12, false), .mkfn 59, [.t 5]⟩ ::
 ⟨some 15, some (12, false), .call 58, [.t 13, .t 14]⟩ ::
 ⟨some 16, none, .pick, [.t 12, .k (.d (.bool true)), .t 15]⟩ ::
 []) [16])
 (.cond (.t 16)
 (.seq (.reg [] (
 ⟨some 4, none, .mov, [.k (.d (.int .i64 21))]⟩ ::
 []) [4])
 (.ret))
 (.skip)))
 (.seq (.reg [] (
 ⟨some 4, none, .mov, [.k (.d (.int .i64 0))]⟩ ::
 []) [4])
 (.ret)))))
theorem dec_servo_Check : Fun E0 F_servo_Check pc_servo_Check [.t 4] 17 := fun_of_dec (fl := []) (by kernel_rfl)
-- platter/platterref02.Check (2)
abbrev F_ref02_Check : Nat := 31
def pc_ref02_Check : PC :=
 .seq (.reg [] (
 ⟨some 2, none, .box, [.t 0]⟩ ::
 ⟨some 4, none, .mov, [.k (.d (.int .i64 0))]⟩ ::
 []) [1, 2])
 (.seq (.seq (.reg [] (
 ⟨some 6, none, .load true 6, [.t 2]⟩ ::
 ⟨some 7, none, .call 55, [.t 6]⟩ ::
 ⟨some 8, none, .un .not, [.t 7]⟩ ::
 []) [1, 8])
 (.cond (.t 8)
 (.seq (.reg [] (
 ⟨some 4, none, .mov, [.k (.d (.int .i64 20))]⟩ ::
 []) [4])
 (.ret))
 (.skip)))
 (.seq (.seq (.reg [] (
 ⟨some 9, none, .mov, [.t 1]⟩ ::
 ⟨some 10, none, .len false, [.t 9]⟩ ::
 ⟨some 11, none, .bin .gtr, [.t 10, .k (.d (.int .i64 24))]⟩ ::
 []) [1, 11])
 (.cond (.t 11)
 (.seq (.reg [] (
 ⟨some 4, none, .mov, [.k (.d (.int .i64 21))]⟩ ::
 []) [4])
 (.ret))
 (.skip)))
 (.seq (.seq (.reg [] (
 ⟨some 5, none, .mov, [.k (.d (.int .i64 0))]⟩ ::
 []) [1, 5])
 (.block 0
 (.loop [] [1, 5] [900001, 901001]
 (.seq (.seq (.reg [] (
 ⟨some 12, none, .mov, [.t 5]⟩ ::
 ⟨some 13, none, .mov, [.t 1]⟩ ::
 ⟨some 14, none, .len false, [.t 13]⟩ ::
 ⟨some 15, none, .bin .lss, [.t 12, .t 14]⟩ ::
 []) [1, 5, 15])
 (.cond (.t 15)
 (.skip)
 (.exit 0)))
 (.seq (.block 1
 (.seq (.reg [] (
 ⟨some 18, none, .mov, [.t 1]⟩ ::
 ⟨some 19, none, .mov, [.t 5]⟩ ::
 ⟨some 20, none, .iaddrS 2, [.t 18, .t 19]⟩ ::
 ⟨some 21, none, .faddr 0, [.t 20]⟩ ::
 ⟨some 22, none, .load false 1, [.t 21]⟩ ::
 ⟨some 23, none, .call 50, [.t 22, .k (.d (.int .i64 (-1))), .k (.d (.int .i64 127))]⟩ ::
 ⟨some 24, none, .un .not, [.t 23]⟩ ::
 ⟨some 25, none, .mov, [.t 24]⟩ ::
 ⟨some 26, some (25, false), .mov, [.t 1]⟩ ::
 ⟨some 27, some (25, false), .mov, [.t 5]⟩ ::
 ⟨some 28, some (25, false), .iaddrS 2, [.t 26, .t 27]⟩ ::
 ⟨some 29, some (25, false), .faddr 1, [.t 28]⟩ ::
 ⟨some 30, some (25, false), .load false 1, [.t 29]⟩ ::
 ⟨some 31, some (25, false), .call 50, [.t 30, .k (.d (.int .i64 (-100))), .k (.d (.int .i64 100))]⟩ ::
 ⟨some 32, some (25, false), .un .not, [.t 31]⟩ ::
 ⟨some 33, none, .pick, [.t 25, .k (.d (.bool true)), .t 32]⟩ ::
 []) [1, 5, 33])
 (.cond (.t 33)
 (.seq (.reg [] (
 ⟨some 4, none, .mov, [.k (.d (.int .i64 21))]⟩ ::
 []) [4])
 (.ret))
 (.skip))))
 (.reg [] (
 ⟨some 16, none, .mov, [.t 5]⟩ ::
 ⟨some 17, none, .bin .add, [.t 16, .k (.d (.int .i64 1))]⟩ ::
 ⟨some 5, none, .mov, [.t 17]⟩ ::
 []) [1, 5]))))))
 (.seq (.reg [] (
 ⟨some 4, none, .mov, [.k (.d (.int .i64 0))]⟩ ::
 []) [4])
 (.ret)))))
theorem dec_ref02_Check : Fun E0 F_ref02_Check pc_ref02_Check [.t 4] 34 := fun_of_dec (fl := []) (by kernel_rfl)
-- platter/platterref02.Where (2)
abbrev F_ref02_Where : Nat := 32
def pc_ref02_Where : PC :=
 .seq (.reg [] (
 ⟨some 2, none, .box, [.t 0]⟩ ::
 ⟨some 4, none, .mov, [.k (.d (.list true []))]⟩ ::
 ⟨some 5, none, .mov, [.k (.d (.int .i64 0))]⟩ ::
 []) [1, 2])
 (.seq (.reg [] (
 ⟨some 9, none, .load true 6, [.t 2]⟩ ::
 ⟨some 10, none, .mov, [.t 1]⟩ ::
 ⟨some 11, none, .call 60, [.t 9, .t 10, .k (.d (.bool true))]⟩ ::
 ⟨some 8, none, .mov, [.t 11]⟩ ::
 ⟨some 12, none, .extract 0, [.t 8]⟩ ::
 ⟨some 13, none, .extract 1, [.t 8]⟩ ::
 ⟨some 6, none, .mov, [.t 12]⟩ ::
 ⟨some 7, none, .mov, [.t 13]⟩ ::
 []) [6, 7])
 (.seq (.seq (.reg [] (
 ⟨some 14, none, .mov, [.t 7]⟩ ::
 ⟨some 15, none, .bin .neq, [.t 14, .k (.d (.int .i64 0))]⟩ ::
 []) [6, 7, 15])
 (.cond (.t 15)
 (.seq (.reg [] (
 ⟨some 16, none, .mov, [.t 7]⟩ ::
 ⟨some 4, none, .mov, [.k (.d (.list true []))]⟩ ::
 ⟨some 5, none, .mov, [.t 16]⟩ ::
 []) [4, 5])
 (.ret))
 (.skip)))
 (.seq (.reg [] (
 ⟨some 17, none, .mov, [.t 6]⟩ ::
 ⟨some 18, none, .call 61, [.t 17]⟩ ::
 ⟨some 4, none, .mov, [.t 18]⟩ ::
 ⟨some 5, none, .mov, [.k (.d (.int .i64 0))]⟩ ::
 []) [4, 5])
 (.ret))))
theorem dec_ref02_Where : Fun E0 F_ref02_Where pc_ref02_Where [.t 4, .t 5] 19 := fun_of_dec (fl := []) (by kernel_rfl)
-- platter/platterref02.Ahead (3)
abbrev F_ref02_Ahead : Nat := 33
def pc_ref02_Ahead : PC :=
 .seq (.reg [] (
 ⟨some 3, none, .box, [.t 0]⟩ ::
 ⟨some 6, none, .mov, [.k (.d (.list true []))]⟩ ::
 ⟨some 7, none, .mov, [.k (.d (.int .i64 0))]⟩ ::
 []) [1, 2, 3])
 (.seq (.draw [] (
 (⟨some 12, none, .load true 6, [.t 3]⟩, []) ::
 (⟨some 13, none, .mov, [.t 1]⟩, []) ::
 (⟨some 14, none, .mov, [.t 2]⟩, []) ::
 (⟨some 15, none, .call 50, [.t 14, .k (.d (.int .i64 0)), .k (.d (.int .i64 24))]⟩, [0]) ::
 (⟨some 16, none, .call 60, [.t 12, .t 13, .t 15]⟩, []) ::
 (⟨some 11, none, .mov, [.t 16]⟩, []) ::
 (⟨some 17, none, .extract 0, [.t 11]⟩, []) ::
 (⟨some 18, none, .extract 1, [.t 11]⟩, []) ::
 (⟨some 8, none, .mov, [.t 17]⟩, []) ::
 (⟨some 9, none, .mov, [.t 18]⟩, []) ::
 []) [2, 3, 8, 9])
 (.seq (.seq (.reg [] (
 ⟨some 19, none, .mov, [.t 9]⟩ ::
 ⟨some 20, none, .bin .neq, [.t 19, .k (.d (.int .i64 0))]⟩ ::
 []) [2, 3, 8, 9, 20])
 (.cond (.t 20)
 (.seq (.reg [] (
 ⟨some 21, none, .mov, [.t 9]⟩ ::
 ⟨some 6, none, .mov, [.k (.d (.list true []))]⟩ ::
 ⟨some 7, none, .mov, [.t 21]⟩ ::
 []) [6, 7])
 (.ret))
 (.skip)))
 (.seq (.seq (.reg [] (
 ⟨some 10, none, .mov, [.k (.d (.int .i64 0))]⟩ ::
 []) [2, 3, 8, 10])
 (.block 0
 (.loop [] [2, 3, 8, 10] [3, 16, 29, 10016, 10029, 900000, 900002, 901000, 901002]
 (.seq (.seq (.reg [] (
 ⟨some 22, none, .mov, [.t 10]⟩ ::
 ⟨some 23, none, .mov, [.t 2]⟩ ::
 ⟨some 24, none, .bin .lss, [.t 22, .t 23]⟩ ::
 []) [2, 3, 8, 10, 24])
 (.cond (.t 24)
 (.skip)
 (.exit 0)))
 (.seq (.block 1
 (.reg [] (
 ⟨some 27, none, .load true 6, [.t 3]⟩ ::
 ⟨some 28, none, .mov, [.t 8]⟩ ::
 ⟨some 29, none, .call 62, [.t 27, .t 28]⟩ ::
 ⟨some 8, none, .mov, [.t 29]⟩ ::
 []) [2, 3, 8, 10]))
 (.reg [] (
 ⟨some 25, none, .mov, [.t 10]⟩ ::
 ⟨some 26, none, .bin .add, [.t 25, .k (.d (.int .i64 1))]⟩ ::
 ⟨some 10, none, .mov, [.t 26]⟩ ::
 []) [2, 3, 8, 10]))))))
 (.seq (.reg [] (
 ⟨some 30, none, .mov, [.t 8]⟩ ::
 ⟨some 31, none, .call 61, [.t 30]⟩ ::
 ⟨some 6, none, .mov, [.t 31]⟩ ::
 ⟨some 7, none, .mov, [.k (.d (.int .i64 0))]⟩ ::
 []) [6, 7])
 (.ret)))))
theorem dec_ref02_Ahead : Fun E0 F_ref02_Ahead pc_ref02_Ahead [.t 6, .t 7] 32 := fun_of_dec (fl := []) (by kernel_rfl)
-- platter/servo.Fewest (2)
abbrev F_servo_Fewest : Nat := 34
def pc_servo_Fewest : PC :=
 .seq (.reg [] (
 ⟨some 2, none, .box, [.t 0]⟩ ::
 ⟨some 4, none, .mov, [.k (.d (.int .i64 0))]⟩ ::
 ⟨some 5, none, .mov, [.k (.d (.int .i64 0))]⟩ ::
 []) [1, 2])
 (.seq (.reg [] (
 ⟨some 9, none, .load true 6, [.t 2]⟩ ::
 ⟨some 10, none, .mov, [.t 1]⟩ ::
 ⟨some 11, none, .call 63, [.t 9, .t 10]⟩ ::
 ⟨some 8, none, .mov, [.t 11]⟩ ::
 ⟨some 12, none, .extract 0, [.t 8]⟩ ::
 ⟨some 13, none, .extract 1, [.t 8]⟩ ::
 ⟨some 6, none, .mov, [.t 12]⟩ ::
 ⟨some 7, none, .mov, [.t 13]⟩ ::
 []) [6, 7])
 (.seq (.seq (.reg [] (
 ⟨some 14, none, .mov, [.t 7]⟩ ::
 ⟨some 15, none, .bin .neq, [.t 14, .k (.d (.int .i64 0))]⟩ ::
 []) [6, 7, 15])
 (.cond (.t 15)
 (.seq (.reg [] (
 ⟨some 16, none, .mov, [.t 7]⟩ ::
 ⟨some 4, none, .mov, [.k (.d (.int .i64 0))]⟩ ::
 ⟨some 5, none, .mov, [.t 16]⟩ ::
 []) [4, 5])
 (.ret))
 (.skip)))
 (.seq (.reg [] (
 ⟨some 17, none, .mov, [.t 6]⟩ ::
 ⟨some 18, none, .call 65, [.t 17]⟩ ::
 ⟨some 19, none, .call 64, [.t 18]⟩ ::
 ⟨some 4, none, .mov, [.t 19]⟩ ::
 ⟨some 5, none, .mov, [.k (.d (.int .i64 0))]⟩ ::
 []) [4, 5])
 (.ret))))
theorem dec_servo_Fewest : Fun E0 F_servo_Fewest pc_servo_Fewest [.t 4, .t 5] 20 := fun_of_dec (fl := []) (by kernel_rfl)
-- platter/platterref02.Fewest (2)
abbrev F_ref02_Fewest : Nat := 35
def pc_ref02_Fewest : PC :=
 .seq (.reg [] (
 ⟨some 2, none, .box, [.t 0]⟩ ::
 ⟨some 4, none, .mov, [.k (.d (.int .i64 0))]⟩ ::
 ⟨some 5, none, .mov, [.k (.d (.int .i64 0))]⟩ ::
 []) [1, 2])
 (.seq (.seq (.reg [] (
 ⟨some 10, none, .load true 6, [.t 2]⟩ ::
 ⟨some 11, none, .mov, [.t 1]⟩ ::
 ⟨some 12, none, .call 31, [.t 10, .t 11]⟩ ::
 ⟨some 6, none, .mov, [.t 12]⟩ ::
 []) [1, 2, 6])
 (.seq (.reg [] (
 ⟨some 13, none, .mov, [.t 6]⟩ ::
 ⟨some 14, none, .bin .neq, [.t 13, .k (.d (.int .i64 0))]⟩ ::
 []) [1, 2, 6, 14])
 (.cond (.t 14)
 (.seq (.reg [] (
 ⟨some 15, none, .mov, [.t 6]⟩ ::
 ⟨some 4, none, .mov, [.k (.d (.int .i64 0))]⟩ ::
 ⟨some 5, none, .mov, [.t 15]⟩ ::
 []) [4, 5])
 (.ret))
 (.skip))))
 (.seq (.reg [] (
 ⟨some 16, none, .load true 6, [.t 2]⟩ ::
 ⟨some 17, none, .mov, [.t 1]⟩ ::
 ⟨some 18, none, .call 66, [.t 16, .t 17, .k (.d (.int .i64 (-1)))]⟩ ::
 ⟨some 7, none, .mov, [.t 18]⟩ ::
 []) [7])
 (.seq (.reg [] (
 ⟨some 19, none, .mov, [.t 7]⟩ ::
 ⟨some 20, none, .iaddrS 1, [.t 19, .k (.d (.int .i64 0))]⟩ ::
 ⟨some 21, none, .load false 1, [.t 20]⟩ ::
 ⟨some 8, none, .mov, [.t 21]⟩ ::
 []) [7, 8])
 (.seq (.seq (.reg [] (
 ⟨some 9, none, .mov, [.k (.d (.int .i64 0))]⟩ ::
 []) [7, 8, 9])
 (.block 0
 (.loop [] [7, 8, 9] [18, 10018]
 (.seq (.seq (.reg [] (
 ⟨some 22, none, .mov, [.t 9]⟩ ::
 ⟨some 23, none, .mov, [.t 7]⟩ ::
 ⟨some 24, none, .len false, [.t 23]⟩ ::
 ⟨some 25, none, .bin .lss, [.t 22, .t 24]⟩ ::
 []) [7, 8, 9, 25])
 (.cond (.t 25)
 (.skip)
 (.exit 0)))
 (.seq (.block 1
 (.reg [] (
 ⟨some 28, none, .mov, [.t 8]⟩ ::
 ⟨some 29, none, .mov, [.t 7]⟩ ::
 ⟨some 30, none, .mov, [.t 9]⟩ ::
 ⟨some 31, none, .iaddrS 1, [.t 29, .t 30]⟩ ::
 ⟨some 32, none, .load false 1, [.t 31]⟩ ::
 ⟨some 33, none, .minmax false, [.t 28, .t 32]⟩ ::
 ⟨some 8, none, .mov, [.t 33]⟩ ::
 []) [7, 8, 9]))
 (.reg [] (
 ⟨some 26, none, .mov, [.t 9]⟩ ::
 ⟨some 27, none, .bin .add, [.t 26, .k (.d (.int .i64 1))]⟩ ::
 ⟨some 9, none, .mov, [.t 27]⟩ ::
 []) [7, 8, 9]))))))
 (.seq (.reg [] (
 ⟨some 34, none, .mov, [.t 8]⟩ ::
 ⟨some 4, none, .mov, [.t 34]⟩ ::
 ⟨some 5, none, .mov, [.k (.d (.int .i64 0))]⟩ ::
 []) [4, 5])
 (.ret))))))
theorem dec_ref02_Fewest : Fun E0 F_ref02_Fewest pc_ref02_Fewest [.t 4, .t 5] 35 := fun_of_dec (fl := []) (by kernel_rfl)
-- platter/platterlaw02.sameInts (2)
abbrev F_law02_sameInts : Nat := 36
def pc_law02_sameInts : PC :=
 .seq (.reg [] (
 ⟨some 4, none, .mov, [.k (.d (.bool false))]⟩ ::
 []) [0, 1])
 (.seq (.seq (.reg [] (
 ⟨some 6, none, .mov, [.t 0]⟩ ::
 ⟨some 7, none, .len false, [.t 6]⟩ ::
 ⟨some 8, none, .mov, [.t 1]⟩ ::
 ⟨some 9, none, .len false, [.t 8]⟩ ::
 ⟨some 10, none, .bin .neq, [.t 7, .t 9]⟩ ::
 []) [0, 1, 10])
 (.cond (.t 10)
 (.seq (.reg [] (
 ⟨some 4, none, .mov, [.k (.d (.bool false))]⟩ ::
 []) [4])
 (.ret))
 (.skip)))
 (.seq (.seq (.reg [] (
 ⟨some 5, none, .mov, [.k (.d (.int .i64 0))]⟩ ::
 []) [0, 1, 5])
 (.block 0
 (.loop [] [0, 1, 5] [900000, 900001, 901000, 901001]
 (.seq (.seq (.reg [] (
 ⟨some 11, none, .mov, [.t 5]⟩ ::
 ⟨some 12, none, .mov, [.t 0]⟩ ::
 ⟨some 13, none, .len false, [.t 12]⟩ ::
 ⟨some 14, none, .bin .lss, [.t 11, .t 13]⟩ ::
 []) [0, 1, 5, 14])
 (.cond (.t 14)
 (.skip)
 (.exit 0)))
 (.seq (.block 1
 (.seq (.draw [] (
 (⟨some 17, none, .mov, [.t 0]⟩, []) ::
 (⟨some 18, none, .mov, [.t 5]⟩, []) ::
 (⟨some 19, none, .iaddrS 1, [.t 17, .t 18]⟩, []) ::
 (⟨some 20, none, .load false 1, [.t 19]⟩, []) ::
 (⟨some 21, none, .mov, [.t 1]⟩, []) ::
 (⟨some 22, none, .mov, [.t 5]⟩, []) ::
 (⟨some 23, none, .iaddrS 1, [.t 21, .t 22]⟩, []) ::
 (⟨some 24, none, .load false 1, [.t 23]⟩, []) ::
 (⟨some 25, none, .bin .neq, [.t 20, .t 24]⟩, []) ::
 []) [0, 1, 5, 25])
 (.cond (.t 25)
 (.seq (.reg [] (
 ⟨some 4, none, .mov, [.k (.d (.bool false))]⟩ ::
 []) [4])
 (.ret))
 (.skip))))
 (.reg [] (
 ⟨some 15, none, .mov, [.t 5]⟩ ::
 ⟨some 16, none, .bin .add, [.t 15, .k (.d (.int .i64 1))]⟩ ::
 ⟨some 5, none, .mov, [.t 16]⟩ ::
 []) [0, 1, 5]))))))
 (.seq (.reg [] (
 ⟨some 4, none, .mov, [.k (.d (.bool true))]⟩ ::
 []) [4])
 (.ret))))
theorem dec_law02_sameInts : Fun E0 F_law02_sameInts pc_law02_sameInts [.t 4] 26 := fun_of_dec (fl := []) (by kernel_rfl)
-- platter/platterref02.Last (1)
abbrev F_ref02_Last : Nat := 37
def pc_ref02_Last : PC :=
 .seq (.reg [] (
 ⟨some 1, none, .box, [.t 0]⟩ ::
 ⟨some 2, none, .mov, [.k (.d (.int .i64 0))]⟩ ::
 []) [1])
 (.seq (.reg [] (
 ⟨some 3, none, .faddr 1, [.t 1]⟩ ::
 ⟨some 4, none, .load false 1, [.t 3]⟩ ::
 ⟨some 5, none, .faddr 0, [.t 1]⟩ ::
 ⟨some 6, none, .load false 1, [.t 5]⟩ ::
 ⟨some 7, none, .bin .sub, [.t 6, .k (.d (.int .i64 1))]⟩ ::
 ⟨some 8, none, .bin .mul, [.t 4, .t 7]⟩ ::
 ⟨some 2, none, .mov, [.t 8]⟩ ::
 []) [2])
 (.ret))
theorem dec_ref02_Last : Fun E0 F_ref02_Last pc_ref02_Last [.t 2] 9 := fun_of_dec (fl := []) (by kernel_rfl)
-- platter/servo.Trace (3)
abbrev F_servo_Trace : Nat := 38
def pc_servo_Trace : PC :=
 .seq (.reg [] (
 ⟨some 3, none, .box, [.t 0]⟩ ::
 ⟨some 6, none, .mov, [.k (.d (.list true []))]⟩ ::
 ⟨some 7, none, .mov, [.k (.d (.int .i64 0))]⟩ ::
 []) [1, 2, 3])
 (.seq (.draw [] (
 (⟨some 17, none, .load true 6, [.t 3]⟩, []) ::
 (⟨some 18, none, .mov, [.t 1]⟩, []) ::
 (⟨some 19, none, .mov, [.t 2]⟩, []) ::
 (⟨some 20, none, .faddr 1, [.t 3]⟩, []) ::
 (⟨some 21, none, .load false 1, [.t 20]⟩, []) ::
 (⟨some 22, none, .faddr 0, [.t 3]⟩, []) ::
 (⟨some 23, none, .load false 1, [.t 22]⟩, []) ::
 (⟨some 24, none, .bin .sub, [.t 23, .k (.d (.int .i64 1))]⟩, []) ::
 (⟨some 25, none, .bin .mul, [.t 21, .t 24]⟩, []) ::
 (⟨some 26, none, .call 47, [.t 19, .k (.d (.int .i64 0)), .t 25]⟩, [0]) ::
 (⟨some 27, none, .mov, [.t 26]⟩, []) ::
 (⟨some 28, some (27, true), .mov, [.t 1]⟩, []) ::
 (⟨some 29, some (27, true), .len false, [.t 28]⟩, []) ::
 (⟨some 30, some (27, true), .bin .gtr, [.t 29, .k (.d (.int .i64 0))]⟩, []) ::
 (⟨some 31, none, .pick, [.t 27, .t 30, .k (.d (.bool false))]⟩, []) ::
 (⟨some 32, none, .call 46, [.t 17, .t 18, .t 31]⟩, []) ::
 (⟨some 16, none, .mov, [.t 32]⟩, []) ::
 (⟨some 33, none, .extract 0, [.t 16]⟩, []) ::
 (⟨some 34, none, .extract 1, [.t 16]⟩, []) ::
 (⟨some 8, none, .mov, [.t 33]⟩, []) ::
 (⟨some 9, none, .mov, [.t 34]⟩, []) ::
 []) [1, 2, 8, 9])
 (.seq (.seq (.reg [] (
 ⟨some 35, none, .mov, [.t 9]⟩ ::
 ⟨some 36, none, .bin .neq, [.t 35, .k (.d (.int .i64 0))]⟩ ::
 []) [1, 2, 8, 9, 36])
 (.cond (.t 36)
 (.seq (.reg [] (
 ⟨some 37, none, .mov, [.t 9]⟩ ::
 ⟨some 6, none, .mov, [.k (.d (.list true []))]⟩ ::
 ⟨some 7, none, .mov, [.t 37]⟩ ::
 []) [6, 7])
 (.ret))
 (.skip)))
 (.seq (.reg [] (
 ⟨some 38, none, .mov, [.t 8]⟩ ::
 ⟨some 39, none, .call 67, [.t 38]⟩ ::
 ⟨some 10, none, .mov, [.t 39]⟩ ::
 []) [1, 2, 8, 10])
 (.seq (.reg [] (
 ⟨some 40, none, .mov, [.t 1]⟩ ::
 ⟨some 41, none, .len false, [.t 40]⟩ ::
 ⟨some 42, none, .mksl 3 1 (.int .i64 0) true, [.t 41, .t 41]⟩ ::
 ⟨some 11, none, .mov, [.t 42]⟩ ::
 []) [1, 2, 8, 10, 11])
 (.seq (.seq (.draw [] (
 (⟨some 43, none, .mov, [.t 10]⟩, []) ::
 (⟨some 44, none, .mov, [.t 1]⟩, []) ::
 (⟨some 45, none, .len false, [.t 44]⟩, []) ::
 (⟨some 46, none, .bin .sub, [.t 45, .k (.d (.int .i64 1))]⟩, []) ::
 (⟨some 47, none, .iaddrS 1, [.t 43, .t 46]⟩, []) ::
 (⟨some 48, none, .load false 1, [.t 47]⟩, []) ::
 (⟨some 49, none, .mov, [.t 2]⟩, []) ::
 (⟨some 50, none, .iaddrS 1, [.t 48, .t 49]⟩, []) ::
 (⟨some 51, none, .load false 1, [.t 50]⟩, []) ::
 (⟨some 52, none, .mov, [.t 8]⟩, []) ::
 (⟨some 53, none, .nilck, [.t 52]⟩, []) ::
 (⟨some 54, none, .faddr 0, [.t 53]⟩, []) ::
 (⟨some 55, none, .faddr 4, [.t 54]⟩, []) ::
 (⟨some 56, none, .load false 1, [.t 55]⟩, []) ::
 (⟨some 57, none, .bin .gtr, [.t 51, .t 56]⟩, []) ::
 []) [1, 2, 8, 10, 11, 57])
 (.cond (.t 57)
 (.seq (.reg [] (
 ⟨some 6, none, .mov, [.k (.d (.list true []))]⟩ ::
 ⟨some 7, none, .mov, [.k (.d (.int .i64 3))]⟩ ::
 []) [6, 7])
 (.ret))
 (.skip)))
 (.seq (.reg [] (
 ⟨some 58, none, .mov, [.t 1]⟩ ::
 ⟨some 59, none, .len false, [.t 58]⟩ ::
 ⟨some 60, none, .bin .sub, [.t 59, .k (.d (.int .i64 1))]⟩ ::
 ⟨some 12, none, .mov, [.t 60]⟩ ::
 []) [2, 8, 10, 11, 12])
 (.block 0
 (.loop [] [2, 8, 10, 11, 12] [32, 39, 42, 10032, 10039, 900002, 901002]
 (.seq (.block 1
 (.seq (.reg [] (
 ⟨some 63, none, .mov, [.t 11]⟩ ::
 ⟨some 64, none, .mov, [.t 12]⟩ ::
 ⟨some 65, none, .mov, [.t 2]⟩ ::
 ⟨some 66, none, .iaddrS 1, [.t 63, .t 64]⟩ ::
 ⟨none, none, .store 1, [.t 66, .t 65]⟩ ::
 []) [2, 8, 10, 11, 12])
 (.seq (.seq (.reg [] (
 ⟨some 67, none, .mov, [.t 12]⟩ ::
 ⟨some 68, none, .bin .eql, [.t 67, .k (.d (.int .i64 0))]⟩ ::
 []) [2, 8, 10, 11, 12, 68])
 (.cond (.t 68)
 (.seq (.reg [] (
 ⟨some 69, none, .mov, [.t 11]⟩ ::
 ⟨some 6, none, .mov, [.t 69]⟩ ::
 ⟨some 7, none, .mov, [.k (.d (.int .i64 0))]⟩ ::
 []) [6, 7])
 (.ret))
 (.skip)))
 (.seq (.draw [] (
 (⟨some 70, none, .mov, [.t 2]⟩, []) ::
 (⟨some 71, none, .mov, [.t 8]⟩, []) ::
 (⟨some 72, none, .nilck, [.t 71]⟩, []) ::
 (⟨some 73, none, .faddr 0, [.t 72]⟩, []) ::
 (⟨some 74, none, .faddr 2, [.t 73]⟩, []) ::
 (⟨some 75, none, .load false 1, [.t 74]⟩, []) ::
 (⟨some 76, none, .bin .sub, [.t 70, .t 75]⟩, []) ::
 (⟨some 77, none, .minmax true, [.k (.d (.int .i64 0)), .t 76]⟩, []) ::
 (⟨some 78, none, .mov, [.t 8]⟩, []) ::
 (⟨some 79, none, .nilck, [.t 78]⟩, []) ::
 (⟨some 80, none, .faddr 7, [.t 79]⟩, []) ::
 (⟨some 81, none, .load false 1, [.t 80]⟩, []) ::
 (⟨some 82, none, .mov, [.t 2]⟩, []) ::
 (⟨some 83, none, .mov, [.t 8]⟩, []) ::
 (⟨some 84, none, .nilck, [.t 83]⟩, []) ::
 (⟨some 85, none, .faddr 0, [.t 84]⟩, []) ::
 (⟨some 86, none, .faddr 2, [.t 85]⟩, []) ::
 (⟨some 87, none, .load false 1, [.t 86]⟩, []) ::
 (⟨some 88, none, .bin .add, [.t 82, .t 87]⟩, []) ::
 (⟨some 89, none, .minmax false, [.t 81, .t 88]⟩, []) ::
 (⟨some 13, none, .mov, [.t 77]⟩, []) ::
 (⟨some 14, none, .mov, [.t 89]⟩, []) ::
 []) [8, 10, 11, 12, 13, 14])
 (.seq (.reg [] (
 ⟨some 90, none, .mov, [.t 10]⟩ ::
 ⟨some 91, none, .mov, [.t 12]⟩ ::
 ⟨some 92, none, .bin .sub, [.t 91, .k (.d (.int .i64 1))]⟩ ::
 ⟨some 93, none, .iaddrS 1, [.t 90, .t 92]⟩ ::
 ⟨some 94, none, .load false 1, [.t 93]⟩ ::
 ⟨some 95, none, .mov, [.t 13]⟩ ::
 ⟨some 96, none, .mov, [.t 14]⟩ ::
 ⟨some 97, none, .bin .add, [.t 96, .k (.d (.int .i64 1))]⟩ ::
 ⟨some 98, none, .slice 1 true true false, [.t 94, .t 95, .t 97]⟩ ::
 ⟨some 15, none, .mov, [.t 98]⟩ ::
 []) [8, 10, 11, 12, 13, 15])
 (.reg [] (
 ⟨some 99, none, .mov, [.t 13]⟩ ::
 ⟨some 100, none, .mov, [.t 15]⟩ ::
 ⟨some 101, none, .mov, [.t 15]⟩ ::
 ⟨some 102, none, .call 64, [.t 101]⟩ ::
 ⟨some 103, none, .call 68, [.t 100, .t 102]⟩ ::
 ⟨some 104, none, .bin .add, [.t 99, .t 103]⟩ ::
 ⟨some 2, none, .mov, [.t 104]⟩ ::
 []) [2, 8, 10, 11, 12]))))))
 (.reg [] (
 ⟨some 61, none, .mov, [.t 12]⟩ ::
 ⟨some 62, none, .bin .sub, [.t 61, .k (.d (.int .i64 1))]⟩ ::
 ⟨some 12, none, .mov, [.t 62]⟩ ::
 []) [2, 8, 10, 11, 12]))))))))))
theorem dec_servo_Trace : Fun E0 F_servo_Trace pc_servo_Trace [.t 6, .t 7] 105 := fun_of_dec (fl := []) (by kernel_rfl)
-- platter/platterlaw02.in (2)
abbrev F_law02_in : Nat := 39
def pc_law02_in : PC :=
 .seq (.reg [] (
 ⟨some 4, none, .mov, [.k (.d (.bool false))]⟩ ::
 []) [0, 1])
 (.seq (.seq (.reg [] (
 ⟨some 5, none, .mov, [.k (.d (.int .i64 0))]⟩ ::
 []) [0, 1, 5])
 (.block 0
 (.loop [] [0, 1, 5] [900000, 900001, 901000, 901001]
 (.seq (.seq (.reg [] (
 ⟨some 6, none, .mov, [.t 5]⟩ ::
 ⟨some 7, none, .mov, [.t 0]⟩ ::
 ⟨some 8, none, .len false, [.t 7]⟩ ::
 ⟨some 9, none, .bin .lss, [.t 6, .t 8]⟩ ::
 []) [0, 1, 5, 9])
 (.cond (.t 9)
 (.skip)
 (.exit 0)))
 (.seq (.block 1
 (.seq (.reg [] (
 ⟨some 12, none, .mov, [.t 1]⟩ ::
 ⟨some 13, none, .mov, [.t 0]⟩ ::
 ⟨some 14, none, .mov, [.t 5]⟩ ::
 ⟨some 15, none, .iaddrS 2, [.t 13, .t 14]⟩ ::
 ⟨some 16, none, .faddr 0, [.t 15]⟩ ::
 ⟨some 17, none, .load false 1, [.t 16]⟩ ::
 ⟨some 18, none, .bin .geq, [.t 12, .t 17]⟩ ::
 ⟨some 19, none, .mov, [.t 18]⟩ ::
 ⟨some 20, some (19, true), .mov, [.t 1]⟩ ::
 ⟨some 21, some (19, true), .mov, [.t 0]⟩ ::
 ⟨some 22, some (19, true), .mov, [.t 5]⟩ ::
 ⟨some 23, some (19, true), .iaddrS 2, [.t 21, .t 22]⟩ ::
 ⟨some 24, some (19, true), .faddr 1, [.t 23]⟩ ::
 ⟨some 25, some (19, true), .load false 1, [.t 24]⟩ ::
 ⟨some 26, some (19, true), .bin .leq, [.t 20, .t 25]⟩ ::
 ⟨some 27, none, .pick, [.t 19, .t 26, .k (.d (.bool false))]⟩ ::
 []) [0, 1, 5, 27])
 (.cond (.t 27)
 (.seq (.reg [] (
 ⟨some 4, none, .mov, [.k (.d (.bool true))]⟩ ::
 []) [4])
 (.ret))
 (.skip))))
 (.reg [] (
 ⟨some 10, none, .mov, [.t 5]⟩ ::
 ⟨some 11, none, .bin .add, [.t 10, .k (.d (.int .i64 1))]⟩ ::
 ⟨some 5, none, .mov, [.t 11]⟩ ::
 []) [0, 1, 5]))))))
 (.seq (.reg [] (
 ⟨some 4, none, .mov, [.k (.d (.bool false))]⟩ ::
 []) [4])
 (.ret)))
theorem dec_law02_in : Fun E0 F_law02_in pc_law02_in [.t 4] 28 := fun_of_dec (fl := []) (by kernel_rfl)
-- platter/platterref02.Misread (3)
abbrev F_ref02_Misread : Nat := 40
def pc_ref02_Misread : PC :=
 .seq (.reg [] (
 ⟨some 3, none, .box, [.t 0]⟩ ::
 ⟨some 6, none, .mov, [.k (.d (.int .i64 0))]⟩ ::
 []) [1, 2, 3])
 (.seq (.reg [] (
 ⟨some 7, none, .mov, [.k (.d (.int .i64 0))]⟩ ::
 []) [1, 2, 3, 7])
 (.seq (.seq (.reg [] (
 ⟨some 8, none, .mov, [.k (.d (.int .i64 0))]⟩ ::
 []) [1, 2, 3, 7, 8])
 (.block 0
 (.loop [] [1, 2, 3, 7, 8] [3, 900000, 900001, 900002, 901000, 901001, 901002]
 (.seq (.seq (.reg [] (
 ⟨some 9, none, .mov, [.t 8]⟩ ::
 ⟨some 10, none, .mov, [.t 2]⟩ ::
 ⟨some 11, none, .len false, [.t 10]⟩ ::
 ⟨some 12, none, .bin .lss, [.t 9, .t 11]⟩ ::
 []) [1, 2, 3, 7, 8, 12])
 (.cond (.t 12)
 (.skip)
 (.exit 0)))
 (.seq (.block 1
 (.seq (.draw [] (
 (⟨some 15, none, .load true 6, [.t 3]⟩, []) ::
 (⟨some 16, none, .mov, [.t 1]⟩, []) ::
 (⟨some 17, none, .mov, [.t 8]⟩, []) ::
 (⟨some 18, none, .iaddrS 2, [.t 16, .t 17]⟩, []) ::
 (⟨some 19, none, .load true 2, [.t 18]⟩, []) ::
 (⟨some 20, none, .mov, [.t 8]⟩, []) ::
 (⟨some 21, none, .mov, [.t 2]⟩, []) ::
 (⟨some 22, none, .mov, [.t 8]⟩, []) ::
 (⟨some 23, none, .iaddrS 1, [.t 21, .t 22]⟩, []) ::
 (⟨some 24, none, .load false 1, [.t 23]⟩, []) ::
 (⟨some 25, none, .call 23, [.t 15, .t 19, .t 20, .t 24]⟩, []) ::
 (⟨some 26, none, .un .not, [.t 25]⟩, []) ::
 []) [1, 2, 3, 7, 8, 26])
 (.cond (.t 26)
 (.reg [] (
 ⟨some 27, none, .mov, [.t 7]⟩ ::
 ⟨some 28, none, .bin .add, [.t 27, .k (.d (.int .i64 1))]⟩ ::
 ⟨some 7, none, .mov, [.t 28]⟩ ::
 []) [1, 2, 3, 7, 8])
 (.skip))))
 (.reg [] (
 ⟨some 13, none, .mov, [.t 8]⟩ ::
 ⟨some 14, none, .bin .add, [.t 13, .k (.d (.int .i64 1))]⟩ ::
 ⟨some 8, none, .mov, [.t 14]⟩ ::
 []) [1, 2, 3, 7, 8]))))))
 (.seq (.reg [] (
 ⟨some 29, none, .mov, [.t 7]⟩ ::
 ⟨some 6, none, .mov, [.t 29]⟩ ::
 []) [6])
 (.ret))))
theorem dec_ref02_Misread : Fun E0 F_ref02_Misread pc_ref02_Misread [.t 6] 30 := fun_of_dec (fl := []) (by kernel_rfl)
-- platter/platterref02.CheckTrace (3)
abbrev F_ref02_CheckTrace : Nat := 41
def pc_ref02_CheckTrace : PC :=
 .seq (.reg [] (
 ⟨some 3, none, .box, [.t 0]⟩ ::
 ⟨some 6, none, .mov, [.k (.d (.int .i64 0))]⟩ ::
 []) [1, 2, 3])
 (.seq (.draw [] (
 (⟨some 10, none, .load true 6, [.t 3]⟩, []) ::
 (⟨some 11, none, .mov, [.t 1]⟩, []) ::
 (⟨some 12, none, .mov, [.t 2]⟩, []) ::
 (⟨some 13, none, .load true 6, [.t 3]⟩, []) ::
 (⟨some 14, none, .call 37, [.t 13]⟩, [0]) ::
 (⟨some 15, none, .call 50, [.t 12, .k (.d (.int .i64 0)), .t 14]⟩, [0]) ::
 (⟨some 16, none, .mov, [.t 15]⟩, []) ::
 (⟨some 17, some (16, true), .mov, [.t 1]⟩, []) ::
 (⟨some 18, some (16, true), .len false, [.t 17]⟩, []) ::
 (⟨some 19, some (16, true), .bin .gtr, [.t 18, .k (.d (.int .i64 0))]⟩, []) ::
 (⟨some 20, none, .pick, [.t 16, .t 19, .k (.d (.bool false))]⟩, []) ::
 (⟨some 21, none, .call 60, [.t 10, .t 11, .t 20]⟩, []) ::
 (⟨some 9, none, .mov, [.t 21]⟩, []) ::
 (⟨some 22, none, .extract 0, [.t 9]⟩, []) ::
 (⟨some 23, none, .extract 1, [.t 9]⟩, []) ::
 (⟨some 7, none, .mov, [.t 22]⟩, []) ::
 (⟨some 8, none, .mov, [.t 23]⟩, []) ::
 []) [2, 7, 8])
 (.seq (.seq (.reg [] (
 ⟨some 24, none, .mov, [.t 8]⟩ ::
 ⟨some 25, none, .bin .neq, [.t 24, .k (.d (.int .i64 0))]⟩ ::
 []) [2, 7, 8, 25])
 (.cond (.t 25)
 (.seq (.reg [] (
 ⟨some 26, none, .mov, [.t 8]⟩ ::
 ⟨some 6, none, .mov, [.t 26]⟩ ::
 []) [6])
 (.ret))
 (.skip)))
 (.seq (.seq (.reg [] (
 ⟨some 27, none, .mov, [.t 7]⟩ ::
 ⟨some 28, none, .mov, [.t 2]⟩ ::
 ⟨some 29, none, .iaddrS 1, [.t 27, .t 28]⟩ ::
 ⟨some 30, none, .load false 1, [.t 29]⟩ ::
 ⟨some 31, none, .un .not, [.t 30]⟩ ::
 []) [31])
 (.cond (.t 31)
 (.seq (.reg [] (
 ⟨some 6, none, .mov, [.k (.d (.int .i64 3))]⟩ ::
 []) [6])
 (.ret))
 (.skip)))
 (.seq (.reg [] (
 ⟨some 6, none, .mov, [.k (.d (.int .i64 0))]⟩ ::
 []) [6])
 (.ret)))))
theorem dec_ref02_CheckTrace : Fun E0 F_ref02_CheckTrace pc_ref02_CheckTrace [.t 6] 32 := fun_of_dec (fl := []) (by kernel_rfl)
-- platter/platterref02.Gate (4)
abbrev F_ref02_Gate : Nat := 42
def pc_ref02_Gate : PC :=
 .seq (.reg [] (
 ⟨some 4, none, .box, [.t 0]⟩ ::
 ⟨some 8, none, .mov, [.k (.d (.int .i64 0))]⟩ ::
 ⟨some 9, none, .mov, [.k (.d (.int .i64 0))]⟩ ::
 []) [1, 2, 3, 4])
 (.seq (.draw [] (
 (⟨some 15, none, .load true 6, [.t 4]⟩, []) ::
 (⟨some 16, none, .mov, [.t 1]⟩, []) ::
 (⟨some 17, none, .mov, [.t 2]⟩, []) ::
 (⟨some 18, none, .faddr 0, [.t 4]⟩, []) ::
 (⟨some 19, none, .load false 1, [.t 18]⟩, []) ::
 (⟨some 20, none, .bin .sub, [.t 19, .k (.d (.int .i64 1))]⟩, []) ::
 (⟨some 21, none, .call 50, [.t 17, .k (.d (.int .i64 0)), .t 20]⟩, [0]) ::
 (⟨some 22, none, .mov, [.t 21]⟩, []) ::
 (⟨some 23, some (22, true), .mov, [.t 3]⟩, []) ::
 (⟨some 24, some (22, true), .call 50, [.t 23, .k (.d (.int .i64 0)), .k (.d (.int .i64 16))]⟩, [0]) ::
 (⟨some 25, none, .pick, [.t 22, .t 24, .k (.d (.bool false))]⟩, []) ::
 (⟨some 26, none, .call 60, [.t 15, .t 16, .t 25]⟩, []) ::
 (⟨some 14, none, .mov, [.t 26]⟩, []) ::
 (⟨some 27, none, .extract 0, [.t 14]⟩, []) ::
 (⟨some 28, none, .extract 1, [.t 14]⟩, []) ::
 (⟨some 10, none, .mov, [.t 27]⟩, []) ::
 (⟨some 11, none, .mov, [.t 28]⟩, []) ::
 []) [1, 2, 3, 4, 10, 11])
 (.seq (.seq (.reg [] (
 ⟨some 29, none, .mov, [.t 11]⟩ ::
 ⟨some 30, none, .bin .neq, [.t 29, .k (.d (.int .i64 0))]⟩ ::
 []) [1, 2, 3, 4, 10, 11, 30])
 (.cond (.t 30)
 (.seq (.reg [] (
 ⟨some 31, none, .mov, [.t 11]⟩ ::
 ⟨some 8, none, .mov, [.k (.d (.int .i64 0))]⟩ ::
 ⟨some 9, none, .mov, [.t 31]⟩ ::
 []) [8, 9])
 (.ret))
 (.skip)))
 (.seq (.seq (.reg [] (
 ⟨some 12, none, .mov, [.k (.d (.int .i64 0))]⟩ ::
 []) [1, 2, 3, 4, 10, 12])
 (.block 0
 (.loop [] [1, 2, 3, 4, 10, 12] [4, 26, 64, 10026, 10064, 900000, 900001, 900002, 900003, 901000, 901001, 901002, 901003]
 (.seq (.seq (.reg [] (
 ⟨some 32, none, .mov, [.t 12]⟩ ::
 ⟨some 33, none, .bin .lss, [.t 32, .k (.d (.int .i64 24))]⟩ ::
 []) [1, 2, 3, 4, 10, 12, 33])
 (.cond (.t 33)
 (.skip)
 (.exit 0)))
 (.seq (.block 1
 (.seq (.seq (.reg [] (
 ⟨some 13, none, .mov, [.k (.d (.int .i64 0))]⟩ ::
 []) [1, 2, 3, 4, 10, 12, 13])
 (.block 2
 (.loop [] [1, 2, 3, 4, 10, 12, 13] [4, 26, 64, 10026, 10064, 900000, 900001, 900002, 900003, 901000, 901001, 901002, 901003]
 (.seq (.seq (.reg [] (
 ⟨some 36, none, .mov, [.t 13]⟩ ::
 ⟨some 37, none, .mov, [.t 10]⟩ ::
 ⟨some 38, none, .len false, [.t 37]⟩ ::
 ⟨some 39, none, .bin .lss, [.t 36, .t 38]⟩ ::
 []) [1, 2, 3, 4, 10, 12, 13, 39])
 (.cond (.t 39)
 (.skip)
 (.exit 2)))
 (.seq (.block 3
 (.seq (.reg [] (
 ⟨some 42, none, .mov, [.t 10]⟩ ::
 ⟨some 43, none, .mov, [.t 13]⟩ ::
 ⟨some 44, none, .iaddrS 1, [.t 42, .t 43]⟩ ::
 ⟨some 45, none, .load false 1, [.t 44]⟩ ::
 ⟨some 46, none, .mov, [.t 45]⟩ ::
 ⟨some 47, some (46, true), .mov, [.t 13]⟩ ::
 ⟨some 48, some (46, true), .load true 6, [.t 4]⟩ ::
 ⟨some 49, some (46, true), .mov, [.t 2]⟩ ::
 ⟨some 50, some (46, true), .mov, [.t 1]⟩ ::
 ⟨some 51, some (46, true), .len false, [.t 50]⟩ ::
 ⟨some 52, some (46, true), .bin .sub, [.t 51, .k (.d (.int .i64 1))]⟩ ::
 ⟨some 53, some (46, true), .mov, [.t 12]⟩ ::
 ⟨some 54, some (46, true), .bin .add, [.t 52, .t 53]⟩ ::
 ⟨some 55, some (46, true), .call 17, [.t 48, .t 49, .t 54]⟩ ::
 ⟨some 56, some (46, true), .bin .sub, [.t 47, .t 55]⟩ ::
 ⟨some 57, some (46, true), .call 51, [.t 56]⟩ ::
 ⟨some 58, some (46, true), .mov, [.t 3]⟩ ::
 ⟨some 59, some (46, true), .bin .gtr, [.t 57, .t 58]⟩ ::
 ⟨some 60, none, .pick, [.t 46, .t 59, .k (.d (.bool false))]⟩ ::
 []) [1, 2, 3, 4, 10, 12, 13, 60])
 (.cond (.t 60)
 (.seq (.reg [] (
 ⟨some 61, none, .mov, [.t 12]⟩ ::
 ⟨some 8, none, .mov, [.t 61]⟩ ::
 ⟨some 9, none, .mov, [.k (.d (.int .i64 0))]⟩ ::
 []) [8, 9])
 (.ret))
 (.skip))))
 (.reg [] (
 ⟨some 40, none, .mov, [.t 13]⟩ ::
 ⟨some 41, none, .bin .add, [.t 40, .k (.d (.int .i64 1))]⟩ ::
 ⟨some 13, none, .mov, [.t 41]⟩ ::
 []) [1, 2, 3, 4, 10, 12, 13]))))))
 (.reg [] (
 ⟨some 62, none, .load true 6, [.t 4]⟩ ::
 ⟨some 63, none, .mov, [.t 10]⟩ ::
 ⟨some 64, none, .call 62, [.t 62, .t 63]⟩ ::
 ⟨some 10, none, .mov, [.t 64]⟩ ::
 []) [1, 2, 3, 4, 10, 12])))
 (.reg [] (
 ⟨some 34, none, .mov, [.t 12]⟩ ::
 ⟨some 35, none, .bin .add, [.t 34, .k (.d (.int .i64 1))]⟩ ::
 ⟨some 12, none, .mov, [.t 35]⟩ ::
 []) [1, 2, 3, 4, 10, 12]))))))
 (.seq (.reg [] (
 ⟨some 8, none, .mov, [.k (.d (.int .i64 24))]⟩ ::
 ⟨some 9, none, .mov, [.k (.d (.int .i64 0))]⟩ ::
 []) [8, 9])
 (.ret)))))
theorem dec_ref02_Gate : Fun E0 F_ref02_Gate pc_ref02_Gate [.t 8, .t 9] 65 := fun_of_dec (fl := []) (by kernel_rfl)
-- platter/servo.Blame (2)
abbrev F_servo_Blame : Nat := 43
def pc_servo_Blame : PC :=
 .seq (.reg [] (
 ⟨some 2, none, .box, [.t 0]⟩ ::
 ⟨some 4, none, .mov, [.k (.d (.list true []))]⟩ ::
 ⟨some 5, none, .mov, [.k (.d (.int .i64 0))]⟩ ::
 []) [1, 2])
 (.scope (.seq (.reg [] (
 ⟨some 15, none, .load true 6, [.t 2]⟩ ::
 ⟨some 16, none, .mov, [.t 1]⟩ ::
 ⟨some 17, none, .call 46, [.t 15, .t 16, .k (.d (.bool true))]⟩ ::
 ⟨some 14, none, .mov, [.t 17]⟩ ::
 ⟨some 18, none, .extract 0, [.t 14]⟩ ::
 ⟨some 19, none, .extract 1, [.t 14]⟩ ::
 ⟨some 6, none, .mov, [.t 18]⟩ ::
 ⟨some 7, none, .mov, [.t 19]⟩ ::
 []) [1, 6, 7])
 (.seq (.seq (.reg [] (
 ⟨some 20, none, .mov, [.t 7]⟩ ::
 ⟨some 21, none, .bin .neq, [.t 20, .k (.d (.int .i64 0))]⟩ ::
 []) [1, 6, 7, 21])
 (.cond (.t 21)
 (.seq (.reg [] (
 ⟨some 22, none, .mov, [.t 7]⟩ ::
 ⟨some 4, none, .mov, [.k (.d (.list true []))]⟩ ::
 ⟨some 5, none, .mov, [.t 22]⟩ ::
 []) [4, 5])
 (.ret))
 (.skip)))
 (.seq (.reg [] (
 ⟨some 23, none, .mov, [.t 6]⟩ ::
 ⟨some 24, none, .call 67, [.t 23]⟩ ::
 ⟨some 25, none, .mov, [.t 6]⟩ ::
 ⟨some 26, none, .call 69, [.t 25]⟩ ::
 ⟨some 8, none, .mov, [.t 24]⟩ ::
 ⟨some 9, none, .mov, [.t 26]⟩ ::
 []) [1, 6, 8, 9])
 (.seq (.reg [] (
 ⟨some 10, none, .mov, [.k (.d (.list true []))]⟩ ::
 []) [1, 6, 8, 9, 10])
 (.seq (.lab)
 (.seq (.seq (.reg [] (
 ⟨some 27, none, .mov, [.t 1]⟩ ::
 ⟨some 28, none, .len false, [.t 27]⟩ ::
 ⟨some 29, none, .mov, [.k (.d (.int .i64 0))]⟩ ::
 []) [6, 8, 9, 10, 28, 29])
 (.block 0
 (.loop [.own 10 68 3 1] [6, 8, 9, 10, 28, 29] [17, 24, 26, 68, 10017, 10024, 10026]
 (.seq (.reg [] (
 ⟨some 30, none, .bin .lss, [.t 29, .t 28]⟩ ::
 []) [6, 8, 9, 10, 28, 29, 30])
 (.seq (.cond (.t 30)
 (.skip)
 (.exit 0))
 (.seq (.block 1
 (.seq (.reg [] (
 ⟨some 31, none, .mov, [.t 29]⟩ ::
 ⟨some 11, none, .mov, [.t 31]⟩ ::
 []) [6, 8, 9, 10, 11, 28, 29])
 (.seq (.seq (.reg [] (
 ⟨some 32, none, .mov, [.t 8]⟩ ::
 ⟨some 33, none, .mov, [.t 11]⟩ ::
 ⟨some 34, none, .iaddrS 1, [.t 32, .t 33]⟩ ::
 ⟨some 35, none, .load false 1, [.t 34]⟩ ::
 ⟨some 36, none, .len false, [.t 35]⟩ ::
 ⟨some 37, none, .mov, [.k (.d (.int .i64 0))]⟩ ::
 []) [6, 8, 9, 10, 11, 28, 29, 35, 36, 37])
 (.block 2
 (.loop [.own 10 68 3 1] [6, 8, 9, 10, 11, 28, 29, 35, 36, 37] [17, 24, 26, 68, 10017, 10024, 10026]
 (.seq (.reg [] (
 ⟨some 38, none, .bin .lss, [.t 37, .t 36]⟩ ::
 []) [6, 8, 9, 10, 11, 28, 29, 35, 36, 37, 38])
 (.seq (.cond (.t 38)
 (.skip)
 (.exit 2))
 (.seq (.block 3
 (.seq (.reg [] (
 ⟨some 39, none, .mov, [.t 37]⟩ ::
 ⟨some 40, none, .iaddrS 1, [.t 35, .t 37]⟩ ::
 ⟨some 41, none, .load false 1, [.t 40]⟩ ::
 ⟨some 12, none, .mov, [.t 39]⟩ ::
 ⟨some 13, none, .mov, [.t 41]⟩ ::
 []) [6, 8, 9, 10, 11, 12, 13, 28, 29, 35, 36, 37])
 (.seq (.draw [] (
 (⟨some 42, none, .mov, [.t 6]⟩, []) ::
 (⟨some 43, none, .mov, [.t 11]⟩, []) ::
 (⟨some 44, none, .mov, [.t 12]⟩, []) ::
 (⟨some 45, none, .call 70, [.t 42, .t 43, .t 44]⟩, []) ::
 (⟨some 46, none, .bin .eql, [.t 45, .k (.d (.int .i64 0))]⟩, []) ::
 (⟨some 47, none, .mov, [.t 46]⟩, []) ::
 (⟨some 48, some (47, true), .mov, [.t 13]⟩, []) ::
 (⟨some 49, some (47, true), .mov, [.t 9]⟩, []) ::
 (⟨some 50, some (47, true), .mov, [.t 11]⟩, []) ::
 (⟨some 51, some (47, true), .iaddrS 1, [.t 49, .t 50]⟩, []) ::
 (⟨some 52, some (47, true), .load false 1, [.t 51]⟩, []) ::
 (⟨some 53, some (47, true), .mov, [.t 12]⟩, []) ::
 (⟨some 54, some (47, true), .iaddrS 1, [.t 52, .t 53]⟩, []) ::
 (⟨some 55, some (47, true), .load false 1, [.t 54]⟩, []) ::
 (⟨some 56, some (47, true), .bin .add, [.t 48, .t 55]⟩, []) ::
 (⟨some 57, some (47, true), .mov, [.t 6]⟩, []) ::
 (⟨some 58, some (47, true), .nilck, [.t 57]⟩, []) ::
 (⟨some 59, some (47, true), .faddr 0, [.t 58]⟩, []) ::
 (⟨some 60, some (47, true), .faddr 4, [.t 59]⟩, []) ::
 (⟨some 61, some (47, true), .load false 1, [.t 60]⟩, []) ::
 (⟨some 62, some (47, true), .bin .leq, [.t 56, .t 61]⟩, []) ::
 (⟨some 63, none, .pick, [.t 47, .t 62, .k (.d (.bool false))]⟩, []) ::
 []) [6, 8, 9, 10, 11, 28, 29, 35, 36, 37, 63])
 (.cond (.t 63)
 (.exit 1)
 (.skip)))))
 (.reg [] (
 ⟨some 64, none, .bin .add, [.t 37, .k (.d (.int .i64 1))]⟩ ::
 ⟨some 37, none, .mov, [.t 64]⟩ ::
 []) [6, 8, 9, 10, 11, 28, 29, 35, 36, 37])))))))
 (.reg [] (
 ⟨some 65, none, .mov, [.t 10]⟩ ::
 ⟨some 66, none, .mov, [.t 11]⟩ ::
 ⟨some 67, none, .mkrow 1 (.int .i64 0) 1 [0], [.t 66]⟩ ::
 ⟨some 68, none, .app 3 1 none true, [.t 65, .t 67]⟩ ::
 ⟨some 10, none, .mov, [.t 68]⟩ ::
 []) [6, 8, 9, 10, 28, 29]))))
 (.reg [] (
 ⟨some 69, none, .bin .add, [.t 29, .k (.d (.int .i64 1))]⟩ ::
 ⟨some 29, none, .mov, [.t 69]⟩ ::
 []) [6, 8, 9, 10, 28, 29])))))))
 (.seq (.reg [] (
 ⟨some 70, none, .mov, [.t 10]⟩ ::
 ⟨some 4, none, .mov, [.t 70]⟩ ::
 ⟨some 5, none, .mov, [.k (.d (.int .i64 0))]⟩ ::
 []) [4, 5])
 (.ret)))))))))
theorem dec_servo_Blame : Fun E0 F_servo_Blame pc_servo_Blame [.t 4, .t 5] 71 := fun_of_dec (fl := []) (by kernel_rfl)
-- platter/platterref02.Blame (2)
abbrev F_ref02_Blame : Nat := 44
def pc_ref02_Blame : PC :=
 .seq (.reg [] (
 ⟨some 2, none, .box, [.t 0]⟩ ::
 ⟨some 4, none, .mov, [.k (.d (.list true []))]⟩ ::
 ⟨some 5, none, .mov, [.k (.d (.int .i64 0))]⟩ ::
 []) [1, 2])
 (.seq (.seq (.reg [] (
 ⟨some 14, none, .load true 6, [.t 2]⟩ ::
 ⟨some 15, none, .mov, [.t 1]⟩ ::
 ⟨some 16, none, .call 60, [.t 14, .t 15, .k (.d (.bool true))]⟩ ::
 ⟨some 13, none, .mov, [.t 16]⟩ ::
 ⟨some 17, none, .extract 0, [.t 13]⟩ ::
 ⟨some 18, none, .extract 1, [.t 13]⟩ ::
 ⟨some 6, none, .mov, [.t 17]⟩ ::
 ⟨some 7, none, .mov, [.t 18]⟩ ::
 []) [1, 2, 7])
 (.seq (.reg [] (
 ⟨some 19, none, .mov, [.t 7]⟩ ::
 ⟨some 20, none, .bin .neq, [.t 19, .k (.d (.int .i64 0))]⟩ ::
 []) [1, 2, 7, 20])
 (.cond (.t 20)
 (.seq (.reg [] (
 ⟨some 21, none, .mov, [.t 7]⟩ ::
 ⟨some 4, none, .mov, [.k (.d (.list true []))]⟩ ::
 ⟨some 5, none, .mov, [.t 21]⟩ ::
 []) [4, 5])
 (.ret))
 (.skip))))
 (.seq (.reg [] (
 ⟨some 8, none, .mov, [.k (.d (.list true []))]⟩ ::
 []) [1, 2, 8])
 (.seq (.seq (.reg [] (
 ⟨some 9, none, .mov, [.k (.d (.int .i64 0))]⟩ ::
 []) [1, 2, 8, 9])
 (.block 0
 (.loop [.own 8 53 3 1] [1, 2, 8, 9] [2, 53, 900000, 900001, 901000, 901001]
 (.seq (.seq (.reg [] (
 ⟨some 22, none, .mov, [.t 9]⟩ ::
 ⟨some 23, none, .mov, [.t 1]⟩ ::
 ⟨some 24, none, .len false, [.t 23]⟩ ::
 ⟨some 25, none, .bin .lss, [.t 22, .t 24]⟩ ::
 []) [1, 2, 8, 9, 25])
 (.cond (.t 25)
 (.skip)
 (.exit 0)))
 (.seq (.block 1
 (.seq (.reg [] (
 ⟨some 28, none, .load true 6, [.t 2]⟩ ::
 ⟨some 29, none, .mov, [.t 1]⟩ ::
 ⟨some 30, none, .mov, [.t 9]⟩ ::
 ⟨some 31, none, .call 66, [.t 28, .t 29, .t 30]⟩ ::
 ⟨some 10, none, .mov, [.t 31]⟩ ::
 []) [1, 2, 8, 9, 10])
 (.seq (.reg [] (
 ⟨some 11, none, .mov, [.k (.d (.bool false))]⟩ ::
 []) [1, 2, 8, 9, 10, 11])
 (.seq (.seq (.reg [] (
 ⟨some 12, none, .mov, [.k (.d (.int .i64 0))]⟩ ::
 []) [1, 2, 8, 9, 10, 11, 12])
 (.block 2
 (.loop [.own 8 53 3 1] [1, 2, 8, 9, 10, 11, 12] [2, 31, 53, 10031, 900000, 900001, 901000, 901001]
 (.seq (.seq (.reg [] (
 ⟨some 32, none, .mov, [.t 12]⟩ ::
 ⟨some 33, none, .mov, [.t 10]⟩ ::
 ⟨some 34, none, .len false, [.t 33]⟩ ::
 ⟨some 35, none, .bin .lss, [.t 32, .t 34]⟩ ::
 []) [1, 2, 8, 9, 10, 11, 12, 35])
 (.cond (.t 35)
 (.skip)
 (.exit 2)))
 (.seq (.block 3
 (.draw [] (
 (⟨some 38, none, .mov, [.t 11]⟩, []) ::
 (⟨some 39, none, .mov, [.t 38]⟩, []) ::
 (⟨some 40, some (39, false), .mov, [.t 10]⟩, []) ::
 (⟨some 41, some (39, false), .mov, [.t 12]⟩, []) ::
 (⟨some 42, some (39, false), .iaddrS 1, [.t 40, .t 41]⟩, []) ::
 (⟨some 43, some (39, false), .load false 1, [.t 42]⟩, []) ::
 (⟨some 44, some (39, false), .faddr 4, [.t 2]⟩, []) ::
 (⟨some 45, some (39, false), .load false 1, [.t 44]⟩, []) ::
 (⟨some 46, some (39, false), .bin .leq, [.t 43, .t 45]⟩, []) ::
 (⟨some 47, none, .pick, [.t 39, .k (.d (.bool true)), .t 46]⟩, []) ::
 (⟨some 11, none, .mov, [.t 47]⟩, []) ::
 []) [1, 2, 8, 9, 10, 11, 12]))
 (.reg [] (
 ⟨some 36, none, .mov, [.t 12]⟩ ::
 ⟨some 37, none, .bin .add, [.t 36, .k (.d (.int .i64 1))]⟩ ::
 ⟨some 12, none, .mov, [.t 37]⟩ ::
 []) [1, 2, 8, 9, 10, 11, 12]))))))
 (.seq (.reg [] (
 ⟨some 48, none, .mov, [.t 11]⟩ ::
 ⟨some 49, none, .un .not, [.t 48]⟩ ::
 []) [1, 2, 8, 9, 49])
 (.cond (.t 49)
 (.reg [] (
 ⟨some 50, none, .mov, [.t 8]⟩ ::
 ⟨some 51, none, .mov, [.t 9]⟩ ::
 ⟨some 52, none, .mkrow 1 (.int .i64 0) 1 [0], [.t 51]⟩ ::
 ⟨some 53, none, .app 3 1 none true, [.t 50, .t 52]⟩ ::
 ⟨some 8, none, .mov, [.t 53]⟩ ::
 []) [1, 2, 8, 9])
 (.skip)))))))
 (.reg [] (
 ⟨some 26, none, .mov, [.t 9]⟩ ::
 ⟨some 27, none, .bin .add, [.t 26, .k (.d (.int .i64 1))]⟩ ::
 ⟨some 9, none, .mov, [.t 27]⟩ ::
 []) [1, 2, 8, 9]))))))
 (.seq (.reg [] (
 ⟨some 54, none, .mov, [.t 8]⟩ ::
 ⟨some 4, none, .mov, [.t 54]⟩ ::
 ⟨some 5, none, .mov, [.k (.d (.int .i64 0))]⟩ ::
 []) [4, 5])
 (.ret)))))
theorem dec_ref02_Blame : Fun E0 F_ref02_Blame pc_ref02_Blame [.t 4, .t 5] 55 := fun_of_dec (fl := []) (by kernel_rfl)
-- platter/platterlaw02.Example (0)
abbrev F_law02_Example : Nat := 45
def pc_law02_Example : PC :=
 .seq (.reg [] (
 ⟨some 0, none, .zero [.int .i64 0, .int .i64 0, .int .i64 0, .int .i64 0, .int .i64 0, .list true []], []⟩ ::
 ⟨some 1, none, .mov, [.k (.d (.list true []))]⟩ ::
 []) [0])
 (.seq (.reg [] (
 ⟨some 2, none, .mkrow 1 (.int .i64 0) 2 [0, 1], [.k (.d (.int .i64 0)), .k (.d (.int .i64 1))]⟩ ::
 ⟨some 3, none, .build [.int .i64 0, .int .i64 0, .int .i64 0, .int .i64 0, .int .i64 0, .list true []] [(0, 1), (1, 1), (2, 1), (3, 1), (5, 1)], [.k (.d (.int .i64 4)), .k (.d (.int .i64 4)), .k (.d (.int .i64 2)), .k (.d (.int .i64 1)), .t 2]⟩ ::
 ⟨some 4, none, .build [.int .i64 0, .int .i64 0] [(0, 1)], [.k (.d (.int .i64 1))]⟩ ::
 ⟨some 5, none, .build [.int .i64 0, .int .i64 0] [(0, 1), (1, 1)], [.k (.d (.int .i64 1)), .k (.d (.int .i64 1))]⟩ ::
 ⟨some 6, none, .build [.int .i64 0, .int .i64 0] [(0, 1), (1, 1)], [.k (.d (.int .i64 3)), .k (.d (.int .i64 (-1)))]⟩ ::
 ⟨some 7, none, .mkrowO 46 2 (.agg [.int .i64 0, .int .i64 0]) 3 [0, 1, 2], [.t 4, .t 5, .t 6]⟩ ::
 ⟨none, none, .store 6, [.t 0, .t 3]⟩ ::
 ⟨some 1, none, .mov, [.t 7]⟩ ::
 []) [0, 1])
 (.ret))
theorem dec_law02_Example : Fun E0 F_law02_Example pc_law02_Example [.c 0 24 true 6, .t 1] 8 := fun_of_dec (fl := []) (by kernel_rfl)
-- platter/servo.known (3)
abbrev F_servo_known : Nat := 46
def pc_servo_known : PC :=
 .seq (.reg [] (
 ⟨some 3, none, .box, [.t 0]⟩ ::
 ⟨some 6, none, .mov, [.k (.d (.nilptr))]⟩ ::
 ⟨some 7, none, .mov, [.k (.d (.int .i64 0))]⟩ ::
 []) [1, 2, 3])
 (.seq (.reg [] (
 ⟨some 11, none, .load true 6, [.t 3]⟩ ::
 ⟨some 12, none, .mov, [.t 1]⟩ ::
 ⟨some 13, none, .call 63, [.t 11, .t 12]⟩ ::
 ⟨some 10, none, .mov, [.t 13]⟩ ::
 ⟨some 14, none, .extract 0, [.t 10]⟩ ::
 ⟨some 15, none, .extract 1, [.t 10]⟩ ::
 ⟨some 8, none, .mov, [.t 14]⟩ ::
 ⟨some 9, none, .mov, [.t 15]⟩ ::
 []) [2, 8, 9])
 (.seq (.block 0
 (.seq (.reg [] (
 ⟨some 17, none, .mov, [.t 9]⟩ ::
 ⟨some 18, none, .bin .neq, [.t 17, .k (.d (.int .i64 0))]⟩ ::
 ⟨some 16, none, .mov, [.t 18]⟩ ::
 []) [2, 8, 9, 16])
 (.cond (.t 16)
 (.seq (.reg [] (
 ⟨some 19, none, .mov, [.t 9]⟩ ::
 ⟨some 6, none, .mov, [.k (.d (.nilptr))]⟩ ::
 ⟨some 7, none, .mov, [.t 19]⟩ ::
 []) [6, 7])
 (.ret))
 (.seq (.reg [] (
 ⟨some 21, none, .mov, [.t 2]⟩ ::
 ⟨some 22, none, .un .not, [.t 21]⟩ ::
 ⟨some 20, none, .mov, [.t 22]⟩ ::
 []) [8, 20])
 (.cond (.t 20)
 (.seq (.reg [] (
 ⟨some 6, none, .mov, [.k (.d (.nilptr))]⟩ ::
 ⟨some 7, none, .mov, [.k (.d (.int .i64 1))]⟩ ::
 []) [6, 7])
 (.ret))
 (.seq (.draw [] (
 (⟨some 24, none, .mov, [.t 8]⟩, []) ::
 (⟨some 25, none, .call 65, [.t 24]⟩, []) ::
 (⟨some 26, none, .call 64, [.t 25]⟩, []) ::
 (⟨some 27, none, .mov, [.t 8]⟩, []) ::
 (⟨some 28, none, .nilck, [.t 27]⟩, []) ::
 (⟨some 29, none, .faddr 0, [.t 28]⟩, []) ::
 (⟨some 30, none, .faddr 4, [.t 29]⟩, []) ::
 (⟨some 31, none, .load false 1, [.t 30]⟩, [1, 2]) ::
 (⟨some 32, none, .bin .gtr, [.t 26, .t 31]⟩, []) ::
 (⟨some 23, none, .mov, [.t 32]⟩, []) ::
 []) [8, 23])
 (.cond (.t 23)
 (.seq (.reg [] (
 ⟨some 6, none, .mov, [.k (.d (.nilptr))]⟩ ::
 ⟨some 7, none, .mov, [.k (.d (.int .i64 3))]⟩ ::
 []) [6, 7])
 (.ret))
 (.skip))))))))
 (.seq (.reg [] (
 ⟨some 33, none, .mov, [.t 8]⟩ ::
 ⟨some 6, none, .mov, [.t 33]⟩ ::
 ⟨some 7, none, .mov, [.k (.d (.int .i64 0))]⟩ ::
 []) [6, 7])
 (.ret))))
theorem dec_servo_known : Fun E0 F_servo_known pc_servo_known [.t 6, .t 7] 34 := fun_of_dec (fl := []) (by kernel_rfl)
-- platter/servo.within (3)
abbrev F_servo_within : Nat := 47
def pc_servo_within : PC :=
 .seq (.reg [] (
 ⟨some 6, none, .mov, [.k (.d (.bool false))]⟩ ::
 []) [0, 1, 2])
 (.seq (.reg [] (
 ⟨some 7, none, .mov, [.t 1]⟩ ::
 ⟨some 8, none, .mov, [.t 0]⟩ ::
 ⟨some 9, none, .bin .leq, [.t 7, .t 8]⟩ ::
 ⟨some 10, none, .mov, [.t 9]⟩ ::
 ⟨some 11, some (10, true), .mov, [.t 0]⟩ ::
 ⟨some 12, some (10, true), .mov, [.t 2]⟩ ::
 ⟨some 13, some (10, true), .bin .leq, [.t 11, .t 12]⟩ ::
 ⟨some 14, none, .pick, [.t 10, .t 13, .k (.d (.bool false))]⟩ ::
 ⟨some 6, none, .mov, [.t 14]⟩ ::
 []) [6])
 (.ret))
theorem dec_servo_within : Fun E0 F_servo_within pc_servo_within [.t 6] 15 := fun_of_dec (fl := []) (by kernel_rfl)
-- (*platter/servo.head).lies (3)
abbrev F_servo_head_lies : Nat := 48
def pc_servo_head_lies : PC :=
 .seq (.reg [] (
 ⟨some 6, none, .mov, [.k (.d (.int .i64 0))]⟩ ::
 []) [0, 1, 2])
 (.seq (.draw [] (
 (⟨some 7, none, .mov, [.t 1]⟩, []) ::
 (⟨some 8, none, .mov, [.t 0]⟩, []) ::
 (⟨some 9, none, .nilck, [.t 8]⟩, []) ::
 (⟨some 10, none, .faddr 0, [.t 9]⟩, []) ::
 (⟨some 11, none, .faddr 1, [.t 10]⟩, []) ::
 (⟨some 12, none, .load false 1, [.t 11]⟩, []) ::
 (⟨some 13, none, .bin .mul, [.t 7, .t 12]⟩, []) ::
 (⟨some 14, none, .mov, [.t 0]⟩, []) ::
 (⟨some 15, none, .nilck, [.t 14]⟩, []) ::
 (⟨some 16, none, .faddr 0, [.t 15]⟩, []) ::
 (⟨some 17, none, .faddr 5, [.t 16]⟩, []) ::
 (⟨some 18, none, .load false 1, [.t 17]⟩, []) ::
 (⟨some 19, none, .mov, [.t 2]⟩, []) ::
 (⟨some 20, none, .mov, [.t 0]⟩, []) ::
 (⟨some 21, none, .nilck, [.t 20]⟩, []) ::
 (⟨some 22, none, .faddr 0, [.t 21]⟩, []) ::
 (⟨some 23, none, .faddr 5, [.t 22]⟩, []) ::
 (⟨some 24, none, .load false 1, [.t 23]⟩, []) ::
 (⟨some 25, none, .len false, [.t 24]⟩, []) ::
 (⟨some 26, none, .bin .rem, [.t 19, .t 25]⟩, []) ::
 (⟨some 27, none, .iaddrS 1, [.t 18, .t 26]⟩, []) ::
 (⟨some 28, none, .load false 1, [.t 27]⟩, []) ::
 (⟨some 29, none, .bin .add, [.t 13, .t 28]⟩, []) ::
 (⟨some 6, none, .mov, [.t 29]⟩, []) ::
 []) [6])
 (.ret))
theorem dec_servo_head_lies : Fun E0 F_servo_head_lies pc_servo_head_lies [.t 6] 30 := fun_of_dec (fl := []) (by kernel_rfl)
-- (*platter/servo.head).later (2)
abbrev F_servo_head_later : Nat := 49
def pc_servo_head_later : PC :=
 .seq (.reg [] (
 ⟨some 4, none, .mov, [.k (.d (.list true []))]⟩ ::
 []) [0, 1])
 (.seq (.reg [] (
 ⟨some 5, none, .mov, [.k (.d (.list true []))]⟩ ::
 []) [0, 1, 5])
 (.seq (.seq (.reg [] (
 ⟨some 9, none, .mov, [.t 0]⟩ ::
 ⟨some 10, none, .call 71, [.t 9]⟩ ::
 ⟨some 11, none, .len false, [.t 10]⟩ ::
 ⟨some 12, none, .mov, [.k (.d (.int .i64 0))]⟩ ::
 []) [0, 1, 5, 10, 11, 12])
 (.block 0
 (.loop [.own 5 74 54 2] [0, 1, 5, 10, 11, 12] [10, 74, 10010, 900000, 900001, 901000, 901001]
 (.seq (.reg [] (
 ⟨some 13, none, .bin .lss, [.t 12, .t 11]⟩ ::
 []) [0, 1, 5, 10, 11, 12, 13])
 (.seq (.cond (.t 13)
 (.skip)
 (.exit 0))
 (.seq (.block 1
 (.seq (.reg [] (
 ⟨some 14, none, .iaddrS 2, [.t 10, .t 12]⟩ ::
 ⟨some 15, none, .load true 2, [.t 14]⟩ ::
 ⟨some 7, none, .zero [.int .i64 0, .int .i64 0], []⟩ ::
 ⟨none, none, .store 2, [.t 7, .t 15]⟩ ::
 []) [0, 1, 5, 7, 10, 11, 12])
 (.seq (.draw [] (
 (⟨some 16, none, .faddr 0, [.t 7]⟩, []) ::
 (⟨some 17, none, .load false 1, [.t 16]⟩, []) ::
 (⟨some 18, none, .mov, [.t 1]⟩, []) ::
 (⟨some 19, none, .mov, [.t 0]⟩, []) ::
 (⟨some 20, none, .nilck, [.t 19]⟩, []) ::
 (⟨some 21, none, .faddr 0, [.t 20]⟩, []) ::
 (⟨some 22, none, .faddr 2, [.t 21]⟩, []) ::
 (⟨some 23, none, .load false 1, [.t 22]⟩, []) ::
 (⟨some 24, none, .bin .mul, [.t 18, .t 23]⟩, []) ::
 (⟨some 25, none, .bin .sub, [.t 17, .t 24]⟩, []) ::
 (⟨some 26, none, .minmax true, [.k (.d (.int .i64 0)), .t 25]⟩, []) ::
 (⟨some 27, none, .mov, [.t 0]⟩, []) ::
 (⟨some 28, none, .nilck, [.t 27]⟩, []) ::
 (⟨some 29, none, .faddr 7, [.t 28]⟩, []) ::
 (⟨some 30, none, .load false 1, [.t 29]⟩, []) ::
 (⟨some 31, none, .faddr 1, [.t 7]⟩, []) ::
 (⟨some 32, none, .load false 1, [.t 31]⟩, []) ::
 (⟨some 33, none, .mov, [.t 1]⟩, []) ::
 (⟨some 34, none, .mov, [.t 0]⟩, []) ::
 (⟨some 35, none, .nilck, [.t 34]⟩, []) ::
 (⟨some 36, none, .faddr 0, [.t 35]⟩, []) ::
 (⟨some 37, none, .faddr 2, [.t 36]⟩, []) ::
 (⟨some 38, none, .load false 1, [.t 37]⟩, []) ::
 (⟨some 39, none, .bin .mul, [.t 33, .t 38]⟩, []) ::
 (⟨some 40, none, .bin .add, [.t 32, .t 39]⟩, []) ::
 (⟨some 41, none, .minmax false, [.t 30, .t 40]⟩, []) ::
 (⟨some 42, none, .build [.int .i64 0, .int .i64 0] [(0, 1), (1, 1)], [.t 26, .t 41]⟩, []) ::
 (⟨none, none, .store 2, [.t 7, .t 42]⟩, []) ::
 []) [0, 1, 5, 7, 10, 11, 12])
 (.seq (.reg [] (
 ⟨some 43, none, .mov, [.t 5]⟩ ::
 ⟨some 44, none, .len false, [.t 43]⟩ ::
 ⟨some 45, none, .bin .sub, [.t 44, .k (.d (.int .i64 1))]⟩ ::
 ⟨some 8, none, .mov, [.t 45]⟩ ::
 []) [0, 1, 5, 7, 8, 10, 11, 12])
 (.seq (.draw [] (
 (⟨some 46, none, .mov, [.t 8]⟩, []) ::
 (⟨some 47, none, .bin .geq, [.t 46, .k (.d (.int .i64 0))]⟩, []) ::
 (⟨some 48, none, .mov, [.t 47]⟩, []) ::
 (⟨some 49, some (48, true), .mov, [.t 5]⟩, []) ::
 (⟨some 50, some (48, true), .mov, [.t 8]⟩, []) ::
 (⟨some 51, some (48, true), .iaddrS 2, [.t 49, .t 50]⟩, []) ::
 (⟨some 52, some (48, true), .faddr 1, [.t 51]⟩, []) ::
 (⟨some 53, some (48, true), .load false 1, [.t 52]⟩, []) ::
 (⟨some 54, some (48, true), .faddr 0, [.t 7]⟩, []) ::
 (⟨some 55, some (48, true), .load false 1, [.t 54]⟩, []) ::
 (⟨some 56, some (48, true), .bin .sub, [.t 55, .k (.d (.int .i64 1))]⟩, []) ::
 (⟨some 57, some (48, true), .bin .geq, [.t 53, .t 56]⟩, []) ::
 (⟨some 58, none, .pick, [.t 48, .t 57, .k (.d (.bool false))]⟩, []) ::
 []) [0, 1, 5, 7, 8, 10, 11, 12, 58])
 (.cond (.t 58)
 (.draw [] (
 (⟨some 59, none, .mov, [.t 5]⟩, []) ::
 (⟨some 60, none, .mov, [.t 8]⟩, []) ::
 (⟨some 61, none, .mov, [.t 5]⟩, []) ::
 (⟨some 62, none, .mov, [.t 8]⟩, []) ::
 (⟨some 63, none, .iaddrS 2, [.t 61, .t 62]⟩, []) ::
 (⟨some 64, none, .faddr 1, [.t 63]⟩, []) ::
 (⟨some 65, none, .load false 1, [.t 64]⟩, []) ::
 (⟨some 66, none, .faddr 1, [.t 7]⟩, []) ::
 (⟨some 67, none, .load false 1, [.t 66]⟩, []) ::
 (⟨some 68, none, .minmax true, [.t 65, .t 67]⟩, []) ::
 (⟨some 69, none, .iaddrS 2, [.t 59, .t 60]⟩, []) ::
 (⟨some 70, none, .faddr 1, [.t 69]⟩, []) ::
 (⟨none, none, .store 1, [.t 70, .t 68]⟩, []) ::
 []) [0, 1, 5, 10, 11, 12])
 (.reg [] (
 ⟨some 71, none, .mov, [.t 5]⟩ ::
 ⟨some 72, none, .load true 2, [.t 7]⟩ ::
 ⟨some 73, none, .mkrow 2 (.agg [.int .i64 0, .int .i64 0]) 1 [0], [.t 72]⟩ ::
 ⟨some 74, none, .app 54 2 none true, [.t 71, .t 73]⟩ ::
 ⟨some 5, none, .mov, [.t 74]⟩ ::
 []) [0, 1, 5, 10, 11, 12])))))))
 (.reg [] (
 ⟨some 75, none, .bin .add, [.t 12, .k (.d (.int .i64 1))]⟩ ::
 ⟨some 12, none, .mov, [.t 75]⟩ ::
 []) [0, 1, 5, 10, 11, 12])))))))
 (.seq (.reg [] (
 ⟨some 76, none, .mov, [.t 5]⟩ ::
 ⟨some 4, none, .mov, [.t 76]⟩ ::
 []) [4])
 (.ret))))
theorem dec_servo_head_later : Fun E0 F_servo_head_later pc_servo_head_later [.t 4] 77 := fun_of_dec (fl := []) (by kernel_rfl)
-- platter/platterref02.within (3)
abbrev F_ref02_within : Nat := 50
def pc_ref02_within : PC :=
 .seq (.reg [] (
 ⟨some 6, none, .mov, [.k (.d (.bool false))]⟩ ::
 []) [0, 1, 2])
 (.seq (.reg [] (
 ⟨some 7, none, .mov, [.t 0]⟩ ::
 ⟨some 8, none, .mov, [.t 1]⟩ ::
 ⟨some 9, none, .bin .geq, [.t 7, .t 8]⟩ ::
 ⟨some 10, none, .mov, [.t 9]⟩ ::
 ⟨some 11, some (10, true), .mov, [.t 0]⟩ ::
 ⟨some 12, some (10, true), .mov, [.t 2]⟩ ::
 ⟨some 13, some (10, true), .bin .leq, [.t 11, .t 12]⟩ ::
 ⟨some 14, none, .pick, [.t 10, .t 13, .k (.d (.bool false))]⟩ ::
 ⟨some 6, none, .mov, [.t 14]⟩ ::
 []) [6])
 (.ret))
theorem dec_ref02_within : Fun E0 F_ref02_within pc_ref02_within [.t 6] 15 := fun_of_dec (fl := []) (by kernel_rfl)
-- platter/platterref02.abs (1)
abbrev F_ref02_abs : Nat := 51
def pc_ref02_abs : PC :=
 .seq (.reg [] (
 ⟨some 2, none, .mov, [.k (.d (.int .i64 0))]⟩ ::
 []) [0])
 (.seq (.reg [] (
 ⟨some 3, none, .mov, [.t 0]⟩ ::
 ⟨some 4, none, .mov, [.t 0]⟩ ::
 ⟨some 5, none, .un .neg, [.t 4]⟩ ::
 ⟨some 6, none, .minmax true, [.t 3, .t 5]⟩ ::
 ⟨some 2, none, .mov, [.t 6]⟩ ::
 []) [2])
 (.ret))
theorem dec_ref02_abs : Fun E0 F_ref02_abs pc_ref02_abs [.t 2] 7 := fun_of_dec (fl := []) (by kernel_rfl)
-- platter/servo.gray (1)
abbrev F_servo_gray : Nat := 52
def pc_servo_gray : PC :=
 .seq (.reg [] (
 ⟨some 2, none, .mov, [.k (.d (.int .i64 0))]⟩ ::
 []) [0])
 (.seq (.reg [] (
 ⟨some 3, none, .mov, [.t 0]⟩ ::
 ⟨some 4, none, .mov, [.t 0]⟩ ::
 ⟨some 5, none, .bin .shr, [.t 4, .k (.d (.int .u64 1))]⟩ ::
 ⟨some 6, none, .bin .xor, [.t 3, .t 5]⟩ ::
 ⟨some 2, none, .mov, [.t 6]⟩ ::
 []) [2])
 (.ret))
theorem dec_servo_gray : Fun E0 F_servo_gray pc_servo_gray [.t 2] 7 := fun_of_dec (fl := []) (by kernel_rfl)
-- platter/servo.track (1)
abbrev F_servo_track : Nat := 53
def pc_servo_track : PC :=
 .seq (.reg [] (
 ⟨some 2, none, .mov, [.k (.d (.int .i64 0))]⟩ ::
 []) [0, 2])
 (.seq (.block 0
 (.loop [] [0, 2] [900000, 901000]
 (.seq (.seq (.reg [] (
 ⟨some 3, none, .mov, [.t 0]⟩ ::
 ⟨some 4, none, .bin .gtr, [.t 3, .k (.d (.int .i64 0))]⟩ ::
 []) [0, 2, 4])
 (.cond (.t 4)
 (.skip)
 (.exit 0)))
 (.seq (.block 1
 (.reg [] (
 ⟨some 7, none, .mov, [.t 2]⟩ ::
 ⟨some 8, none, .mov, [.t 0]⟩ ::
 ⟨some 9, none, .bin .xor, [.t 7, .t 8]⟩ ::
 ⟨some 2, none, .mov, [.t 9]⟩ ::
 []) [0, 2]))
 (.reg [] (
 ⟨some 5, none, .mov, [.t 0]⟩ ::
 ⟨some 6, none, .bin .shr, [.t 5, .k (.d (.int .u64 1))]⟩ ::
 ⟨some 0, none, .mov, [.t 6]⟩ ::
 []) [0, 2])))))
 (.seq (.reg [] (
 ⟨some 10, none, .mov, [.t 2]⟩ ::
 ⟨some 2, none, .mov, [.t 10]⟩ ::
 []) [2])
 (.ret)))
theorem dec_servo_track : Fun E0 F_servo_track pc_servo_track [.t 2] 11 := fun_of_dec (fl := []) (by kernel_rfl)
-- platter/platterref02.Code (1)
abbrev F_ref02_Code : Nat := 54
def pc_ref02_Code : PC :=
 .seq (.reg [] (
 ⟨some 2, none, .mov, [.k (.d (.int .i64 0))]⟩ ::
 []) [0])
 (.seq (.reg [] (
 ⟨some 3, none, .mov, [.t 0]⟩ ::
 ⟨some 4, none, .mov, [.t 0]⟩ ::
 ⟨some 5, none, .bin .quo, [.t 4, .k (.d (.int .i64 2))]⟩ ::
 ⟨some 6, none, .bin .xor, [.t 3, .t 5]⟩ ::
 ⟨some 2, none, .mov, [.t 6]⟩ ::
 []) [2])
 (.ret))
theorem dec_ref02_Code : Fun E0 F_ref02_Code pc_ref02_Code [.t 2] 7 := fun_of_dec (fl := []) (by kernel_rfl)
-- platter/platterref02.IsServo (1)
abbrev F_ref02_IsServo : Nat := 55
def pc_ref02_IsServo : PC :=
 .seq (.reg [] (
 ⟨some 1, none, .box, [.t 0]⟩ ::
 ⟨some 2, none, .mov, [.k (.d (.bool false))]⟩ ::
 []) [1])
 (.seq (.seq (.reg [] (
 ⟨some 3, none, .mov, [.k (.d (.int .i64 0))]⟩ ::
 []) [1, 3])
 (.block 0
 (.loop [] [1, 3] [1, 900000, 901000]
 (.seq (.seq (.reg [] (
 ⟨some 4, none, .mov, [.t 3]⟩ ::
 ⟨some 5, none, .faddr 5, [.t 1]⟩ ::
 ⟨some 6, none, .load false 1, [.t 5]⟩ ::
 ⟨some 7, none, .len false, [.t 6]⟩ ::
 ⟨some 8, none, .bin .lss, [.t 4, .t 7]⟩ ::
 []) [1, 3, 8])
 (.cond (.t 8)
 (.skip)
 (.exit 0)))
 (.seq (.block 1
 (.seq (.reg [] (
 ⟨some 11, none, .faddr 5, [.t 1]⟩ ::
 ⟨some 12, none, .load false 1, [.t 11]⟩ ::
 ⟨some 13, none, .mov, [.t 3]⟩ ::
 ⟨some 14, none, .iaddrS 1, [.t 12, .t 13]⟩ ::
 ⟨some 15, none, .load false 1, [.t 14]⟩ ::
 ⟨some 16, none, .call 50, [.t 15, .k (.d (.int .i64 (-16))), .k (.d (.int .i64 16))]⟩ ::
 ⟨some 17, none, .un .not, [.t 16]⟩ ::
 []) [1, 3, 17])
 (.cond (.t 17)
 (.seq (.reg [] (
 ⟨some 2, none, .mov, [.k (.d (.bool false))]⟩ ::
 []) [2])
 (.ret))
 (.skip))))
 (.reg [] (
 ⟨some 9, none, .mov, [.t 3]⟩ ::
 ⟨some 10, none, .bin .add, [.t 9, .k (.d (.int .i64 1))]⟩ ::
 ⟨some 3, none, .mov, [.t 10]⟩ ::
 []) [1, 3]))))))
 (.seq (.reg [] (
 ⟨some 18, none, .faddr 0, [.t 1]⟩ ::
 ⟨some 19, none, .load false 1, [.t 18]⟩ ::
 ⟨some 20, none, .call 50, [.t 19, .k (.d (.int .i64 1)), .k (.d (.int .i64 64))]⟩ ::
 ⟨some 21, none, .mov, [.t 20]⟩ ::
 ⟨some 22, some (21, true), .faddr 1, [.t 1]⟩ ::
 ⟨some 23, some (21, true), .load false 1, [.t 22]⟩ ::
 ⟨some 24, some (21, true), .call 50, [.t 23, .k (.d (.int .i64 1)), .k (.d (.int .i64 16))]⟩ ::
 ⟨some 25, none, .pick, [.t 21, .t 24, .k (.d (.bool false))]⟩ ::
 ⟨some 26, none, .mov, [.t 25]⟩ ::
 ⟨some 27, some (26, true), .faddr 2, [.t 1]⟩ ::
 ⟨some 28, some (26, true), .load false 1, [.t 27]⟩ ::
 ⟨some 29, some (26, true), .call 50, [.t 28, .k (.d (.int .i64 0)), .k (.d (.int .i64 64))]⟩ ::
 ⟨some 30, none, .pick, [.t 26, .t 29, .k (.d (.bool false))]⟩ ::
 ⟨some 31, none, .mov, [.t 30]⟩ ::
 ⟨some 32, some (31, true), .faddr 3, [.t 1]⟩ ::
 ⟨some 33, some (31, true), .load false 1, [.t 32]⟩ ::
 ⟨some 34, some (31, true), .call 50, [.t 33, .k (.d (.int .i64 0)), .k (.d (.int .i64 16))]⟩ ::
 ⟨some 35, none, .pick, [.t 31, .t 34, .k (.d (.bool false))]⟩ ::
 ⟨some 36, none, .mov, [.t 35]⟩ ::
 ⟨some 37, some (36, true), .faddr 4, [.t 1]⟩ ::
 ⟨some 38, some (36, true), .load false 1, [.t 37]⟩ ::
 ⟨some 39, some (36, true), .call 50, [.t 38, .k (.d (.int .i64 0)), .k (.d (.int .i64 3))]⟩ ::
 ⟨some 40, none, .pick, [.t 36, .t 39, .k (.d (.bool false))]⟩ ::
 ⟨some 41, none, .mov, [.t 40]⟩ ::
 ⟨some 42, some (41, true), .faddr 5, [.t 1]⟩ ::
 ⟨some 43, some (41, true), .load false 1, [.t 42]⟩ ::
 ⟨some 44, some (41, true), .len false, [.t 43]⟩ ::
 ⟨some 45, some (41, true), .call 50, [.t 44, .k (.d (.int .i64 1)), .k (.d (.int .i64 16))]⟩ ::
 ⟨some 46, none, .pick, [.t 41, .t 45, .k (.d (.bool false))]⟩ ::
 ⟨some 2, none, .mov, [.t 46]⟩ ::
 []) [2])
 (.ret)))
theorem dec_ref02_IsServo : Fun E0 F_ref02_IsServo pc_ref02_IsServo [.t 2] 47 := fun_of_dec (fl := []) (by kernel_rfl)
-- platter/servo.isServo (1)
abbrev F_servo_isServo : Nat := 56
def pc_servo_isServo : PC :=
 .seq (.reg [] (
 ⟨some 1, none, .box, [.t 0]⟩ ::
 ⟨some 2, none, .mov, [.k (.d (.bool false))]⟩ ::
 []) [1])
 (.seq (.reg [] (
 ⟨some 3, none, .mov, [.k (.fn 72 [])]⟩ ::
 []) [1, 3])
 (.seq (.seq (.reg [] (
 ⟨some 6, none, .faddr 5, [.t 1]⟩ ::
 ⟨some 7, none, .load false 1, [.t 6]⟩ ::
 ⟨some 8, none, .len false, [.t 7]⟩ ::
 ⟨some 9, none, .mov, [.k (.d (.int .i64 0))]⟩ ::
 []) [1, 3, 7, 8, 9])
 (.block 0
 (.loop [] [1, 3, 7, 8, 9] [1, 900000, 901000]
 (.seq (.reg [] (
 ⟨some 10, none, .bin .lss, [.t 9, .t 8]⟩ ::
 []) [1, 3, 7, 8, 9, 10])
 (.seq (.cond (.t 10)
 (.skip)
 (.exit 0))
 (.seq (.block 1
 (.seq (.reg [] (
 ⟨some 11, none, .iaddrS 1, [.t 7, .t 9]⟩ ::
 ⟨some 12, none, .load false 1, [.t 11]⟩ ::
 ⟨some 5, none, .mov, [.t 12]⟩ ::
 []) [1, 3, 5, 7, 8, 9])
 (.seq (.reg [] (
 ⟨some 13, none, .mov, [.t 3]⟩ ::
 ⟨some 14, none, .mov, [.t 5]⟩ ::
 ⟨some 15, none, .callv, [.t 13, .t 14]⟩ ::
 ⟨some 16, none, .un .not, [.t 15]⟩ ::
 []) [1, 3, 7, 8, 9, 16])
 (.cond (.t 16)
 (.seq (.reg [] (
 ⟨some 2, none, .mov, [.k (.d (.bool false))]⟩ ::
 []) [2])
 (.ret))
 (.skip)))))
 (.reg [] (
 ⟨some 17, none, .bin .add, [.t 9, .k (.d (.int .i64 1))]⟩ ::
 ⟨some 9, none, .mov, [.t 17]⟩ ::
 []) [1, 3, 7, 8, 9])))))))
 (.seq (.reg [] (
 ⟨some 18, none, .faddr 0, [.t 1]⟩ ::
 ⟨some 19, none, .load false 1, [.t 18]⟩ ::
 ⟨some 20, none, .call 47, [.t 19, .k (.d (.int .i64 1)), .k (.d (.int .i64 64))]⟩ ::
 ⟨some 21, none, .mov, [.t 20]⟩ ::
 ⟨some 22, some (21, true), .faddr 1, [.t 1]⟩ ::
 ⟨some 23, some (21, true), .load false 1, [.t 22]⟩ ::
 ⟨some 24, some (21, true), .call 47, [.t 23, .k (.d (.int .i64 1)), .k (.d (.int .i64 16))]⟩ ::
 ⟨some 25, none, .pick, [.t 21, .t 24, .k (.d (.bool false))]⟩ ::
 ⟨some 26, none, .mov, [.t 25]⟩ ::
 ⟨some 27, some (26, true), .faddr 2, [.t 1]⟩ ::
 ⟨some 28, some (26, true), .load false 1, [.t 27]⟩ ::
 ⟨some 29, some (26, true), .call 47, [.t 28, .k (.d (.int .i64 0)), .k (.d (.int .i64 64))]⟩ ::
 ⟨some 30, none, .pick, [.t 26, .t 29, .k (.d (.bool false))]⟩ ::
 ⟨some 31, none, .mov, [.t 30]⟩ ::
 ⟨some 32, some (31, true), .faddr 3, [.t 1]⟩ ::
 ⟨some 33, some (31, true), .load false 1, [.t 32]⟩ ::
 ⟨some 34, some (31, true), .call 47, [.t 33, .k (.d (.int .i64 0)), .k (.d (.int .i64 16))]⟩ ::
 ⟨some 35, none, .pick, [.t 31, .t 34, .k (.d (.bool false))]⟩ ::
 ⟨some 36, none, .mov, [.t 35]⟩ ::
 ⟨some 37, some (36, true), .faddr 4, [.t 1]⟩ ::
 ⟨some 38, some (36, true), .load false 1, [.t 37]⟩ ::
 ⟨some 39, some (36, true), .call 47, [.t 38, .k (.d (.int .i64 0)), .k (.d (.int .i64 3))]⟩ ::
 ⟨some 40, none, .pick, [.t 36, .t 39, .k (.d (.bool false))]⟩ ::
 ⟨some 41, none, .mov, [.t 40]⟩ ::
 ⟨some 42, some (41, true), .faddr 5, [.t 1]⟩ ::
 ⟨some 43, some (41, true), .load false 1, [.t 42]⟩ ::
 ⟨some 44, some (41, true), .len false, [.t 43]⟩ ::
 ⟨some 45, some (41, true), .call 47, [.t 44, .k (.d (.int .i64 1)), .k (.d (.int .i64 16))]⟩ ::
 ⟨some 46, none, .pick, [.t 41, .t 45, .k (.d (.bool false))]⟩ ::
 ⟨some 2, none, .mov, [.t 46]⟩ ::
 []) [2])
 (.ret))))
theorem dec_servo_isServo : Fun E0 F_servo_isServo pc_servo_isServo [.t 2] 47 := fun_of_dec (fl := []) (by kernel_rfl)
-- platter/servo.Check$1 (1)
abbrev F_servo_Check_1 : Nat := 57
def pc_servo_Check_1 : PC :=
 .seq (.reg [] (
 ⟨some 1, none, .box, [.t 0]⟩ ::
 ⟨some 2, none, .mov, [.k (.d (.bool false))]⟩ ::
 []) [1])
 (.seq (.reg [] (
 ⟨some 3, none, .faddr 0, [.t 1]⟩ ::
 ⟨some 4, none, .load false 1, [.t 3]⟩ ::
 ⟨some 5, none, .call 47, [.t 4, .k (.d (.int .i64 (-1))), .k (.d (.int .i64 127))]⟩ ::
 ⟨some 6, none, .mov, [.t 5]⟩ ::
 ⟨some 7, some (6, true), .faddr 1, [.t 1]⟩ ::
 ⟨some 8, some (6, true), .load false 1, [.t 7]⟩ ::
 ⟨some 9, some (6, true), .call 47, [.t 8, .k (.d (.int .i64 (-100))), .k (.d (.int .i64 100))]⟩ ::
 ⟨some 10, none, .pick, [.t 6, .t 9, .k (.d (.bool false))]⟩ ::
 ⟨some 2, none, .mov, [.t 10]⟩ ::
 []) [2])
 (.ret))
theorem dec_servo_Check_1 : Fun E0 F_servo_Check_1 pc_servo_Check_1 [.t 2] 11 := fun_of_dec (fl := []) (by kernel_rfl)
-- slices.ContainsFunc[[]platter/api.Wedge,platter/api.Wedge] (2)
abbrev F_slices_ContainsFunc_api_Wedge_api_Wedge : Nat := 58
def pc_slices_ContainsFunc_api_Wedge_api_Wedge : PC :=
 .seq (.reg [] (
 ⟨some 4, none, .mov, [.k (.d (.bool false))]⟩ ::
 []) [0, 1])
 (.seq (.reg [] (
 ⟨some 5, none, .mov, [.t 0]⟩ ::
 ⟨some 6, none, .mov, [.t 1]⟩ ::
 ⟨some 7, none, .call 73, [.t 5, .t 6]⟩ ::
 ⟨some 8, none, .bin .geq, [.t 7, .k (.d (.int .i64 0))]⟩ ::
 ⟨some 4, none, .mov, [.t 8]⟩ ::
 []) [4])
 (.ret))
theorem dec_slices_ContainsFunc_api_Wedge_api_Wedge : Fun E0 F_slices_ContainsFunc_api_Wedge_api_Wedge pc_slices_ContainsFunc_api_Wedge_api_Wedge [.t 4] 9 := fun_of_dec (fl := []) (by kernel_rfl)
-- platter/servo.Check$2 (1)
abbrev F_servo_Check_2 : Nat := 59
def pc_servo_Check_2 : PC :=
 .seq (.reg [] (
 ⟨some 2, none, .box, [.t 0]⟩ ::
 ⟨some 3, none, .mov, [.k (.d (.bool false))]⟩ ::
 []) [1, 2])
 (.seq (.reg [] (
 ⟨some 4, none, .load false 1, [.t 1]⟩ ::
 ⟨some 5, none, .load true 2, [.t 2]⟩ ::
 ⟨some 6, none, .callv, [.t 4, .t 5]⟩ ::
 ⟨some 7, none, .un .not, [.t 6]⟩ ::
 ⟨some 3, none, .mov, [.t 7]⟩ ::
 []) [3])
 (.ret))
theorem dec_servo_Check_2 : Fun E0 F_servo_Check_2 pc_servo_Check_2 [.t 3] 8 := fun_of_dec (fl := []) (by kernel_rfl)
-- platter/platterref02.known (3)
abbrev F_ref02_known : Nat := 60
def pc_ref02_known : PC :=
 .seq (.reg [] (
 ⟨some 3, none, .box, [.t 0]⟩ ::
 ⟨some 6, none, .mov, [.k (.d (.list true []))]⟩ ::
 ⟨some 7, none, .mov, [.k (.d (.int .i64 0))]⟩ ::
 []) [1, 2, 3])
 (.seq (.seq (.reg [] (
 ⟨some 10, none, .load true 6, [.t 3]⟩ ::
 ⟨some 11, none, .mov, [.t 1]⟩ ::
 ⟨some 12, none, .call 31, [.t 10, .t 11]⟩ ::
 ⟨some 8, none, .mov, [.t 12]⟩ ::
 []) [1, 2, 3, 8])
 (.seq (.reg [] (
 ⟨some 13, none, .mov, [.t 8]⟩ ::
 ⟨some 14, none, .bin .neq, [.t 13, .k (.d (.int .i64 0))]⟩ ::
 []) [1, 2, 3, 8, 14])
 (.cond (.t 14)
 (.seq (.reg [] (
 ⟨some 15, none, .mov, [.t 8]⟩ ::
 ⟨some 6, none, .mov, [.k (.d (.list true []))]⟩ ::
 ⟨some 7, none, .mov, [.t 15]⟩ ::
 []) [6, 7])
 (.ret))
 (.skip))))
 (.seq (.seq (.reg [] (
 ⟨some 16, none, .mov, [.t 2]⟩ ::
 ⟨some 17, none, .un .not, [.t 16]⟩ ::
 []) [1, 3, 17])
 (.cond (.t 17)
 (.seq (.reg [] (
 ⟨some 6, none, .mov, [.k (.d (.list true []))]⟩ ::
 ⟨some 7, none, .mov, [.k (.d (.int .i64 1))]⟩ ::
 []) [6, 7])
 (.ret))
 (.skip)))
 (.seq (.reg [] (
 ⟨some 18, none, .load true 6, [.t 3]⟩ ::
 ⟨some 19, none, .mov, [.t 1]⟩ ::
 ⟨some 20, none, .call 74, [.t 18, .t 19]⟩ ::
 ⟨some 9, none, .mov, [.t 20]⟩ ::
 []) [9])
 (.seq (.seq (.reg [] (
 ⟨some 21, none, .mov, [.t 9]⟩ ::
 ⟨some 22, none, .call 61, [.t 21]⟩ ::
 ⟨some 23, none, .len false, [.t 22]⟩ ::
 ⟨some 24, none, .bin .eql, [.t 23, .k (.d (.int .i64 0))]⟩ ::
 []) [9, 24])
 (.cond (.t 24)
 (.seq (.reg [] (
 ⟨some 6, none, .mov, [.k (.d (.list true []))]⟩ ::
 ⟨some 7, none, .mov, [.k (.d (.int .i64 3))]⟩ ::
 []) [6, 7])
 (.ret))
 (.skip)))
 (.seq (.reg [] (
 ⟨some 25, none, .mov, [.t 9]⟩ ::
 ⟨some 6, none, .mov, [.t 25]⟩ ::
 ⟨some 7, none, .mov, [.k (.d (.int .i64 0))]⟩ ::
 []) [6, 7])
 (.ret))))))
theorem dec_ref02_known : Fun E0 F_ref02_known pc_ref02_known [.t 6, .t 7] 26 := fun_of_dec (fl := []) (by kernel_rfl)
-- platter/platterref02.spans (1)
abbrev F_ref02_spans : Nat := 61
def pc_ref02_spans : PC :=
 .seq (.reg [] (
 ⟨some 2, none, .mov, [.k (.d (.list true []))]⟩ ::
 []) [0])
 (.seq (.reg [] (
 ⟨some 3, none, .mov, [.k (.d (.list true []))]⟩ ::
 []) [0, 3])
 (.seq (.seq (.reg [] (
 ⟨some 4, none, .mov, [.k (.d (.int .i64 0))]⟩ ::
 []) [0, 3, 4])
 (.block 0
 (.loop [.own 3 42 54 2] [0, 3, 4] [42, 900000, 901000]
 (.seq (.seq (.reg [] (
 ⟨some 5, none, .mov, [.t 4]⟩ ::
 ⟨some 6, none, .mov, [.t 0]⟩ ::
 ⟨some 7, none, .len false, [.t 6]⟩ ::
 ⟨some 8, none, .bin .lss, [.t 5, .t 7]⟩ ::
 []) [0, 3, 4, 8])
 (.cond (.t 8)
 (.skip)
 (.exit 0)))
 (.seq (.block 1
 (.seq (.reg [] (
 ⟨some 11, none, .mov, [.t 0]⟩ ::
 ⟨some 12, none, .mov, [.t 4]⟩ ::
 ⟨some 13, none, .iaddrS 1, [.t 11, .t 12]⟩ ::
 ⟨some 14, none, .load false 1, [.t 13]⟩ ::
 ⟨some 15, none, .mov, [.t 14]⟩ ::
 ⟨some 16, some (15, true), .mov, [.t 4]⟩ ::
 ⟨some 17, some (15, true), .bin .gtr, [.t 16, .k (.d (.int .i64 0))]⟩ ::
 ⟨some 18, none, .pick, [.t 15, .t 17, .k (.d (.bool false))]⟩ ::
 ⟨some 19, none, .mov, [.t 18]⟩ ::
 ⟨some 20, some (19, true), .mov, [.t 0]⟩ ::
 ⟨some 21, some (19, true), .mov, [.t 4]⟩ ::
 ⟨some 22, some (19, true), .bin .sub, [.t 21, .k (.d (.int .i64 1))]⟩ ::
 ⟨some 23, some (19, true), .iaddrS 1, [.t 20, .t 22]⟩ ::
 ⟨some 24, some (19, true), .load false 1, [.t 23]⟩ ::
 ⟨some 25, none, .pick, [.t 19, .t 24, .k (.d (.bool false))]⟩ ::
 []) [0, 3, 4, 25])
 (.cond (.t 25)
 (.reg [] (
 ⟨some 26, none, .mov, [.t 3]⟩ ::
 ⟨some 27, none, .mov, [.t 3]⟩ ::
 ⟨some 28, none, .len false, [.t 27]⟩ ::
 ⟨some 29, none, .bin .sub, [.t 28, .k (.d (.int .i64 1))]⟩ ::
 ⟨some 30, none, .mov, [.t 4]⟩ ::
 ⟨some 31, none, .iaddrS 2, [.t 26, .t 29]⟩ ::
 ⟨some 32, none, .faddr 1, [.t 31]⟩ ::
 ⟨none, none, .store 1, [.t 32, .t 30]⟩ ::
 []) [0, 3, 4])
 (.seq (.reg [] (
 ⟨some 33, none, .mov, [.t 0]⟩ ::
 ⟨some 34, none, .mov, [.t 4]⟩ ::
 ⟨some 35, none, .iaddrS 1, [.t 33, .t 34]⟩ ::
 ⟨some 36, none, .load false 1, [.t 35]⟩ ::
 []) [0, 3, 4, 36])
 (.cond (.t 36)
 (.reg [] (
 ⟨some 37, none, .mov, [.t 3]⟩ ::
 ⟨some 38, none, .mov, [.t 4]⟩ ::
 ⟨some 39, none, .mov, [.t 4]⟩ ::
 ⟨some 40, none, .build [.int .i64 0, .int .i64 0] [(0, 1), (1, 1)], [.t 38, .t 39]⟩ ::
 ⟨some 41, none, .mkrow 2 (.agg [.int .i64 0, .int .i64 0]) 1 [0], [.t 40]⟩ ::
 ⟨some 42, none, .app 54 2 none true, [.t 37, .t 41]⟩ ::
 ⟨some 3, none, .mov, [.t 42]⟩ ::
 []) [0, 3, 4])
 (.skip))))))
 (.reg [] (
 ⟨some 9, none, .mov, [.t 4]⟩ ::
 ⟨some 10, none, .bin .add, [.t 9, .k (.d (.int .i64 1))]⟩ ::
 ⟨some 4, none, .mov, [.t 10]⟩ ::
 []) [0, 3, 4]))))))
 (.seq (.reg [] (
 ⟨some 43, none, .mov, [.t 3]⟩ ::
 ⟨some 2, none, .mov, [.t 43]⟩ ::
 []) [2])
 (.ret))))
theorem dec_ref02_spans : Fun E0 F_ref02_spans pc_ref02_spans [.t 2] 44 := fun_of_dec (fl := []) (by kernel_rfl)
-- platter/platterref02.later (2)
abbrev F_ref02_later : Nat := 62
def pc_ref02_later : PC :=
 .seq (.reg [] (
 ⟨some 2, none, .box, [.t 0]⟩ ::
 ⟨some 4, none, .mov, [.k (.d (.list true []))]⟩ ::
 []) [1, 2])
 (.seq (.reg [] (
 ⟨some 5, none, .mov, [.k (.d (.list true []))]⟩ ::
 []) [1, 2, 5])
 (.seq (.seq (.reg [] (
 ⟨some 6, none, .mov, [.k (.d (.int .i64 0))]⟩ ::
 []) [1, 2, 5, 6])
 (.block 0
 (.loop [.own 5 42 4 1] [1, 2, 5, 6] [2, 42, 900000, 900001, 901000, 901001]
 (.seq (.seq (.reg [] (
 ⟨some 9, none, .mov, [.t 6]⟩ ::
 ⟨some 10, none, .mov, [.t 1]⟩ ::
 ⟨some 11, none, .len false, [.t 10]⟩ ::
 ⟨some 12, none, .bin .lss, [.t 9, .t 11]⟩ ::
 []) [1, 2, 5, 6, 12])
 (.cond (.t 12)
 (.skip)
 (.exit 0)))
 (.seq (.block 1
 (.seq (.reg [] (
 ⟨some 7, none, .mov, [.k (.d (.bool false))]⟩ ::
 []) [1, 2, 5, 6, 7])
 (.seq (.seq (.reg [] (
 ⟨some 15, none, .mov, [.t 6]⟩ ::
 ⟨some 16, none, .faddr 2, [.t 2]⟩ ::
 ⟨some 17, none, .load false 1, [.t 16]⟩ ::
 ⟨some 18, none, .bin .sub, [.t 15, .t 17]⟩ ::
 ⟨some 19, none, .minmax true, [.k (.d (.int .i64 0)), .t 18]⟩ ::
 ⟨some 8, none, .mov, [.t 19]⟩ ::
 []) [1, 2, 5, 6, 7, 8])
 (.block 2
 (.loop [.own 5 42 4 1] [1, 2, 5, 6, 7, 8] [2, 42, 900000, 900001, 901000, 901001]
 (.seq (.seq (.reg [] (
 ⟨some 20, none, .mov, [.t 8]⟩ ::
 ⟨some 21, none, .mov, [.t 1]⟩ ::
 ⟨some 22, none, .len false, [.t 21]⟩ ::
 ⟨some 23, none, .bin .sub, [.t 22, .k (.d (.int .i64 1))]⟩ ::
 ⟨some 24, none, .mov, [.t 6]⟩ ::
 ⟨some 25, none, .faddr 2, [.t 2]⟩ ::
 ⟨some 26, none, .load false 1, [.t 25]⟩ ::
 ⟨some 27, none, .bin .add, [.t 24, .t 26]⟩ ::
 ⟨some 28, none, .minmax false, [.t 23, .t 27]⟩ ::
 ⟨some 29, none, .bin .leq, [.t 20, .t 28]⟩ ::
 []) [1, 2, 5, 6, 7, 8, 29])
 (.cond (.t 29)
 (.skip)
 (.exit 2)))
 (.seq (.block 3
 (.reg [] (
 ⟨some 32, none, .mov, [.t 7]⟩ ::
 ⟨some 33, none, .mov, [.t 32]⟩ ::
 ⟨some 34, some (33, false), .mov, [.t 1]⟩ ::
 ⟨some 35, some (33, false), .mov, [.t 8]⟩ ::
 ⟨some 36, some (33, false), .iaddrS 1, [.t 34, .t 35]⟩ ::
 ⟨some 37, some (33, false), .load false 1, [.t 36]⟩ ::
 ⟨some 38, none, .pick, [.t 33, .k (.d (.bool true)), .t 37]⟩ ::
 ⟨some 7, none, .mov, [.t 38]⟩ ::
 []) [1, 2, 5, 6, 7, 8]))
 (.reg [] (
 ⟨some 30, none, .mov, [.t 8]⟩ ::
 ⟨some 31, none, .bin .add, [.t 30, .k (.d (.int .i64 1))]⟩ ::
 ⟨some 8, none, .mov, [.t 31]⟩ ::
 []) [1, 2, 5, 6, 7, 8]))))))
 (.reg [] (
 ⟨some 39, none, .mov, [.t 5]⟩ ::
 ⟨some 40, none, .mov, [.t 7]⟩ ::
 ⟨some 41, none, .mkrow 1 (.bool false) 1 [0], [.t 40]⟩ ::
 ⟨some 42, none, .app 4 1 none true, [.t 39, .t 41]⟩ ::
 ⟨some 5, none, .mov, [.t 42]⟩ ::
 []) [1, 2, 5, 6]))))
 (.reg [] (
 ⟨some 13, none, .mov, [.t 6]⟩ ::
 ⟨some 14, none, .bin .add, [.t 13, .k (.d (.int .i64 1))]⟩ ::
 ⟨some 6, none, .mov, [.t 14]⟩ ::
 []) [1, 2, 5, 6]))))))
 (.seq (.reg [] (
 ⟨some 43, none, .mov, [.t 5]⟩ ::
 ⟨some 4, none, .mov, [.t 43]⟩ ::
 []) [4])
 (.ret))))
theorem dec_ref02_later : Fun E0 F_ref02_later pc_ref02_later [.t 4] 44 := fun_of_dec (fl := []) (by kernel_rfl)
-- platter/servo.open (2)
abbrev F_servo_open : Nat := 63
def pc_servo_open : PC :=
 .seq (.reg [] (
 ⟨some 2, none, .box, [.t 0]⟩ ::
 ⟨some 4, none, .mov, [.k (.d (.nilptr))]⟩ ::
 ⟨some 5, none, .mov, [.k (.d (.int .i64 0))]⟩ ::
 []) [1, 2])
 (.seq (.seq (.reg [] (
 ⟨some 7, none, .load true 6, [.t 2]⟩ ::
 ⟨some 8, none, .mov, [.t 1]⟩ ::
 ⟨some 9, none, .call 30, [.t 7, .t 8]⟩ ::
 ⟨some 6, none, .mov, [.t 9]⟩ ::
 []) [1, 2, 6])
 (.seq (.reg [] (
 ⟨some 10, none, .mov, [.t 6]⟩ ::
 ⟨some 11, none, .bin .neq, [.t 10, .k (.d (.int .i64 0))]⟩ ::
 []) [1, 2, 6, 11])
 (.cond (.t 11)
 (.seq (.reg [] (
 ⟨some 12, none, .mov, [.t 6]⟩ ::
 ⟨some 4, none, .mov, [.k (.d (.nilptr))]⟩ ::
 ⟨some 5, none, .mov, [.t 12]⟩ ::
 []) [4, 5])
 (.ret))
 (.skip))))
 (.seq (.reg [] (
 ⟨some 13, none, .load true 6, [.t 2]⟩ ::
 ⟨some 14, none, .mov, [.t 1]⟩ ::
 ⟨some 15, none, .faddr 1, [.t 2]⟩ ::
 ⟨some 16, none, .load false 1, [.t 15]⟩ ::
 ⟨some 17, none, .faddr 0, [.t 2]⟩ ::
 ⟨some 18, none, .load false 1, [.t 17]⟩ ::
 ⟨some 19, none, .bin .sub, [.t 18, .k (.d (.int .i64 1))]⟩ ::
 ⟨some 20, none, .bin .mul, [.t 16, .t 19]⟩ ::
 ⟨some 21, none, .build [.int .i64 0, .int .i64 0, .int .i64 0, .int .i64 0, .int .i64 0, .list true [], .list true [], .int .i64 0] [(0, 6), (6, 1), (7, 1)], [.t 13, .t 14, .t 20]⟩ ::
 ⟨some 22, none, .box, [.t 21]⟩ ::
 ⟨some 4, none, .mov, [.t 22]⟩ ::
 ⟨some 5, none, .mov, [.k (.d (.int .i64 0))]⟩ ::
 []) [4, 5])
 (.ret)))
theorem dec_servo_open : Fun E0 F_servo_open pc_servo_open [.t 4, .t 5] 23 := fun_of_dec (fl := []) (by kernel_rfl)
-- slices.Min[platter/servo.row,int] (1)
abbrev F_slices_Min_servo_row_int : Nat := 64
def pc_slices_Min_servo_row_int : PC :=
 .seq (.reg [] (
 ⟨some 2, none, .mov, [.k (.d (.int .i64 0))]⟩ ::
 []) [0])
 (.seq (.seq (.reg [] (
 ⟨some 5, none, .mov, [.t 0]⟩ ::
 ⟨some 6, none, .len false, [.t 5]⟩ ::
 ⟨some 7, none, .bin .lss, [.t 6, .k (.d (.int .i64 1))]⟩ ::
 []) [0, 7])
 (.cond (.t 7)
 (.dead)
 (.skip)))
 (.seq (.reg [] (
 ⟨some 9, none, .mov, [.t 0]⟩ ::
 ⟨some 10, none, .iaddrS 1, [.t 9, .k (.d (.int .i64 0))]⟩ ::
 ⟨some 11, none, .load false 1, [.t 10]⟩ ::
 ⟨some 3, none, .mov, [.t 11]⟩ ::
 []) [0, 3])
 (.seq (.seq (.reg [] (
 ⟨some 4, none, .mov, [.k (.d (.int .i64 1))]⟩ ::
 []) [0, 3, 4])
 (.block 0
 (.loop [] [0, 3, 4] [900000, 901000]
 (.seq (.seq (.reg [] (
 ⟨some 12, none, .mov, [.t 4]⟩ ::
 ⟨some 13, none, .mov, [.t 0]⟩ ::
 ⟨some 14, none, .len false, [.t 13]⟩ ::
 ⟨some 15, none, .bin .lss, [.t 12, .t 14]⟩ ::
 []) [0, 3, 4, 15])
 (.cond (.t 15)
 (.skip)
 (.exit 0)))
 (.seq (.block 1
 (.reg [] (
 ⟨some 18, none, .mov, [.t 3]⟩ ::
 ⟨some 19, none, .mov, [.t 0]⟩ ::
 ⟨some 20, none, .mov, [.t 4]⟩ ::
 ⟨some 21, none, .iaddrS 1, [.t 19, .t 20]⟩ ::
 ⟨some 22, none, .load false 1, [.t 21]⟩ ::
 ⟨some 23, none, .minmax false, [.t 18, .t 22]⟩ ::
 ⟨some 3, none, .mov, [.t 23]⟩ ::
 []) [0, 3, 4]))
 (.reg [] (
 ⟨some 16, none, .mov, [.t 4]⟩ ::
 ⟨some 17, none, .bin .add, [.t 16, .k (.d (.int .i64 1))]⟩ ::
 ⟨some 4, none, .mov, [.t 17]⟩ ::
 []) [0, 3, 4]))))))
 (.seq (.reg [] (
 ⟨some 24, none, .mov, [.t 3]⟩ ::
 ⟨some 2, none, .mov, [.t 24]⟩ ::
 []) [2])
 (.ret)))))
theorem dec_slices_Min_servo_row_int : Fun E0 F_slices_Min_servo_row_int pc_slices_Min_servo_row_int [.t 2] 25 := fun_of_dec (fl := []) (by kernel_rfl)
-- (*platter/servo.head).end (1)
abbrev F_servo_head_end : Nat := 65
def pc_servo_head_end : PC :=
 .seq (.reg [] (
 ⟨some 2, none, .mov, [.k (.d (.list true []))]⟩ ::
 []) [0])
 (.seq (.seq (.reg [] (
 ⟨some 4, none, .mov, [.t 0]⟩ ::
 ⟨some 5, none, .call 67, [.t 4]⟩ ::
 ⟨some 3, none, .mov, [.t 5]⟩ ::
 []) [0, 3])
 (.seq (.reg [] (
 ⟨some 6, none, .mov, [.t 3]⟩ ::
 ⟨some 7, none, .len false, [.t 6]⟩ ::
 ⟨some 8, none, .bin .gtr, [.t 7, .k (.d (.int .i64 0))]⟩ ::
 []) [0, 3, 8])
 (.cond (.t 8)
 (.seq (.reg [] (
 ⟨some 9, none, .mov, [.t 3]⟩ ::
 ⟨some 10, none, .mov, [.t 3]⟩ ::
 ⟨some 11, none, .len false, [.t 10]⟩ ::
 ⟨some 12, none, .bin .sub, [.t 11, .k (.d (.int .i64 1))]⟩ ::
 ⟨some 13, none, .iaddrS 1, [.t 9, .t 12]⟩ ::
 ⟨some 14, none, .load false 1, [.t 13]⟩ ::
 ⟨some 2, none, .mov, [.t 14]⟩ ::
 []) [2])
 (.ret))
 (.skip))))
 (.seq (.reg [] (
 ⟨some 15, none, .mov, [.t 0]⟩ ::
 ⟨some 16, none, .nilck, [.t 15]⟩ ::
 ⟨some 17, none, .faddr 7, [.t 16]⟩ ::
 ⟨some 18, none, .load false 1, [.t 17]⟩ ::
 ⟨some 19, none, .bin .add, [.t 18, .k (.d (.int .i64 1))]⟩ ::
 ⟨some 20, none, .mksl 3 1 (.int .i64 0) true, [.t 19, .t 19]⟩ ::
 ⟨some 2, none, .mov, [.t 20]⟩ ::
 []) [2])
 (.ret)))
theorem dec_servo_head_end : Fun E0 F_servo_head_end pc_servo_head_end [.t 2] 21 := fun_of_dec (fl := []) (by kernel_rfl)
-- platter/platterref02.fewest (3)
abbrev F_ref02_fewest : Nat := 66
def pc_ref02_fewest : PC :=
 .seq (.reg [] (
 ⟨some 3, none, .box, [.t 0]⟩ ::
 ⟨some 6, none, .mov, [.k (.d (.list true []))]⟩ ::
 []) [1, 2, 3])
 (.seq (.reg [] (
 ⟨some 13, none, .load true 6, [.t 3]⟩ ::
 ⟨some 14, none, .call 37, [.t 13]⟩ ::
 ⟨some 15, none, .bin .add, [.t 14, .k (.d (.int .i64 1))]⟩ ::
 ⟨some 16, none, .mksl 3 1 (.int .i64 0) true, [.t 15, .t 15]⟩ ::
 ⟨some 7, none, .mov, [.t 16]⟩ ::
 []) [1, 2, 3, 7])
 (.seq (.seq (.reg [] (
 ⟨some 8, none, .mov, [.k (.d (.int .i64 0))]⟩ ::
 []) [1, 2, 3, 7, 8])
 (.block 0
 (.loop [.freeze 7] [1, 2, 3, 7, 8] [3, 900000, 900001, 900002, 901000, 901001, 901002]
 (.seq (.seq (.reg [] (
 ⟨some 17, none, .mov, [.t 8]⟩ ::
 ⟨some 18, none, .mov, [.t 1]⟩ ::
 ⟨some 19, none, .len false, [.t 18]⟩ ::
 ⟨some 20, none, .bin .lss, [.t 17, .t 19]⟩ ::
 []) [1, 2, 3, 7, 8, 20])
 (.cond (.t 20)
 (.skip)
 (.exit 0)))
 (.seq (.block 1
 (.seq (.reg [] (
 ⟨some 9, none, .mov, [.k (.d (.list true []))]⟩ ::
 []) [1, 2, 3, 7, 8, 9])
 (.seq (.seq (.reg [] (
 ⟨some 10, none, .mov, [.k (.d (.int .i64 0))]⟩ ::
 []) [1, 2, 3, 7, 8, 9, 10])
 (.block 2
 (.loop [.freeze 7, .own 9 75 3 1] [1, 2, 3, 7, 8, 9, 10] [3, 75, 900000, 900001, 900002, 901000, 901001, 901002]
 (.seq (.seq (.reg [] (
 ⟨some 23, none, .mov, [.t 10]⟩ ::
 ⟨some 24, none, .load true 6, [.t 3]⟩ ::
 ⟨some 25, none, .call 37, [.t 24]⟩ ::
 ⟨some 26, none, .bin .leq, [.t 23, .t 25]⟩ ::
 []) [1, 2, 3, 7, 8, 9, 10, 26])
 (.cond (.t 26)
 (.skip)
 (.exit 2)))
 (.seq (.block 3
 (.seq (.reg [] (
 ⟨some 11, none, .mov, [.k (.d (.int .i64 1000))]⟩ ::
 []) [1, 2, 3, 7, 8, 9, 10, 11])
 (.seq (.seq (.reg [] (
 ⟨some 29, none, .mov, [.t 10]⟩ ::
 ⟨some 30, none, .faddr 2, [.t 3]⟩ ::
 ⟨some 31, none, .load false 1, [.t 30]⟩ ::
 ⟨some 32, none, .bin .sub, [.t 29, .t 31]⟩ ::
 ⟨some 33, none, .minmax true, [.k (.d (.int .i64 0)), .t 32]⟩ ::
 ⟨some 12, none, .mov, [.t 33]⟩ ::
 []) [1, 2, 3, 7, 8, 9, 10, 11, 12])
 (.block 4
 (.loop [.freeze 7, .own 9 75 3 1] [1, 2, 3, 7, 8, 9, 10, 11, 12] [3, 75, 900000, 900001, 900002, 901000, 901001, 901002]
 (.seq (.seq (.draw [] (
 (⟨some 34, none, .mov, [.t 12]⟩, []) ::
 (⟨some 35, none, .load true 6, [.t 3]⟩, []) ::
 (⟨some 36, none, .call 37, [.t 35]⟩, []) ::
 (⟨some 37, none, .mov, [.t 10]⟩, []) ::
 (⟨some 38, none, .faddr 2, [.t 3]⟩, []) ::
 (⟨some 39, none, .load false 1, [.t 38]⟩, [2]) ::
 (⟨some 40, none, .bin .add, [.t 37, .t 39]⟩, []) ::
 (⟨some 41, none, .minmax false, [.t 36, .t 40]⟩, []) ::
 (⟨some 42, none, .bin .leq, [.t 34, .t 41]⟩, []) ::
 []) [1, 2, 3, 7, 8, 9, 10, 11, 12, 42])
 (.cond (.t 42)
 (.skip)
 (.exit 4)))
 (.seq (.block 5
 (.seq (.reg [] (
 ⟨some 45, none, .mov, [.t 8]⟩ ::
 ⟨some 46, none, .bin .gtr, [.t 45, .k (.d (.int .i64 0))]⟩ ::
 ⟨some 47, none, .mov, [.t 46]⟩ ::
 ⟨some 48, some (47, false), .mov, [.t 10]⟩ ::
 ⟨some 49, some (47, false), .mov, [.t 12]⟩ ::
 ⟨some 50, some (47, false), .bin .eql, [.t 48, .t 49]⟩ ::
 ⟨some 51, none, .pick, [.t 47, .k (.d (.bool true)), .t 50]⟩ ::
 []) [1, 2, 3, 7, 8, 9, 10, 11, 12, 51])
 (.cond (.t 51)
 (.reg [] (
 ⟨some 52, none, .mov, [.t 11]⟩ ::
 ⟨some 53, none, .mov, [.t 7]⟩ ::
 ⟨some 54, none, .mov, [.t 12]⟩ ::
 ⟨some 55, none, .iaddrS 1, [.t 53, .t 54]⟩ ::
 ⟨some 56, none, .load false 1, [.t 55]⟩ ::
 ⟨some 57, none, .minmax false, [.t 52, .t 56]⟩ ::
 ⟨some 11, none, .mov, [.t 57]⟩ ::
 []) [1, 2, 3, 7, 8, 9, 10, 11, 12])
 (.skip))))
 (.reg [] (
 ⟨some 43, none, .mov, [.t 12]⟩ ::
 ⟨some 44, none, .bin .add, [.t 43, .k (.d (.int .i64 1))]⟩ ::
 ⟨some 12, none, .mov, [.t 44]⟩ ::
 []) [1, 2, 3, 7, 8, 9, 10, 11, 12]))))))
 (.seq (.seq (.draw [] (
 (⟨some 58, none, .load true 6, [.t 3]⟩, []) ::
 (⟨some 59, none, .mov, [.t 1]⟩, []) ::
 (⟨some 60, none, .mov, [.t 8]⟩, []) ::
 (⟨some 61, none, .iaddrS 2, [.t 59, .t 60]⟩, []) ::
 (⟨some 62, none, .load true 2, [.t 61]⟩, []) ::
 (⟨some 63, none, .mov, [.t 8]⟩, []) ::
 (⟨some 64, none, .mov, [.t 10]⟩, []) ::
 (⟨some 65, none, .call 23, [.t 58, .t 62, .t 63, .t 64]⟩, []) ::
 (⟨some 66, none, .un .not, [.t 65]⟩, []) ::
 []) [1, 2, 3, 7, 8, 9, 10, 11, 66])
 (.cond (.t 66)
 (.seq (.reg [] (
 ⟨some 67, none, .mov, [.t 11]⟩ ::
 ⟨some 68, none, .bin .add, [.t 67, .k (.d (.int .i64 1))]⟩ ::
 ⟨some 11, none, .mov, [.t 68]⟩ ::
 []) [1, 2, 3, 7, 8, 9, 10, 11])
 (.seq (.reg [] (
 ⟨some 69, none, .mov, [.t 8]⟩ ::
 ⟨some 70, none, .mov, [.t 2]⟩ ::
 ⟨some 71, none, .bin .eql, [.t 69, .t 70]⟩ ::
 []) [1, 2, 3, 7, 8, 9, 10, 11, 71])
 (.cond (.t 71)
 (.reg [] (
 ⟨some 11, none, .mov, [.k (.d (.int .i64 1000))]⟩ ::
 []) [1, 2, 3, 7, 8, 9, 10, 11])
 (.skip))))
 (.skip)))
 (.reg [] (
 ⟨some 72, none, .mov, [.t 9]⟩ ::
 ⟨some 73, none, .mov, [.t 11]⟩ ::
 ⟨some 74, none, .mkrow 1 (.int .i64 0) 1 [0], [.t 73]⟩ ::
 ⟨some 75, none, .app 3 1 none true, [.t 72, .t 74]⟩ ::
 ⟨some 9, none, .mov, [.t 75]⟩ ::
 []) [1, 2, 3, 7, 8, 9, 10])))))
 (.reg [] (
 ⟨some 27, none, .mov, [.t 10]⟩ ::
 ⟨some 28, none, .bin .add, [.t 27, .k (.d (.int .i64 1))]⟩ ::
 ⟨some 10, none, .mov, [.t 28]⟩ ::
 []) [1, 2, 3, 7, 8, 9, 10]))))))
 (.reg [] (
 ⟨some 76, none, .mov, [.t 9]⟩ ::
 ⟨some 7, none, .mov, [.t 76]⟩ ::
 []) [1, 2, 3, 7, 8]))))
 (.reg [] (
 ⟨some 21, none, .mov, [.t 8]⟩ ::
 ⟨some 22, none, .bin .add, [.t 21, .k (.d (.int .i64 1))]⟩ ::
 ⟨some 8, none, .mov, [.t 22]⟩ ::
 []) [1, 2, 3, 7, 8]))))))
 (.seq (.reg [] (
 ⟨some 77, none, .mov, [.t 7]⟩ ::
 ⟨some 6, none, .mov, [.t 77]⟩ ::
 []) [6])
 (.ret))))
theorem dec_ref02_fewest : Fun E0 F_ref02_fewest pc_ref02_fewest [.t 6] 78 := fun_of_dec (fl := []) (by kernel_rfl)
-- (*platter/servo.head).forth (1)
abbrev F_servo_head_forth : Nat := 67
def pc_servo_head_forth : PC :=
 .seq (.reg [] (
 ⟨some 2, none, .mov, [.k (.d (.list true []))]⟩ ::
 []) [0])
 (.seq (.reg [] (
 ⟨some 7, none, .mov, [.t 0]⟩ ::
 ⟨some 8, none, .nilck, [.t 7]⟩ ::
 ⟨some 9, none, .faddr 7, [.t 8]⟩ ::
 ⟨some 10, none, .load false 1, [.t 9]⟩ ::
 ⟨some 11, none, .bin .add, [.t 10, .k (.d (.int .i64 1))]⟩ ::
 ⟨some 12, none, .mksl 3 1 (.int .i64 0) true, [.t 11, .t 11]⟩ ::
 ⟨some 3, none, .mov, [.t 12]⟩ ::
 []) [0, 3])
 (.seq (.reg [] (
 ⟨some 4, none, .mov, [.k (.d (.list true []))]⟩ ::
 []) [0, 3, 4])
 (.seq (.seq (.reg [] (
 ⟨some 13, none, .mov, [.t 0]⟩ ::
 ⟨some 14, none, .nilck, [.t 13]⟩ ::
 ⟨some 15, none, .faddr 6, [.t 14]⟩ ::
 ⟨some 16, none, .load false 1, [.t 15]⟩ ::
 ⟨some 17, none, .len false, [.t 16]⟩ ::
 ⟨some 18, none, .mov, [.k (.d (.int .i64 0))]⟩ ::
 []) [0, 3, 4, 17, 18])
 (.block 0
 (.loop [.freeze 3, .own 4 47 90 1] [0, 3, 4, 17, 18] [47, 900000, 901000]
 (.seq (.reg [] (
 ⟨some 19, none, .bin .lss, [.t 18, .t 17]⟩ ::
 []) [0, 3, 4, 17, 18, 19])
 (.seq (.cond (.t 19)
 (.skip)
 (.exit 0))
 (.seq (.block 1
 (.seq (.reg [] (
 ⟨some 20, none, .mov, [.t 18]⟩ ::
 ⟨some 5, none, .mov, [.t 20]⟩ ::
 []) [0, 3, 4, 5, 17, 18])
 (.seq (.seq (.reg [] (
 ⟨some 21, none, .mov, [.t 5]⟩ ::
 ⟨some 22, none, .bin .gtr, [.t 21, .k (.d (.int .i64 0))]⟩ ::
 []) [0, 3, 4, 5, 17, 18, 22])
 (.cond (.t 22)
 (.reg [.freeze 3] (
 ⟨some 23, none, .mov, [.t 0]⟩ ::
 ⟨some 24, none, .mov, [.t 3]⟩ ::
 ⟨some 25, none, .call 75, [.t 23, .t 24]⟩ ::
 ⟨some 3, none, .mov, [.t 25]⟩ ::
 []) [0, 3, 4, 5, 17, 18])
 (.skip)))
 (.seq (.reg [.freeze 3] (
 ⟨some 26, none, .mov, [.t 3]⟩ ::
 ⟨some 27, none, .call 76, [.t 26]⟩ ::
 ⟨some 3, none, .mov, [.t 27]⟩ ::
 []) [0, 3, 4, 5, 17, 18])
 (.seq (.seq (.reg [] (
 ⟨some 28, none, .mov, [.t 3]⟩ ::
 ⟨some 29, none, .len false, [.t 28]⟩ ::
 ⟨some 30, none, .mov, [.k (.d (.int .i64 0))]⟩ ::
 []) [0, 3, 4, 5, 17, 18, 29, 30])
 (.block 2
 (.loop [.own 4 47 90 1] [0, 3, 4, 5, 17, 18, 29, 30] [12, 25, 27, 47, 10025, 10027, 900000, 901000]
 (.seq (.reg [] (
 ⟨some 31, none, .bin .lss, [.t 30, .t 29]⟩ ::
 []) [0, 3, 4, 5, 17, 18, 29, 30, 31])
 (.seq (.cond (.t 31)
 (.skip)
 (.exit 2))
 (.seq (.block 3
 (.seq (.reg [] (
 ⟨some 32, none, .mov, [.t 30]⟩ ::
 ⟨some 6, none, .mov, [.t 32]⟩ ::
 []) [0, 3, 4, 5, 6, 17, 18, 29, 30])
 (.draw [] (
 (⟨some 33, none, .mov, [.t 3]⟩, []) ::
 (⟨some 34, none, .mov, [.t 6]⟩, []) ::
 (⟨some 35, none, .iaddrS 1, [.t 33, .t 34]⟩, []) ::
 (⟨some 36, none, .load false 1, [.t 35]⟩, []) ::
 (⟨some 37, none, .mov, [.t 0]⟩, []) ::
 (⟨some 38, none, .mov, [.t 5]⟩, []) ::
 (⟨some 39, none, .mov, [.t 6]⟩, []) ::
 (⟨some 40, none, .call 70, [.t 37, .t 38, .t 39]⟩, [2, 3]) ::
 (⟨some 41, none, .bin .add, [.t 36, .t 40]⟩, []) ::
 (⟨some 42, none, .iaddrS 1, [.t 33, .t 34]⟩, []) ::
 (⟨none, none, .store 1, [.t 42, .t 41]⟩, []) ::
 []) [0, 3, 4, 5, 17, 18, 29, 30])))
 (.reg [] (
 ⟨some 43, none, .bin .add, [.t 30, .k (.d (.int .i64 1))]⟩ ::
 ⟨some 30, none, .mov, [.t 43]⟩ ::
 []) [0, 3, 4, 5, 17, 18, 29, 30])))))))
 (.reg [.freeze 3] (
 ⟨some 44, none, .mov, [.t 4]⟩ ::
 ⟨some 45, none, .mov, [.t 3]⟩ ::
 ⟨some 46, none, .mkrow 1 (.list true []) 1 [0], [.t 45]⟩ ::
 ⟨some 47, none, .app 90 1 none true, [.t 44, .t 46]⟩ ::
 ⟨some 4, none, .mov, [.t 47]⟩ ::
 []) [0, 3, 4, 17, 18]))))))
 (.reg [] (
 ⟨some 48, none, .bin .add, [.t 18, .k (.d (.int .i64 1))]⟩ ::
 ⟨some 18, none, .mov, [.t 48]⟩ ::
 []) [0, 3, 4, 17, 18])))))))
 (.seq (.reg [] (
 ⟨some 49, none, .mov, [.t 4]⟩ ::
 ⟨some 2, none, .mov, [.t 49]⟩ ::
 []) [2])
 (.ret)))))
theorem dec_servo_head_forth : Fun E0 F_servo_head_forth pc_servo_head_forth [.t 2] 50 := fun_of_dec (fl := []) (by kernel_rfl)
-- slices.Index[platter/servo.row,int] (2)
abbrev F_slices_Index_servo_row_int : Nat := 68
def pc_slices_Index_servo_row_int : PC :=
 .seq (.reg [] (
 ⟨some 4, none, .mov, [.k (.d (.int .i64 0))]⟩ ::
 []) [0, 1])
 (.seq (.seq (.reg [] (
 ⟨some 6, none, .mov, [.t 0]⟩ ::
 ⟨some 7, none, .len false, [.t 6]⟩ ::
 ⟨some 8, none, .mov, [.k (.d (.int .i64 0))]⟩ ::
 []) [0, 1, 7, 8])
 (.block 0
 (.loop [] [0, 1, 7, 8] [900000, 900001, 901000, 901001]
 (.seq (.reg [] (
 ⟨some 9, none, .bin .lss, [.t 8, .t 7]⟩ ::
 []) [0, 1, 7, 8, 9])
 (.seq (.cond (.t 9)
 (.skip)
 (.exit 0))
 (.seq (.block 1
 (.seq (.reg [] (
 ⟨some 10, none, .mov, [.t 8]⟩ ::
 ⟨some 5, none, .mov, [.t 10]⟩ ::
 []) [0, 1, 5, 7, 8])
 (.seq (.reg [] (
 ⟨some 11, none, .mov, [.t 1]⟩ ::
 ⟨some 12, none, .mov, [.t 0]⟩ ::
 ⟨some 13, none, .mov, [.t 5]⟩ ::
 ⟨some 14, none, .iaddrS 1, [.t 12, .t 13]⟩ ::
 ⟨some 15, none, .load false 1, [.t 14]⟩ ::
 ⟨some 16, none, .bin .eql, [.t 11, .t 15]⟩ ::
 []) [0, 1, 5, 7, 8, 16])
 (.cond (.t 16)
 (.seq (.reg [] (
 ⟨some 17, none, .mov, [.t 5]⟩ ::
 ⟨some 4, none, .mov, [.t 17]⟩ ::
 []) [4])
 (.ret))
 (.skip)))))
 (.reg [] (
 ⟨some 18, none, .bin .add, [.t 8, .k (.d (.int .i64 1))]⟩ ::
 ⟨some 8, none, .mov, [.t 18]⟩ ::
 []) [0, 1, 7, 8])))))))
 (.seq (.reg [] (
 ⟨some 4, none, .mov, [.k (.d (.int .i64 (-1)))]⟩ ::
 []) [4])
 (.ret)))
theorem dec_slices_Index_servo_row_int : Fun E0 F_slices_Index_servo_row_int pc_slices_Index_servo_row_int [.t 4] 19 := fun_of_dec (fl := []) (by kernel_rfl)
-- (*platter/servo.head).back (1)
abbrev F_servo_head_back : Nat := 69
def pc_servo_head_back : PC :=
 .seq (.reg [] (
 ⟨some 2, none, .mov, [.k (.d (.list true []))]⟩ ::
 []) [0])
 (.seq (.reg [] (
 ⟨some 8, none, .mov, [.t 0]⟩ ::
 ⟨some 9, none, .nilck, [.t 8]⟩ ::
 ⟨some 10, none, .faddr 6, [.t 9]⟩ ::
 ⟨some 11, none, .load false 1, [.t 10]⟩ ::
 ⟨some 12, none, .len false, [.t 11]⟩ ::
 ⟨some 13, none, .mksl 90 1 (.list true []) true, [.t 12, .t 12]⟩ ::
 ⟨some 3, none, .mov, [.t 13]⟩ ::
 []) [0, 3])
 (.seq (.reg [] (
 ⟨some 14, none, .mov, [.t 0]⟩ ::
 ⟨some 15, none, .nilck, [.t 14]⟩ ::
 ⟨some 16, none, .faddr 7, [.t 15]⟩ ::
 ⟨some 17, none, .load false 1, [.t 16]⟩ ::
 ⟨some 18, none, .bin .add, [.t 17, .k (.d (.int .i64 1))]⟩ ::
 ⟨some 19, none, .mksl 3 1 (.int .i64 0) true, [.t 18, .t 18]⟩ ::
 ⟨some 4, none, .mov, [.t 19]⟩ ::
 []) [0, 3, 4])
 (.seq (.seq (.reg [] (
 ⟨some 20, none, .mov, [.t 3]⟩ ::
 ⟨some 21, none, .len false, [.t 20]⟩ ::
 ⟨some 22, none, .bin .sub, [.t 21, .k (.d (.int .i64 1))]⟩ ::
 ⟨some 5, none, .mov, [.t 22]⟩ ::
 []) [0, 3, 4, 5])
 (.block 0
 (.loop [.freeze 4] [0, 3, 4, 5] [13, 19, 51, 10051, 900000, 901000]
 (.seq (.seq (.reg [] (
 ⟨some 23, none, .mov, [.t 5]⟩ ::
 ⟨some 24, none, .bin .geq, [.t 23, .k (.d (.int .i64 0))]⟩ ::
 []) [0, 3, 4, 5, 24])
 (.cond (.t 24)
 (.skip)
 (.exit 0)))
 (.seq (.block 1
 (.seq (.reg [.freeze 4] (
 ⟨some 27, none, .mov, [.t 3]⟩ ::
 ⟨some 28, none, .mov, [.t 5]⟩ ::
 ⟨some 29, none, .mov, [.t 4]⟩ ::
 ⟨some 30, none, .iaddrS 1, [.t 27, .t 28]⟩ ::
 ⟨none, none, .store 1, [.t 30, .t 29]⟩ ::
 []) [0, 3, 4, 5])
 (.seq (.reg [.freeze 4] (
 ⟨some 31, none, .mov, [.t 4]⟩ ::
 ⟨some 32, none, .call 76, [.t 31]⟩ ::
 ⟨some 6, none, .mov, [.t 32]⟩ ::
 []) [0, 3, 5, 6])
 (.seq (.seq (.reg [] (
 ⟨some 33, none, .mov, [.t 6]⟩ ::
 ⟨some 34, none, .len false, [.t 33]⟩ ::
 ⟨some 35, none, .mov, [.k (.d (.int .i64 0))]⟩ ::
 []) [0, 3, 5, 6, 34, 35])
 (.block 2
 (.loop [] [0, 3, 5, 6, 34, 35] [13, 19, 32, 51, 10032, 10051, 900000, 901000]
 (.seq (.reg [] (
 ⟨some 36, none, .bin .lss, [.t 35, .t 34]⟩ ::
 []) [0, 3, 5, 6, 34, 35, 36])
 (.seq (.cond (.t 36)
 (.skip)
 (.exit 2))
 (.seq (.block 3
 (.seq (.reg [] (
 ⟨some 37, none, .mov, [.t 35]⟩ ::
 ⟨some 7, none, .mov, [.t 37]⟩ ::
 []) [0, 3, 5, 6, 7, 34, 35])
 (.draw [] (
 (⟨some 38, none, .mov, [.t 6]⟩, []) ::
 (⟨some 39, none, .mov, [.t 7]⟩, []) ::
 (⟨some 40, none, .iaddrS 1, [.t 38, .t 39]⟩, []) ::
 (⟨some 41, none, .load false 1, [.t 40]⟩, []) ::
 (⟨some 42, none, .mov, [.t 0]⟩, []) ::
 (⟨some 43, none, .mov, [.t 5]⟩, []) ::
 (⟨some 44, none, .mov, [.t 7]⟩, []) ::
 (⟨some 45, none, .call 70, [.t 42, .t 43, .t 44]⟩, [2, 3]) ::
 (⟨some 46, none, .bin .add, [.t 41, .t 45]⟩, []) ::
 (⟨some 47, none, .iaddrS 1, [.t 38, .t 39]⟩, []) ::
 (⟨none, none, .store 1, [.t 47, .t 46]⟩, []) ::
 []) [0, 3, 5, 6, 34, 35])))
 (.reg [] (
 ⟨some 48, none, .bin .add, [.t 35, .k (.d (.int .i64 1))]⟩ ::
 ⟨some 35, none, .mov, [.t 48]⟩ ::
 []) [0, 3, 5, 6, 34, 35])))))))
 (.reg [.freeze 6] (
 ⟨some 49, none, .mov, [.t 0]⟩ ::
 ⟨some 50, none, .mov, [.t 6]⟩ ::
 ⟨some 51, none, .call 75, [.t 49, .t 50]⟩ ::
 ⟨some 4, none, .mov, [.t 51]⟩ ::
 []) [0, 3, 4, 5])))))
 (.reg [] (
 ⟨some 25, none, .mov, [.t 5]⟩ ::
 ⟨some 26, none, .bin .sub, [.t 25, .k (.d (.int .i64 1))]⟩ ::
 ⟨some 5, none, .mov, [.t 26]⟩ ::
 []) [0, 3, 4, 5]))))))
 (.seq (.reg [] (
 ⟨some 52, none, .mov, [.t 3]⟩ ::
 ⟨some 2, none, .mov, [.t 52]⟩ ::
 []) [2])
 (.ret)))))
theorem dec_servo_head_back : Fun E0 F_servo_head_back pc_servo_head_back [.t 2] 53 := fun_of_dec (fl := []) (by kernel_rfl)
-- (*platter/servo.head).costs (3)
abbrev F_servo_head_costs : Nat := 70
def pc_servo_head_costs : PC :=
 .seq (.reg [] (
 ⟨some 6, none, .mov, [.k (.d (.int .i64 0))]⟩ ::
 []) [0, 1, 2])
 (.seq (.reg [] (
 ⟨some 10, none, .mov, [.t 0]⟩ ::
 ⟨some 11, none, .nilck, [.t 10]⟩ ::
 ⟨some 12, none, .faddr 6, [.t 11]⟩ ::
 ⟨some 13, none, .load false 1, [.t 12]⟩ ::
 ⟨some 14, none, .mov, [.t 1]⟩ ::
 ⟨some 15, none, .iaddrS 2, [.t 13, .t 14]⟩ ::
 ⟨some 16, none, .load true 2, [.t 15]⟩ ::
 ⟨some 7, none, .zero [.int .i64 0, .int .i64 0], []⟩ ::
 ⟨none, none, .store 2, [.t 7, .t 16]⟩ ::
 []) [0, 1, 2, 7])
 (.seq (.seq (.reg [] (
 ⟨some 17, none, .faddr 0, [.t 7]⟩ ::
 ⟨some 18, none, .load false 1, [.t 17]⟩ ::
 ⟨some 19, none, .bin .lss, [.t 18, .k (.d (.int .i64 0))]⟩ ::
 []) [0, 1, 2, 7, 19])
 (.cond (.t 19)
 (.seq (.reg [] (
 ⟨some 6, none, .mov, [.k (.d (.int .i64 0))]⟩ ::
 []) [6])
 (.ret))
 (.skip)))
 (.seq (.reg [] (
 ⟨some 20, none, .faddr 0, [.t 7]⟩ ::
 ⟨some 21, none, .load false 1, [.t 20]⟩ ::
 ⟨some 22, none, .call 53, [.t 21]⟩ ::
 ⟨some 8, none, .mov, [.t 22]⟩ ::
 []) [0, 1, 2, 7, 8])
 (.seq (.reg [] (
 ⟨some 23, none, .mov, [.t 2]⟩ ::
 ⟨some 24, none, .mov, [.t 0]⟩ ::
 ⟨some 25, none, .mov, [.t 8]⟩ ::
 ⟨some 26, none, .mov, [.t 1]⟩ ::
 ⟨some 27, none, .call 48, [.t 24, .t 25, .t 26]⟩ ::
 ⟨some 28, none, .bin .sub, [.t 23, .t 27]⟩ ::
 ⟨some 9, none, .mov, [.t 28]⟩ ::
 []) [0, 7, 8, 9])
 (.seq (.seq (.draw [] (
 (⟨some 29, none, .mov, [.t 8]⟩, []) ::
 (⟨some 30, none, .mov, [.t 0]⟩, []) ::
 (⟨some 31, none, .nilck, [.t 30]⟩, []) ::
 (⟨some 32, none, .faddr 0, [.t 31]⟩, []) ::
 (⟨some 33, none, .faddr 0, [.t 32]⟩, []) ::
 (⟨some 34, none, .load false 1, [.t 33]⟩, []) ::
 (⟨some 35, none, .bin .lss, [.t 29, .t 34]⟩, []) ::
 (⟨some 36, none, .mov, [.t 35]⟩, []) ::
 (⟨some 37, some (36, true), .mov, [.t 9]⟩, []) ::
 (⟨some 38, some (36, true), .mov, [.t 9]⟩, []) ::
 (⟨some 39, some (36, true), .un .neg, [.t 38]⟩, []) ::
 (⟨some 40, some (36, true), .minmax true, [.t 37, .t 39]⟩, []) ::
 (⟨some 41, some (36, true), .bin .mul, [.k (.d (.int .i64 2)), .t 40]⟩, []) ::
 (⟨some 42, some (36, true), .mov, [.t 0]⟩, []) ::
 (⟨some 43, some (36, true), .nilck, [.t 42]⟩, []) ::
 (⟨some 44, some (36, true), .faddr 0, [.t 43]⟩, []) ::
 (⟨some 45, some (36, true), .faddr 1, [.t 44]⟩, []) ::
 (⟨some 46, some (36, true), .load false 1, [.t 45]⟩, []) ::
 (⟨some 47, some (36, true), .bin .leq, [.t 41, .t 46]⟩, []) ::
 (⟨some 48, none, .pick, [.t 36, .t 47, .k (.d (.bool false))]⟩, []) ::
 (⟨some 49, none, .mov, [.t 48]⟩, []) ::
 (⟨some 50, some (49, true), .faddr 1, [.t 7]⟩, []) ::
 (⟨some 51, some (49, true), .load false 1, [.t 50]⟩, []) ::
 (⟨some 52, some (49, true), .mov, [.t 9]⟩, []) ::
 (⟨some 53, some (49, true), .bin .sub, [.t 51, .t 52]⟩, []) ::
 (⟨some 54, some (49, true), .mov, [.t 0]⟩, []) ::
 (⟨some 55, some (49, true), .nilck, [.t 54]⟩, []) ::
 (⟨some 56, some (49, true), .faddr 0, [.t 55]⟩, []) ::
 (⟨some 57, some (49, true), .faddr 3, [.t 56]⟩, []) ::
 (⟨some 58, some (49, true), .load false 1, [.t 57]⟩, []) ::
 (⟨some 59, some (49, true), .un .neg, [.t 58]⟩, []) ::
 (⟨some 60, some (49, true), .mov, [.t 0]⟩, []) ::
 (⟨some 61, some (49, true), .nilck, [.t 60]⟩, []) ::
 (⟨some 62, some (49, true), .faddr 0, [.t 61]⟩, []) ::
 (⟨some 63, some (49, true), .faddr 3, [.t 62]⟩, []) ::
 (⟨some 64, some (49, true), .load false 1, [.t 63]⟩, []) ::
 (⟨some 65, some (49, true), .call 47, [.t 53, .t 59, .t 64]⟩, []) ::
 (⟨some 66, none, .pick, [.t 49, .t 65, .k (.d (.bool false))]⟩, []) ::
 []) [66])
 (.cond (.t 66)
 (.seq (.reg [] (
 ⟨some 6, none, .mov, [.k (.d (.int .i64 0))]⟩ ::
 []) [6])
 (.ret))
 (.skip)))
 (.seq (.reg [] (
 ⟨some 6, none, .mov, [.k (.d (.int .i64 1))]⟩ ::
 []) [6])
 (.ret)))))))
theorem dec_servo_head_costs : Fun E0 F_servo_head_costs pc_servo_head_costs [.t 6] 67 := fun_of_dec (fl := []) (by kernel_rfl)
-- (*platter/servo.head).ends (1)
abbrev F_servo_head_ends : Nat := 71
def pc_servo_head_ends : PC :=
 .seq (.reg [] (
 ⟨some 2, none, .mov, [.k (.d (.list true []))]⟩ ::
 []) [0])
 (.seq (.reg [] (
 ⟨some 3, none, .mov, [.k (.d (.list true []))]⟩ ::
 []) [0, 3])
 (.seq (.seq (.reg [] (
 ⟨some 7, none, .mov, [.t 0]⟩ ::
 ⟨some 8, none, .call 65, [.t 7]⟩ ::
 ⟨some 9, none, .len false, [.t 8]⟩ ::
 ⟨some 10, none, .mov, [.k (.d (.int .i64 0))]⟩ ::
 []) [0, 3, 8, 9, 10])
 (.block 0
 (.loop [.own 3 47 54 2] [0, 3, 8, 9, 10] [8, 47, 10008, 900000, 901000]
 (.seq (.reg [] (
 ⟨some 11, none, .bin .lss, [.t 10, .t 9]⟩ ::
 []) [0, 3, 8, 9, 10, 11])
 (.seq (.cond (.t 11)
 (.skip)
 (.exit 0))
 (.seq (.block 1
 (.seq (.reg [] (
 ⟨some 12, none, .mov, [.t 10]⟩ ::
 ⟨some 13, none, .iaddrS 1, [.t 8, .t 10]⟩ ::
 ⟨some 14, none, .load false 1, [.t 13]⟩ ::
 ⟨some 4, none, .mov, [.t 12]⟩ ::
 ⟨some 5, none, .mov, [.t 14]⟩ ::
 []) [0, 3, 4, 5, 8, 9, 10])
 (.seq (.seq (.reg [] (
 ⟨some 15, none, .mov, [.t 5]⟩ ::
 ⟨some 16, none, .mov, [.t 0]⟩ ::
 ⟨some 17, none, .nilck, [.t 16]⟩ ::
 ⟨some 18, none, .faddr 0, [.t 17]⟩ ::
 ⟨some 19, none, .faddr 4, [.t 18]⟩ ::
 ⟨some 20, none, .load false 1, [.t 19]⟩ ::
 ⟨some 21, none, .bin .gtr, [.t 15, .t 20]⟩ ::
 []) [0, 3, 4, 8, 9, 10, 21])
 (.cond (.t 21)
 (.exit 1)
 (.skip)))
 (.seq (.reg [] (
 ⟨some 22, none, .mov, [.t 3]⟩ ::
 ⟨some 23, none, .len false, [.t 22]⟩ ::
 ⟨some 24, none, .bin .sub, [.t 23, .k (.d (.int .i64 1))]⟩ ::
 ⟨some 6, none, .mov, [.t 24]⟩ ::
 []) [0, 3, 4, 6, 8, 9, 10])
 (.seq (.reg [] (
 ⟨some 25, none, .mov, [.t 6]⟩ ::
 ⟨some 26, none, .bin .geq, [.t 25, .k (.d (.int .i64 0))]⟩ ::
 ⟨some 27, none, .mov, [.t 26]⟩ ::
 ⟨some 28, some (27, true), .mov, [.t 3]⟩ ::
 ⟨some 29, some (27, true), .mov, [.t 6]⟩ ::
 ⟨some 30, some (27, true), .iaddrS 2, [.t 28, .t 29]⟩ ::
 ⟨some 31, some (27, true), .faddr 1, [.t 30]⟩ ::
 ⟨some 32, some (27, true), .load false 1, [.t 31]⟩ ::
 ⟨some 33, some (27, true), .mov, [.t 4]⟩ ::
 ⟨some 34, some (27, true), .bin .sub, [.t 33, .k (.d (.int .i64 1))]⟩ ::
 ⟨some 35, some (27, true), .bin .eql, [.t 32, .t 34]⟩ ::
 ⟨some 36, none, .pick, [.t 27, .t 35, .k (.d (.bool false))]⟩ ::
 []) [0, 3, 4, 6, 8, 9, 10, 36])
 (.cond (.t 36)
 (.reg [] (
 ⟨some 37, none, .mov, [.t 3]⟩ ::
 ⟨some 38, none, .mov, [.t 6]⟩ ::
 ⟨some 39, none, .mov, [.t 4]⟩ ::
 ⟨some 40, none, .iaddrS 2, [.t 37, .t 38]⟩ ::
 ⟨some 41, none, .faddr 1, [.t 40]⟩ ::
 ⟨none, none, .store 1, [.t 41, .t 39]⟩ ::
 []) [0, 3, 8, 9, 10])
 (.reg [] (
 ⟨some 42, none, .mov, [.t 3]⟩ ::
 ⟨some 43, none, .mov, [.t 4]⟩ ::
 ⟨some 44, none, .mov, [.t 4]⟩ ::
 ⟨some 45, none, .build [.int .i64 0, .int .i64 0] [(0, 1), (1, 1)], [.t 43, .t 44]⟩ ::
 ⟨some 46, none, .mkrow 2 (.agg [.int .i64 0, .int .i64 0]) 1 [0], [.t 45]⟩ ::
 ⟨some 47, none, .app 54 2 none true, [.t 42, .t 46]⟩ ::
 ⟨some 3, none, .mov, [.t 47]⟩ ::
 []) [0, 3, 8, 9, 10])))))))
 (.reg [] (
 ⟨some 48, none, .bin .add, [.t 10, .k (.d (.int .i64 1))]⟩ ::
 ⟨some 10, none, .mov, [.t 48]⟩ ::
 []) [0, 3, 8, 9, 10])))))))
 (.seq (.reg [] (
 ⟨some 49, none, .mov, [.t 3]⟩ ::
 ⟨some 2, none, .mov, [.t 49]⟩ ::
 []) [2])
 (.ret))))
theorem dec_servo_head_ends : Fun E0 F_servo_head_ends pc_servo_head_ends [.t 2] 50 := fun_of_dec (fl := []) (by kernel_rfl)
-- platter/servo.isServo$1 (1)
abbrev F_servo_isServo_1 : Nat := 72
def pc_servo_isServo_1 : PC :=
 .seq (.reg [] (
 ⟨some 2, none, .mov, [.k (.d (.bool false))]⟩ ::
 []) [0])
 (.seq (.reg [] (
 ⟨some 3, none, .mov, [.t 0]⟩ ::
 ⟨some 4, none, .call 47, [.t 3, .k (.d (.int .i64 (-16))), .k (.d (.int .i64 16))]⟩ ::
 ⟨some 2, none, .mov, [.t 4]⟩ ::
 []) [2])
 (.ret))
theorem dec_servo_isServo_1 : Fun E0 F_servo_isServo_1 pc_servo_isServo_1 [.t 2] 5 := fun_of_dec (fl := []) (by kernel_rfl)
-- slices.IndexFunc[[]platter/api.Wedge,platter/api.Wedge] (2)
abbrev F_slices_IndexFunc_api_Wedge_api_Wedge : Nat := 73
def pc_slices_IndexFunc_api_Wedge_api_Wedge : PC :=
 .seq (.reg [] (
 ⟨some 4, none, .mov, [.k (.d (.int .i64 0))]⟩ ::
 []) [0, 1])
 (.seq (.seq (.reg [] (
 ⟨some 6, none, .mov, [.t 0]⟩ ::
 ⟨some 7, none, .len false, [.t 6]⟩ ::
 ⟨some 8, none, .mov, [.k (.d (.int .i64 0))]⟩ ::
 []) [0, 1, 7, 8])
 (.block 0
 (.loop [] [0, 1, 7, 8] [900000, 900001, 901000, 901001]
 (.seq (.reg [] (
 ⟨some 9, none, .bin .lss, [.t 8, .t 7]⟩ ::
 []) [0, 1, 7, 8, 9])
 (.seq (.cond (.t 9)
 (.skip)
 (.exit 0))
 (.seq (.block 1
 (.seq (.reg [] (
 ⟨some 10, none, .mov, [.t 8]⟩ ::
 ⟨some 5, none, .mov, [.t 10]⟩ ::
 []) [0, 1, 5, 7, 8])
 (.seq (.reg [] (
 ⟨some 11, none, .mov, [.t 1]⟩ ::
 ⟨some 12, none, .mov, [.t 0]⟩ ::
 ⟨some 13, none, .mov, [.t 5]⟩ ::
 ⟨some 14, none, .iaddrS 2, [.t 12, .t 13]⟩ ::
 ⟨some 15, none, .load true 2, [.t 14]⟩ ::
 ⟨some 16, none, .callv, [.t 11, .t 15]⟩ ::
 []) [0, 1, 5, 7, 8, 16])
 (.cond (.t 16)
 (.seq (.reg [] (
 ⟨some 17, none, .mov, [.t 5]⟩ ::
 ⟨some 4, none, .mov, [.t 17]⟩ ::
 []) [4])
 (.ret))
 (.skip)))))
 (.reg [] (
 ⟨some 18, none, .bin .add, [.t 8, .k (.d (.int .i64 1))]⟩ ::
 ⟨some 8, none, .mov, [.t 18]⟩ ::
 []) [0, 1, 7, 8])))))))
 (.seq (.reg [] (
 ⟨some 4, none, .mov, [.k (.d (.int .i64 (-1)))]⟩ ::
 []) [4])
 (.ret)))
theorem dec_slices_IndexFunc_api_Wedge_api_Wedge : Fun E0 F_slices_IndexFunc_api_Wedge_api_Wedge pc_slices_IndexFunc_api_Wedge_api_Wedge [.t 4] 19 := fun_of_dec (fl := []) (by kernel_rfl)
-- platter/platterref02.ends (2)
abbrev F_ref02_ends : Nat := 74
def pc_ref02_ends : PC :=
 .seq (.reg [] (
 ⟨some 2, none, .box, [.t 0]⟩ ::
 ⟨some 4, none, .mov, [.k (.d (.list true []))]⟩ ::
 []) [1, 2])
 (.seq (.reg [] (
 ⟨some 8, none, .load true 6, [.t 2]⟩ ::
 ⟨some 9, none, .mov, [.t 1]⟩ ::
 ⟨some 10, none, .call 66, [.t 8, .t 9, .k (.d (.int .i64 (-1)))]⟩ ::
 ⟨some 5, none, .mov, [.t 10]⟩ ::
 []) [2, 5])
 (.seq (.reg [] (
 ⟨some 6, none, .mov, [.k (.d (.list true []))]⟩ ::
 []) [2, 5, 6])
 (.seq (.seq (.reg [] (
 ⟨some 7, none, .mov, [.k (.d (.int .i64 0))]⟩ ::
 []) [2, 5, 6, 7])
 (.block 0
 (.loop [.own 6 26 4 1] [2, 5, 6, 7] [2, 10, 26, 10010, 900000, 901000]
 (.seq (.seq (.reg [] (
 ⟨some 11, none, .mov, [.t 7]⟩ ::
 ⟨some 12, none, .mov, [.t 5]⟩ ::
 ⟨some 13, none, .len false, [.t 12]⟩ ::
 ⟨some 14, none, .bin .lss, [.t 11, .t 13]⟩ ::
 []) [2, 5, 6, 7, 14])
 (.cond (.t 14)
 (.skip)
 (.exit 0)))
 (.seq (.block 1
 (.draw [] (
 (⟨some 17, none, .mov, [.t 6]⟩, []) ::
 (⟨some 18, none, .mov, [.t 5]⟩, []) ::
 (⟨some 19, none, .mov, [.t 7]⟩, []) ::
 (⟨some 20, none, .iaddrS 1, [.t 18, .t 19]⟩, []) ::
 (⟨some 21, none, .load false 1, [.t 20]⟩, []) ::
 (⟨some 22, none, .faddr 4, [.t 2]⟩, []) ::
 (⟨some 23, none, .load false 1, [.t 22]⟩, []) ::
 (⟨some 24, none, .bin .leq, [.t 21, .t 23]⟩, []) ::
 (⟨some 25, none, .mkrow 1 (.bool false) 1 [0], [.t 24]⟩, []) ::
 (⟨some 26, none, .app 4 1 none true, [.t 17, .t 25]⟩, []) ::
 (⟨some 6, none, .mov, [.t 26]⟩, []) ::
 []) [2, 5, 6, 7]))
 (.reg [] (
 ⟨some 15, none, .mov, [.t 7]⟩ ::
 ⟨some 16, none, .bin .add, [.t 15, .k (.d (.int .i64 1))]⟩ ::
 ⟨some 7, none, .mov, [.t 16]⟩ ::
 []) [2, 5, 6, 7]))))))
 (.seq (.reg [] (
 ⟨some 27, none, .mov, [.t 6]⟩ ::
 ⟨some 4, none, .mov, [.t 27]⟩ ::
 []) [4])
 (.ret)))))
theorem dec_ref02_ends : Fun E0 F_ref02_ends pc_ref02_ends [.t 4] 28 := fun_of_dec (fl := [26]) (by kernel_rfl)
-- (*platter/servo.head).near (2)
abbrev F_servo_head_near : Nat := 75
def pc_servo_head_near : PC :=
 .seq (.reg [] (
 ⟨some 4, none, .mov, [.k (.d (.list true []))]⟩ ::
 []) [0, 1])
 (.seq (.reg [] (
 ⟨some 7, none, .mov, [.t 1]⟩ ::
 ⟨some 8, none, .len false, [.t 7]⟩ ::
 ⟨some 9, none, .mksl 3 1 (.int .i64 0) true, [.t 8, .t 8]⟩ ::
 ⟨some 5, none, .mov, [.t 9]⟩ ::
 []) [0, 1, 5])
 (.seq (.seq (.reg [] (
 ⟨some 10, none, .mov, [.t 5]⟩ ::
 ⟨some 11, none, .len false, [.t 10]⟩ ::
 ⟨some 12, none, .mov, [.k (.d (.int .i64 0))]⟩ ::
 []) [0, 1, 5, 11, 12])
 (.block 0
 (.loop [] [0, 1, 5, 11, 12] [9, 38, 10038, 900000, 900001, 901000, 901001]
 (.seq (.reg [] (
 ⟨some 13, none, .bin .lss, [.t 12, .t 11]⟩ ::
 []) [0, 1, 5, 11, 12, 13])
 (.seq (.cond (.t 13)
 (.skip)
 (.exit 0))
 (.seq (.block 1
 (.seq (.reg [] (
 ⟨some 14, none, .mov, [.t 12]⟩ ::
 ⟨some 6, none, .mov, [.t 14]⟩ ::
 []) [0, 1, 5, 6, 11, 12])
 (.draw [] (
 (⟨some 15, none, .mov, [.t 5]⟩, []) ::
 (⟨some 16, none, .mov, [.t 6]⟩, []) ::
 (⟨some 17, none, .mov, [.t 1]⟩, []) ::
 (⟨some 18, none, .mov, [.t 6]⟩, []) ::
 (⟨some 19, none, .mov, [.t 0]⟩, []) ::
 (⟨some 20, none, .nilck, [.t 19]⟩, []) ::
 (⟨some 21, none, .faddr 0, [.t 20]⟩, []) ::
 (⟨some 22, none, .faddr 2, [.t 21]⟩, []) ::
 (⟨some 23, none, .load false 1, [.t 22]⟩, []) ::
 (⟨some 24, none, .bin .sub, [.t 18, .t 23]⟩, []) ::
 (⟨some 25, none, .minmax true, [.k (.d (.int .i64 0)), .t 24]⟩, []) ::
 (⟨some 26, none, .mov, [.t 1]⟩, []) ::
 (⟨some 27, none, .len false, [.t 26]⟩, []) ::
 (⟨some 28, none, .mov, [.t 6]⟩, []) ::
 (⟨some 29, none, .mov, [.t 0]⟩, []) ::
 (⟨some 30, none, .nilck, [.t 29]⟩, []) ::
 (⟨some 31, none, .faddr 0, [.t 30]⟩, []) ::
 (⟨some 32, none, .faddr 2, [.t 31]⟩, []) ::
 (⟨some 33, none, .load false 1, [.t 32]⟩, []) ::
 (⟨some 34, none, .bin .add, [.t 28, .t 33]⟩, []) ::
 (⟨some 35, none, .bin .add, [.t 34, .k (.d (.int .i64 1))]⟩, []) ::
 (⟨some 36, none, .minmax false, [.t 27, .t 35]⟩, []) ::
 (⟨some 37, none, .slice 1 true true false, [.t 17, .t 25, .t 36]⟩, []) ::
 (⟨some 38, none, .call 64, [.t 37]⟩, []) ::
 (⟨some 39, none, .iaddrS 1, [.t 15, .t 16]⟩, []) ::
 (⟨none, none, .store 1, [.t 39, .t 38]⟩, []) ::
 []) [0, 1, 5, 11, 12])))
 (.reg [] (
 ⟨some 40, none, .bin .add, [.t 12, .k (.d (.int .i64 1))]⟩ ::
 ⟨some 12, none, .mov, [.t 40]⟩ ::
 []) [0, 1, 5, 11, 12])))))))
 (.seq (.reg [] (
 ⟨some 41, none, .mov, [.t 5]⟩ ::
 ⟨some 4, none, .mov, [.t 41]⟩ ::
 []) [4])
 (.ret))))
theorem dec_servo_head_near : Fun E0 F_servo_head_near pc_servo_head_near [.t 4] 42 := fun_of_dec (fl := []) (by kernel_rfl)
-- slices.Clone[platter/servo.row,int] (1)
abbrev F_slices_Clone_servo_row_int : Nat := 76
def pc_slices_Clone_servo_row_int : PC :=
 .seq (.reg [] (
 ⟨some 2, none, .mov, [.k (.d (.list true []))]⟩ ::
 []) [0])
 (.seq (.seq (.reg [] (
 ⟨some 3, none, .mov, [.t 0]⟩ ::
 ⟨some 4, none, .eqnil false, [.t 3, .k (.d (.list true []))]⟩ ::
 []) [0, 4])
 (.cond (.t 4)
 (.seq (.reg [] (
 ⟨some 2, none, .mov, [.k (.d (.list true []))]⟩ ::
 []) [2])
 (.ret))
 (.skip)))
 (.seq (.reg [] (
 ⟨some 5, none, .mkrow 1 (.int .i64 0) 0 [], []⟩ ::
 ⟨some 6, none, .mov, [.t 0]⟩ ::
 ⟨some 7, none, .app 3 1 none true, [.t 5, .t 6]⟩ ::
 ⟨some 2, none, .mov, [.t 7]⟩ ::
 []) [2])
 (.ret)))
theorem dec_slices_Clone_servo_row_int : Fun E0 F_slices_Clone_servo_row_int pc_slices_Clone_servo_row_int [.t 2] 8 := fun_of_dec (fl := []) (by kernel_rfl)
end Go.Pw
