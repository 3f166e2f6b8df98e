/- A part of the proof. -/
import Derived.Test.YtgeodifpcminpaaPwVC
import Derived.Test.YtgeodifpcminpaaProg
import Derived.KernelRfl
set_option linter.all false
open Go Go.Pw Go.Proofs
namespace Go.Pw
set_option maxRecDepth 100000
def G0 : Nat → Option (List D) := fun g =>  none
noncomputable def E0 : Env := ⟨Try.prog, G0⟩
theorem mixed : E0.P.follows .mixedOrders = true := by kernel_rfl
abbrev T_int : Nat := 3
abbrev F_gosem_cut_init : Nat := 2
-- platter/platterlaw04.CodesJoined (3)
abbrev F_law04_CodesJoined : Nat := 3
def pc_law04_CodesJoined : PC :=
 .seq (.reg [] (
 ⟨some 3, none, .box, [.t 0]⟩ ::
 ⟨some 4, none, .box, [.t 1]⟩ ::
 ⟨some 6, none, .mov, [.k (.d (.bool false))]⟩ ::
 []) [2, 3, 4])
 (.seq (.seq (.reg [] (
 ⟨some 16, none, .load true 6, [.t 3]⟩ ::
 ⟨some 17, none, .faddr 0, [.t 4]⟩ ::
 ⟨some 18, none, .load false 1, [.t 17]⟩ ::
 ⟨some 19, none, .call 13, [.t 16, .t 18]⟩ ::
 ⟨some 20, none, .un .not, [.t 19]⟩ ::
 ⟨some 21, none, .mov, [.t 20]⟩ ::
 ⟨some 22, some (21, false), .faddr 1, [.t 4]⟩ ::
 ⟨some 23, some (21, false), .load false 1, [.t 22]⟩ ::
 ⟨some 24, some (21, false), .len false, [.t 23]⟩ ::
 ⟨some 25, some (21, false), .bin .gtr, [.t 24, .k (.d (.int .i64 60))]⟩ ::
 ⟨some 26, none, .pick, [.t 21, .k (.d (.bool true)), .t 25]⟩ ::
 ⟨some 27, none, .mov, [.t 26]⟩ ::
 ⟨some 28, some (27, false), .load true 6, [.t 3]⟩ ::
 ⟨some 29, some (27, false), .faddr 1, [.t 4]⟩ ::
 ⟨some 30, some (27, false), .load false 1, [.t 29]⟩ ::
 ⟨some 31, some (27, false), .call 14, [.t 28, .t 30]⟩ ::
 ⟨some 32, some (27, false), .un .not, [.t 31]⟩ ::
 ⟨some 33, none, .pick, [.t 27, .k (.d (.bool true)), .t 32]⟩ ::
 ⟨some 34, none, .mov, [.t 33]⟩ ::
 ⟨some 35, some (34, false), .mov, [.t 2]⟩ ::
 ⟨some 36, some (34, false), .bin .lss, [.t 35, .k (.d (.int .i64 0))]⟩ ::
 ⟨some 37, none, .pick, [.t 34, .k (.d (.bool true)), .t 36]⟩ ::
 ⟨some 38, none, .mov, [.t 37]⟩ ::
 ⟨some 39, some (38, false), .mov, [.t 2]⟩ ::
 ⟨some 40, some (38, false), .faddr 1, [.t 4]⟩ ::
 ⟨some 41, some (38, false), .load false 1, [.t 40]⟩ ::
 ⟨some 42, some (38, false), .len false, [.t 41]⟩ ::
 ⟨some 43, some (38, false), .bin .gtr, [.t 39, .t 42]⟩ ::
 ⟨some 44, none, .pick, [.t 38, .k (.d (.bool true)), .t 43]⟩ ::
 []) [2, 3, 4, 44])
 (.cond (.t 44)
 (.seq (.reg [] (
 ⟨some 45, none, .call 15, []⟩ ::
 ⟨some 6, none, .mov, [.t 45]⟩ ::
 []) [6])
 (.ret))
 (.skip)))
 (.seq (.reg [] (
 ⟨some 47, none, .load true 6, [.t 3]⟩ ::
 ⟨some 48, none, .faddr 0, [.t 4]⟩ ::
 ⟨some 49, none, .load false 1, [.t 48]⟩ ::
 ⟨some 50, none, .faddr 1, [.t 4]⟩ ::
 ⟨some 51, none, .load false 1, [.t 50]⟩ ::
 ⟨some 52, none, .call 16, [.t 47, .t 49, .t 51]⟩ ::
 ⟨some 46, none, .mov, [.t 52]⟩ ::
 ⟨some 53, none, .extract 0, [.t 46]⟩ ::
 ⟨some 54, none, .extract 1, [.t 46]⟩ ::
 ⟨some 55, none, .extract 2, [.t 46]⟩ ::
 ⟨some 7, none, .mov, [.t 53]⟩ ::
 ⟨some 8, none, .mov, [.t 54]⟩ ::
 ⟨some 9, none, .mov, [.t 55]⟩ ::
 []) [2, 3, 4, 7, 8, 9])
 (.seq (.draw [] (
 (⟨some 57, none, .load true 6, [.t 3]⟩, []) ::
 (⟨some 58, none, .faddr 0, [.t 4]⟩, []) ::
 (⟨some 59, none, .load false 1, [.t 58]⟩, []) ::
 (⟨some 60, none, .faddr 1, [.t 4]⟩, []) ::
 (⟨some 61, none, .load false 1, [.t 60]⟩, []) ::
 (⟨some 62, none, .mov, [.t 2]⟩, []) ::
 (⟨some 63, none, .slice 1 false true false, [.t 61, .t 62]⟩, [0, 2]) ::
 (⟨some 64, none, .call 16, [.t 57, .t 59, .t 63]⟩, []) ::
 (⟨some 56, none, .mov, [.t 64]⟩, []) ::
 (⟨some 65, none, .extract 0, [.t 56]⟩, []) ::
 (⟨some 66, none, .extract 1, [.t 56]⟩, []) ::
 (⟨some 67, none, .extract 2, [.t 56]⟩, []) ::
 (⟨some 10, none, .mov, [.t 65]⟩, []) ::
 (⟨some 11, none, .mov, [.t 66]⟩, []) ::
 (⟨some 12, none, .mov, [.t 67]⟩, []) ::
 []) [2, 3, 4, 7, 8, 9, 10, 11, 12])
 (.seq (.seq (.reg [] (
 ⟨some 68, none, .mov, [.t 9]⟩ ::
 ⟨some 69, none, .bin .neq, [.t 68, .k (.d (.int .i64 0))]⟩ ::
 ⟨some 70, none, .mov, [.t 69]⟩ ::
 ⟨some 71, some (70, false), .mov, [.t 12]⟩ ::
 ⟨some 72, some (70, false), .bin .neq, [.t 71, .k (.d (.int .i64 0))]⟩ ::
 ⟨some 73, none, .pick, [.t 70, .k (.d (.bool true)), .t 72]⟩ ::
 ⟨some 74, none, .mov, [.t 73]⟩ ::
 ⟨some 75, some (74, false), .load true 6, [.t 3]⟩ ::
 ⟨some 76, some (74, false), .mov, [.t 11]⟩ ::
 ⟨some 77, some (74, false), .call 17, [.t 75, .t 76]⟩ ::
 ⟨some 78, some (74, false), .bin .neq, [.t 77, .k (.d (.int .i64 0))]⟩ ::
 ⟨some 79, none, .pick, [.t 74, .k (.d (.bool true)), .t 78]⟩ ::
 []) [2, 3, 4, 7, 8, 10, 11, 79])
 (.cond (.t 79)
 (.seq (.reg [] (
 ⟨some 6, none, .mov, [.k (.d (.bool false))]⟩ ::
 []) [6])
 (.ret))
 (.skip)))
 (.seq (.draw [] (
 (⟨some 81, none, .load true 6, [.t 3]⟩, []) ::
 (⟨some 82, none, .mov, [.t 11]⟩, []) ::
 (⟨some 83, none, .faddr 1, [.t 4]⟩, []) ::
 (⟨some 84, none, .load false 1, [.t 83]⟩, []) ::
 (⟨some 85, none, .mov, [.t 2]⟩, []) ::
 (⟨some 86, none, .slice 1 true false false, [.t 84, .t 85]⟩, [0]) ::
 (⟨some 87, none, .call 16, [.t 81, .t 82, .t 86]⟩, []) ::
 (⟨some 80, none, .mov, [.t 87]⟩, []) ::
 (⟨some 88, none, .extract 0, [.t 80]⟩, []) ::
 (⟨some 89, none, .extract 1, [.t 80]⟩, []) ::
 (⟨some 90, none, .extract 2, [.t 80]⟩, []) ::
 (⟨some 13, none, .mov, [.t 88]⟩, []) ::
 (⟨some 14, none, .mov, [.t 89]⟩, []) ::
 (⟨some 15, none, .mov, [.t 90]⟩, []) ::
 []) [2, 3, 7, 8, 10, 13, 14, 15])
 (.seq (.reg [] (
 ⟨some 91, none, .mov, [.t 15]⟩ ::
 ⟨some 92, none, .bin .eql, [.t 91, .k (.d (.int .i64 0))]⟩ ::
 ⟨some 93, none, .mov, [.t 92]⟩ ::
 ⟨some 94, some (93, true), .mov, [.t 14]⟩ ::
 ⟨some 95, some (93, true), .mov, [.t 8]⟩ ::
 ⟨some 96, some (93, true), .bin .eql, [.t 94, .t 95]⟩ ::
 ⟨some 97, none, .pick, [.t 93, .t 96, .k (.d (.bool false))]⟩ ::
 ⟨some 98, none, .mov, [.t 97]⟩ ::
 ⟨some 99, some (98, true), .mov, [.t 10]⟩ ::
 ⟨some 100, some (98, true), .len false, [.t 99]⟩ ::
 ⟨some 101, some (98, true), .mov, [.t 2]⟩ ::
 ⟨some 102, some (98, true), .faddr 1, [.t 3]⟩ ::
 ⟨some 103, some (98, true), .load false 1, [.t 102]⟩ ::
 ⟨some 104, some (98, true), .bin .mul, [.t 101, .t 103]⟩ ::
 ⟨some 105, some (98, true), .bin .eql, [.t 100, .t 104]⟩ ::
 ⟨some 106, none, .pick, [.t 98, .t 105, .k (.d (.bool false))]⟩ ::
 ⟨some 107, none, .mov, [.t 106]⟩ ::
 ⟨some 108, some (107, true), .mov, [.t 7]⟩ ::
 ⟨some 109, some (107, true), .mkrow 1 (.int .i64 0) 0 [], []⟩ ::
 ⟨some 110, some (107, true), .mov, [.t 10]⟩ ::
 ⟨some 111, some (107, true), .app 3 1 none true, [.t 109, .t 110]⟩ ::
 ⟨some 112, some (107, true), .mov, [.t 13]⟩ ::
 ⟨some 113, some (107, true), .app 3 1 none false, [.t 111, .t 112]⟩ ::
 ⟨some 114, some (107, true), .call 18, [.t 108, .t 113]⟩ ::
 ⟨some 115, none, .pick, [.t 107, .t 114, .k (.d (.bool false))]⟩ ::
 ⟨some 116, none, .mov, [.t 115]⟩ ::
 ⟨some 117, some (116, true), .call 15, []⟩ ::
 ⟨some 118, none, .pick, [.t 116, .t 117, .k (.d (.bool false))]⟩ ::
 ⟨some 6, none, .mov, [.t 118]⟩ ::
 []) [6])
 (.ret)))))))
theorem dec_law04_CodesJoined : Fun E0 F_law04_CodesJoined pc_law04_CodesJoined [.t 6] 119 := fun_of_dec (fl := [113]) (by kernel_rfl)
abbrev F_law04_CodesThere : Nat := 4
abbrev F_law04_CodesRows : Nat := 5
abbrev F_law04_CodesFound : Nat := 6
abbrev F_law04_CodesNear : Nat := 7
-- platter/platterlaw04.CodesMarks (2)
abbrev F_law04_CodesMarks : Nat := 8
def pc_law04_CodesMarks : PC :=
 .seq (.reg [] (
 ⟨some 2, none, .box, [.t 0]⟩ ::
 ⟨some 3, none, .box, [.t 1]⟩ ::
 ⟨some 4, none, .mov, [.k (.d (.bool false))]⟩ ::
 []) [2, 3])
 (.seq (.seq (.reg [] (
 ⟨some 13, none, .load true 6, [.t 2]⟩ ::
 ⟨some 14, none, .call 27, [.t 13]⟩ ::
 ⟨some 15, none, .mov, [.t 14]⟩ ::
 ⟨some 16, some (15, false), .faddr 0, [.t 3]⟩ ::
 ⟨some 17, some (15, false), .load false 1, [.t 16]⟩ ::
 ⟨some 18, some (15, false), .len false, [.t 17]⟩ ::
 ⟨some 19, some (15, false), .bin .gtr, [.t 18, .k (.d (.int .i64 40))]⟩ ::
 ⟨some 20, none, .pick, [.t 15, .k (.d (.bool true)), .t 19]⟩ ::
 ⟨some 21, none, .mov, [.t 20]⟩ ::
 ⟨some 22, some (21, false), .faddr 1, [.t 3]⟩ ::
 ⟨some 23, some (21, false), .load false 1, [.t 22]⟩ ::
 ⟨some 24, some (21, false), .len false, [.t 23]⟩ ::
 ⟨some 25, some (21, false), .bin .gtr, [.t 24, .k (.d (.int .i64 200))]⟩ ::
 ⟨some 26, none, .pick, [.t 21, .k (.d (.bool true)), .t 25]⟩ ::
 []) [2, 3, 26])
 (.cond (.t 26)
 (.seq (.reg [] (
 ⟨some 27, none, .call 15, []⟩ ::
 ⟨some 4, none, .mov, [.t 27]⟩ ::
 []) [4])
 (.ret))
 (.skip)))
 (.seq (.draw [] (
 (⟨some 29, none, .mkrow 1 (.int .i64 0) 0 [], []⟩, []) ::
 (⟨some 30, none, .faddr 0, [.t 3]⟩, []) ::
 (⟨some 31, none, .load false 1, [.t 30]⟩, []) ::
 (⟨some 32, none, .app 3 1 none false, [.t 29, .t 31]⟩, []) ::
 (⟨some 33, none, .mkrow 1 (.int .i64 0) 0 [], []⟩, []) ::
 (⟨some 34, none, .faddr 1, [.t 3]⟩, []) ::
 (⟨some 35, none, .load false 1, [.t 34]⟩, [3]) ::
 (⟨some 36, none, .app 3 1 none false, [.t 33, .t 35]⟩, []) ::
 (⟨some 37, none, .faddr 2, [.t 3]⟩, []) ::
 (⟨some 38, none, .load false 1, [.t 37]⟩, [3, 7]) ::
 (⟨some 39, none, .call 24, [.t 32, .t 36, .t 38]⟩, []) ::
 (⟨some 28, none, .mov, [.t 39]⟩, []) ::
 (⟨some 40, none, .extract 0, [.t 28]⟩, []) ::
 (⟨some 41, none, .extract 1, [.t 28]⟩, []) ::
 (⟨some 5, none, .mov, [.t 40]⟩, []) ::
 (⟨some 6, none, .mov, [.t 41]⟩, []) ::
 []) [2, 3, 5, 6])
 (.seq (.reg [] (
 ⟨some 43, none, .faddr 0, [.t 3]⟩ ::
 ⟨some 44, none, .load false 1, [.t 43]⟩ ::
 ⟨some 45, none, .faddr 1, [.t 3]⟩ ::
 ⟨some 46, none, .load false 1, [.t 45]⟩ ::
 ⟨some 47, none, .faddr 2, [.t 3]⟩ ::
 ⟨some 48, none, .load false 1, [.t 47]⟩ ::
 ⟨some 49, none, .call 28, [.t 44, .t 46, .t 48]⟩ ::
 ⟨some 42, none, .mov, [.t 49]⟩ ::
 ⟨some 50, none, .extract 0, [.t 42]⟩ ::
 ⟨some 51, none, .extract 1, [.t 42]⟩ ::
 ⟨some 7, none, .mov, [.t 50]⟩ ::
 ⟨some 8, none, .mov, [.t 51]⟩ ::
 []) [2, 3, 5, 6, 7, 8])
 (.seq (.draw [] (
 (⟨some 53, none, .load true 6, [.t 2]⟩, []) ::
 (⟨some 54, none, .call 29, [.t 53]⟩, []) ::
 (⟨some 55, none, .mkrow 1 (.int .i64 0) 0 [], []⟩, []) ::
 (⟨some 56, none, .faddr 0, [.t 3]⟩, []) ::
 (⟨some 57, none, .load false 1, [.t 56]⟩, [1]) ::
 (⟨some 58, none, .app 3 1 none false, [.t 55, .t 57]⟩, []) ::
 (⟨some 59, none, .call 23, [.t 54, .t 58]⟩, []) ::
 (⟨some 52, none, .mov, [.t 59]⟩, []) ::
 (⟨some 60, none, .extract 0, [.t 52]⟩, []) ::
 (⟨some 61, none, .extract 1, [.t 52]⟩, []) ::
 (⟨some 9, none, .mov, [.t 60]⟩, []) ::
 (⟨some 10, none, .mov, [.t 61]⟩, []) ::
 []) [2, 3, 5, 6, 7, 8, 9, 10])
 (.seq (.reg [] (
 ⟨some 63, none, .load true 6, [.t 2]⟩ ::
 ⟨some 64, none, .faddr 0, [.t 3]⟩ ::
 ⟨some 65, none, .load false 1, [.t 64]⟩ ::
 ⟨some 66, none, .call 30, [.t 63, .t 65]⟩ ::
 ⟨some 62, none, .mov, [.t 66]⟩ ::
 ⟨some 67, none, .extract 0, [.t 62]⟩ ::
 ⟨some 68, none, .extract 1, [.t 62]⟩ ::
 ⟨some 11, none, .mov, [.t 67]⟩ ::
 ⟨some 12, none, .mov, [.t 68]⟩ ::
 []) [5, 6, 7, 8, 9, 10, 11, 12])
 (.seq (.reg [] (
 ⟨some 69, none, .mov, [.t 5]⟩ ::
 ⟨some 70, none, .mov, [.t 7]⟩ ::
 ⟨some 71, none, .call 18, [.t 69, .t 70]⟩ ::
 ⟨some 72, none, .mov, [.t 71]⟩ ::
 ⟨some 73, some (72, true), .mov, [.t 6]⟩ ::
 ⟨some 74, some (72, true), .mov, [.t 8]⟩ ::
 ⟨some 75, some (72, true), .bin .eql, [.t 73, .t 74]⟩ ::
 ⟨some 76, none, .pick, [.t 72, .t 75, .k (.d (.bool false))]⟩ ::
 ⟨some 77, none, .mov, [.t 76]⟩ ::
 ⟨some 78, some (77, true), .mov, [.t 9]⟩ ::
 ⟨some 79, some (77, true), .mov, [.t 11]⟩ ::
 ⟨some 80, some (77, true), .bin .eql, [.t 78, .t 79]⟩ ::
 ⟨some 81, none, .pick, [.t 77, .t 80, .k (.d (.bool false))]⟩ ::
 ⟨some 82, none, .mov, [.t 81]⟩ ::
 ⟨some 83, some (82, true), .mov, [.t 10]⟩ ::
 ⟨some 84, some (82, true), .mov, [.t 12]⟩ ::
 ⟨some 85, some (82, true), .bin .eql, [.t 83, .t 84]⟩ ::
 ⟨some 86, none, .pick, [.t 82, .t 85, .k (.d (.bool false))]⟩ ::
 ⟨some 87, none, .mov, [.t 86]⟩ ::
 ⟨some 88, some (87, true), .call 15, []⟩ ::
 ⟨some 89, none, .pick, [.t 87, .t 88, .k (.d (.bool false))]⟩ ::
 ⟨some 4, none, .mov, [.t 89]⟩ ::
 []) [4])
 (.ret)))))))
theorem dec_law04_CodesMarks : Fun E0 F_law04_CodesMarks pc_law04_CodesMarks [.t 4] 90 := fun_of_dec (fl := []) (by kernel_rfl)
abbrev F_law04_CodesRead : Nat := 9
abbrev F_law04_CodesRuns : Nat := 10
abbrev F_law04_CodesRule : Nat := 11
abbrev F_law04_CodesHolds : Nat := 12
-- platter/platterlaw04.valid (2)
abbrev F_law04_valid : Nat := 13
def pc_law04_valid : PC :=
 .seq (.reg [] (
 ⟨some 2, none, .box, [.t 0]⟩ ::
 ⟨some 4, none, .mov, [.k (.d (.bool false))]⟩ ::
 []) [1, 2])
 (.seq (.reg [] (
 ⟨some 5, none, .load true 6, [.t 2]⟩ ::
 ⟨some 6, none, .call 27, [.t 5]⟩ ::
 ⟨some 7, none, .un .not, [.t 6]⟩ ::
 ⟨some 8, none, .mov, [.t 7]⟩ ::
 ⟨some 9, some (8, true), .load true 6, [.t 2]⟩ ::
 ⟨some 10, some (8, true), .mov, [.t 1]⟩ ::
 ⟨some 11, some (8, true), .call 17, [.t 9, .t 10]⟩ ::
 ⟨some 12, some (8, true), .bin .eql, [.t 11, .k (.d (.int .i64 0))]⟩ ::
 ⟨some 13, none, .pick, [.t 8, .t 12, .k (.d (.bool false))]⟩ ::
 ⟨some 4, none, .mov, [.t 13]⟩ ::
 []) [4])
 (.ret))
theorem dec_law04_valid : Fun E0 F_law04_valid pc_law04_valid [.t 4] 14 := fun_of_dec (fl := []) (by kernel_rfl)
-- platter/platterref04.IsData (2)
abbrev F_ref04_IsData : Nat := 14
def pc_ref04_IsData : PC :=
 .seq (.reg [] (
 ⟨some 2, none, .box, [.t 0]⟩ ::
 ⟨some 4, none, .mov, [.k (.d (.bool false))]⟩ ::
 []) [1, 2])
 (.seq (.seq (.reg [] (
 ⟨some 5, none, .mov, [.k (.d (.int .i64 0))]⟩ ::
 []) [1, 2, 5])
 (.block 0
 (.loop [] [1, 2, 5] [2, 900000, 900001, 901000, 901001]
 (.seq (.seq (.reg [] (
 ⟨some 6, none, .mov, [.t 5]⟩ ::
 ⟨some 7, none, .mov, [.t 1]⟩ ::
 ⟨some 8, none, .len false, [.t 7]⟩ ::
 ⟨some 9, none, .bin .lss, [.t 6, .t 8]⟩ ::
 []) [1, 2, 5, 9])
 (.cond (.t 9)
 (.skip)
 (.exit 0)))
 (.seq (.block 1
 (.seq (.draw [] (
 (⟨some 12, none, .mov, [.t 1]⟩, []) ::
 (⟨some 13, none, .mov, [.t 5]⟩, []) ::
 (⟨some 14, none, .iaddrS 1, [.t 12, .t 13]⟩, []) ::
 (⟨some 15, none, .load false 1, [.t 14]⟩, []) ::
 (⟨some 16, none, .faddr 0, [.t 2]⟩, []) ::
 (⟨some 17, none, .load false 1, [.t 16]⟩, []) ::
 (⟨some 18, none, .conv .u64, [.t 17]⟩, []) ::
 (⟨some 19, none, .bin .shl, [.k (.d (.int .i64 1)), .t 18]⟩, []) ::
 (⟨some 20, none, .bin .sub, [.t 19, .k (.d (.int .i64 1))]⟩, []) ::
 (⟨some 21, none, .call 43, [.t 15, .k (.d (.int .i64 0)), .t 20]⟩, []) ::
 (⟨some 22, none, .un .not, [.t 21]⟩, []) ::
 []) [1, 2, 5, 22])
 (.cond (.t 22)
 (.seq (.reg [] (
 ⟨some 4, none, .mov, [.k (.d (.bool false))]⟩ ::
 []) [4])
 (.ret))
 (.skip))))
 (.reg [] (
 ⟨some 10, none, .mov, [.t 5]⟩ ::
 ⟨some 11, none, .bin .add, [.t 10, .k (.d (.int .i64 1))]⟩ ::
 ⟨some 5, none, .mov, [.t 11]⟩ ::
 []) [1, 2, 5]))))))
 (.seq (.reg [] (
 ⟨some 23, none, .mov, [.t 1]⟩ ::
 ⟨some 24, none, .len false, [.t 23]⟩ ::
 ⟨some 25, none, .bin .leq, [.t 24, .k (.d (.int .i64 24))]⟩ ::
 ⟨some 4, none, .mov, [.t 25]⟩ ::
 []) [4])
 (.ret)))
theorem dec_ref04_IsData : Fun E0 F_ref04_IsData pc_ref04_IsData [.t 4] 26 := fun_of_dec (fl := []) (by kernel_rfl)
-- platter/platterlaw04.works (0)
abbrev F_law04_works : Nat := 15
def pc_law04_works : PC :=
 .seq (.reg [] (
 ⟨some 0, none, .mov, [.k (.d (.bool false))]⟩ ::
 []) [])
 (.seq (.reg [] (
 ⟨some 9, none, .call 44, []⟩ ::
 ⟨some 10, none, .mkrow 1 (.int .i64 0) 3 [0, 1, 2], [.k (.d (.int .i64 1)), .k (.d (.int .i64 0)), .k (.d (.int .i64 1))]⟩ ::
 ⟨some 11, none, .call 16, [.t 9, .k (.d (.int .i64 0)), .t 10]⟩ ::
 ⟨some 8, none, .mov, [.t 11]⟩ ::
 ⟨some 12, none, .extract 0, [.t 8]⟩ ::
 ⟨some 13, none, .extract 1, [.t 8]⟩ ::
 ⟨some 14, none, .extract 2, [.t 8]⟩ ::
 ⟨some 1, none, .mov, [.t 12]⟩ ::
 ⟨some 2, none, .mov, [.t 13]⟩ ::
 ⟨some 3, none, .mov, [.t 14]⟩ ::
 []) [1, 2, 3])
 (.seq (.reg [] (
 ⟨some 16, none, .call 44, []⟩ ::
 ⟨some 17, none, .call 31, [.t 16]⟩ ::
 ⟨some 15, none, .mov, [.t 17]⟩ ::
 ⟨some 18, none, .extract 0, [.t 15]⟩ ::
 ⟨some 19, none, .extract 1, [.t 15]⟩ ::
 ⟨some 4, none, .mov, [.t 18]⟩ ::
 ⟨some 5, none, .mov, [.t 19]⟩ ::
 []) [1, 2, 3, 4, 5])
 (.seq (.reg [] (
 ⟨some 21, none, .mkrow 1 (.int .i64 0) 6 [0, 1, 2, 3, 4, 5], [.k (.d (.int .i64 1)), .k (.d (.int .i64 0)), .k (.d (.int .i64 0)), .k (.d (.int .i64 0)), .k (.d (.int .i64 0)), .k (.d (.int .i64 1))]⟩ ::
 ⟨some 22, none, .mkrow 1 (.int .i64 0) 9 [0, 1, 2, 3, 4, 5, 6, 7, 8], [.k (.d (.int .i64 0)), .k (.d (.int .i64 1)), .k (.d (.int .i64 0)), .k (.d (.int .i64 0)), .k (.d (.int .i64 0)), .k (.d (.int .i64 0)), .k (.d (.int .i64 1)), .k (.d (.int .i64 0)), .k (.d (.int .i64 1))]⟩ ::
 ⟨some 23, none, .call 24, [.t 21, .t 22, .k (.d (.int .i64 2))]⟩ ::
 ⟨some 20, none, .mov, [.t 23]⟩ ::
 ⟨some 24, none, .extract 0, [.t 20]⟩ ::
 ⟨some 25, none, .extract 1, [.t 20]⟩ ::
 ⟨some 6, none, .mov, [.t 24]⟩ ::
 ⟨some 7, none, .mov, [.t 25]⟩ ::
 []) [1, 2, 3, 4, 5, 6, 7])
 (.seq (.reg [] (
 ⟨some 26, none, .mov, [.t 3]⟩ ::
 ⟨some 27, none, .bin .eql, [.t 26, .k (.d (.int .i64 0))]⟩ ::
 ⟨some 28, none, .mov, [.t 27]⟩ ::
 ⟨some 29, some (28, true), .mov, [.t 5]⟩ ::
 ⟨some 30, some (28, true), .bin .eql, [.t 29, .k (.d (.int .i64 0))]⟩ ::
 ⟨some 31, none, .pick, [.t 28, .t 30, .k (.d (.bool false))]⟩ ::
 ⟨some 32, none, .mov, [.t 31]⟩ ::
 ⟨some 33, some (32, true), .mov, [.t 7]⟩ ::
 ⟨some 34, some (32, true), .bin .eql, [.t 33, .k (.d (.int .i64 0))]⟩ ::
 ⟨some 35, none, .pick, [.t 32, .t 34, .k (.d (.bool false))]⟩ ::
 ⟨some 36, none, .mov, [.t 35]⟩ ::
 ⟨some 37, some (36, true), .mov, [.t 1]⟩ ::
 ⟨some 38, some (36, true), .mkrow 1 (.int .i64 0) 6 [0, 1, 2, 3, 4, 5], [.k (.d (.int .i64 0)), .k (.d (.int .i64 1)), .k (.d (.int .i64 0)), .k (.d (.int .i64 0)), .k (.d (.int .i64 0)), .k (.d (.int .i64 1))]⟩ ::
 ⟨some 39, some (36, true), .call 18, [.t 37, .t 38]⟩ ::
 ⟨some 40, none, .pick, [.t 36, .t 39, .k (.d (.bool false))]⟩ ::
 ⟨some 41, none, .mov, [.t 40]⟩ ::
 ⟨some 42, some (41, true), .mov, [.t 2]⟩ ::
 ⟨some 43, some (41, true), .bin .eql, [.t 42, .k (.d (.int .i64 1))]⟩ ::
 ⟨some 44, none, .pick, [.t 41, .t 43, .k (.d (.bool false))]⟩ ::
 ⟨some 45, none, .mov, [.t 44]⟩ ::
 ⟨some 46, some (45, true), .mov, [.t 4]⟩ ::
 ⟨some 47, some (45, true), .bin .eql, [.t 46, .k (.d (.int .i64 1))]⟩ ::
 ⟨some 48, none, .pick, [.t 45, .t 47, .k (.d (.bool false))]⟩ ::
 ⟨some 49, none, .mov, [.t 48]⟩ ::
 ⟨some 50, some (49, true), .mov, [.t 6]⟩ ::
 ⟨some 51, some (49, true), .mkrow 1 (.int .i64 0) 2 [0, 1], [.k (.d (.int .i64 1)), .k (.d (.int .i64 3))]⟩ ::
 ⟨some 52, some (49, true), .call 18, [.t 50, .t 51]⟩ ::
 ⟨some 53, none, .pick, [.t 49, .t 52, .k (.d (.bool false))]⟩ ::
 ⟨some 0, none, .mov, [.t 53]⟩ ::
 []) [0])
 (.ret)))))
theorem dec_law04_works : Fun E0 F_law04_works pc_law04_works [.t 0] 54 := fun_of_dec (fl := []) (by kernel_rfl)
-- platter/codes.Encode (3)
abbrev F_codes_Encode : Nat := 16
def pc_codes_Encode : PC :=
 .seq (.reg [] (
 ⟨some 3, none, .box, [.t 0]⟩ ::
 ⟨some 6, none, .mov, [.k (.d (.list true []))]⟩ ::
 ⟨some 7, none, .mov, [.k (.d (.int .i64 0))]⟩ ::
 ⟨some 8, none, .mov, [.k (.d (.int .i64 0))]⟩ ::
 []) [1, 2, 3, 6])
 (.seq (.reg [] (
 ⟨some 13, none, .load true 6, [.t 3]⟩ ::
 ⟨some 14, none, .mov, [.t 1]⟩ ::
 ⟨some 15, none, .call 45, [.t 13, .t 14]⟩ ::
 ⟨some 12, none, .mov, [.t 15]⟩ ::
 ⟨some 16, none, .extract 0, [.t 12]⟩ ::
 ⟨some 17, none, .extract 1, [.t 12]⟩ ::
 ⟨some 9, none, .zero [.int .i64 0, .int .i64 0, .int .i64 0, .int .i64 0, .list true [], .list true []], []⟩ ::
 ⟨none, none, .store 6, [.t 9, .t 16]⟩ ::
 ⟨some 8, none, .mov, [.t 17]⟩ ::
 []) [1, 2, 6, 8, 9])
 (.seq (.seq (.reg [] (
 ⟨some 18, none, .mov, [.t 8]⟩ ::
 ⟨some 19, none, .bin .neq, [.t 18, .k (.d (.int .i64 0))]⟩ ::
 []) [1, 2, 6, 8, 9, 19])
 (.cond (.t 19)
 (.seq (.reg [] (
 ⟨some 20, none, .mov, [.t 8]⟩ ::
 ⟨some 6, none, .mov, [.k (.d (.list true []))]⟩ ::
 ⟨some 7, none, .mov, [.k (.d (.int .i64 0))]⟩ ::
 ⟨some 8, none, .mov, [.t 20]⟩ ::
 []) [6, 7, 8])
 (.ret))
 (.skip)))
 (.seq (.seq (.reg [.frzP 9] (
 ⟨some 21, none, .mov, [.t 2]⟩ ::
 ⟨some 22, none, .len false, [.t 21]⟩ ::
 ⟨some 23, none, .bin .gtr, [.t 22, .k (.d (.int .i64 24))]⟩ ::
 ⟨some 24, none, .mov, [.t 23]⟩ ::
 ⟨some 25, some (24, false), .mov, [.t 2]⟩ ::
 ⟨some 26, some (24, false), .mkfn 47, [.t 9]⟩ ::
 ⟨some 27, some (24, false), .call 46, [.t 25, .t 26]⟩ ::
 ⟨some 28, none, .pick, [.t 24, .k (.d (.bool true)), .t 27]⟩ ::
 []) [1, 2, 6, 9, 28])
 (.cond (.t 28)
 (.seq (.reg [] (
 ⟨some 6, none, .mov, [.k (.d (.list true []))]⟩ ::
 ⟨some 7, none, .mov, [.k (.d (.int .i64 0))]⟩ ::
 ⟨some 8, none, .mov, [.k (.d (.int .i64 42))]⟩ ::
 []) [6, 7, 8])
 (.ret))
 (.skip)))
 (.seq (.seq (.reg [] (
 ⟨some 29, none, .mov, [.t 2]⟩ ::
 ⟨some 30, none, .len false, [.t 29]⟩ ::
 ⟨some 31, none, .mov, [.k (.d (.int .i64 0))]⟩ ::
 []) [1, 6, 9, 29, 30, 31])
 (.block 0
 (.loop [.own 6 40 3 1] [1, 6, 9, 29, 30, 31] [9, 15, 40, 10015, 900001, 900002, 901001, 901002]
 (.seq (.reg [] (
 ⟨some 32, none, .bin .lss, [.t 31, .t 30]⟩ ::
 []) [1, 6, 9, 29, 30, 31, 32])
 (.seq (.cond (.t 32)
 (.skip)
 (.exit 0))
 (.seq (.block 1
 (.seq (.reg [] (
 ⟨some 33, none, .iaddrS 1, [.t 29, .t 31]⟩ ::
 ⟨some 34, none, .load false 1, [.t 33]⟩ ::
 ⟨some 11, none, .mov, [.t 34]⟩ ::
 []) [1, 6, 9, 11, 29, 30, 31])
 (.seq (.reg [] (
 ⟨some 35, none, .mov, [.t 6]⟩ ::
 ⟨some 36, none, .load true 6, [.t 9]⟩ ::
 ⟨some 37, none, .mov, [.t 1]⟩ ::
 ⟨some 38, none, .mov, [.t 11]⟩ ::
 ⟨some 39, none, .call 50, [.t 36, .t 37, .t 38]⟩ ::
 ⟨some 40, none, .app 3 1 none true, [.t 35, .t 39]⟩ ::
 ⟨some 6, none, .mov, [.t 40]⟩ ::
 []) [1, 6, 9, 11, 29, 30, 31])
 (.reg [] (
 ⟨some 41, none, .faddr 0, [.t 9]⟩ ::
 ⟨some 42, none, .faddr 5, [.t 41]⟩ ::
 ⟨some 43, none, .load false 1, [.t 42]⟩ ::
 ⟨some 44, none, .mov, [.t 1]⟩ ::
 ⟨some 45, none, .iaddrS 1, [.t 43, .t 44]⟩ ::
 ⟨some 46, none, .load false 1, [.t 45]⟩ ::
 ⟨some 47, none, .mov, [.t 11]⟩ ::
 ⟨some 48, none, .iaddrS 1, [.t 46, .t 47]⟩ ::
 ⟨some 49, none, .load false 1, [.t 48]⟩ ::
 ⟨some 1, none, .mov, [.t 49]⟩ ::
 []) [1, 6, 9, 29, 30, 31]))))
 (.reg [] (
 ⟨some 50, none, .bin .add, [.t 31, .k (.d (.int .i64 1))]⟩ ::
 ⟨some 31, none, .mov, [.t 50]⟩ ::
 []) [1, 6, 9, 29, 30, 31])))))))
 (.seq (.reg [] (
 ⟨some 51, none, .mov, [.t 6]⟩ ::
 ⟨some 52, none, .mov, [.t 1]⟩ ::
 ⟨some 6, none, .mov, [.t 51]⟩ ::
 ⟨some 7, none, .mov, [.t 52]⟩ ::
 ⟨some 8, none, .mov, [.k (.d (.int .i64 0))]⟩ ::
 []) [6, 7, 8])
 (.ret))))))
theorem dec_codes_Encode : Fun E0 F_codes_Encode pc_codes_Encode [.t 6, .t 7, .t 8] 53 := fun_of_dec (fl := []) (by kernel_rfl)
-- platter/platterref04.CheckState (2)
abbrev F_ref04_CheckState : Nat := 17
def pc_ref04_CheckState : PC :=
 .seq (.reg [] (
 ⟨some 2, none, .box, [.t 0]⟩ ::
 ⟨some 4, none, .mov, [.k (.d (.int .i64 0))]⟩ ::
 []) [1, 2])
 (.seq (.seq (.reg [] (
 ⟨some 5, none, .load true 6, [.t 2]⟩ ::
 ⟨some 6, none, .call 34, [.t 5]⟩ ::
 ⟨some 7, none, .bin .neq, [.t 6, .k (.d (.int .i64 0))]⟩ ::
 []) [1, 2, 7])
 (.cond (.t 7)
 (.seq (.reg [] (
 ⟨some 4, none, .mov, [.k (.d (.int .i64 40))]⟩ ::
 []) [4])
 (.ret))
 (.skip)))
 (.seq (.seq (.reg [] (
 ⟨some 8, none, .mov, [.t 1]⟩ ::
 ⟨some 9, none, .faddr 4, [.t 2]⟩ ::
 ⟨some 10, none, .load false 1, [.t 9]⟩ ::
 ⟨some 11, none, .len false, [.t 10]⟩ ::
 ⟨some 12, none, .bin .sub, [.t 11, .k (.d (.int .i64 1))]⟩ ::
 ⟨some 13, none, .call 43, [.t 8, .k (.d (.int .i64 0)), .t 12]⟩ ::
 ⟨some 14, none, .un .not, [.t 13]⟩ ::
 []) [14])
 (.cond (.t 14)
 (.seq (.reg [] (
 ⟨some 4, none, .mov, [.k (.d (.int .i64 41))]⟩ ::
 []) [4])
 (.ret))
 (.skip)))
 (.seq (.reg [] (
 ⟨some 4, none, .mov, [.k (.d (.int .i64 0))]⟩ ::
 []) [4])
 (.ret))))
theorem dec_ref04_CheckState : Fun E0 F_ref04_CheckState pc_ref04_CheckState [.t 4] 15 := fun_of_dec (fl := []) (by kernel_rfl)
-- platter/platterlaw04.sameInts (2)
abbrev F_law04_sameInts : Nat := 18
def pc_law04_sameInts : PC :=
 .seq (.reg [] (
 ⟨some 4, none, .mov, [.k (.d (.bool false))]⟩ ::
 []) [0, 1])
 (.seq (.seq (.reg [] (
 ⟨some 6, none, .mov, [.t 0]⟩ ::
 ⟨some 7, none, .len false, [.t 6]⟩ ::
 ⟨some 8, none, .mov, [.t 1]⟩ ::
 ⟨some 9, none, .len false, [.t 8]⟩ ::
 ⟨some 10, none, .bin .neq, [.t 7, .t 9]⟩ ::
 []) [0, 1, 10])
 (.cond (.t 10)
 (.seq (.reg [] (
 ⟨some 4, none, .mov, [.k (.d (.bool false))]⟩ ::
 []) [4])
 (.ret))
 (.skip)))
 (.seq (.seq (.reg [] (
 ⟨some 5, none, .mov, [.k (.d (.int .i64 0))]⟩ ::
 []) [0, 1, 5])
 (.block 0
 (.loop [] [0, 1, 5] [900000, 900001, 901000, 901001]
 (.seq (.seq (.reg [] (
 ⟨some 11, none, .mov, [.t 5]⟩ ::
 ⟨some 12, none, .mov, [.t 0]⟩ ::
 ⟨some 13, none, .len false, [.t 12]⟩ ::
 ⟨some 14, none, .bin .lss, [.t 11, .t 13]⟩ ::
 []) [0, 1, 5, 14])
 (.cond (.t 14)
 (.skip)
 (.exit 0)))
 (.seq (.block 1
 (.seq (.draw [] (
 (⟨some 17, none, .mov, [.t 0]⟩, []) ::
 (⟨some 18, none, .mov, [.t 5]⟩, []) ::
 (⟨some 19, none, .iaddrS 1, [.t 17, .t 18]⟩, []) ::
 (⟨some 20, none, .load false 1, [.t 19]⟩, []) ::
 (⟨some 21, none, .mov, [.t 1]⟩, []) ::
 (⟨some 22, none, .mov, [.t 5]⟩, []) ::
 (⟨some 23, none, .iaddrS 1, [.t 21, .t 22]⟩, []) ::
 (⟨some 24, none, .load false 1, [.t 23]⟩, []) ::
 (⟨some 25, none, .bin .neq, [.t 20, .t 24]⟩, []) ::
 []) [0, 1, 5, 25])
 (.cond (.t 25)
 (.seq (.reg [] (
 ⟨some 4, none, .mov, [.k (.d (.bool false))]⟩ ::
 []) [4])
 (.ret))
 (.skip))))
 (.reg [] (
 ⟨some 15, none, .mov, [.t 5]⟩ ::
 ⟨some 16, none, .bin .add, [.t 15, .k (.d (.int .i64 1))]⟩ ::
 ⟨some 5, none, .mov, [.t 16]⟩ ::
 []) [0, 1, 5]))))))
 (.seq (.reg [] (
 ⟨some 4, none, .mov, [.k (.d (.bool true))]⟩ ::
 []) [4])
 (.ret))))
theorem dec_law04_sameInts : Fun E0 F_law04_sameInts pc_law04_sameInts [.t 4] 26 := fun_of_dec (fl := []) (by kernel_rfl)
-- platter/platterref04.AreBits (1)
abbrev F_ref04_AreBits : Nat := 19
def pc_ref04_AreBits : PC :=
 .seq (.reg [] (
 ⟨some 2, none, .mov, [.k (.d (.bool false))]⟩ ::
 []) [0])
 (.seq (.seq (.reg [] (
 ⟨some 3, none, .mov, [.k (.d (.int .i64 0))]⟩ ::
 []) [0, 3])
 (.block 0
 (.loop [] [0, 3] [900000, 901000]
 (.seq (.seq (.reg [] (
 ⟨some 4, none, .mov, [.t 3]⟩ ::
 ⟨some 5, none, .mov, [.t 0]⟩ ::
 ⟨some 6, none, .len false, [.t 5]⟩ ::
 ⟨some 7, none, .bin .lss, [.t 4, .t 6]⟩ ::
 []) [0, 3, 7])
 (.cond (.t 7)
 (.skip)
 (.exit 0)))
 (.seq (.block 1
 (.seq (.reg [] (
 ⟨some 10, none, .mov, [.t 0]⟩ ::
 ⟨some 11, none, .mov, [.t 3]⟩ ::
 ⟨some 12, none, .iaddrS 1, [.t 10, .t 11]⟩ ::
 ⟨some 13, none, .load false 1, [.t 12]⟩ ::
 ⟨some 14, none, .call 43, [.t 13, .k (.d (.int .i64 0)), .k (.d (.int .i64 1))]⟩ ::
 ⟨some 15, none, .un .not, [.t 14]⟩ ::
 []) [0, 3, 15])
 (.cond (.t 15)
 (.seq (.reg [] (
 ⟨some 2, none, .mov, [.k (.d (.bool false))]⟩ ::
 []) [2])
 (.ret))
 (.skip))))
 (.reg [] (
 ⟨some 8, none, .mov, [.t 3]⟩ ::
 ⟨some 9, none, .bin .add, [.t 8, .k (.d (.int .i64 1))]⟩ ::
 ⟨some 3, none, .mov, [.t 9]⟩ ::
 []) [0, 3]))))))
 (.seq (.reg [] (
 ⟨some 2, none, .mov, [.k (.d (.bool true))]⟩ ::
 []) [2])
 (.ret)))
theorem dec_ref04_AreBits : Fun E0 F_ref04_AreBits pc_ref04_AreBits [.t 2] 16 := fun_of_dec (fl := []) (by kernel_rfl)
-- platter/codes.Scramble (2)
abbrev F_codes_Scramble : Nat := 20
def pc_codes_Scramble : PC :=
 .seq (.reg [] (
 ⟨some 4, none, .mov, [.k (.d (.list true []))]⟩ ::
 ⟨some 5, none, .mov, [.k (.d (.int .i64 0))]⟩ ::
 []) [0, 1])
 (.seq (.seq (.reg [] (
 ⟨some 10, none, .mov, [.t 0]⟩ ::
 ⟨some 11, none, .call 48, [.t 10, .k (.d (.int .i64 1)), .k (.d (.int .i64 127))]⟩ ::
 ⟨some 12, none, .un .not, [.t 11]⟩ ::
 ⟨some 13, none, .mov, [.t 12]⟩ ::
 ⟨some 14, some (13, false), .mov, [.t 1]⟩ ::
 ⟨some 15, some (13, false), .len false, [.t 14]⟩ ::
 ⟨some 16, some (13, false), .bin .gtr, [.t 15, .k (.d (.int .i64 128))]⟩ ::
 ⟨some 17, none, .pick, [.t 13, .k (.d (.bool true)), .t 16]⟩ ::
 ⟨some 18, none, .mov, [.t 17]⟩ ::
 ⟨some 19, some (18, false), .mov, [.t 1]⟩ ::
 ⟨some 20, some (18, false), .call 51, [.t 19]⟩ ::
 ⟨some 21, some (18, false), .un .not, [.t 20]⟩ ::
 ⟨some 22, none, .pick, [.t 18, .k (.d (.bool true)), .t 21]⟩ ::
 []) [0, 1, 22])
 (.cond (.t 22)
 (.seq (.reg [] (
 ⟨some 4, none, .mov, [.k (.d (.list true []))]⟩ ::
 ⟨some 5, none, .mov, [.k (.d (.int .i64 1))]⟩ ::
 []) [4, 5])
 (.ret))
 (.skip)))
 (.seq (.reg [] (
 ⟨some 6, none, .mov, [.k (.d (.list true []))]⟩ ::
 []) [0, 1, 6])
 (.seq (.seq (.reg [] (
 ⟨some 23, none, .mov, [.t 1]⟩ ::
 ⟨some 24, none, .len false, [.t 23]⟩ ::
 ⟨some 25, none, .mov, [.k (.d (.int .i64 0))]⟩ ::
 []) [0, 6, 23, 24, 25])
 (.block 0
 (.loop [.own 6 37 3 1] [0, 6, 23, 24, 25] [37, 900000, 900001, 901000, 901001]
 (.seq (.reg [] (
 ⟨some 26, none, .bin .lss, [.t 25, .t 24]⟩ ::
 []) [0, 6, 23, 24, 25, 26])
 (.seq (.cond (.t 26)
 (.skip)
 (.exit 0))
 (.seq (.block 1
 (.seq (.reg [] (
 ⟨some 27, none, .iaddrS 1, [.t 23, .t 25]⟩ ::
 ⟨some 28, none, .load false 1, [.t 27]⟩ ::
 ⟨some 8, none, .mov, [.t 28]⟩ ::
 []) [0, 6, 8, 23, 24, 25])
 (.seq (.reg [] (
 ⟨some 29, none, .mov, [.t 0]⟩ ::
 ⟨some 30, none, .bin .shr, [.t 29, .k (.d (.int .u64 6))]⟩ ::
 ⟨some 31, none, .bin .and, [.t 30, .k (.d (.int .i64 1))]⟩ ::
 ⟨some 9, none, .mov, [.t 31]⟩ ::
 []) [0, 6, 8, 9, 23, 24, 25])
 (.seq (.reg [] (
 ⟨some 32, none, .mov, [.t 6]⟩ ::
 ⟨some 33, none, .mov, [.t 8]⟩ ::
 ⟨some 34, none, .mov, [.t 9]⟩ ::
 ⟨some 35, none, .bin .xor, [.t 33, .t 34]⟩ ::
 ⟨some 36, none, .mkrow 1 (.int .i64 0) 1 [0], [.t 35]⟩ ::
 ⟨some 37, none, .app 3 1 none true, [.t 32, .t 36]⟩ ::
 ⟨some 6, none, .mov, [.t 37]⟩ ::
 []) [0, 6, 9, 23, 24, 25])
 (.reg [] (
 ⟨some 38, none, .mov, [.t 0]⟩ ::
 ⟨some 39, none, .bin .shl, [.t 38, .k (.d (.int .u64 1))]⟩ ::
 ⟨some 40, none, .bin .and, [.t 39, .k (.d (.int .i64 127))]⟩ ::
 ⟨some 41, none, .mov, [.t 9]⟩ ::
 ⟨some 42, none, .mov, [.t 0]⟩ ::
 ⟨some 43, none, .bin .shr, [.t 42, .k (.d (.int .u64 5))]⟩ ::
 ⟨some 44, none, .bin .and, [.t 43, .k (.d (.int .i64 1))]⟩ ::
 ⟨some 45, none, .bin .xor, [.t 41, .t 44]⟩ ::
 ⟨some 46, none, .bin .or, [.t 40, .t 45]⟩ ::
 ⟨some 0, none, .mov, [.t 46]⟩ ::
 []) [0, 6, 23, 24, 25])))))
 (.reg [] (
 ⟨some 47, none, .bin .add, [.t 25, .k (.d (.int .i64 1))]⟩ ::
 ⟨some 25, none, .mov, [.t 47]⟩ ::
 []) [0, 6, 23, 24, 25])))))))
 (.seq (.reg [] (
 ⟨some 48, none, .mov, [.t 6]⟩ ::
 ⟨some 4, none, .mov, [.t 48]⟩ ::
 ⟨some 5, none, .mov, [.k (.d (.int .i64 0))]⟩ ::
 []) [4, 5])
 (.ret)))))
theorem dec_codes_Scramble : Fun E0 F_codes_Scramble pc_codes_Scramble [.t 4, .t 5] 49 := fun_of_dec (fl := []) (by kernel_rfl)
-- platter/platterref04.Scramble (2)
abbrev F_ref04_Scramble : Nat := 21
def pc_ref04_Scramble : PC :=
 .seq (.reg [] (
 ⟨some 4, none, .mov, [.k (.d (.list true []))]⟩ ::
 ⟨some 5, none, .mov, [.k (.d (.int .i64 0))]⟩ ::
 []) [0, 1])
 (.seq (.seq (.reg [] (
 ⟨some 11, none, .mov, [.t 0]⟩ ::
 ⟨some 12, none, .call 43, [.t 11, .k (.d (.int .i64 1)), .k (.d (.int .i64 127))]⟩ ::
 ⟨some 13, none, .un .not, [.t 12]⟩ ::
 ⟨some 14, none, .mov, [.t 13]⟩ ::
 ⟨some 15, some (14, false), .mov, [.t 1]⟩ ::
 ⟨some 16, some (14, false), .len false, [.t 15]⟩ ::
 ⟨some 17, some (14, false), .bin .gtr, [.t 16, .k (.d (.int .i64 128))]⟩ ::
 ⟨some 18, none, .pick, [.t 14, .k (.d (.bool true)), .t 17]⟩ ::
 ⟨some 19, none, .mov, [.t 18]⟩ ::
 ⟨some 20, some (19, false), .mov, [.t 1]⟩ ::
 ⟨some 21, some (19, false), .call 19, [.t 20]⟩ ::
 ⟨some 22, some (19, false), .un .not, [.t 21]⟩ ::
 ⟨some 23, none, .pick, [.t 19, .k (.d (.bool true)), .t 22]⟩ ::
 []) [0, 1, 23])
 (.cond (.t 23)
 (.seq (.reg [] (
 ⟨some 4, none, .mov, [.k (.d (.list true []))]⟩ ::
 ⟨some 5, none, .mov, [.k (.d (.int .i64 1))]⟩ ::
 []) [4, 5])
 (.ret))
 (.skip)))
 (.seq (.reg [] (
 ⟨some 6, none, .mov, [.k (.d (.list true []))]⟩ ::
 []) [0, 1, 6])
 (.seq (.reg [] (
 ⟨some 24, none, .mov, [.t 0]⟩ ::
 ⟨some 7, none, .mov, [.t 24]⟩ ::
 []) [1, 6, 7])
 (.seq (.seq (.reg [] (
 ⟨some 8, none, .mov, [.k (.d (.int .i64 0))]⟩ ::
 []) [1, 6, 7, 8])
 (.block 0
 (.loop [.own 6 46 3 1] [1, 6, 7, 8] [46, 900000, 900001, 901000, 901001]
 (.seq (.seq (.reg [] (
 ⟨some 25, none, .mov, [.t 8]⟩ ::
 ⟨some 26, none, .mov, [.t 1]⟩ ::
 ⟨some 27, none, .len false, [.t 26]⟩ ::
 ⟨some 28, none, .bin .lss, [.t 25, .t 27]⟩ ::
 []) [1, 6, 7, 8, 28])
 (.cond (.t 28)
 (.skip)
 (.exit 0)))
 (.seq (.block 1
 (.seq (.reg [] (
 ⟨some 31, none, .mov, [.t 7]⟩ ::
 ⟨some 32, none, .bin .quo, [.t 31, .k (.d (.int .i64 64))]⟩ ::
 ⟨some 33, none, .bin .rem, [.t 32, .k (.d (.int .i64 2))]⟩ ::
 ⟨some 34, none, .mov, [.t 7]⟩ ::
 ⟨some 35, none, .bin .quo, [.t 34, .k (.d (.int .i64 32))]⟩ ::
 ⟨some 36, none, .bin .rem, [.t 35, .k (.d (.int .i64 2))]⟩ ::
 ⟨some 9, none, .mov, [.t 33]⟩ ::
 ⟨some 10, none, .mov, [.t 36]⟩ ::
 []) [1, 6, 7, 8, 9, 10])
 (.seq (.reg [] (
 ⟨some 37, none, .mov, [.t 6]⟩ ::
 ⟨some 38, none, .mov, [.t 1]⟩ ::
 ⟨some 39, none, .mov, [.t 8]⟩ ::
 ⟨some 40, none, .iaddrS 1, [.t 38, .t 39]⟩ ::
 ⟨some 41, none, .load false 1, [.t 40]⟩ ::
 ⟨some 42, none, .mov, [.t 9]⟩ ::
 ⟨some 43, none, .bin .add, [.t 41, .t 42]⟩ ::
 ⟨some 44, none, .bin .rem, [.t 43, .k (.d (.int .i64 2))]⟩ ::
 ⟨some 45, none, .mkrow 1 (.int .i64 0) 1 [0], [.t 44]⟩ ::
 ⟨some 46, none, .app 3 1 none true, [.t 37, .t 45]⟩ ::
 ⟨some 6, none, .mov, [.t 46]⟩ ::
 []) [1, 6, 7, 8, 9, 10])
 (.reg [] (
 ⟨some 47, none, .mov, [.t 7]⟩ ::
 ⟨some 48, none, .bin .mul, [.k (.d (.int .i64 2)), .t 47]⟩ ::
 ⟨some 49, none, .mov, [.t 9]⟩ ::
 ⟨some 50, none, .mov, [.t 10]⟩ ::
 ⟨some 51, none, .bin .add, [.t 49, .t 50]⟩ ::
 ⟨some 52, none, .bin .rem, [.t 51, .k (.d (.int .i64 2))]⟩ ::
 ⟨some 53, none, .bin .add, [.t 48, .t 52]⟩ ::
 ⟨some 54, none, .bin .rem, [.t 53, .k (.d (.int .i64 128))]⟩ ::
 ⟨some 7, none, .mov, [.t 54]⟩ ::
 []) [1, 6, 7, 8]))))
 (.reg [] (
 ⟨some 29, none, .mov, [.t 8]⟩ ::
 ⟨some 30, none, .bin .add, [.t 29, .k (.d (.int .i64 1))]⟩ ::
 ⟨some 8, none, .mov, [.t 30]⟩ ::
 []) [1, 6, 7, 8]))))))
 (.seq (.reg [] (
 ⟨some 55, none, .mov, [.t 6]⟩ ::
 ⟨some 4, none, .mov, [.t 55]⟩ ::
 ⟨some 5, none, .mov, [.k (.d (.int .i64 0))]⟩ ::
 []) [4, 5])
 (.ret))))))
theorem dec_ref04_Scramble : Fun E0 F_ref04_Scramble pc_ref04_Scramble [.t 4, .t 5] 56 := fun_of_dec (fl := []) (by kernel_rfl)
-- platter/platterref04.IsMark (1)
abbrev F_ref04_IsMark : Nat := 22
def pc_ref04_IsMark : PC :=
 .seq (.reg [] (
 ⟨some 2, none, .mov, [.k (.d (.bool false))]⟩ ::
 []) [0])
 (.seq (.reg [] (
 ⟨some 3, none, .mov, [.t 0]⟩ ::
 ⟨some 4, none, .len false, [.t 3]⟩ ::
 ⟨some 5, none, .call 43, [.t 4, .k (.d (.int .i64 1)), .k (.d (.int .i64 16))]⟩ ::
 ⟨some 6, none, .mov, [.t 5]⟩ ::
 ⟨some 7, some (6, true), .mov, [.t 0]⟩ ::
 ⟨some 8, some (6, true), .call 19, [.t 7]⟩ ::
 ⟨some 9, none, .pick, [.t 6, .t 8, .k (.d (.bool false))]⟩ ::
 ⟨some 2, none, .mov, [.t 9]⟩ ::
 []) [2])
 (.ret))
theorem dec_ref04_IsMark : Fun E0 F_ref04_IsMark pc_ref04_IsMark [.t 2] 10 := fun_of_dec (fl := []) (by kernel_rfl)
-- platter/codes.Apart (2)
abbrev F_codes_Apart : Nat := 23
def pc_codes_Apart : PC :=
 .seq (.reg [] (
 ⟨some 2, none, .box, [.t 0]⟩ ::
 ⟨some 4, none, .mov, [.k (.d (.int .i64 0))]⟩ ::
 ⟨some 5, none, .mov, [.k (.d (.int .i64 0))]⟩ ::
 []) [1, 2])
 (.seq (.seq (.reg [] (
 ⟨some 12, none, .load true 6, [.t 2]⟩ ::
 ⟨some 13, none, .call 33, [.t 12]⟩ ::
 ⟨some 6, none, .mov, [.t 13]⟩ ::
 []) [1, 2, 6])
 (.seq (.reg [] (
 ⟨some 14, none, .mov, [.t 6]⟩ ::
 ⟨some 15, none, .bin .neq, [.t 14, .k (.d (.int .i64 0))]⟩ ::
 []) [1, 2, 6, 15])
 (.cond (.t 15)
 (.seq (.reg [] (
 ⟨some 16, none, .mov, [.t 6]⟩ ::
 ⟨some 4, none, .mov, [.k (.d (.int .i64 0))]⟩ ::
 ⟨some 5, none, .mov, [.t 16]⟩ ::
 []) [4, 5])
 (.ret))
 (.skip))))
 (.seq (.seq (.reg [] (
 ⟨some 17, none, .mov, [.t 1]⟩ ::
 ⟨some 18, none, .call 52, [.t 17]⟩ ::
 ⟨some 19, none, .un .not, [.t 18]⟩ ::
 []) [1, 2, 19])
 (.cond (.t 19)
 (.seq (.reg [] (
 ⟨some 4, none, .mov, [.k (.d (.int .i64 0))]⟩ ::
 ⟨some 5, none, .mov, [.k (.d (.int .i64 1))]⟩ ::
 []) [4, 5])
 (.ret))
 (.skip)))
 (.seq (.reg [] (
 ⟨some 20, none, .load true 6, [.t 2]⟩ ::
 ⟨some 21, none, .build [.int .i64 0, .int .i64 0, .int .i64 0, .int .i64 0, .list true [], .list true []] [(0, 6)], [.t 20]⟩ ::
 ⟨some 22, none, .mkmap (true, [some .i64, some .i64]), []⟩ ::
 ⟨some 7, none, .zero [.int .i64 0, .int .i64 0, .int .i64 0, .int .i64 0, .list true [], .list true []], []⟩ ::
 ⟨none, none, .store 6, [.t 7, .t 21]⟩ ::
 ⟨some 8, none, .mov, [.t 22]⟩ ::
 ⟨some 9, none, .mov, [.k (.d (.int .i64 16))]⟩ ::
 []) [1, 7, 8, 9])
 (.seq (.seq (.reg [] (
 ⟨some 23, none, .faddr 0, [.t 7]⟩ ::
 ⟨some 24, none, .faddr 4, [.t 23]⟩ ::
 ⟨some 25, none, .load false 1, [.t 24]⟩ ::
 ⟨some 26, none, .len false, [.t 25]⟩ ::
 ⟨some 27, none, .mov, [.k (.d (.int .i64 0))]⟩ ::
 []) [1, 7, 8, 9, 26, 27])
 (.block 0
 (.loop [] [1, 7, 8, 9, 26, 27] [7, 22, 900000, 900001, 901000, 901001]
 (.seq (.reg [] (
 ⟨some 28, none, .bin .lss, [.t 27, .t 26]⟩ ::
 []) [1, 7, 8, 9, 26, 27, 28])
 (.seq (.cond (.t 28)
 (.skip)
 (.exit 0))
 (.seq (.block 1
 (.seq (.reg [] (
 ⟨some 29, none, .mov, [.t 27]⟩ ::
 ⟨some 10, none, .mov, [.t 29]⟩ ::
 []) [1, 7, 8, 9, 10, 26, 27])
 (.seq (.reg [] (
 ⟨some 30, none, .faddr 0, [.t 7]⟩ ::
 ⟨some 31, none, .faddr 1, [.t 30]⟩ ::
 ⟨some 32, none, .load false 1, [.t 31]⟩ ::
 ⟨some 33, none, .mov, [.k (.d (.int .i64 0))]⟩ ::
 []) [1, 7, 8, 9, 10, 26, 27, 32, 33])
 (.block 2
 (.loop [] [1, 7, 8, 9, 10, 26, 27, 32, 33] [7, 22, 900000, 900001, 901000, 901001]
 (.seq (.reg [] (
 ⟨some 34, none, .bin .lss, [.t 33, .t 32]⟩ ::
 []) [1, 7, 8, 9, 10, 26, 27, 32, 33, 34])
 (.seq (.cond (.t 34)
 (.skip)
 (.exit 2))
 (.seq (.block 3
 (.seq (.reg [] (
 ⟨some 35, none, .mov, [.t 33]⟩ ::
 ⟨some 11, none, .mov, [.t 35]⟩ ::
 []) [1, 7, 8, 9, 10, 11, 26, 27, 32, 33])
 (.reg [] (
 ⟨some 36, none, .mov, [.t 9]⟩ ::
 ⟨some 37, none, .load true 6, [.t 7]⟩ ::
 ⟨some 38, none, .mov, [.t 10]⟩ ::
 ⟨some 39, none, .mov, [.t 11]⟩ ::
 ⟨some 40, none, .mov, [.t 1]⟩ ::
 ⟨some 41, none, .mov, [.t 8]⟩ ::
 ⟨some 42, none, .call 53, [.t 37, .t 38, .t 39, .t 40, .t 41]⟩ ::
 ⟨some 43, none, .minmax false, [.t 36, .t 42]⟩ ::
 ⟨some 9, none, .mov, [.t 43]⟩ ::
 []) [1, 7, 8, 9, 10, 26, 27, 32, 33])))
 (.reg [] (
 ⟨some 44, none, .bin .add, [.t 33, .k (.d (.int .i64 1))]⟩ ::
 ⟨some 33, none, .mov, [.t 44]⟩ ::
 []) [1, 7, 8, 9, 10, 26, 27, 32, 33])))))))))
 (.reg [] (
 ⟨some 45, none, .bin .add, [.t 27, .k (.d (.int .i64 1))]⟩ ::
 ⟨some 27, none, .mov, [.t 45]⟩ ::
 []) [1, 7, 8, 9, 26, 27])))))))
 (.seq (.reg [] (
 ⟨some 46, none, .mov, [.t 9]⟩ ::
 ⟨some 4, none, .mov, [.t 46]⟩ ::
 ⟨some 5, none, .mov, [.k (.d (.int .i64 0))]⟩ ::
 []) [4, 5])
 (.ret))))))
theorem dec_codes_Apart : Fun E0 F_codes_Apart pc_codes_Apart [.t 4, .t 5] 47 := fun_of_dec (fl := []) (by kernel_rfl)
-- platter/codes.Find (3)
abbrev F_codes_Find : Nat := 24
def pc_codes_Find : PC :=
 .seq (.reg [] (
 ⟨some 6, none, .mov, [.k (.d (.list true []))]⟩ ::
 ⟨some 7, none, .mov, [.k (.d (.int .i64 0))]⟩ ::
 []) [0, 1, 2])
 (.seq (.seq (.reg [] (
 ⟨some 10, none, .mov, [.t 0]⟩ ::
 ⟨some 11, none, .call 52, [.t 10]⟩ ::
 ⟨some 12, none, .un .not, [.t 11]⟩ ::
 ⟨some 13, none, .mov, [.t 12]⟩ ::
 ⟨some 14, some (13, false), .mov, [.t 1]⟩ ::
 ⟨some 15, some (13, false), .len false, [.t 14]⟩ ::
 ⟨some 16, some (13, false), .bin .gtr, [.t 15, .k (.d (.int .i64 128))]⟩ ::
 ⟨some 17, none, .pick, [.t 13, .k (.d (.bool true)), .t 16]⟩ ::
 ⟨some 18, none, .mov, [.t 17]⟩ ::
 ⟨some 19, some (18, false), .mov, [.t 1]⟩ ::
 ⟨some 20, some (18, false), .call 51, [.t 19]⟩ ::
 ⟨some 21, some (18, false), .un .not, [.t 20]⟩ ::
 ⟨some 22, none, .pick, [.t 18, .k (.d (.bool true)), .t 21]⟩ ::
 ⟨some 23, none, .mov, [.t 22]⟩ ::
 ⟨some 24, some (23, false), .mov, [.t 2]⟩ ::
 ⟨some 25, some (23, false), .call 48, [.t 24, .k (.d (.int .i64 0)), .k (.d (.int .i64 16))]⟩ ::
 ⟨some 26, some (23, false), .un .not, [.t 25]⟩ ::
 ⟨some 27, none, .pick, [.t 23, .k (.d (.bool true)), .t 26]⟩ ::
 []) [0, 1, 2, 27])
 (.cond (.t 27)
 (.seq (.reg [] (
 ⟨some 6, none, .mov, [.k (.d (.list true []))]⟩ ::
 ⟨some 7, none, .mov, [.k (.d (.int .i64 1))]⟩ ::
 []) [6, 7])
 (.ret))
 (.skip)))
 (.seq (.reg [] (
 ⟨some 8, none, .mov, [.k (.d (.list true []))]⟩ ::
 []) [0, 1, 2, 8])
 (.seq (.seq (.reg [] (
 ⟨some 28, none, .mov, [.t 1]⟩ ::
 ⟨some 29, none, .len false, [.t 28]⟩ ::
 ⟨some 30, none, .mov, [.t 0]⟩ ::
 ⟨some 31, none, .len false, [.t 30]⟩ ::
 ⟨some 32, none, .bin .sub, [.t 29, .t 31]⟩ ::
 ⟨some 33, none, .bin .add, [.t 32, .k (.d (.int .i64 1))]⟩ ::
 ⟨some 34, none, .minmax true, [.k (.d (.int .i64 0)), .t 33]⟩ ::
 ⟨some 35, none, .mov, [.k (.d (.int .i64 0))]⟩ ::
 []) [0, 1, 2, 8, 34, 35])
 (.block 0
 (.loop [.own 8 48 3 1] [0, 1, 2, 8, 34, 35] [48, 900000, 900001, 900002, 901000, 901001, 901002]
 (.seq (.reg [] (
 ⟨some 36, none, .bin .lss, [.t 35, .t 34]⟩ ::
 []) [0, 1, 2, 8, 34, 35, 36])
 (.seq (.cond (.t 36)
 (.skip)
 (.exit 0))
 (.seq (.block 1
 (.seq (.reg [] (
 ⟨some 37, none, .mov, [.t 35]⟩ ::
 ⟨some 9, none, .mov, [.t 37]⟩ ::
 []) [0, 1, 2, 8, 9, 34, 35])
 (.seq (.reg [] (
 ⟨some 38, none, .mov, [.t 0]⟩ ::
 ⟨some 39, none, .mov, [.t 1]⟩ ::
 ⟨some 40, none, .mov, [.t 9]⟩ ::
 ⟨some 41, none, .slice 1 true false false, [.t 39, .t 40]⟩ ::
 ⟨some 42, none, .call 54, [.t 38, .t 41]⟩ ::
 ⟨some 43, none, .mov, [.t 2]⟩ ::
 ⟨some 44, none, .bin .leq, [.t 42, .t 43]⟩ ::
 []) [0, 1, 2, 8, 9, 34, 35, 44])
 (.cond (.t 44)
 (.reg [] (
 ⟨some 45, none, .mov, [.t 8]⟩ ::
 ⟨some 46, none, .mov, [.t 9]⟩ ::
 ⟨some 47, none, .mkrow 1 (.int .i64 0) 1 [0], [.t 46]⟩ ::
 ⟨some 48, none, .app 3 1 none true, [.t 45, .t 47]⟩ ::
 ⟨some 8, none, .mov, [.t 48]⟩ ::
 []) [0, 1, 2, 8, 34, 35])
 (.skip)))))
 (.reg [] (
 ⟨some 49, none, .bin .add, [.t 35, .k (.d (.int .i64 1))]⟩ ::
 ⟨some 35, none, .mov, [.t 49]⟩ ::
 []) [0, 1, 2, 8, 34, 35])))))))
 (.seq (.reg [] (
 ⟨some 50, none, .mov, [.t 8]⟩ ::
 ⟨some 6, none, .mov, [.t 50]⟩ ::
 ⟨some 7, none, .mov, [.k (.d (.int .i64 0))]⟩ ::
 []) [6, 7])
 (.ret)))))
theorem dec_codes_Find : Fun E0 F_codes_Find pc_codes_Find [.t 6, .t 7] 51 := fun_of_dec (fl := []) (by kernel_rfl)
-- platter/platterlaw04.stained (2)
abbrev F_law04_stained : Nat := 25
def pc_law04_stained : PC :=
 .seq (.reg [] (
 ⟨some 4, none, .mov, [.k (.d (.list true []))]⟩ ::
 []) [0, 1])
 (.seq (.reg [] (
 ⟨some 7, none, .mkrow 1 (.int .i64 0) 0 [], []⟩ ::
 ⟨some 8, none, .mov, [.t 0]⟩ ::
 ⟨some 9, none, .app 3 1 none true, [.t 7, .t 8]⟩ ::
 ⟨some 5, none, .mov, [.t 9]⟩ ::
 []) [0, 1, 5])
 (.seq (.seq (.reg [] (
 ⟨some 6, none, .mov, [.k (.d (.int .i64 0))]⟩ ::
 []) [0, 1, 5, 6])
 (.block 0
 (.loop [] [0, 1, 5, 6] [9, 900000, 900001, 901000, 901001]
 (.seq (.seq (.reg [] (
 ⟨some 10, none, .mov, [.t 6]⟩ ::
 ⟨some 11, none, .mov, [.t 1]⟩ ::
 ⟨some 12, none, .len false, [.t 11]⟩ ::
 ⟨some 13, none, .bin .lss, [.t 10, .t 12]⟩ ::
 []) [0, 1, 5, 6, 13])
 (.cond (.t 13)
 (.skip)
 (.exit 0)))
 (.seq (.block 1
 (.seq (.reg [] (
 ⟨some 16, none, .mov, [.t 1]⟩ ::
 ⟨some 17, none, .mov, [.t 6]⟩ ::
 ⟨some 18, none, .iaddrS 1, [.t 16, .t 17]⟩ ::
 ⟨some 19, none, .load false 1, [.t 18]⟩ ::
 ⟨some 20, none, .bin .geq, [.t 19, .k (.d (.int .i64 0))]⟩ ::
 ⟨some 21, none, .mov, [.t 20]⟩ ::
 ⟨some 22, some (21, true), .mov, [.t 1]⟩ ::
 ⟨some 23, some (21, true), .mov, [.t 6]⟩ ::
 ⟨some 24, some (21, true), .iaddrS 1, [.t 22, .t 23]⟩ ::
 ⟨some 25, some (21, true), .load false 1, [.t 24]⟩ ::
 ⟨some 26, some (21, true), .mov, [.t 0]⟩ ::
 ⟨some 27, some (21, true), .len false, [.t 26]⟩ ::
 ⟨some 28, some (21, true), .bin .lss, [.t 25, .t 27]⟩ ::
 ⟨some 29, none, .pick, [.t 21, .t 28, .k (.d (.bool false))]⟩ ::
 []) [0, 1, 5, 6, 29])
 (.cond (.t 29)
 (.draw [] (
 (⟨some 30, none, .mov, [.t 5]⟩, []) ::
 (⟨some 31, none, .mov, [.t 1]⟩, []) ::
 (⟨some 32, none, .mov, [.t 6]⟩, []) ::
 (⟨some 33, none, .iaddrS 1, [.t 31, .t 32]⟩, []) ::
 (⟨some 34, none, .load false 1, [.t 33]⟩, []) ::
 (⟨some 35, none, .mov, [.t 0]⟩, []) ::
 (⟨some 36, none, .mov, [.t 1]⟩, []) ::
 (⟨some 37, none, .mov, [.t 6]⟩, []) ::
 (⟨some 38, none, .iaddrS 1, [.t 36, .t 37]⟩, []) ::
 (⟨some 39, none, .load false 1, [.t 38]⟩, []) ::
 (⟨some 40, none, .iaddrS 1, [.t 35, .t 39]⟩, []) ::
 (⟨some 41, none, .load false 1, [.t 40]⟩, []) ::
 (⟨some 42, none, .bin .sub, [.k (.d (.int .i64 1)), .t 41]⟩, []) ::
 (⟨some 43, none, .iaddrS 1, [.t 30, .t 34]⟩, []) ::
 (⟨none, none, .store 1, [.t 43, .t 42]⟩, []) ::
 []) [0, 1, 5, 6])
 (.skip))))
 (.reg [] (
 ⟨some 14, none, .mov, [.t 6]⟩ ::
 ⟨some 15, none, .bin .add, [.t 14, .k (.d (.int .i64 1))]⟩ ::
 ⟨some 6, none, .mov, [.t 15]⟩ ::
 []) [0, 1, 5, 6]))))))
 (.seq (.reg [] (
 ⟨some 44, none, .mov, [.t 5]⟩ ::
 ⟨some 4, none, .mov, [.t 44]⟩ ::
 []) [4])
 (.ret))))
theorem dec_law04_stained : Fun E0 F_law04_stained pc_law04_stained [.t 4] 45 := fun_of_dec (fl := []) (by kernel_rfl)
-- platter/platterref04.Distance (3)
abbrev F_ref04_Distance : Nat := 26
def pc_ref04_Distance : PC :=
 .seq (.reg [] (
 ⟨some 6, none, .mov, [.k (.d (.int .i64 0))]⟩ ::
 []) [0, 1, 2])
 (.seq (.reg [] (
 ⟨some 7, none, .mov, [.k (.d (.int .i64 0))]⟩ ::
 []) [0, 1, 2, 7])
 (.seq (.seq (.reg [] (
 ⟨some 8, none, .mov, [.k (.d (.int .i64 0))]⟩ ::
 []) [0, 1, 2, 7, 8])
 (.block 0
 (.loop [] [0, 1, 2, 7, 8] [900000, 900001, 900002, 901000, 901001, 901002]
 (.seq (.seq (.reg [] (
 ⟨some 9, none, .mov, [.t 8]⟩ ::
 ⟨some 10, none, .mov, [.t 0]⟩ ::
 ⟨some 11, none, .len false, [.t 10]⟩ ::
 ⟨some 12, none, .bin .lss, [.t 9, .t 11]⟩ ::
 []) [0, 1, 2, 7, 8, 12])
 (.cond (.t 12)
 (.skip)
 (.exit 0)))
 (.seq (.block 1
 (.seq (.draw [] (
 (⟨some 15, none, .mov, [.t 0]⟩, []) ::
 (⟨some 16, none, .mov, [.t 8]⟩, []) ::
 (⟨some 17, none, .iaddrS 1, [.t 15, .t 16]⟩, []) ::
 (⟨some 18, none, .load false 1, [.t 17]⟩, []) ::
 (⟨some 19, none, .mov, [.t 1]⟩, []) ::
 (⟨some 20, none, .mov, [.t 2]⟩, []) ::
 (⟨some 21, none, .mov, [.t 8]⟩, []) ::
 (⟨some 22, none, .bin .add, [.t 20, .t 21]⟩, []) ::
 (⟨some 23, none, .iaddrS 1, [.t 19, .t 22]⟩, []) ::
 (⟨some 24, none, .load false 1, [.t 23]⟩, []) ::
 (⟨some 25, none, .bin .neq, [.t 18, .t 24]⟩, []) ::
 []) [0, 1, 2, 7, 8, 25])
 (.cond (.t 25)
 (.reg [] (
 ⟨some 26, none, .mov, [.t 7]⟩ ::
 ⟨some 27, none, .bin .add, [.t 26, .k (.d (.int .i64 1))]⟩ ::
 ⟨some 7, none, .mov, [.t 27]⟩ ::
 []) [0, 1, 2, 7, 8])
 (.skip))))
 (.reg [] (
 ⟨some 13, none, .mov, [.t 8]⟩ ::
 ⟨some 14, none, .bin .add, [.t 13, .k (.d (.int .i64 1))]⟩ ::
 ⟨some 8, none, .mov, [.t 14]⟩ ::
 []) [0, 1, 2, 7, 8]))))))
 (.seq (.reg [] (
 ⟨some 28, none, .mov, [.t 7]⟩ ::
 ⟨some 6, none, .mov, [.t 28]⟩ ::
 []) [6])
 (.ret))))
theorem dec_ref04_Distance : Fun E0 F_ref04_Distance pc_ref04_Distance [.t 6] 29 := fun_of_dec (fl := []) (by kernel_rfl)
-- platter/platterlaw04.Far (1)
abbrev F_law04_Far : Nat := 27
def pc_law04_Far : PC :=
 .seq (.reg [] (
 ⟨some 1, none, .box, [.t 0]⟩ ::
 ⟨some 2, none, .mov, [.k (.d (.bool false))]⟩ ::
 []) [1])
 (.seq (.seq (.reg [] (
 ⟨some 5, none, .faddr 4, [.t 1]⟩ ::
 ⟨some 6, none, .load false 1, [.t 5]⟩ ::
 ⟨some 7, none, .len false, [.t 6]⟩ ::
 ⟨some 8, none, .bin .gtr, [.t 7, .k (.d (.int .i64 20))]⟩ ::
 ⟨some 9, none, .mov, [.t 8]⟩ ::
 ⟨some 10, some (9, false), .faddr 5, [.t 1]⟩ ::
 ⟨some 11, some (9, false), .load false 1, [.t 10]⟩ ::
 ⟨some 12, some (9, false), .len false, [.t 11]⟩ ::
 ⟨some 13, some (9, false), .bin .gtr, [.t 12, .k (.d (.int .i64 20))]⟩ ::
 ⟨some 14, none, .pick, [.t 9, .k (.d (.bool true)), .t 13]⟩ ::
 []) [1, 14])
 (.cond (.t 14)
 (.seq (.reg [] (
 ⟨some 2, none, .mov, [.k (.d (.bool true))]⟩ ::
 []) [2])
 (.ret))
 (.skip)))
 (.seq (.seq (.reg [] (
 ⟨some 3, none, .mov, [.k (.d (.int .i64 0))]⟩ ::
 []) [1, 3])
 (.block 0
 (.loop [] [1, 3] [1, 900000, 901000]
 (.seq (.seq (.reg [] (
 ⟨some 15, none, .mov, [.t 3]⟩ ::
 ⟨some 16, none, .faddr 4, [.t 1]⟩ ::
 ⟨some 17, none, .load false 1, [.t 16]⟩ ::
 ⟨some 18, none, .len false, [.t 17]⟩ ::
 ⟨some 19, none, .bin .lss, [.t 15, .t 18]⟩ ::
 []) [1, 3, 19])
 (.cond (.t 19)
 (.skip)
 (.exit 0)))
 (.seq (.block 1
 (.seq (.reg [] (
 ⟨some 22, none, .faddr 4, [.t 1]⟩ ::
 ⟨some 23, none, .load false 1, [.t 22]⟩ ::
 ⟨some 24, none, .mov, [.t 3]⟩ ::
 ⟨some 25, none, .iaddrS 1, [.t 23, .t 24]⟩ ::
 ⟨some 26, none, .load false 1, [.t 25]⟩ ::
 ⟨some 27, none, .len false, [.t 26]⟩ ::
 ⟨some 28, none, .bin .gtr, [.t 27, .k (.d (.int .i64 20))]⟩ ::
 []) [1, 3, 28])
 (.cond (.t 28)
 (.seq (.reg [] (
 ⟨some 2, none, .mov, [.k (.d (.bool true))]⟩ ::
 []) [2])
 (.ret))
 (.skip))))
 (.reg [] (
 ⟨some 20, none, .mov, [.t 3]⟩ ::
 ⟨some 21, none, .bin .add, [.t 20, .k (.d (.int .i64 1))]⟩ ::
 ⟨some 3, none, .mov, [.t 21]⟩ ::
 []) [1, 3]))))))
 (.seq (.seq (.reg [] (
 ⟨some 4, none, .mov, [.k (.d (.int .i64 0))]⟩ ::
 []) [1, 4])
 (.block 2
 (.loop [] [1, 4] [1, 900000, 901000]
 (.seq (.seq (.reg [] (
 ⟨some 29, none, .mov, [.t 4]⟩ ::
 ⟨some 30, none, .faddr 5, [.t 1]⟩ ::
 ⟨some 31, none, .load false 1, [.t 30]⟩ ::
 ⟨some 32, none, .len false, [.t 31]⟩ ::
 ⟨some 33, none, .bin .lss, [.t 29, .t 32]⟩ ::
 []) [1, 4, 33])
 (.cond (.t 33)
 (.skip)
 (.exit 2)))
 (.seq (.block 3
 (.seq (.reg [] (
 ⟨some 36, none, .faddr 5, [.t 1]⟩ ::
 ⟨some 37, none, .load false 1, [.t 36]⟩ ::
 ⟨some 38, none, .mov, [.t 4]⟩ ::
 ⟨some 39, none, .iaddrS 1, [.t 37, .t 38]⟩ ::
 ⟨some 40, none, .load false 1, [.t 39]⟩ ::
 ⟨some 41, none, .len false, [.t 40]⟩ ::
 ⟨some 42, none, .bin .gtr, [.t 41, .k (.d (.int .i64 20))]⟩ ::
 []) [1, 4, 42])
 (.cond (.t 42)
 (.seq (.reg [] (
 ⟨some 2, none, .mov, [.k (.d (.bool true))]⟩ ::
 []) [2])
 (.ret))
 (.skip))))
 (.reg [] (
 ⟨some 34, none, .mov, [.t 4]⟩ ::
 ⟨some 35, none, .bin .add, [.t 34, .k (.d (.int .i64 1))]⟩ ::
 ⟨some 4, none, .mov, [.t 35]⟩ ::
 []) [1, 4]))))))
 (.seq (.reg [] (
 ⟨some 2, none, .mov, [.k (.d (.bool false))]⟩ ::
 []) [2])
 (.ret)))))
theorem dec_law04_Far : Fun E0 F_law04_Far pc_law04_Far [.t 2] 43 := fun_of_dec (fl := []) (by kernel_rfl)
-- platter/platterref04.Find (3)
abbrev F_ref04_Find : Nat := 28
def pc_ref04_Find : PC :=
 .seq (.reg [] (
 ⟨some 6, none, .mov, [.k (.d (.list true []))]⟩ ::
 ⟨some 7, none, .mov, [.k (.d (.int .i64 0))]⟩ ::
 []) [0, 1, 2])
 (.seq (.seq (.reg [] (
 ⟨some 10, none, .mov, [.t 0]⟩ ::
 ⟨some 11, none, .call 22, [.t 10]⟩ ::
 ⟨some 12, none, .un .not, [.t 11]⟩ ::
 ⟨some 13, none, .mov, [.t 12]⟩ ::
 ⟨some 14, some (13, false), .mov, [.t 1]⟩ ::
 ⟨some 15, some (13, false), .len false, [.t 14]⟩ ::
 ⟨some 16, some (13, false), .bin .gtr, [.t 15, .k (.d (.int .i64 128))]⟩ ::
 ⟨some 17, none, .pick, [.t 13, .k (.d (.bool true)), .t 16]⟩ ::
 ⟨some 18, none, .mov, [.t 17]⟩ ::
 ⟨some 19, some (18, false), .mov, [.t 1]⟩ ::
 ⟨some 20, some (18, false), .call 19, [.t 19]⟩ ::
 ⟨some 21, some (18, false), .un .not, [.t 20]⟩ ::
 ⟨some 22, none, .pick, [.t 18, .k (.d (.bool true)), .t 21]⟩ ::
 ⟨some 23, none, .mov, [.t 22]⟩ ::
 ⟨some 24, some (23, false), .mov, [.t 2]⟩ ::
 ⟨some 25, some (23, false), .call 43, [.t 24, .k (.d (.int .i64 0)), .k (.d (.int .i64 16))]⟩ ::
 ⟨some 26, some (23, false), .un .not, [.t 25]⟩ ::
 ⟨some 27, none, .pick, [.t 23, .k (.d (.bool true)), .t 26]⟩ ::
 []) [0, 1, 2, 27])
 (.cond (.t 27)
 (.seq (.reg [] (
 ⟨some 6, none, .mov, [.k (.d (.list true []))]⟩ ::
 ⟨some 7, none, .mov, [.k (.d (.int .i64 1))]⟩ ::
 []) [6, 7])
 (.ret))
 (.skip)))
 (.seq (.reg [] (
 ⟨some 8, none, .mov, [.k (.d (.list true []))]⟩ ::
 []) [0, 1, 2, 8])
 (.seq (.seq (.reg [] (
 ⟨some 9, none, .mov, [.k (.d (.int .i64 0))]⟩ ::
 []) [0, 1, 2, 8, 9])
 (.block 0
 (.loop [.own 8 46 3 1] [0, 1, 2, 8, 9] [46, 900000, 900001, 900002, 901000, 901001, 901002]
 (.seq (.seq (.reg [] (
 ⟨some 28, none, .mov, [.t 9]⟩ ::
 ⟨some 29, none, .mov, [.t 0]⟩ ::
 ⟨some 30, none, .len false, [.t 29]⟩ ::
 ⟨some 31, none, .bin .add, [.t 28, .t 30]⟩ ::
 ⟨some 32, none, .mov, [.t 1]⟩ ::
 ⟨some 33, none, .len false, [.t 32]⟩ ::
 ⟨some 34, none, .bin .leq, [.t 31, .t 33]⟩ ::
 []) [0, 1, 2, 8, 9, 34])
 (.cond (.t 34)
 (.skip)
 (.exit 0)))
 (.seq (.block 1
 (.seq (.reg [] (
 ⟨some 37, none, .mov, [.t 0]⟩ ::
 ⟨some 38, none, .mov, [.t 1]⟩ ::
 ⟨some 39, none, .mov, [.t 9]⟩ ::
 ⟨some 40, none, .call 26, [.t 37, .t 38, .t 39]⟩ ::
 ⟨some 41, none, .mov, [.t 2]⟩ ::
 ⟨some 42, none, .bin .leq, [.t 40, .t 41]⟩ ::
 []) [0, 1, 2, 8, 9, 42])
 (.cond (.t 42)
 (.reg [] (
 ⟨some 43, none, .mov, [.t 8]⟩ ::
 ⟨some 44, none, .mov, [.t 9]⟩ ::
 ⟨some 45, none, .mkrow 1 (.int .i64 0) 1 [0], [.t 44]⟩ ::
 ⟨some 46, none, .app 3 1 none true, [.t 43, .t 45]⟩ ::
 ⟨some 8, none, .mov, [.t 46]⟩ ::
 []) [0, 1, 2, 8, 9])
 (.skip))))
 (.reg [] (
 ⟨some 35, none, .mov, [.t 9]⟩ ::
 ⟨some 36, none, .bin .add, [.t 35, .k (.d (.int .i64 1))]⟩ ::
 ⟨some 9, none, .mov, [.t 36]⟩ ::
 []) [0, 1, 2, 8, 9]))))))
 (.seq (.reg [] (
 ⟨some 47, none, .mov, [.t 8]⟩ ::
 ⟨some 6, none, .mov, [.t 47]⟩ ::
 ⟨some 7, none, .mov, [.k (.d (.int .i64 0))]⟩ ::
 []) [6, 7])
 (.ret)))))
theorem dec_ref04_Find : Fun E0 F_ref04_Find pc_ref04_Find [.t 6, .t 7] 48 := fun_of_dec (fl := []) (by kernel_rfl)
-- platter/platterref04.Copy (1)
abbrev F_ref04_Copy : Nat := 29
def pc_ref04_Copy : PC :=
 .seq (.reg [] (
 ⟨some 1, none, .box, [.t 0]⟩ ::
 ⟨some 2, none, .zero [.int .i64 0, .int .i64 0, .int .i64 0, .int .i64 0, .list true [], .list true []], []⟩ ::
 []) [1, 2])
 (.seq (.reg [] (
 ⟨some 6, none, .load true 6, [.t 1]⟩ ::
 ⟨some 3, none, .zero [.int .i64 0, .int .i64 0, .int .i64 0, .int .i64 0, .list true [], .list true []], []⟩ ::
 ⟨none, none, .store 6, [.t 3, .t 6]⟩ ::
 []) [1, 2, 3])
 (.seq (.reg [] (
 ⟨some 7, none, .faddr 4, [.t 3]⟩ ::
 ⟨none, none, .store 1, [.t 7, .k (.d (.list true []))]⟩ ::
 ⟨some 8, none, .faddr 5, [.t 3]⟩ ::
 ⟨none, none, .store 1, [.t 8, .k (.d (.list true []))]⟩ ::
 []) [1, 2, 3])
 (.seq (.seq (.reg [] (
 ⟨some 4, none, .mov, [.k (.d (.int .i64 0))]⟩ ::
 []) [1, 2, 3, 4])
 (.block 0
 (.loop [.ownC 3 4 26 25 1] [1, 2, 3, 4] [1, 2, 3, 26, 45, 900000, 901000]
 (.seq (.seq (.reg [] (
 ⟨some 9, none, .mov, [.t 4]⟩ ::
 ⟨some 10, none, .faddr 4, [.t 1]⟩ ::
 ⟨some 11, none, .load false 1, [.t 10]⟩ ::
 ⟨some 12, none, .len false, [.t 11]⟩ ::
 ⟨some 13, none, .bin .lss, [.t 9, .t 12]⟩ ::
 []) [1, 2, 3, 4, 13])
 (.cond (.t 13)
 (.skip)
 (.exit 0)))
 (.seq (.block 1
 (.draw [] (
 (⟨some 16, none, .faddr 4, [.t 3]⟩, []) ::
 (⟨some 17, none, .load false 1, [.t 16]⟩, []) ::
 (⟨some 18, none, .mkrow 1 (.int .i64 0) 0 [], []⟩, []) ::
 (⟨some 19, none, .faddr 4, [.t 1]⟩, []) ::
 (⟨some 20, none, .load false 1, [.t 19]⟩, []) ::
 (⟨some 21, none, .mov, [.t 4]⟩, []) ::
 (⟨some 22, none, .iaddrS 1, [.t 20, .t 21]⟩, []) ::
 (⟨some 23, none, .load false 1, [.t 22]⟩, []) ::
 (⟨some 24, none, .app 3 1 none false, [.t 18, .t 23]⟩, [1]) ::
 (⟨some 25, none, .mkrow 1 (.list true []) 1 [0], [.t 24]⟩, []) ::
 (⟨some 26, none, .app 25 1 none true, [.t 17, .t 25]⟩, []) ::
 (⟨some 27, none, .faddr 4, [.t 3]⟩, []) ::
 (⟨none, none, .store 1, [.t 27, .t 26]⟩, []) ::
 []) [1, 2, 3, 4]))
 (.reg [] (
 ⟨some 14, none, .mov, [.t 4]⟩ ::
 ⟨some 15, none, .bin .add, [.t 14, .k (.d (.int .i64 1))]⟩ ::
 ⟨some 4, none, .mov, [.t 15]⟩ ::
 []) [1, 2, 3, 4]))))))
 (.seq (.seq (.reg [] (
 ⟨some 5, none, .mov, [.k (.d (.int .i64 0))]⟩ ::
 []) [1, 2, 3, 5])
 (.block 2
 (.loop [.ownC 3 5 45 25 1] [1, 2, 3, 5] [1, 2, 3, 26, 45, 900000, 901000]
 (.seq (.seq (.reg [] (
 ⟨some 28, none, .mov, [.t 5]⟩ ::
 ⟨some 29, none, .faddr 5, [.t 1]⟩ ::
 ⟨some 30, none, .load false 1, [.t 29]⟩ ::
 ⟨some 31, none, .len false, [.t 30]⟩ ::
 ⟨some 32, none, .bin .lss, [.t 28, .t 31]⟩ ::
 []) [1, 2, 3, 5, 32])
 (.cond (.t 32)
 (.skip)
 (.exit 2)))
 (.seq (.block 3
 (.draw [] (
 (⟨some 35, none, .faddr 5, [.t 3]⟩, []) ::
 (⟨some 36, none, .load false 1, [.t 35]⟩, []) ::
 (⟨some 37, none, .mkrow 1 (.int .i64 0) 0 [], []⟩, []) ::
 (⟨some 38, none, .faddr 5, [.t 1]⟩, []) ::
 (⟨some 39, none, .load false 1, [.t 38]⟩, []) ::
 (⟨some 40, none, .mov, [.t 5]⟩, []) ::
 (⟨some 41, none, .iaddrS 1, [.t 39, .t 40]⟩, []) ::
 (⟨some 42, none, .load false 1, [.t 41]⟩, []) ::
 (⟨some 43, none, .app 3 1 none false, [.t 37, .t 42]⟩, [1]) ::
 (⟨some 44, none, .mkrow 1 (.list true []) 1 [0], [.t 43]⟩, []) ::
 (⟨some 45, none, .app 25 1 none true, [.t 36, .t 44]⟩, []) ::
 (⟨some 46, none, .faddr 5, [.t 3]⟩, []) ::
 (⟨none, none, .store 1, [.t 46, .t 45]⟩, []) ::
 []) [1, 2, 3, 5]))
 (.reg [] (
 ⟨some 33, none, .mov, [.t 5]⟩ ::
 ⟨some 34, none, .bin .add, [.t 33, .k (.d (.int .i64 1))]⟩ ::
 ⟨some 5, none, .mov, [.t 34]⟩ ::
 []) [1, 2, 3, 5]))))))
 (.seq (.reg [] (
 ⟨some 47, none, .load true 6, [.t 3]⟩ ::
 ⟨none, none, .store 6, [.t 2, .t 47]⟩ ::
 []) [2])
 (.ret))))))
theorem dec_ref04_Copy : Fun E0 F_ref04_Copy pc_ref04_Copy [.c 2 24 true 6] 48 := fun_of_dec (fl := [26, 45]) (by kernel_rfl)
-- platter/platterref04.Apart (2)
abbrev F_ref04_Apart : Nat := 30
def pc_ref04_Apart : PC :=
 .seq (.reg [] (
 ⟨some 2, none, .box, [.t 0]⟩ ::
 ⟨some 4, none, .mov, [.k (.d (.int .i64 0))]⟩ ::
 ⟨some 5, none, .mov, [.k (.d (.int .i64 0))]⟩ ::
 []) [1, 2])
 (.seq (.seq (.reg [] (
 ⟨some 12, none, .load true 6, [.t 2]⟩ ::
 ⟨some 13, none, .call 34, [.t 12]⟩ ::
 ⟨some 14, none, .bin .neq, [.t 13, .k (.d (.int .i64 0))]⟩ ::
 []) [1, 2, 14])
 (.cond (.t 14)
 (.seq (.reg [] (
 ⟨some 4, none, .mov, [.k (.d (.int .i64 0))]⟩ ::
 ⟨some 5, none, .mov, [.k (.d (.int .i64 40))]⟩ ::
 []) [4, 5])
 (.ret))
 (.skip)))
 (.seq (.seq (.reg [] (
 ⟨some 15, none, .mov, [.t 1]⟩ ::
 ⟨some 16, none, .call 22, [.t 15]⟩ ::
 ⟨some 17, none, .un .not, [.t 16]⟩ ::
 []) [1, 2, 17])
 (.cond (.t 17)
 (.seq (.reg [] (
 ⟨some 4, none, .mov, [.k (.d (.int .i64 0))]⟩ ::
 ⟨some 5, none, .mov, [.k (.d (.int .i64 1))]⟩ ::
 []) [4, 5])
 (.ret))
 (.skip)))
 (.seq (.reg [] (
 ⟨some 18, none, .load true 6, [.t 2]⟩ ::
 ⟨some 19, none, .mov, [.t 1]⟩ ::
 ⟨some 20, none, .call 55, [.t 18, .t 19]⟩ ::
 ⟨some 6, none, .mov, [.t 20]⟩ ::
 []) [1, 2, 6])
 (.seq (.reg [] (
 ⟨some 21, none, .mov, [.t 1]⟩ ::
 ⟨some 22, none, .len false, [.t 21]⟩ ::
 ⟨some 7, none, .mov, [.t 22]⟩ ::
 []) [1, 2, 6, 7])
 (.seq (.seq (.reg [] (
 ⟨some 8, none, .mov, [.k (.d (.int .i64 0))]⟩ ::
 []) [1, 2, 6, 7, 8])
 (.block 0
 (.loop [] [1, 2, 6, 7, 8] [2, 20, 10020, 900000, 900001, 901000, 901001]
 (.seq (.seq (.reg [] (
 ⟨some 23, none, .mov, [.t 8]⟩ ::
 ⟨some 24, none, .faddr 4, [.t 2]⟩ ::
 ⟨some 25, none, .load false 1, [.t 24]⟩ ::
 ⟨some 26, none, .len false, [.t 25]⟩ ::
 ⟨some 27, none, .bin .lss, [.t 23, .t 26]⟩ ::
 []) [1, 2, 6, 7, 8, 27])
 (.cond (.t 27)
 (.skip)
 (.exit 0)))
 (.seq (.block 1
 (.seq (.reg [] (
 ⟨some 9, none, .mov, [.k (.d (.int .i64 0))]⟩ ::
 []) [1, 2, 6, 7, 8, 9])
 (.block 2
 (.loop [] [1, 2, 6, 7, 8, 9] [2, 20, 10020, 900000, 900001, 901000, 901001]
 (.seq (.seq (.reg [] (
 ⟨some 30, none, .mov, [.t 9]⟩ ::
 ⟨some 31, none, .faddr 4, [.t 2]⟩ ::
 ⟨some 32, none, .load false 1, [.t 31]⟩ ::
 ⟨some 33, none, .mov, [.t 8]⟩ ::
 ⟨some 34, none, .iaddrS 1, [.t 32, .t 33]⟩ ::
 ⟨some 35, none, .load false 1, [.t 34]⟩ ::
 ⟨some 36, none, .len false, [.t 35]⟩ ::
 ⟨some 37, none, .bin .lss, [.t 30, .t 36]⟩ ::
 []) [1, 2, 6, 7, 8, 9, 37])
 (.cond (.t 37)
 (.skip)
 (.exit 2)))
 (.seq (.block 3
 (.seq (.reg [] (
 ⟨some 10, none, .mov, [.k (.d (.int .i64 0))]⟩ ::
 []) [1, 2, 6, 7, 8, 9, 10])
 (.block 4
 (.loop [] [1, 2, 6, 7, 8, 9, 10] [2, 20, 10020, 900000, 900001, 901000, 901001]
 (.seq (.seq (.reg [] (
 ⟨some 40, none, .mov, [.t 10]⟩ ::
 ⟨some 41, none, .faddr 1, [.t 2]⟩ ::
 ⟨some 42, none, .load false 1, [.t 41]⟩ ::
 ⟨some 43, none, .bin .lss, [.t 40, .t 42]⟩ ::
 []) [1, 2, 6, 7, 8, 9, 10, 43])
 (.cond (.t 43)
 (.skip)
 (.exit 4)))
 (.seq (.block 5
 (.seq (.reg [] (
 ⟨some 46, none, .faddr 1, [.t 2]⟩ ::
 ⟨some 47, none, .load false 1, [.t 46]⟩ ::
 ⟨some 48, none, .mov, [.t 10]⟩ ::
 ⟨some 49, none, .bin .sub, [.t 47, .t 48]⟩ ::
 ⟨some 50, none, .mov, [.t 1]⟩ ::
 ⟨some 51, none, .len false, [.t 50]⟩ ::
 ⟨some 52, none, .minmax false, [.t 49, .t 51]⟩ ::
 ⟨some 11, none, .mov, [.t 52]⟩ ::
 []) [1, 2, 6, 7, 8, 9, 10, 11])
 (.draw [] (
 (⟨some 53, none, .mov, [.t 7]⟩, []) ::
 (⟨some 54, none, .mov, [.t 1]⟩, []) ::
 (⟨some 55, none, .mov, [.t 11]⟩, []) ::
 (⟨some 56, none, .slice 1 false true false, [.t 54, .t 55]⟩, []) ::
 (⟨some 57, none, .load true 6, [.t 2]⟩, [3]) ::
 (⟨some 58, none, .faddr 4, [.t 2]⟩, []) ::
 (⟨some 59, none, .load false 1, [.t 58]⟩, [3]) ::
 (⟨some 60, none, .mov, [.t 8]⟩, []) ::
 (⟨some 61, none, .iaddrS 1, [.t 59, .t 60]⟩, [3]) ::
 (⟨some 62, none, .load false 1, [.t 61]⟩, [3]) ::
 (⟨some 63, none, .mov, [.t 9]⟩, []) ::
 (⟨some 64, none, .iaddrS 1, [.t 62, .t 63]⟩, [3]) ::
 (⟨some 65, none, .load false 1, [.t 64]⟩, [3]) ::
 (⟨some 66, none, .call 56, [.t 57, .t 65]⟩, [3]) ::
 (⟨some 67, none, .mov, [.t 10]⟩, []) ::
 (⟨some 68, none, .call 26, [.t 56, .t 66, .t 67]⟩, []) ::
 (⟨some 69, none, .mov, [.t 6]⟩, []) ::
 (⟨some 70, none, .mov, [.t 11]⟩, []) ::
 (⟨some 71, none, .iaddrS 1, [.t 69, .t 70]⟩, [3, 13, 15]) ::
 (⟨some 72, none, .load false 1, [.t 71]⟩, [3, 13, 15]) ::
 (⟨some 73, none, .faddr 5, [.t 2]⟩, []) ::
 (⟨some 74, none, .load false 1, [.t 73]⟩, [3, 13, 15]) ::
 (⟨some 75, none, .mov, [.t 8]⟩, []) ::
 (⟨some 76, none, .iaddrS 1, [.t 74, .t 75]⟩, [3, 13, 15]) ::
 (⟨some 77, none, .load false 1, [.t 76]⟩, [3, 13, 15]) ::
 (⟨some 78, none, .mov, [.t 9]⟩, []) ::
 (⟨some 79, none, .iaddrS 1, [.t 77, .t 78]⟩, [3, 13, 15]) ::
 (⟨some 80, none, .load false 1, [.t 79]⟩, [3, 13, 15]) ::
 (⟨some 81, none, .iaddrS 1, [.t 72, .t 80]⟩, [3, 13, 15]) ::
 (⟨some 82, none, .load false 1, [.t 81]⟩, [3, 13, 15]) ::
 (⟨some 83, none, .bin .add, [.t 68, .t 82]⟩, []) ::
 (⟨some 84, none, .minmax false, [.t 53, .t 83]⟩, []) ::
 (⟨some 7, none, .mov, [.t 84]⟩, []) ::
 []) [1, 2, 6, 7, 8, 9, 10])))
 (.reg [] (
 ⟨some 44, none, .mov, [.t 10]⟩ ::
 ⟨some 45, none, .bin .add, [.t 44, .k (.d (.int .i64 1))]⟩ ::
 ⟨some 10, none, .mov, [.t 45]⟩ ::
 []) [1, 2, 6, 7, 8, 9, 10])))))))
 (.reg [] (
 ⟨some 38, none, .mov, [.t 9]⟩ ::
 ⟨some 39, none, .bin .add, [.t 38, .k (.d (.int .i64 1))]⟩ ::
 ⟨some 9, none, .mov, [.t 39]⟩ ::
 []) [1, 2, 6, 7, 8, 9])))))))
 (.reg [] (
 ⟨some 28, none, .mov, [.t 8]⟩ ::
 ⟨some 29, none, .bin .add, [.t 28, .k (.d (.int .i64 1))]⟩ ::
 ⟨some 8, none, .mov, [.t 29]⟩ ::
 []) [1, 2, 6, 7, 8]))))))
 (.seq (.reg [] (
 ⟨some 85, none, .mov, [.t 7]⟩ ::
 ⟨some 4, none, .mov, [.t 85]⟩ ::
 ⟨some 5, none, .mov, [.k (.d (.int .i64 0))]⟩ ::
 []) [4, 5])
 (.ret)))))))
theorem dec_ref04_Apart : Fun E0 F_ref04_Apart pc_ref04_Apart [.t 4, .t 5] 86 := fun_of_dec (fl := []) (by kernel_rfl)
-- platter/codes.Order (1)
abbrev F_codes_Order : Nat := 31
def pc_codes_Order : PC :=
 .seq (.reg [] (
 ⟨some 1, none, .box, [.t 0]⟩ ::
 ⟨some 2, none, .mov, [.k (.d (.int .i64 0))]⟩ ::
 ⟨some 3, none, .mov, [.k (.d (.int .i64 0))]⟩ ::
 []) [1])
 (.seq (.reg [] (
 ⟨some 10, none, .load true 6, [.t 1]⟩ ::
 ⟨some 11, none, .build [.int .i64 0, .int .i64 0, .int .i64 0, .int .i64 0, .list true [], .list true []] [(0, 6)], [.t 10]⟩ ::
 ⟨some 4, none, .zero [.int .i64 0, .int .i64 0, .int .i64 0, .int .i64 0, .list true [], .list true []], []⟩ ::
 ⟨none, none, .store 6, [.t 4, .t 11]⟩ ::
 []) [1, 4])
 (.seq (.seq (.reg [] (
 ⟨some 12, none, .load true 6, [.t 1]⟩ ::
 ⟨some 13, none, .call 33, [.t 12]⟩ ::
 ⟨some 5, none, .mov, [.t 13]⟩ ::
 []) [4, 5])
 (.seq (.reg [] (
 ⟨some 14, none, .mov, [.t 5]⟩ ::
 ⟨some 15, none, .bin .neq, [.t 14, .k (.d (.int .i64 0))]⟩ ::
 []) [4, 5, 15])
 (.cond (.t 15)
 (.seq (.reg [] (
 ⟨some 16, none, .mov, [.t 5]⟩ ::
 ⟨some 2, none, .mov, [.k (.d (.int .i64 0))]⟩ ::
 ⟨some 3, none, .mov, [.t 16]⟩ ::
 []) [2, 3])
 (.ret))
 (.skip))))
 (.seq (.reg [.frzP 4] (
 ⟨some 17, none, .mkfn 57, [.t 4]⟩ ::
 ⟨some 6, none, .mov, [.t 17]⟩ ::
 []) [4, 6])
 (.seq (.reg [] (
 ⟨some 7, none, .mov, [.k (.d (.list true []))]⟩ ::
 []) [4, 6, 7])
 (.seq (.seq (.reg [] (
 ⟨some 18, none, .faddr 0, [.t 4]⟩ ::
 ⟨some 19, none, .faddr 4, [.t 18]⟩ ::
 ⟨some 20, none, .load false 1, [.t 19]⟩ ::
 ⟨some 21, none, .len false, [.t 20]⟩ ::
 ⟨some 22, none, .mov, [.k (.d (.int .i64 0))]⟩ ::
 []) [4, 6, 7, 21, 22])
 (.block 0
 (.loop [.own 7 30 88 2] [4, 6, 7, 21, 22] [4, 30, 50, 10050, 900000, 901000]
 (.seq (.reg [] (
 ⟨some 23, none, .bin .lss, [.t 22, .t 21]⟩ ::
 []) [4, 6, 7, 21, 22, 23])
 (.seq (.cond (.t 23)
 (.skip)
 (.exit 0))
 (.seq (.block 1
 (.seq (.reg [] (
 ⟨some 24, none, .mov, [.t 22]⟩ ::
 ⟨some 8, none, .mov, [.t 24]⟩ ::
 []) [4, 6, 7, 8, 21, 22])
 (.reg [] (
 ⟨some 25, none, .mov, [.t 7]⟩ ::
 ⟨some 26, none, .mov, [.t 8]⟩ ::
 ⟨some 27, none, .mov, [.t 8]⟩ ::
 ⟨some 28, none, .build [.int .i64 0, .int .i64 0] [(0, 1), (1, 1)], [.t 26, .t 27]⟩ ::
 ⟨some 29, none, .mkrow 2 (.agg [.int .i64 0, .int .i64 0]) 1 [0], [.t 28]⟩ ::
 ⟨some 30, none, .app 88 2 none true, [.t 25, .t 29]⟩ ::
 ⟨some 7, none, .mov, [.t 30]⟩ ::
 []) [4, 6, 7, 21, 22])))
 (.reg [] (
 ⟨some 31, none, .bin .add, [.t 22, .k (.d (.int .i64 1))]⟩ ::
 ⟨some 22, none, .mov, [.t 31]⟩ ::
 []) [4, 6, 7, 21, 22])))))))
 (.seq (.seq (.reg [] (
 ⟨some 9, none, .mov, [.k (.d (.int .i64 1))]⟩ ::
 []) [4, 6, 7, 9])
 (.block 2
 (.loop [.freeze 7] [4, 6, 7, 9] [4, 900000, 901000]
 (.seq (.seq (.reg [] (
 ⟨some 32, none, .mov, [.t 9]⟩ ::
 ⟨some 33, none, .faddr 0, [.t 4]⟩ ::
 ⟨some 34, none, .faddr 4, [.t 33]⟩ ::
 ⟨some 35, none, .load false 1, [.t 34]⟩ ::
 ⟨some 36, none, .len false, [.t 35]⟩ ::
 ⟨some 37, none, .faddr 0, [.t 4]⟩ ::
 ⟨some 38, none, .faddr 4, [.t 37]⟩ ::
 ⟨some 39, none, .load false 1, [.t 38]⟩ ::
 ⟨some 40, none, .len false, [.t 39]⟩ ::
 ⟨some 41, none, .bin .mul, [.t 36, .t 40]⟩ ::
 ⟨some 42, none, .bin .add, [.t 41, .k (.d (.int .i64 1))]⟩ ::
 ⟨some 43, none, .bin .leq, [.t 32, .t 42]⟩ ::
 []) [4, 6, 7, 9, 43])
 (.cond (.t 43)
 (.skip)
 (.exit 2)))
 (.seq (.block 3
 (.seq (.reg [.freeze 7] (
 ⟨some 46, none, .mov, [.t 6]⟩ ::
 ⟨some 47, none, .mov, [.t 7]⟩ ::
 ⟨some 48, none, .mov, [.t 9]⟩ ::
 ⟨some 49, none, .bin .eql, [.t 48, .k (.d (.int .i64 1))]⟩ ::
 ⟨some 50, none, .callv, [.t 46, .t 47, .t 49]⟩ ::
 ⟨some 7, none, .mov, [.t 50]⟩ ::
 []) [4, 6, 7, 9])
 (.seq (.reg [] (
 ⟨some 51, none, .mov, [.t 7]⟩ ::
 ⟨some 52, none, .eqnil false, [.t 51, .k (.d (.list true []))]⟩ ::
 []) [4, 6, 7, 9, 52])
 (.cond (.t 52)
 (.seq (.reg [] (
 ⟨some 53, none, .mov, [.t 9]⟩ ::
 ⟨some 2, none, .mov, [.t 53]⟩ ::
 ⟨some 3, none, .mov, [.k (.d (.int .i64 0))]⟩ ::
 []) [2, 3])
 (.ret))
 (.skip)))))
 (.reg [] (
 ⟨some 44, none, .mov, [.t 9]⟩ ::
 ⟨some 45, none, .bin .add, [.t 44, .k (.d (.int .i64 1))]⟩ ::
 ⟨some 9, none, .mov, [.t 45]⟩ ::
 []) [4, 6, 7, 9]))))))
 (.seq (.reg [] (
 ⟨some 2, none, .mov, [.k (.d (.int .i64 0))]⟩ ::
 ⟨some 3, none, .mov, [.k (.d (.int .i64 3))]⟩ ::
 []) [2, 3])
 (.ret))))))))
theorem dec_codes_Order : Fun E0 F_codes_Order pc_codes_Order [.t 2, .t 3] 54 := fun_of_dec (fl := []) (by kernel_rfl)
abbrev F_codes_Decode : Nat := 32
-- platter/codes.Check (1)
abbrev F_codes_Check : Nat := 33
def pc_codes_Check : PC :=
 .seq (.reg [] (
 ⟨some 1, none, .box, [.t 0]⟩ ::
 ⟨some 2, none, .mov, [.k (.d (.int .i64 0))]⟩ ::
 []) [1])
 (.seq (.reg [] (
 ⟨some 8, none, .load true 6, [.t 1]⟩ ::
 ⟨some 9, none, .build [.int .i64 0, .int .i64 0, .int .i64 0, .int .i64 0, .list true [], .list true []] [(0, 6)], [.t 8]⟩ ::
 ⟨some 3, none, .zero [.int .i64 0, .int .i64 0, .int .i64 0, .int .i64 0, .list true [], .list true []], []⟩ ::
 ⟨none, none, .store 6, [.t 3, .t 9]⟩ ::
 []) [3])
 (.seq (.seq (.reg [] (
 ⟨some 10, none, .faddr 0, [.t 3]⟩ ::
 ⟨some 11, none, .faddr 0, [.t 10]⟩ ::
 ⟨some 12, none, .load false 1, [.t 11]⟩ ::
 ⟨some 13, none, .call 48, [.t 12, .k (.d (.int .i64 1)), .k (.d (.int .i64 2))]⟩ ::
 ⟨some 14, none, .un .not, [.t 13]⟩ ::
 ⟨some 15, none, .mov, [.t 14]⟩ ::
 ⟨some 16, some (15, false), .faddr 0, [.t 3]⟩ ::
 ⟨some 17, some (15, false), .faddr 1, [.t 16]⟩ ::
 ⟨some 18, some (15, false), .load false 1, [.t 17]⟩ ::
 ⟨some 19, some (15, false), .call 48, [.t 18, .k (.d (.int .i64 1)), .k (.d (.int .i64 5))]⟩ ::
 ⟨some 20, some (15, false), .un .not, [.t 19]⟩ ::
 ⟨some 21, none, .pick, [.t 15, .k (.d (.bool true)), .t 20]⟩ ::
 ⟨some 22, none, .mov, [.t 21]⟩ ::
 ⟨some 23, some (22, false), .faddr 0, [.t 3]⟩ ::
 ⟨some 24, some (22, false), .faddr 2, [.t 23]⟩ ::
 ⟨some 25, some (22, false), .load false 1, [.t 24]⟩ ::
 ⟨some 26, some (22, false), .faddr 0, [.t 3]⟩ ::
 ⟨some 27, some (22, false), .faddr 3, [.t 26]⟩ ::
 ⟨some 28, some (22, false), .load false 1, [.t 27]⟩ ::
 ⟨some 29, some (22, false), .call 48, [.t 25, .k (.d (.int .i64 0)), .t 28]⟩ ::
 ⟨some 30, some (22, false), .un .not, [.t 29]⟩ ::
 ⟨some 31, none, .pick, [.t 22, .k (.d (.bool true)), .t 30]⟩ ::
 ⟨some 32, none, .mov, [.t 31]⟩ ::
 ⟨some 33, some (32, false), .faddr 0, [.t 3]⟩ ::
 ⟨some 34, some (32, false), .faddr 3, [.t 33]⟩ ::
 ⟨some 35, some (32, false), .load false 1, [.t 34]⟩ ::
 ⟨some 36, some (32, false), .bin .gtr, [.t 35, .k (.d (.int .i64 12))]⟩ ::
 ⟨some 37, none, .pick, [.t 32, .k (.d (.bool true)), .t 36]⟩ ::
 ⟨some 38, none, .mov, [.t 37]⟩ ::
 ⟨some 39, some (38, false), .faddr 0, [.t 3]⟩ ::
 ⟨some 40, some (38, false), .faddr 4, [.t 39]⟩ ::
 ⟨some 41, some (38, false), .load false 1, [.t 40]⟩ ::
 ⟨some 42, some (38, false), .len false, [.t 41]⟩ ::
 ⟨some 43, some (38, false), .call 48, [.t 42, .k (.d (.int .i64 1)), .k (.d (.int .i64 4))]⟩ ::
 ⟨some 44, some (38, false), .un .not, [.t 43]⟩ ::
 ⟨some 45, none, .pick, [.t 38, .k (.d (.bool true)), .t 44]⟩ ::
 ⟨some 46, none, .mov, [.t 45]⟩ ::
 ⟨some 47, some (46, false), .faddr 0, [.t 3]⟩ ::
 ⟨some 48, some (46, false), .faddr 5, [.t 47]⟩ ::
 ⟨some 49, some (46, false), .load false 1, [.t 48]⟩ ::
 ⟨some 50, some (46, false), .len false, [.t 49]⟩ ::
 ⟨some 51, some (46, false), .faddr 0, [.t 3]⟩ ::
 ⟨some 52, some (46, false), .faddr 4, [.t 51]⟩ ::
 ⟨some 53, some (46, false), .load false 1, [.t 52]⟩ ::
 ⟨some 54, some (46, false), .len false, [.t 53]⟩ ::
 ⟨some 55, some (46, false), .bin .neq, [.t 50, .t 54]⟩ ::
 ⟨some 56, none, .pick, [.t 46, .k (.d (.bool true)), .t 55]⟩ ::
 []) [3, 56])
 (.cond (.t 56)
 (.seq (.reg [] (
 ⟨some 2, none, .mov, [.k (.d (.int .i64 40))]⟩ ::
 []) [2])
 (.ret))
 (.skip)))
 (.seq (.reg [.frzP 3] (
 ⟨some 57, none, .mkfn 60, [.t 3]⟩ ::
 ⟨some 4, none, .mov, [.t 57]⟩ ::
 []) [3, 4])
 (.seq (.reg [.frzP 3] (
 ⟨some 58, none, .mkfn 61, [.t 3]⟩ ::
 ⟨some 5, none, .mov, [.t 58]⟩ ::
 []) [3, 4, 5])
 (.seq (.seq (.reg [] (
 ⟨some 59, none, .faddr 0, [.t 3]⟩ ::
 ⟨some 60, none, .faddr 4, [.t 59]⟩ ::
 ⟨some 61, none, .load false 1, [.t 60]⟩ ::
 ⟨some 62, none, .len false, [.t 61]⟩ ::
 ⟨some 63, none, .mov, [.k (.d (.int .i64 0))]⟩ ::
 []) [3, 4, 5, 61, 62, 63])
 (.block 0
 (.loop [] [3, 4, 5, 61, 62, 63] [3, 900000, 901000]
 (.seq (.reg [] (
 ⟨some 64, none, .bin .lss, [.t 63, .t 62]⟩ ::
 []) [3, 4, 5, 61, 62, 63, 64])
 (.seq (.cond (.t 64)
 (.skip)
 (.exit 0))
 (.seq (.block 1
 (.seq (.reg [] (
 ⟨some 65, none, .mov, [.t 63]⟩ ::
 ⟨some 66, none, .iaddrS 1, [.t 61, .t 63]⟩ ::
 ⟨some 67, none, .load false 1, [.t 66]⟩ ::
 ⟨some 6, none, .mov, [.t 65]⟩ ::
 ⟨some 7, none, .mov, [.t 67]⟩ ::
 []) [3, 4, 5, 6, 7, 61, 62, 63])
 (.seq (.draw [] (
 (⟨some 68, none, .mov, [.t 7]⟩, []) ::
 (⟨some 69, none, .len false, [.t 68]⟩, []) ::
 (⟨some 70, none, .load true 6, [.t 3]⟩, []) ::
 (⟨some 71, none, .call 49, [.t 70]⟩, [1]) ::
 (⟨some 72, none, .bin .neq, [.t 69, .t 71]⟩, []) ::
 (⟨some 73, none, .mov, [.t 72]⟩, []) ::
 (⟨some 74, some (73, false), .faddr 0, [.t 3]⟩, []) ::
 (⟨some 75, some (73, false), .faddr 5, [.t 74]⟩, []) ::
 (⟨some 76, some (73, false), .load false 1, [.t 75]⟩, []) ::
 (⟨some 77, some (73, false), .mov, [.t 6]⟩, []) ::
 (⟨some 78, some (73, false), .iaddrS 1, [.t 76, .t 77]⟩, []) ::
 (⟨some 79, some (73, false), .load false 1, [.t 78]⟩, []) ::
 (⟨some 80, some (73, false), .len false, [.t 79]⟩, []) ::
 (⟨some 81, some (73, false), .load true 6, [.t 3]⟩, []) ::
 (⟨some 82, some (73, false), .call 49, [.t 81]⟩, [8, 10, 11, 12]) ::
 (⟨some 83, some (73, false), .bin .neq, [.t 80, .t 82]⟩, []) ::
 (⟨some 84, none, .pick, [.t 73, .k (.d (.bool true)), .t 83]⟩, []) ::
 (⟨some 85, none, .mov, [.t 84]⟩, []) ::
 (⟨some 86, some (85, false), .mov, [.t 7]⟩, []) ::
 (⟨some 87, some (85, false), .mov, [.t 4]⟩, []) ::
 (⟨some 88, some (85, false), .call 46, [.t 86, .t 87]⟩, []) ::
 (⟨some 89, none, .pick, [.t 85, .k (.d (.bool true)), .t 88]⟩, []) ::
 (⟨some 90, none, .mov, [.t 89]⟩, []) ::
 (⟨some 91, some (90, false), .faddr 0, [.t 3]⟩, []) ::
 (⟨some 92, some (90, false), .faddr 5, [.t 91]⟩, []) ::
 (⟨some 93, some (90, false), .load false 1, [.t 92]⟩, []) ::
 (⟨some 94, some (90, false), .mov, [.t 6]⟩, []) ::
 (⟨some 95, some (90, false), .iaddrS 1, [.t 93, .t 94]⟩, []) ::
 (⟨some 96, some (90, false), .load false 1, [.t 95]⟩, []) ::
 (⟨some 97, some (90, false), .mov, [.t 5]⟩, []) ::
 (⟨some 98, some (90, false), .call 46, [.t 96, .t 97]⟩, []) ::
 (⟨some 99, none, .pick, [.t 90, .k (.d (.bool true)), .t 98]⟩, []) ::
 []) [3, 4, 5, 61, 62, 63, 99])
 (.cond (.t 99)
 (.seq (.reg [] (
 ⟨some 2, none, .mov, [.k (.d (.int .i64 40))]⟩ ::
 []) [2])
 (.ret))
 (.skip)))))
 (.reg [] (
 ⟨some 100, none, .bin .add, [.t 63, .k (.d (.int .i64 1))]⟩ ::
 ⟨some 63, none, .mov, [.t 100]⟩ ::
 []) [3, 4, 5, 61, 62, 63])))))))
 (.seq (.reg [] (
 ⟨some 2, none, .mov, [.k (.d (.int .i64 0))]⟩ ::
 []) [2])
 (.ret)))))))
theorem dec_codes_Check : Fun E0 F_codes_Check pc_codes_Check [.t 2] 101 := fun_of_dec (fl := []) (by kernel_rfl)
-- platter/platterref04.Check (1)
abbrev F_ref04_Check : Nat := 34
def pc_ref04_Check : PC :=
 .seq (.reg [] (
 ⟨some 1, none, .box, [.t 0]⟩ ::
 ⟨some 2, none, .mov, [.k (.d (.int .i64 0))]⟩ ::
 []) [1])
 (.seq (.seq (.reg [] (
 ⟨some 5, none, .faddr 0, [.t 1]⟩ ::
 ⟨some 6, none, .load false 1, [.t 5]⟩ ::
 ⟨some 7, none, .call 43, [.t 6, .k (.d (.int .i64 1)), .k (.d (.int .i64 2))]⟩ ::
 ⟨some 8, none, .un .not, [.t 7]⟩ ::
 ⟨some 9, none, .mov, [.t 8]⟩ ::
 ⟨some 10, some (9, false), .faddr 1, [.t 1]⟩ ::
 ⟨some 11, some (9, false), .load false 1, [.t 10]⟩ ::
 ⟨some 12, some (9, false), .call 43, [.t 11, .k (.d (.int .i64 1)), .k (.d (.int .i64 5))]⟩ ::
 ⟨some 13, some (9, false), .un .not, [.t 12]⟩ ::
 ⟨some 14, none, .pick, [.t 9, .k (.d (.bool true)), .t 13]⟩ ::
 ⟨some 15, none, .mov, [.t 14]⟩ ::
 ⟨some 16, some (15, false), .faddr 2, [.t 1]⟩ ::
 ⟨some 17, some (15, false), .load false 1, [.t 16]⟩ ::
 ⟨some 18, some (15, false), .faddr 3, [.t 1]⟩ ::
 ⟨some 19, some (15, false), .load false 1, [.t 18]⟩ ::
 ⟨some 20, some (15, false), .call 43, [.t 17, .k (.d (.int .i64 0)), .t 19]⟩ ::
 ⟨some 21, some (15, false), .un .not, [.t 20]⟩ ::
 ⟨some 22, none, .pick, [.t 15, .k (.d (.bool true)), .t 21]⟩ ::
 ⟨some 23, none, .mov, [.t 22]⟩ ::
 ⟨some 24, some (23, false), .faddr 3, [.t 1]⟩ ::
 ⟨some 25, some (23, false), .load false 1, [.t 24]⟩ ::
 ⟨some 26, some (23, false), .bin .gtr, [.t 25, .k (.d (.int .i64 12))]⟩ ::
 ⟨some 27, none, .pick, [.t 23, .k (.d (.bool true)), .t 26]⟩ ::
 ⟨some 28, none, .mov, [.t 27]⟩ ::
 ⟨some 29, some (28, false), .faddr 4, [.t 1]⟩ ::
 ⟨some 30, some (28, false), .load false 1, [.t 29]⟩ ::
 ⟨some 31, some (28, false), .len false, [.t 30]⟩ ::
 ⟨some 32, some (28, false), .call 43, [.t 31, .k (.d (.int .i64 1)), .k (.d (.int .i64 4))]⟩ ::
 ⟨some 33, some (28, false), .un .not, [.t 32]⟩ ::
 ⟨some 34, none, .pick, [.t 28, .k (.d (.bool true)), .t 33]⟩ ::
 ⟨some 35, none, .mov, [.t 34]⟩ ::
 ⟨some 36, some (35, false), .faddr 5, [.t 1]⟩ ::
 ⟨some 37, some (35, false), .load false 1, [.t 36]⟩ ::
 ⟨some 38, some (35, false), .len false, [.t 37]⟩ ::
 ⟨some 39, some (35, false), .faddr 4, [.t 1]⟩ ::
 ⟨some 40, some (35, false), .load false 1, [.t 39]⟩ ::
 ⟨some 41, some (35, false), .len false, [.t 40]⟩ ::
 ⟨some 42, some (35, false), .bin .neq, [.t 38, .t 41]⟩ ::
 ⟨some 43, none, .pick, [.t 35, .k (.d (.bool true)), .t 42]⟩ ::
 []) [1, 43])
 (.cond (.t 43)
 (.seq (.reg [] (
 ⟨some 2, none, .mov, [.k (.d (.int .i64 40))]⟩ ::
 []) [2])
 (.ret))
 (.skip)))
 (.seq (.seq (.reg [] (
 ⟨some 3, none, .mov, [.k (.d (.int .i64 0))]⟩ ::
 []) [1, 3])
 (.block 0
 (.loop [] [1, 3] [1, 900000, 901000]
 (.seq (.seq (.reg [] (
 ⟨some 44, none, .mov, [.t 3]⟩ ::
 ⟨some 45, none, .faddr 4, [.t 1]⟩ ::
 ⟨some 46, none, .load false 1, [.t 45]⟩ ::
 ⟨some 47, none, .len false, [.t 46]⟩ ::
 ⟨some 48, none, .bin .lss, [.t 44, .t 47]⟩ ::
 []) [1, 3, 48])
 (.cond (.t 48)
 (.skip)
 (.exit 0)))
 (.seq (.block 1
 (.seq (.seq (.draw [] (
 (⟨some 51, none, .faddr 4, [.t 1]⟩, []) ::
 (⟨some 52, none, .load false 1, [.t 51]⟩, []) ::
 (⟨some 53, none, .mov, [.t 3]⟩, []) ::
 (⟨some 54, none, .iaddrS 1, [.t 52, .t 53]⟩, []) ::
 (⟨some 55, none, .load false 1, [.t 54]⟩, []) ::
 (⟨some 56, none, .len false, [.t 55]⟩, []) ::
 (⟨some 57, none, .faddr 0, [.t 1]⟩, []) ::
 (⟨some 58, none, .load false 1, [.t 57]⟩, []) ::
 (⟨some 59, none, .conv .u64, [.t 58]⟩, []) ::
 (⟨some 60, none, .bin .shl, [.k (.d (.int .i64 1)), .t 59]⟩, []) ::
 (⟨some 61, none, .bin .neq, [.t 56, .t 60]⟩, []) ::
 (⟨some 62, none, .mov, [.t 61]⟩, []) ::
 (⟨some 63, some (62, false), .faddr 5, [.t 1]⟩, []) ::
 (⟨some 64, some (62, false), .load false 1, [.t 63]⟩, []) ::
 (⟨some 65, some (62, false), .mov, [.t 3]⟩, []) ::
 (⟨some 66, some (62, false), .iaddrS 1, [.t 64, .t 65]⟩, []) ::
 (⟨some 67, some (62, false), .load false 1, [.t 66]⟩, []) ::
 (⟨some 68, some (62, false), .len false, [.t 67]⟩, []) ::
 (⟨some 69, some (62, false), .faddr 0, [.t 1]⟩, []) ::
 (⟨some 70, some (62, false), .load false 1, [.t 69]⟩, []) ::
 (⟨some 71, some (62, false), .conv .u64, [.t 70]⟩, []) ::
 (⟨some 72, some (62, false), .bin .shl, [.k (.d (.int .i64 1)), .t 71]⟩, []) ::
 (⟨some 73, some (62, false), .bin .neq, [.t 68, .t 72]⟩, []) ::
 (⟨some 74, none, .pick, [.t 62, .k (.d (.bool true)), .t 73]⟩, []) ::
 []) [1, 3, 74])
 (.cond (.t 74)
 (.seq (.reg [] (
 ⟨some 2, none, .mov, [.k (.d (.int .i64 40))]⟩ ::
 []) [2])
 (.ret))
 (.skip)))
 (.seq (.reg [] (
 ⟨some 4, none, .mov, [.k (.d (.int .i64 0))]⟩ ::
 []) [1, 3, 4])
 (.block 2
 (.loop [] [1, 3, 4] [1, 900000, 901000]
 (.seq (.seq (.reg [] (
 ⟨some 75, none, .mov, [.t 4]⟩ ::
 ⟨some 76, none, .faddr 4, [.t 1]⟩ ::
 ⟨some 77, none, .load false 1, [.t 76]⟩ ::
 ⟨some 78, none, .mov, [.t 3]⟩ ::
 ⟨some 79, none, .iaddrS 1, [.t 77, .t 78]⟩ ::
 ⟨some 80, none, .load false 1, [.t 79]⟩ ::
 ⟨some 81, none, .len false, [.t 80]⟩ ::
 ⟨some 82, none, .bin .lss, [.t 75, .t 81]⟩ ::
 []) [1, 3, 4, 82])
 (.cond (.t 82)
 (.skip)
 (.exit 2)))
 (.seq (.block 3
 (.seq (.draw [] (
 (⟨some 85, none, .faddr 4, [.t 1]⟩, []) ::
 (⟨some 86, none, .load false 1, [.t 85]⟩, []) ::
 (⟨some 87, none, .mov, [.t 3]⟩, []) ::
 (⟨some 88, none, .iaddrS 1, [.t 86, .t 87]⟩, []) ::
 (⟨some 89, none, .load false 1, [.t 88]⟩, []) ::
 (⟨some 90, none, .mov, [.t 4]⟩, []) ::
 (⟨some 91, none, .iaddrS 1, [.t 89, .t 90]⟩, []) ::
 (⟨some 92, none, .load false 1, [.t 91]⟩, []) ::
 (⟨some 93, none, .faddr 1, [.t 1]⟩, []) ::
 (⟨some 94, none, .load false 1, [.t 93]⟩, []) ::
 (⟨some 95, none, .conv .u64, [.t 94]⟩, []) ::
 (⟨some 96, none, .bin .shl, [.k (.d (.int .i64 1)), .t 95]⟩, []) ::
 (⟨some 97, none, .bin .sub, [.t 96, .k (.d (.int .i64 1))]⟩, []) ::
 (⟨some 98, none, .call 43, [.t 92, .k (.d (.int .i64 0)), .t 97]⟩, []) ::
 (⟨some 99, none, .un .not, [.t 98]⟩, []) ::
 (⟨some 100, none, .mov, [.t 99]⟩, []) ::
 (⟨some 101, some (100, false), .faddr 5, [.t 1]⟩, []) ::
 (⟨some 102, some (100, false), .load false 1, [.t 101]⟩, []) ::
 (⟨some 103, some (100, false), .mov, [.t 3]⟩, []) ::
 (⟨some 104, some (100, false), .iaddrS 1, [.t 102, .t 103]⟩, []) ::
 (⟨some 105, some (100, false), .load false 1, [.t 104]⟩, []) ::
 (⟨some 106, some (100, false), .mov, [.t 4]⟩, []) ::
 (⟨some 107, some (100, false), .iaddrS 1, [.t 105, .t 106]⟩, []) ::
 (⟨some 108, some (100, false), .load false 1, [.t 107]⟩, []) ::
 (⟨some 109, some (100, false), .faddr 4, [.t 1]⟩, []) ::
 (⟨some 110, some (100, false), .load false 1, [.t 109]⟩, []) ::
 (⟨some 111, some (100, false), .len false, [.t 110]⟩, []) ::
 (⟨some 112, some (100, false), .bin .sub, [.t 111, .k (.d (.int .i64 1))]⟩, []) ::
 (⟨some 113, some (100, false), .call 43, [.t 108, .k (.d (.int .i64 0)), .t 112]⟩, []) ::
 (⟨some 114, some (100, false), .un .not, [.t 113]⟩, []) ::
 (⟨some 115, none, .pick, [.t 100, .k (.d (.bool true)), .t 114]⟩, []) ::
 []) [1, 3, 4, 115])
 (.cond (.t 115)
 (.seq (.reg [] (
 ⟨some 2, none, .mov, [.k (.d (.int .i64 40))]⟩ ::
 []) [2])
 (.ret))
 (.skip))))
 (.reg [] (
 ⟨some 83, none, .mov, [.t 4]⟩ ::
 ⟨some 84, none, .bin .add, [.t 83, .k (.d (.int .i64 1))]⟩ ::
 ⟨some 4, none, .mov, [.t 84]⟩ ::
 []) [1, 3, 4]))))))))
 (.reg [] (
 ⟨some 49, none, .mov, [.t 3]⟩ ::
 ⟨some 50, none, .bin .add, [.t 49, .k (.d (.int .i64 1))]⟩ ::
 ⟨some 3, none, .mov, [.t 50]⟩ ::
 []) [1, 3]))))))
 (.seq (.reg [] (
 ⟨some 2, none, .mov, [.k (.d (.int .i64 0))]⟩ ::
 []) [2])
 (.ret))))
theorem dec_ref04_Check : Fun E0 F_ref04_Check pc_ref04_Check [.t 2] 116 := fun_of_dec (fl := []) (by kernel_rfl)
abbrev F_ref04_Encode : Nat := 35
abbrev F_ref04_Decode : Nat := 36
abbrev F_law04_sameCode : Nat := 37
abbrev F_codes_Holds : Nat := 38
abbrev F_ref04_Keeps : Nat := 39
abbrev F_ref04_Holds : Nat := 40
abbrev F_ref04_Stream : Nat := 41
abbrev F_ref04_Order : Nat := 42
-- platter/platterref04.within (3)
abbrev F_ref04_within : Nat := 43
def pc_ref04_within : PC :=
 .seq (.reg [] (
 ⟨some 6, none, .mov, [.k (.d (.bool false))]⟩ ::
 []) [0, 1, 2])
 (.seq (.reg [] (
 ⟨some 7, none, .mov, [.t 0]⟩ ::
 ⟨some 8, none, .mov, [.t 1]⟩ ::
 ⟨some 9, none, .bin .geq, [.t 7, .t 8]⟩ ::
 ⟨some 10, none, .mov, [.t 9]⟩ ::
 ⟨some 11, some (10, true), .mov, [.t 0]⟩ ::
 ⟨some 12, some (10, true), .mov, [.t 2]⟩ ::
 ⟨some 13, some (10, true), .bin .leq, [.t 11, .t 12]⟩ ::
 ⟨some 14, none, .pick, [.t 10, .t 13, .k (.d (.bool false))]⟩ ::
 ⟨some 6, none, .mov, [.t 14]⟩ ::
 []) [6])
 (.ret))
theorem dec_ref04_within : Fun E0 F_ref04_within pc_ref04_within [.t 6] 15 := fun_of_dec (fl := []) (by kernel_rfl)
-- platter/platterlaw04.Example (0)
abbrev F_law04_Example : Nat := 44
def pc_law04_Example : PC :=
 .seq (.reg [] (
 ⟨some 0, none, .zero [.int .i64 0, .int .i64 0, .int .i64 0, .int .i64 0, .list true [], .list true []], []⟩ ::
 []) [0])
 (.seq (.reg [] (
 ⟨some 1, none, .mkrow 1 (.int .i64 0) 2 [0, 1], [.k (.d (.int .i64 2)), .k (.d (.int .i64 1))]⟩ ::
 ⟨some 2, none, .mkrow 1 (.int .i64 0) 2 [0, 1], [.k (.d (.int .i64 0)), .k (.d (.int .i64 1))]⟩ ::
 ⟨some 3, none, .mkrow 1 (.list true []) 2 [0, 1], [.t 1, .t 2]⟩ ::
 ⟨some 4, none, .mkrow 1 (.int .i64 0) 2 [0, 1], [.k (.d (.int .i64 0)), .k (.d (.int .i64 1))]⟩ ::
 ⟨some 5, none, .mkrow 1 (.int .i64 0) 2 [0, 1], [.k (.d (.int .i64 0)), .k (.d (.int .i64 1))]⟩ ::
 ⟨some 6, none, .mkrow 1 (.list true []) 2 [0, 1], [.t 4, .t 5]⟩ ::
 ⟨some 7, none, .build [.int .i64 0, .int .i64 0, .int .i64 0, .int .i64 0, .list true [], .list true []] [(0, 1), (1, 1), (2, 1), (3, 1), (4, 1), (5, 1)], [.k (.d (.int .i64 1)), .k (.d (.int .i64 2)), .k (.d (.int .i64 1)), .k (.d (.int .i64 3)), .t 3, .t 6]⟩ ::
 ⟨none, none, .store 6, [.t 0, .t 7]⟩ ::
 []) [0])
 (.ret))
theorem dec_law04_Example : Fun E0 F_law04_Example pc_law04_Example [.c 0 24 true 6] 8 := fun_of_dec (fl := []) (by kernel_rfl)
-- platter/codes.open (2)
abbrev F_codes_open : Nat := 45
def pc_codes_open : PC :=
 .seq (.reg [] (
 ⟨some 2, none, .box, [.t 0]⟩ ::
 ⟨some 4, none, .zero [.int .i64 0, .int .i64 0, .int .i64 0, .int .i64 0, .list true [], .list true []], []⟩ ::
 ⟨some 5, none, .mov, [.k (.d (.int .i64 0))]⟩ ::
 []) [1, 2, 4])
 (.seq (.reg [] (
 ⟨some 8, none, .load true 6, [.t 2]⟩ ::
 ⟨some 9, none, .build [.int .i64 0, .int .i64 0, .int .i64 0, .int .i64 0, .list true [], .list true []] [(0, 6)], [.t 8]⟩ ::
 ⟨some 6, none, .zero [.int .i64 0, .int .i64 0, .int .i64 0, .int .i64 0, .list true [], .list true []], []⟩ ::
 ⟨none, none, .store 6, [.t 6, .t 9]⟩ ::
 []) [1, 2, 4, 6])
 (.seq (.seq (.reg [] (
 ⟨some 10, none, .load true 6, [.t 2]⟩ ::
 ⟨some 11, none, .call 33, [.t 10]⟩ ::
 ⟨some 7, none, .mov, [.t 11]⟩ ::
 []) [1, 4, 6, 7])
 (.seq (.reg [] (
 ⟨some 12, none, .mov, [.t 7]⟩ ::
 ⟨some 13, none, .bin .neq, [.t 12, .k (.d (.int .i64 0))]⟩ ::
 []) [1, 4, 6, 7, 13])
 (.cond (.t 13)
 (.seq (.reg [] (
 ⟨some 14, none, .load true 6, [.t 6]⟩ ::
 ⟨some 15, none, .mov, [.t 7]⟩ ::
 ⟨none, none, .store 6, [.t 4, .t 14]⟩ ::
 ⟨some 5, none, .mov, [.t 15]⟩ ::
 []) [4, 5])
 (.ret))
 (.skip))))
 (.seq (.seq (.reg [] (
 ⟨some 16, none, .load true 6, [.t 6]⟩ ::
 ⟨some 17, none, .mov, [.t 1]⟩ ::
 ⟨some 18, none, .call 62, [.t 16, .t 17]⟩ ::
 ⟨some 19, none, .un .not, [.t 18]⟩ ::
 []) [4, 6, 19])
 (.cond (.t 19)
 (.seq (.reg [] (
 ⟨some 20, none, .load true 6, [.t 6]⟩ ::
 ⟨none, none, .store 6, [.t 4, .t 20]⟩ ::
 ⟨some 5, none, .mov, [.k (.d (.int .i64 41))]⟩ ::
 []) [4, 5])
 (.ret))
 (.skip)))
 (.seq (.reg [] (
 ⟨some 21, none, .load true 6, [.t 6]⟩ ::
 ⟨none, none, .store 6, [.t 4, .t 21]⟩ ::
 ⟨some 5, none, .mov, [.k (.d (.int .i64 0))]⟩ ::
 []) [4, 5])
 (.ret)))))
theorem dec_codes_open : Fun E0 F_codes_open pc_codes_open [.c 4 74 true 6, .t 5] 22 := fun_of_dec (fl := []) (by kernel_rfl)
-- slices.ContainsFunc[[]int,int] (2)
abbrev F_slices_ContainsFunc_int_int : Nat := 46
def pc_slices_ContainsFunc_int_int : PC :=
 .seq (.reg [] (
 ⟨some 4, none, .mov, [.k (.d (.bool false))]⟩ ::
 []) [0, 1])
 (.seq (.reg [] (
 ⟨some 5, none, .mov, [.t 0]⟩ ::
 ⟨some 6, none, .mov, [.t 1]⟩ ::
 ⟨some 7, none, .call 67, [.t 5, .t 6]⟩ ::
 ⟨some 8, none, .bin .geq, [.t 7, .k (.d (.int .i64 0))]⟩ ::
 ⟨some 4, none, .mov, [.t 8]⟩ ::
 []) [4])
 (.ret))
theorem dec_slices_ContainsFunc_int_int : Fun E0 F_slices_ContainsFunc_int_int pc_slices_ContainsFunc_int_int [.t 4] 9 := fun_of_dec (fl := []) (by kernel_rfl)
-- platter/codes.Encode$1 (1)
abbrev F_codes_Encode_1 : Nat := 47
def pc_codes_Encode_1 : PC :=
 .seq (.reg [] (
 ⟨some 3, none, .mov, [.k (.d (.bool false))]⟩ ::
 []) [0, 1])
 (.seq (.reg [] (
 ⟨some 4, none, .mov, [.t 0]⟩ ::
 ⟨some 5, none, .load true 6, [.t 1]⟩ ::
 ⟨some 6, none, .call 49, [.t 5]⟩ ::
 ⟨some 7, none, .bin .sub, [.t 6, .k (.d (.int .i64 1))]⟩ ::
 ⟨some 8, none, .call 48, [.t 4, .k (.d (.int .i64 0)), .t 7]⟩ ::
 ⟨some 9, none, .un .not, [.t 8]⟩ ::
 ⟨some 3, none, .mov, [.t 9]⟩ ::
 []) [3])
 (.ret))
theorem dec_codes_Encode_1 : Fun E0 F_codes_Encode_1 pc_codes_Encode_1 [.t 3] 10 := fun_of_dec (fl := []) (by kernel_rfl)
-- platter/codes.within (3)
abbrev F_codes_within : Nat := 48
def pc_codes_within : PC :=
 .seq (.reg [] (
 ⟨some 6, none, .mov, [.k (.d (.bool false))]⟩ ::
 []) [0, 1, 2])
 (.seq (.reg [] (
 ⟨some 7, none, .mov, [.t 1]⟩ ::
 ⟨some 8, none, .mov, [.t 0]⟩ ::
 ⟨some 9, none, .bin .leq, [.t 7, .t 8]⟩ ::
 ⟨some 10, none, .mov, [.t 9]⟩ ::
 ⟨some 11, some (10, true), .mov, [.t 0]⟩ ::
 ⟨some 12, some (10, true), .mov, [.t 2]⟩ ::
 ⟨some 13, some (10, true), .bin .leq, [.t 11, .t 12]⟩ ::
 ⟨some 14, none, .pick, [.t 10, .t 13, .k (.d (.bool false))]⟩ ::
 ⟨some 6, none, .mov, [.t 14]⟩ ::
 []) [6])
 (.ret))
theorem dec_codes_within : Fun E0 F_codes_within pc_codes_within [.t 6] 15 := fun_of_dec (fl := []) (by kernel_rfl)
-- (platter/codes.code).words (1)
abbrev F_codes_code_words : Nat := 49
def pc_codes_code_words : PC :=
 .seq (.reg [] (
 ⟨some 1, none, .box, [.t 0]⟩ ::
 ⟨some 2, none, .mov, [.k (.d (.int .i64 0))]⟩ ::
 []) [1])
 (.seq (.reg [] (
 ⟨some 3, none, .faddr 0, [.t 1]⟩ ::
 ⟨some 4, none, .faddr 0, [.t 3]⟩ ::
 ⟨some 5, none, .load false 1, [.t 4]⟩ ::
 ⟨some 6, none, .bin .shl, [.k (.d (.int .i64 1)), .t 5]⟩ ::
 ⟨some 2, none, .mov, [.t 6]⟩ ::
 []) [2])
 (.ret))
theorem dec_codes_code_words : Fun E0 F_codes_code_words pc_codes_code_words [.t 2] 7 := fun_of_dec (fl := []) (by kernel_rfl)
-- (platter/codes.code).bits (3)
abbrev F_codes_code_bits : Nat := 50
def pc_codes_code_bits : PC :=
 .seq (.reg [] (
 ⟨some 3, none, .box, [.t 0]⟩ ::
 ⟨some 6, none, .mov, [.k (.d (.list true []))]⟩ ::
 []) [1, 2, 3])
 (.seq (.reg [] (
 ⟨some 7, none, .mov, [.k (.d (.list true []))]⟩ ::
 []) [1, 2, 3, 7])
 (.seq (.seq (.reg [] (
 ⟨some 9, none, .faddr 0, [.t 3]⟩ ::
 ⟨some 10, none, .faddr 1, [.t 9]⟩ ::
 ⟨some 11, none, .load false 1, [.t 10]⟩ ::
 ⟨some 12, none, .bin .sub, [.t 11, .k (.d (.int .i64 1))]⟩ ::
 ⟨some 8, none, .mov, [.t 12]⟩ ::
 []) [1, 2, 3, 7, 8])
 (.block 0
 (.loop [.own 7 31 3 1] [1, 2, 3, 7, 8] [3, 31, 900000, 900001, 900002, 901000, 901001, 901002]
 (.seq (.seq (.reg [] (
 ⟨some 13, none, .mov, [.t 8]⟩ ::
 ⟨some 14, none, .bin .geq, [.t 13, .k (.d (.int .i64 0))]⟩ ::
 []) [1, 2, 3, 7, 8, 14])
 (.cond (.t 14)
 (.skip)
 (.exit 0)))
 (.seq (.block 1
 (.reg [] (
 ⟨some 17, none, .mov, [.t 7]⟩ ::
 ⟨some 18, none, .faddr 0, [.t 3]⟩ ::
 ⟨some 19, none, .faddr 4, [.t 18]⟩ ::
 ⟨some 20, none, .load false 1, [.t 19]⟩ ::
 ⟨some 21, none, .mov, [.t 1]⟩ ::
 ⟨some 22, none, .iaddrS 1, [.t 20, .t 21]⟩ ::
 ⟨some 23, none, .load false 1, [.t 22]⟩ ::
 ⟨some 24, none, .mov, [.t 2]⟩ ::
 ⟨some 25, none, .iaddrS 1, [.t 23, .t 24]⟩ ::
 ⟨some 26, none, .load false 1, [.t 25]⟩ ::
 ⟨some 27, none, .mov, [.t 8]⟩ ::
 ⟨some 28, none, .bin .shr, [.t 26, .t 27]⟩ ::
 ⟨some 29, none, .bin .and, [.t 28, .k (.d (.int .i64 1))]⟩ ::
 ⟨some 30, none, .mkrow 1 (.int .i64 0) 1 [0], [.t 29]⟩ ::
 ⟨some 31, none, .app 3 1 none true, [.t 17, .t 30]⟩ ::
 ⟨some 7, none, .mov, [.t 31]⟩ ::
 []) [1, 2, 3, 7, 8]))
 (.reg [] (
 ⟨some 15, none, .mov, [.t 8]⟩ ::
 ⟨some 16, none, .bin .sub, [.t 15, .k (.d (.int .i64 1))]⟩ ::
 ⟨some 8, none, .mov, [.t 16]⟩ ::
 []) [1, 2, 3, 7, 8]))))))
 (.seq (.reg [] (
 ⟨some 32, none, .mov, [.t 7]⟩ ::
 ⟨some 6, none, .mov, [.t 32]⟩ ::
 []) [6])
 (.ret))))
theorem dec_codes_code_bits : Fun E0 F_codes_code_bits pc_codes_code_bits [.t 6] 33 := fun_of_dec (fl := []) (by kernel_rfl)
-- platter/codes.are (1)
abbrev F_codes_are : Nat := 51
def pc_codes_are : PC :=
 .seq (.reg [] (
 ⟨some 2, none, .mov, [.k (.d (.bool false))]⟩ ::
 []) [0])
 (.seq (.reg [] (
 ⟨some 3, none, .mov, [.t 0]⟩ ::
 ⟨some 4, none, .call 46, [.t 3, .k (.fn 68 [])]⟩ ::
 ⟨some 5, none, .un .not, [.t 4]⟩ ::
 ⟨some 2, none, .mov, [.t 5]⟩ ::
 []) [2])
 (.ret))
theorem dec_codes_are : Fun E0 F_codes_are pc_codes_are [.t 2] 6 := fun_of_dec (fl := []) (by kernel_rfl)
-- platter/codes.isMark (1)
abbrev F_codes_isMark : Nat := 52
def pc_codes_isMark : PC :=
 .seq (.reg [] (
 ⟨some 2, none, .mov, [.k (.d (.bool false))]⟩ ::
 []) [0])
 (.seq (.reg [] (
 ⟨some 3, none, .mov, [.t 0]⟩ ::
 ⟨some 4, none, .len false, [.t 3]⟩ ::
 ⟨some 5, none, .call 48, [.t 4, .k (.d (.int .i64 1)), .k (.d (.int .i64 16))]⟩ ::
 ⟨some 6, none, .mov, [.t 5]⟩ ::
 ⟨some 7, some (6, true), .mov, [.t 0]⟩ ::
 ⟨some 8, some (6, true), .call 51, [.t 7]⟩ ::
 ⟨some 9, none, .pick, [.t 6, .t 8, .k (.d (.bool false))]⟩ ::
 ⟨some 2, none, .mov, [.t 9]⟩ ::
 []) [2])
 (.ret))
theorem dec_codes_isMark : Fun E0 F_codes_isMark pc_codes_isMark [.t 2] 10 := fun_of_dec (fl := []) (by kernel_rfl)
-- (platter/codes.code).apart (5)
abbrev F_codes_code_apart : Nat := 53
def pc_codes_code_apart : PC :=
 .seq (.reg [] (
 ⟨some 5, none, .box, [.t 0]⟩ ::
 ⟨some 10, none, .mov, [.k (.d (.int .i64 0))]⟩ ::
 []) [1, 2, 3, 4, 5])
 (.seq (.seq (.reg [] (
 ⟨some 18, none, .mov, [.t 3]⟩ ::
 ⟨some 19, none, .len false, [.t 18]⟩ ::
 ⟨some 20, none, .bin .eql, [.t 19, .k (.d (.int .i64 0))]⟩ ::
 []) [1, 2, 3, 4, 5, 20])
 (.cond (.t 20)
 (.seq (.reg [] (
 ⟨some 10, none, .mov, [.k (.d (.int .i64 0))]⟩ ::
 []) [10])
 (.ret))
 (.skip)))
 (.seq (.reg [] (
 ⟨some 21, none, .mov, [.t 1]⟩ ::
 ⟨some 22, none, .mov, [.t 3]⟩ ::
 ⟨some 23, none, .len false, [.t 22]⟩ ::
 ⟨some 24, none, .build [.int .i64 0, .int .i64 0] [(0, 1), (1, 1)], [.t 21, .t 23]⟩ ::
 ⟨some 11, none, .zero [.int .i64 0, .int .i64 0], []⟩ ::
 ⟨none, none, .store 2, [.t 11, .t 24]⟩ ::
 []) [1, 2, 3, 4, 5, 11])
 (.seq (.seq (.reg [] (
 ⟨some 26, none, .mov, [.t 4]⟩ ::
 ⟨some 27, none, .load true 2, [.t 11]⟩ ::
 ⟨some 28, none, .lookup true (true, [some .i64, some .i64]) (.int .i64 0), [.t 26, .t 27]⟩ ::
 ⟨some 25, none, .mov, [.t 28]⟩ ::
 ⟨some 29, none, .extract 0, [.t 25]⟩ ::
 ⟨some 30, none, .extract 1, [.t 25]⟩ ::
 ⟨some 12, none, .mov, [.t 29]⟩ ::
 ⟨some 13, none, .mov, [.t 30]⟩ ::
 []) [1, 2, 3, 4, 5, 11, 12, 13])
 (.seq (.reg [] (
 ⟨some 31, none, .mov, [.t 13]⟩ ::
 ⟨some 32, none, .mov, [.t 31]⟩ ::
 ⟨some 33, some (32, true), .mov, [.t 2]⟩ ::
 ⟨some 34, some (32, true), .bin .eql, [.t 33, .k (.d (.int .i64 0))]⟩ ::
 ⟨some 35, none, .pick, [.t 32, .t 34, .k (.d (.bool false))]⟩ ::
 []) [1, 2, 3, 4, 5, 11, 12, 35])
 (.cond (.t 35)
 (.seq (.reg [] (
 ⟨some 36, none, .mov, [.t 12]⟩ ::
 ⟨some 10, none, .mov, [.t 36]⟩ ::
 []) [10])
 (.ret))
 (.skip))))
 (.seq (.reg [] (
 ⟨some 14, none, .mov, [.k (.d (.int .i64 16))]⟩ ::
 []) [1, 2, 3, 4, 5, 11, 14])
 (.seq (.seq (.reg [] (
 ⟨some 37, none, .load true 6, [.t 5]⟩ ::
 ⟨some 38, none, .call 49, [.t 37]⟩ ::
 ⟨some 39, none, .mov, [.k (.d (.int .i64 0))]⟩ ::
 []) [1, 2, 3, 4, 5, 11, 14, 38, 39])
 (.block 0
 (.loop [] [1, 2, 3, 4, 5, 11, 14, 38, 39] [5, 11, 38, 10038, 900000, 900001, 900002, 900003, 900004, 901000, 901001, 901002, 901003, 901004]
 (.seq (.reg [] (
 ⟨some 40, none, .bin .lss, [.t 39, .t 38]⟩ ::
 []) [1, 2, 3, 4, 5, 11, 14, 38, 39, 40])
 (.seq (.cond (.t 40)
 (.skip)
 (.exit 0))
 (.seq (.block 1
 (.seq (.reg [] (
 ⟨some 41, none, .mov, [.t 39]⟩ ::
 ⟨some 15, none, .mov, [.t 41]⟩ ::
 []) [1, 2, 3, 4, 5, 11, 14, 15, 38, 39])
 (.seq (.reg [] (
 ⟨some 42, none, .load true 6, [.t 5]⟩ ::
 ⟨some 43, none, .mov, [.t 1]⟩ ::
 ⟨some 44, none, .mov, [.t 15]⟩ ::
 ⟨some 45, none, .call 50, [.t 42, .t 43, .t 44]⟩ ::
 ⟨some 46, none, .mov, [.t 2]⟩ ::
 ⟨some 47, none, .slice 1 true false false, [.t 45, .t 46]⟩ ::
 ⟨some 16, none, .mov, [.t 47]⟩ ::
 []) [1, 2, 3, 4, 5, 11, 14, 15, 16, 38, 39])
 (.seq (.reg [] (
 ⟨some 48, none, .mov, [.t 3]⟩ ::
 ⟨some 49, none, .mov, [.t 3]⟩ ::
 ⟨some 50, none, .len false, [.t 49]⟩ ::
 ⟨some 51, none, .mov, [.t 16]⟩ ::
 ⟨some 52, none, .len false, [.t 51]⟩ ::
 ⟨some 53, none, .minmax false, [.t 50, .t 52]⟩ ::
 ⟨some 54, none, .slice 1 false true false, [.t 48, .t 53]⟩ ::
 ⟨some 17, none, .mov, [.t 54]⟩ ::
 []) [1, 2, 3, 4, 5, 11, 14, 15, 16, 17, 38, 39])
 (.draw [] (
 (⟨some 55, none, .mov, [.t 14]⟩, []) ::
 (⟨some 56, none, .mov, [.t 17]⟩, []) ::
 (⟨some 57, none, .mov, [.t 16]⟩, []) ::
 (⟨some 58, none, .call 54, [.t 56, .t 57]⟩, []) ::
 (⟨some 59, none, .load true 6, [.t 5]⟩, [3]) ::
 (⟨some 60, none, .faddr 0, [.t 5]⟩, []) ::
 (⟨some 61, none, .faddr 5, [.t 60]⟩, []) ::
 (⟨some 62, none, .load false 1, [.t 61]⟩, [3]) ::
 (⟨some 63, none, .mov, [.t 1]⟩, []) ::
 (⟨some 64, none, .iaddrS 1, [.t 62, .t 63]⟩, [3]) ::
 (⟨some 65, none, .load false 1, [.t 64]⟩, [3]) ::
 (⟨some 66, none, .mov, [.t 15]⟩, []) ::
 (⟨some 67, none, .iaddrS 1, [.t 65, .t 66]⟩, [3]) ::
 (⟨some 68, none, .load false 1, [.t 67]⟩, [3]) ::
 (⟨some 69, none, .mov, [.t 3]⟩, []) ::
 (⟨some 70, none, .mov, [.t 17]⟩, []) ::
 (⟨some 71, none, .len false, [.t 70]⟩, [3]) ::
 (⟨some 72, none, .slice 1 true false false, [.t 69, .t 71]⟩, [3, 4, 7, 9, 10, 12, 13]) ::
 (⟨some 73, none, .mov, [.t 4]⟩, []) ::
 (⟨some 74, none, .call 53, [.t 59, .t 68, .k (.d (.int .i64 0)), .t 72, .t 73]⟩, []) ::
 (⟨some 75, none, .bin .add, [.t 58, .t 74]⟩, []) ::
 (⟨some 76, none, .minmax false, [.t 55, .t 75]⟩, []) ::
 (⟨some 14, none, .mov, [.t 76]⟩, []) ::
 []) [1, 2, 3, 4, 5, 11, 14, 38, 39])))))
 (.reg [] (
 ⟨some 77, none, .bin .add, [.t 39, .k (.d (.int .i64 1))]⟩ ::
 ⟨some 39, none, .mov, [.t 77]⟩ ::
 []) [1, 2, 3, 4, 5, 11, 14, 38, 39])))))))
 (.seq (.seq (.reg [] (
 ⟨some 78, none, .mov, [.t 2]⟩ ::
 ⟨some 79, none, .bin .eql, [.t 78, .k (.d (.int .i64 0))]⟩ ::
 []) [4, 11, 14, 79])
 (.cond (.t 79)
 (.reg [] (
 ⟨some 80, none, .mov, [.t 4]⟩ ::
 ⟨some 81, none, .load true 2, [.t 11]⟩ ::
 ⟨some 82, none, .mov, [.t 14]⟩ ::
 ⟨none, none, .mapupd (true, [some .i64, some .i64]), [.t 80, .t 81, .t 82]⟩ ::
 []) [14])
 (.skip)))
 (.seq (.reg [] (
 ⟨some 83, none, .mov, [.t 14]⟩ ::
 ⟨some 10, none, .mov, [.t 83]⟩ ::
 []) [10])
 (.ret))))))))
theorem dec_codes_code_apart : Fun E0 F_codes_code_apart pc_codes_code_apart [.t 10] 84 := fun_of_dec (fl := []) (by kernel_rfl)
-- platter/codes.distance (2)
abbrev F_codes_distance : Nat := 54
def pc_codes_distance : PC :=
 .seq (.reg [] (
 ⟨some 4, none, .mov, [.k (.d (.int .i64 0))]⟩ ::
 []) [0, 1, 4])
 (.seq (.seq (.reg [] (
 ⟨some 7, none, .mov, [.t 0]⟩ ::
 ⟨some 8, none, .len false, [.t 7]⟩ ::
 ⟨some 9, none, .mov, [.k (.d (.int .i64 0))]⟩ ::
 []) [1, 4, 7, 8, 9])
 (.block 0
 (.loop [] [1, 4, 7, 8, 9] [900000, 900001, 901000, 901001]
 (.seq (.reg [] (
 ⟨some 10, none, .bin .lss, [.t 9, .t 8]⟩ ::
 []) [1, 4, 7, 8, 9, 10])
 (.seq (.cond (.t 10)
 (.skip)
 (.exit 0))
 (.seq (.block 1
 (.seq (.reg [] (
 ⟨some 11, none, .mov, [.t 9]⟩ ::
 ⟨some 12, none, .iaddrS 1, [.t 7, .t 9]⟩ ::
 ⟨some 13, none, .load false 1, [.t 12]⟩ ::
 ⟨some 5, none, .mov, [.t 11]⟩ ::
 ⟨some 6, none, .mov, [.t 13]⟩ ::
 []) [1, 4, 5, 6, 7, 8, 9])
 (.reg [] (
 ⟨some 14, none, .mov, [.t 4]⟩ ::
 ⟨some 15, none, .mov, [.t 6]⟩ ::
 ⟨some 16, none, .mov, [.t 1]⟩ ::
 ⟨some 17, none, .mov, [.t 5]⟩ ::
 ⟨some 18, none, .iaddrS 1, [.t 16, .t 17]⟩ ::
 ⟨some 19, none, .load false 1, [.t 18]⟩ ::
 ⟨some 20, none, .bin .xor, [.t 15, .t 19]⟩ ::
 ⟨some 21, none, .bin .add, [.t 14, .t 20]⟩ ::
 ⟨some 4, none, .mov, [.t 21]⟩ ::
 []) [1, 4, 7, 8, 9])))
 (.reg [] (
 ⟨some 22, none, .bin .add, [.t 9, .k (.d (.int .i64 1))]⟩ ::
 ⟨some 9, none, .mov, [.t 22]⟩ ::
 []) [1, 4, 7, 8, 9])))))))
 (.seq (.reg [] (
 ⟨some 23, none, .mov, [.t 4]⟩ ::
 ⟨some 4, none, .mov, [.t 23]⟩ ::
 []) [4])
 (.ret)))
theorem dec_codes_distance : Fun E0 F_codes_distance pc_codes_distance [.t 4] 24 := fun_of_dec (fl := []) (by kernel_rfl)
abbrev F_ref04_nearest : Nat := 55
-- platter/platterref04.Spread (2)
abbrev F_ref04_Spread : Nat := 56
def pc_ref04_Spread : PC :=
 .seq (.reg [] (
 ⟨some 2, none, .box, [.t 0]⟩ ::
 ⟨some 4, none, .mov, [.k (.d (.list true []))]⟩ ::
 []) [1, 2])
 (.seq (.reg [] (
 ⟨some 5, none, .mov, [.k (.d (.list true []))]⟩ ::
 []) [1, 2, 5])
 (.seq (.seq (.reg [] (
 ⟨some 7, none, .faddr 1, [.t 2]⟩ ::
 ⟨some 8, none, .load false 1, [.t 7]⟩ ::
 ⟨some 9, none, .bin .sub, [.t 8, .k (.d (.int .i64 1))]⟩ ::
 ⟨some 6, none, .mov, [.t 9]⟩ ::
 []) [1, 5, 6])
 (.block 0
 (.loop [.own 5 21 3 1] [1, 5, 6] [21, 900001, 901001]
 (.seq (.seq (.reg [] (
 ⟨some 10, none, .mov, [.t 6]⟩ ::
 ⟨some 11, none, .bin .geq, [.t 10, .k (.d (.int .i64 0))]⟩ ::
 []) [1, 5, 6, 11])
 (.cond (.t 11)
 (.skip)
 (.exit 0)))
 (.seq (.block 1
 (.reg [] (
 ⟨some 14, none, .mov, [.t 5]⟩ ::
 ⟨some 15, none, .mov, [.t 1]⟩ ::
 ⟨some 16, none, .mov, [.t 6]⟩ ::
 ⟨some 17, none, .conv .u64, [.t 16]⟩ ::
 ⟨some 18, none, .bin .shr, [.t 15, .t 17]⟩ ::
 ⟨some 19, none, .bin .and, [.t 18, .k (.d (.int .i64 1))]⟩ ::
 ⟨some 20, none, .mkrow 1 (.int .i64 0) 1 [0], [.t 19]⟩ ::
 ⟨some 21, none, .app 3 1 none true, [.t 14, .t 20]⟩ ::
 ⟨some 5, none, .mov, [.t 21]⟩ ::
 []) [1, 5, 6]))
 (.reg [] (
 ⟨some 12, none, .mov, [.t 6]⟩ ::
 ⟨some 13, none, .bin .sub, [.t 12, .k (.d (.int .i64 1))]⟩ ::
 ⟨some 6, none, .mov, [.t 13]⟩ ::
 []) [1, 5, 6]))))))
 (.seq (.reg [] (
 ⟨some 22, none, .mov, [.t 5]⟩ ::
 ⟨some 4, none, .mov, [.t 22]⟩ ::
 []) [4])
 (.ret))))
theorem dec_ref04_Spread : Fun E0 F_ref04_Spread pc_ref04_Spread [.t 4] 23 := fun_of_dec (fl := []) (by kernel_rfl)
-- platter/codes.Order$1 (2)
abbrev F_codes_Order_1 : Nat := 57
def pc_codes_Order_1 : PC :=
 .seq (.reg [] (
 ⟨some 5, none, .mov, [.k (.d (.list true []))]⟩ ::
 []) [0, 1, 2])
 (.seq (.reg [] (
 ⟨some 6, none, .mov, [.k (.d (.list true []))]⟩ ::
 []) [0, 1, 2, 6])
 (.seq (.seq (.reg [] (
 ⟨some 12, none, .mov, [.t 0]⟩ ::
 ⟨some 13, none, .len false, [.t 12]⟩ ::
 ⟨some 14, none, .mov, [.k (.d (.int .i64 0))]⟩ ::
 []) [1, 2, 6, 12, 13, 14])
 (.block 0
 (.loop [.own 6 88 88 2] [1, 2, 6, 12, 13, 14] [88, 900000, 900001, 900002, 901000, 901001, 901002]
 (.seq (.reg [] (
 ⟨some 15, none, .bin .lss, [.t 14, .t 13]⟩ ::
 []) [1, 2, 6, 12, 13, 14, 15])
 (.seq (.cond (.t 15)
 (.skip)
 (.exit 0))
 (.seq (.block 1
 (.seq (.reg [] (
 ⟨some 16, none, .iaddrS 2, [.t 12, .t 14]⟩ ::
 ⟨some 17, none, .load true 2, [.t 16]⟩ ::
 ⟨some 8, none, .zero [.int .i64 0, .int .i64 0], []⟩ ::
 ⟨none, none, .store 2, [.t 8, .t 17]⟩ ::
 []) [1, 2, 6, 8, 12, 13, 14])
 (.seq (.reg [] (
 ⟨some 18, none, .load true 6, [.t 2]⟩ ::
 ⟨some 19, none, .call 49, [.t 18]⟩ ::
 ⟨some 20, none, .mov, [.k (.d (.int .i64 0))]⟩ ::
 []) [1, 2, 6, 8, 12, 13, 14, 19, 20])
 (.block 2
 (.loop [.own 6 88 88 2] [1, 2, 6, 8, 12, 13, 14, 19, 20] [8, 19, 88, 10019, 900000, 900001, 900002, 901000, 901001, 901002]
 (.seq (.reg [] (
 ⟨some 21, none, .bin .lss, [.t 20, .t 19]⟩ ::
 []) [1, 2, 6, 8, 12, 13, 14, 19, 20, 21])
 (.seq (.cond (.t 21)
 (.skip)
 (.exit 2))
 (.seq (.block 3
 (.seq (.reg [] (
 ⟨some 22, none, .mov, [.t 20]⟩ ::
 ⟨some 9, none, .mov, [.t 22]⟩ ::
 []) [1, 2, 6, 8, 9, 12, 13, 14, 19, 20])
 (.seq (.reg [] (
 ⟨some 23, none, .load true 6, [.t 2]⟩ ::
 ⟨some 24, none, .call 49, [.t 23]⟩ ::
 ⟨some 25, none, .mov, [.k (.d (.int .i64 0))]⟩ ::
 []) [1, 2, 6, 8, 9, 12, 13, 14, 19, 20, 24, 25])
 (.block 4
 (.loop [.own 6 88 88 2] [1, 2, 6, 8, 9, 12, 13, 14, 19, 20, 24, 25] [8, 19, 24, 88, 10019, 10024, 900000, 900001, 900002, 901000, 901001, 901002]
 (.seq (.reg [] (
 ⟨some 26, none, .bin .lss, [.t 25, .t 24]⟩ ::
 []) [1, 2, 6, 8, 9, 12, 13, 14, 19, 20, 24, 25, 26])
 (.seq (.cond (.t 26)
 (.skip)
 (.exit 4))
 (.seq (.block 5
 (.seq (.reg [] (
 ⟨some 27, none, .mov, [.t 25]⟩ ::
 ⟨some 10, none, .mov, [.t 27]⟩ ::
 []) [1, 2, 6, 8, 9, 10, 12, 13, 14, 19, 20, 24, 25])
 (.seq (.draw [] (
 (⟨some 28, none, .faddr 0, [.t 2]⟩, []) ::
 (⟨some 29, none, .faddr 5, [.t 28]⟩, []) ::
 (⟨some 30, none, .load false 1, [.t 29]⟩, []) ::
 (⟨some 31, none, .iaddrA 2 1, [.t 8, .k (.d (.int .i64 0))]⟩, []) ::
 (⟨some 32, none, .load false 1, [.t 31]⟩, []) ::
 (⟨some 33, none, .iaddrS 1, [.t 30, .t 32]⟩, []) ::
 (⟨some 34, none, .load false 1, [.t 33]⟩, []) ::
 (⟨some 35, none, .mov, [.t 9]⟩, []) ::
 (⟨some 36, none, .iaddrS 1, [.t 34, .t 35]⟩, []) ::
 (⟨some 37, none, .load false 1, [.t 36]⟩, []) ::
 (⟨some 38, none, .faddr 0, [.t 2]⟩, []) ::
 (⟨some 39, none, .faddr 5, [.t 38]⟩, []) ::
 (⟨some 40, none, .load false 1, [.t 39]⟩, []) ::
 (⟨some 41, none, .iaddrA 2 1, [.t 8, .k (.d (.int .i64 1))]⟩, []) ::
 (⟨some 42, none, .load false 1, [.t 41]⟩, []) ::
 (⟨some 43, none, .iaddrS 1, [.t 40, .t 42]⟩, []) ::
 (⟨some 44, none, .load false 1, [.t 43]⟩, []) ::
 (⟨some 45, none, .mov, [.t 10]⟩, []) ::
 (⟨some 46, none, .iaddrS 1, [.t 44, .t 45]⟩, []) ::
 (⟨some 47, none, .load false 1, [.t 46]⟩, []) ::
 (⟨some 48, none, .build [.int .i64 0, .int .i64 0] [(0, 1), (1, 1)], [.t 37, .t 47]⟩, []) ::
 (⟨some 11, none, .zero [.int .i64 0, .int .i64 0], []⟩, [2, 4, 5, 6, 8, 9, 12, 14, 15, 16, 18, 19]) ::
 (⟨none, none, .store 2, [.t 11, .t 48]⟩, []) ::
 []) [1, 2, 6, 8, 9, 10, 11, 12, 13, 14, 19, 20, 24, 25])
 (.seq (.draw [] (
 (⟨some 49, none, .faddr 0, [.t 2]⟩, []) ::
 (⟨some 50, none, .faddr 4, [.t 49]⟩, []) ::
 (⟨some 51, none, .load false 1, [.t 50]⟩, []) ::
 (⟨some 52, none, .iaddrA 2 1, [.t 8, .k (.d (.int .i64 0))]⟩, []) ::
 (⟨some 53, none, .load false 1, [.t 52]⟩, []) ::
 (⟨some 54, none, .iaddrS 1, [.t 51, .t 53]⟩, []) ::
 (⟨some 55, none, .load false 1, [.t 54]⟩, []) ::
 (⟨some 56, none, .mov, [.t 9]⟩, []) ::
 (⟨some 57, none, .iaddrS 1, [.t 55, .t 56]⟩, []) ::
 (⟨some 58, none, .load false 1, [.t 57]⟩, []) ::
 (⟨some 59, none, .faddr 0, [.t 2]⟩, []) ::
 (⟨some 60, none, .faddr 4, [.t 59]⟩, []) ::
 (⟨some 61, none, .load false 1, [.t 60]⟩, []) ::
 (⟨some 62, none, .iaddrA 2 1, [.t 8, .k (.d (.int .i64 1))]⟩, []) ::
 (⟨some 63, none, .load false 1, [.t 62]⟩, []) ::
 (⟨some 64, none, .iaddrS 1, [.t 61, .t 63]⟩, []) ::
 (⟨some 65, none, .load false 1, [.t 64]⟩, []) ::
 (⟨some 66, none, .mov, [.t 10]⟩, []) ::
 (⟨some 67, none, .iaddrS 1, [.t 65, .t 66]⟩, []) ::
 (⟨some 68, none, .load false 1, [.t 67]⟩, []) ::
 (⟨some 69, none, .bin .eql, [.t 58, .t 68]⟩, []) ::
 (⟨some 70, none, .mov, [.t 69]⟩, []) ::
 (⟨some 71, some (70, true), .mov, [.t 9]⟩, []) ::
 (⟨some 72, some (70, true), .mov, [.t 10]⟩, []) ::
 (⟨some 73, some (70, true), .bin .neq, [.t 71, .t 72]⟩, []) ::
 (⟨some 74, some (70, true), .mov, [.t 73]⟩, []) ::
 (⟨some 75, some (74, false), .mov, [.t 1]⟩, []) ::
 (⟨some 76, some (74, false), .un .not, [.t 75]⟩, []) ::
 (⟨some 77, some (70, true), .pick, [.t 74, .k (.d (.bool true)), .t 76]⟩, []) ::
 (⟨some 78, none, .pick, [.t 70, .t 77, .k (.d (.bool false))]⟩, []) ::
 (⟨some 79, none, .mov, [.t 78]⟩, []) ::
 (⟨some 80, some (79, true), .mov, [.t 6]⟩, []) ::
 (⟨some 81, some (79, true), .load true 2, [.t 11]⟩, []) ::
 (⟨some 82, some (79, true), .call 58, [.t 80, .t 81]⟩, []) ::
 (⟨some 83, some (79, true), .un .not, [.t 82]⟩, []) ::
 (⟨some 84, none, .pick, [.t 79, .t 83, .k (.d (.bool false))]⟩, []) ::
 []) [1, 2, 6, 8, 9, 11, 12, 13, 14, 19, 20, 24, 25, 84])
 (.cond (.t 84)
 (.reg [] (
 ⟨some 85, none, .mov, [.t 6]⟩ ::
 ⟨some 86, none, .load true 2, [.t 11]⟩ ::
 ⟨some 87, none, .mkrow 2 (.agg [.int .i64 0, .int .i64 0]) 1 [0], [.t 86]⟩ ::
 ⟨some 88, none, .app 88 2 none true, [.t 85, .t 87]⟩ ::
 ⟨some 6, none, .mov, [.t 88]⟩ ::
 []) [1, 2, 6, 8, 9, 12, 13, 14, 19, 20, 24, 25])
 (.skip))))))
 (.reg [] (
 ⟨some 89, none, .bin .add, [.t 25, .k (.d (.int .i64 1))]⟩ ::
 ⟨some 25, none, .mov, [.t 89]⟩ ::
 []) [1, 2, 6, 8, 9, 12, 13, 14, 19, 20, 24, 25])))))))))
 (.reg [] (
 ⟨some 90, none, .bin .add, [.t 20, .k (.d (.int .i64 1))]⟩ ::
 ⟨some 20, none, .mov, [.t 90]⟩ ::
 []) [1, 2, 6, 8, 12, 13, 14, 19, 20])))))))))
 (.reg [] (
 ⟨some 91, none, .bin .add, [.t 14, .k (.d (.int .i64 1))]⟩ ::
 ⟨some 14, none, .mov, [.t 91]⟩ ::
 []) [1, 2, 6, 12, 13, 14])))))))
 (.seq (.reg [] (
 ⟨some 92, none, .mov, [.t 6]⟩ ::
 ⟨some 5, none, .mov, [.t 92]⟩ ::
 []) [5])
 (.ret))))
theorem dec_codes_Order_1 : Fun E0 F_codes_Order_1 pc_codes_Order_1 [.t 5] 93 := fun_of_dec (fl := []) (by kernel_rfl)
-- slices.Contains[[]platter/codes.pair,platter/codes.pair] (2)
abbrev F_slices_Contains_codes_pair_codes_pair : Nat := 58
def pc_slices_Contains_codes_pair_codes_pair : PC :=
 .seq (.reg [] (
 ⟨some 3, none, .box, [.t 1]⟩ ::
 ⟨some 4, none, .mov, [.k (.d (.bool false))]⟩ ::
 []) [0, 3])
 (.seq (.reg [] (
 ⟨some 5, none, .mov, [.t 0]⟩ ::
 ⟨some 6, none, .load true 2, [.t 3]⟩ ::
 ⟨some 7, none, .call 69, [.t 5, .t 6]⟩ ::
 ⟨some 8, none, .bin .geq, [.t 7, .k (.d (.int .i64 0))]⟩ ::
 ⟨some 4, none, .mov, [.t 8]⟩ ::
 []) [4])
 (.ret))
theorem dec_slices_Contains_codes_pair_codes_pair : Fun E0 F_slices_Contains_codes_pair_codes_pair pc_slices_Contains_codes_pair_codes_pair [.t 4] 9 := fun_of_dec (fl := []) (by kernel_rfl)
abbrev F_codes_code_decode : Nat := 59
-- platter/codes.Check$1 (1)
abbrev F_codes_Check_1 : Nat := 60
def pc_codes_Check_1 : PC :=
 .seq (.reg [] (
 ⟨some 3, none, .mov, [.k (.d (.bool false))]⟩ ::
 []) [0, 1])
 (.seq (.reg [] (
 ⟨some 4, none, .mov, [.t 0]⟩ ::
 ⟨some 5, none, .faddr 0, [.t 1]⟩ ::
 ⟨some 6, none, .faddr 1, [.t 5]⟩ ::
 ⟨some 7, none, .load false 1, [.t 6]⟩ ::
 ⟨some 8, none, .bin .shl, [.k (.d (.int .i64 1)), .t 7]⟩ ::
 ⟨some 9, none, .bin .sub, [.t 8, .k (.d (.int .i64 1))]⟩ ::
 ⟨some 10, none, .call 48, [.t 4, .k (.d (.int .i64 0)), .t 9]⟩ ::
 ⟨some 11, none, .un .not, [.t 10]⟩ ::
 ⟨some 3, none, .mov, [.t 11]⟩ ::
 []) [3])
 (.ret))
theorem dec_codes_Check_1 : Fun E0 F_codes_Check_1 pc_codes_Check_1 [.t 3] 12 := fun_of_dec (fl := []) (by kernel_rfl)
-- platter/codes.Check$2 (1)
abbrev F_codes_Check_2 : Nat := 61
def pc_codes_Check_2 : PC :=
 .seq (.reg [] (
 ⟨some 3, none, .mov, [.k (.d (.bool false))]⟩ ::
 []) [0, 1])
 (.seq (.reg [] (
 ⟨some 4, none, .load true 6, [.t 1]⟩ ::
 ⟨some 5, none, .mov, [.t 0]⟩ ::
 ⟨some 6, none, .call 62, [.t 4, .t 5]⟩ ::
 ⟨some 7, none, .un .not, [.t 6]⟩ ::
 ⟨some 3, none, .mov, [.t 7]⟩ ::
 []) [3])
 (.ret))
theorem dec_codes_Check_2 : Fun E0 F_codes_Check_2 pc_codes_Check_2 [.t 3] 8 := fun_of_dec (fl := []) (by kernel_rfl)
-- (platter/codes.code).state (2)
abbrev F_codes_code_state : Nat := 62
def pc_codes_code_state : PC :=
 .seq (.reg [] (
 ⟨some 2, none, .box, [.t 0]⟩ ::
 ⟨some 4, none, .mov, [.k (.d (.bool false))]⟩ ::
 []) [1, 2])
 (.seq (.reg [] (
 ⟨some 5, none, .mov, [.t 1]⟩ ::
 ⟨some 6, none, .faddr 0, [.t 2]⟩ ::
 ⟨some 7, none, .faddr 4, [.t 6]⟩ ::
 ⟨some 8, none, .load false 1, [.t 7]⟩ ::
 ⟨some 9, none, .len false, [.t 8]⟩ ::
 ⟨some 10, none, .bin .sub, [.t 9, .k (.d (.int .i64 1))]⟩ ::
 ⟨some 11, none, .call 48, [.t 5, .k (.d (.int .i64 0)), .t 10]⟩ ::
 ⟨some 4, none, .mov, [.t 11]⟩ ::
 []) [4])
 (.ret))
theorem dec_codes_code_state : Fun E0 F_codes_code_state pc_codes_code_state [.t 4] 12 := fun_of_dec (fl := []) (by kernel_rfl)
abbrev F_ref04_decode : Nat := 63
abbrev F_slices_Clone_int_int : Nat := 64
abbrev F_codes_code_step : Nat := 65
abbrev F_ref04_breach : Nat := 66
-- slices.IndexFunc[[]int,int] (2)
abbrev F_slices_IndexFunc_int_int : Nat := 67
def pc_slices_IndexFunc_int_int : PC :=
 .seq (.reg [] (
 ⟨some 4, none, .mov, [.k (.d (.int .i64 0))]⟩ ::
 []) [0, 1])
 (.seq (.seq (.reg [] (
 ⟨some 6, none, .mov, [.t 0]⟩ ::
 ⟨some 7, none, .len false, [.t 6]⟩ ::
 ⟨some 8, none, .mov, [.k (.d (.int .i64 0))]⟩ ::
 []) [0, 1, 7, 8])
 (.block 0
 (.loop [] [0, 1, 7, 8] [900000, 900001, 901000, 901001]
 (.seq (.reg [] (
 ⟨some 9, none, .bin .lss, [.t 8, .t 7]⟩ ::
 []) [0, 1, 7, 8, 9])
 (.seq (.cond (.t 9)
 (.skip)
 (.exit 0))
 (.seq (.block 1
 (.seq (.reg [] (
 ⟨some 10, none, .mov, [.t 8]⟩ ::
 ⟨some 5, none, .mov, [.t 10]⟩ ::
 []) [0, 1, 5, 7, 8])
 (.seq (.reg [] (
 ⟨some 11, none, .mov, [.t 1]⟩ ::
 ⟨some 12, none, .mov, [.t 0]⟩ ::
 ⟨some 13, none, .mov, [.t 5]⟩ ::
 ⟨some 14, none, .iaddrS 1, [.t 12, .t 13]⟩ ::
 ⟨some 15, none, .load false 1, [.t 14]⟩ ::
 ⟨some 16, none, .callv, [.t 11, .t 15]⟩ ::
 []) [0, 1, 5, 7, 8, 16])
 (.cond (.t 16)
 (.seq (.reg [] (
 ⟨some 17, none, .mov, [.t 5]⟩ ::
 ⟨some 4, none, .mov, [.t 17]⟩ ::
 []) [4])
 (.ret))
 (.skip)))))
 (.reg [] (
 ⟨some 18, none, .bin .add, [.t 8, .k (.d (.int .i64 1))]⟩ ::
 ⟨some 8, none, .mov, [.t 18]⟩ ::
 []) [0, 1, 7, 8])))))))
 (.seq (.reg [] (
 ⟨some 4, none, .mov, [.k (.d (.int .i64 (-1)))]⟩ ::
 []) [4])
 (.ret)))
theorem dec_slices_IndexFunc_int_int : Fun E0 F_slices_IndexFunc_int_int pc_slices_IndexFunc_int_int [.t 4] 19 := fun_of_dec (fl := []) (by kernel_rfl)
-- platter/codes.are$1 (1)
abbrev F_codes_are_1 : Nat := 68
def pc_codes_are_1 : PC :=
 .seq (.reg [] (
 ⟨some 2, none, .mov, [.k (.d (.bool false))]⟩ ::
 []) [0])
 (.seq (.reg [] (
 ⟨some 3, none, .mov, [.t 0]⟩ ::
 ⟨some 4, none, .bin .neq, [.t 3, .k (.d (.int .i64 0))]⟩ ::
 ⟨some 5, none, .mov, [.t 4]⟩ ::
 ⟨some 6, some (5, true), .mov, [.t 0]⟩ ::
 ⟨some 7, some (5, true), .bin .neq, [.t 6, .k (.d (.int .i64 1))]⟩ ::
 ⟨some 8, none, .pick, [.t 5, .t 7, .k (.d (.bool false))]⟩ ::
 ⟨some 2, none, .mov, [.t 8]⟩ ::
 []) [2])
 (.ret))
theorem dec_codes_are_1 : Fun E0 F_codes_are_1 pc_codes_are_1 [.t 2] 9 := fun_of_dec (fl := []) (by kernel_rfl)
-- slices.Index[[]platter/codes.pair,platter/codes.pair] (2)
abbrev F_slices_Index_codes_pair_codes_pair : Nat := 69
def pc_slices_Index_codes_pair_codes_pair : PC :=
 .seq (.reg [] (
 ⟨some 3, none, .box, [.t 1]⟩ ::
 ⟨some 4, none, .mov, [.k (.d (.int .i64 0))]⟩ ::
 []) [0, 3])
 (.seq (.seq (.reg [] (
 ⟨some 6, none, .mov, [.t 0]⟩ ::
 ⟨some 7, none, .len false, [.t 6]⟩ ::
 ⟨some 8, none, .mov, [.k (.d (.int .i64 0))]⟩ ::
 []) [0, 3, 7, 8])
 (.block 0
 (.loop [] [0, 3, 7, 8] [3, 900000, 900001, 901000, 901001]
 (.seq (.reg [] (
 ⟨some 9, none, .bin .lss, [.t 8, .t 7]⟩ ::
 []) [0, 3, 7, 8, 9])
 (.seq (.cond (.t 9)
 (.skip)
 (.exit 0))
 (.seq (.block 1
 (.seq (.reg [] (
 ⟨some 10, none, .mov, [.t 8]⟩ ::
 ⟨some 5, none, .mov, [.t 10]⟩ ::
 []) [0, 3, 5, 7, 8])
 (.seq (.draw [] (
 (⟨some 11, none, .load true 2, [.t 3]⟩, []) ::
 (⟨some 12, none, .mov, [.t 0]⟩, []) ::
 (⟨some 13, none, .mov, [.t 5]⟩, []) ::
 (⟨some 14, none, .iaddrS 2, [.t 12, .t 13]⟩, []) ::
 (⟨some 15, none, .load true 2, [.t 14]⟩, []) ::
 (⟨some 16, none, .eqv false (true, [some .i64, some .i64]), [.t 11, .t 15]⟩, []) ::
 []) [0, 3, 5, 7, 8, 16])
 (.cond (.t 16)
 (.seq (.reg [] (
 ⟨some 17, none, .mov, [.t 5]⟩ ::
 ⟨some 4, none, .mov, [.t 17]⟩ ::
 []) [4])
 (.ret))
 (.skip)))))
 (.reg [] (
 ⟨some 18, none, .bin .add, [.t 8, .k (.d (.int .i64 1))]⟩ ::
 ⟨some 8, none, .mov, [.t 18]⟩ ::
 []) [0, 3, 7, 8])))))))
 (.seq (.reg [] (
 ⟨some 4, none, .mov, [.k (.d (.int .i64 (-1)))]⟩ ::
 []) [4])
 (.ret)))
theorem dec_slices_Index_codes_pair_codes_pair : Fun E0 F_slices_Index_codes_pair_codes_pair pc_slices_Index_codes_pair_codes_pair [.t 4] 19 := fun_of_dec (fl := []) (by kernel_rfl)
abbrev F_slices_Equal_int_int : Nat := 70
abbrev F_ref04_same : Nat := 71
end Go.Pw
