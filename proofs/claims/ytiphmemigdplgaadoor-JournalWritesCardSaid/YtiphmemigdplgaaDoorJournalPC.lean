/- A part of the proof. -/
import Derived.Test.YtiphmemigdplgaaDoorPwVC
import Derived.Test.YtiphmemigdplgaaDoorProg
import Derived.KernelRfl
set_option linter.all false
open Go Go.Pw Go.Proofs
namespace Go.Pw
set_option maxRecDepth 100000
def G0 : Nat → Option (List D) := fun g => if g = 1 then some [.int .i64 (-1), .int .i64 0, .int .i64 0, .int .i64 0, .bool false] else if g = 0 then some [.int .i64 0, .int .i64 0, .int .i64 0, .int .i64 0, .bool true] else none
noncomputable def E0 : Env := ⟨Tryd.prog, G0⟩
theorem mixed : E0.P.follows .mixedOrders = true := by kernel_rfl
abbrev T_int : Nat := 3
abbrev F_gosem_cut_init : Nat := 2
abbrev F_law16_JournalReplay : Nat := 3
abbrev F_law16_JournalAgain : Nat := 4
-- platter/platterlaw16.JournalWrites (2)
abbrev F_law16_JournalWrites : Nat := 5
def pc_law16_JournalWrites : PC :=
 .seq (.reg [] (
 ⟨some 2, none, .box, [.t 0]⟩ ::
 ⟨some 3, none, .box, [.t 1]⟩ ::
 ⟨some 4, none, .mov, [.k (.d (.bool false))]⟩ ::
 []) [2, 3])
 (.seq (.seq (.reg [] (
 ⟨some 21, none, .load true 12, [.t 2]⟩ ::
 ⟨some 22, none, .call 23, [.t 21]⟩ ::
 ⟨some 23, none, .mov, [.t 22]⟩ ::
 ⟨some 24, some (23, false), .faddr 0, [.t 3]⟩ ::
 ⟨some 25, some (23, false), .load false 1, [.t 24]⟩ ::
 ⟨some 26, some (23, false), .len false, [.t 25]⟩ ::
 ⟨some 27, some (23, false), .bin .gtr, [.t 26, .k (.d (.int .i64 40))]⟩ ::
 ⟨some 28, none, .pick, [.t 23, .k (.d (.bool true)), .t 27]⟩ ::
 ⟨some 29, none, .mov, [.t 28]⟩ ::
 ⟨some 30, some (29, false), .faddr 3, [.t 3]⟩ ::
 ⟨some 31, some (29, false), .load false 1, [.t 30]⟩ ::
 ⟨some 32, some (29, false), .len false, [.t 31]⟩ ::
 ⟨some 33, some (29, false), .bin .gtr, [.t 32, .k (.d (.int .i64 40))]⟩ ::
 ⟨some 34, none, .pick, [.t 29, .k (.d (.bool true)), .t 33]⟩ ::
 []) [2, 3, 34])
 (.cond (.t 34)
 (.seq (.reg [] (
 ⟨some 35, none, .call 13, []⟩ ::
 ⟨some 4, none, .mov, [.t 35]⟩ ::
 []) [4])
 (.ret))
 (.skip)))
 (.seq (.draw [] (
 (⟨some 36, none, .load true 12, [.t 2]⟩, []) ::
 (⟨some 37, none, .call 17, [.t 36]⟩, []) ::
 (⟨some 38, none, .mkrow 3 (.agg [.int .i64 0, .int .i64 0, .int .i64 0]) 0 [], []⟩, []) ::
 (⟨some 39, none, .faddr 0, [.t 3]⟩, []) ::
 (⟨some 40, none, .load false 1, [.t 39]⟩, [1]) ::
 (⟨some 41, none, .app 58 3 none true, [.t 38, .t 40]⟩, []) ::
 (⟨some 42, none, .mkrow 1 (.int .i64 0) 0 [], []⟩, []) ::
 (⟨some 43, none, .faddr 3, [.t 3]⟩, []) ::
 (⟨some 44, none, .load false 1, [.t 43]⟩, [1, 5]) ::
 (⟨some 45, none, .app 3 1 none true, [.t 42, .t 44]⟩, []) ::
 (⟨some 5, none, .zero [.int .i64 0, .int .i64 0, .list true [], .int .i64 0, .int .i64 0, .int .i64 0, .int .i64 0, .int .i64 0, .int .i64 0, .int .i64 0, .int .i64 0, .list true []], []⟩, [0, 1, 4, 5, 8, 9]) ::
 (⟨none, none, .store 12, [.t 5, .t 37]⟩, []) ::
 (⟨some 6, none, .mov, [.t 41]⟩, []) ::
 (⟨some 7, none, .mov, [.t 45]⟩, []) ::
 []) [2, 3, 5, 6, 7])
 (.seq (.reg [.freeze 6] (
 ⟨some 47, none, .load true 12, [.t 5]⟩ ::
 ⟨some 48, none, .mov, [.t 6]⟩ ::
 ⟨some 49, none, .call 24, [.t 47, .t 48]⟩ ::
 ⟨some 46, none, .mov, [.t 49]⟩ ::
 ⟨some 50, none, .extract 0, [.t 46]⟩ ::
 ⟨some 51, none, .extract 1, [.t 46]⟩ ::
 ⟨some 8, none, .zero [.int .i64 0, .int .i64 0, .list true [], .int .i64 0, .int .i64 0, .int .i64 0, .int .i64 0, .int .i64 0, .int .i64 0, .int .i64 0, .int .i64 0, .list true []], []⟩ ::
 ⟨none, none, .store 12, [.t 8, .t 50]⟩ ::
 ⟨some 9, none, .mov, [.t 51]⟩ ::
 []) [2, 3, 5, 6, 7, 8, 9])
 (.seq (.reg [] (
 ⟨some 53, none, .load true 12, [.t 2]⟩ ::
 ⟨some 54, none, .faddr 0, [.t 3]⟩ ::
 ⟨some 55, none, .load false 1, [.t 54]⟩ ::
 ⟨some 56, none, .call 25, [.t 53, .t 55]⟩ ::
 ⟨some 52, none, .mov, [.t 56]⟩ ::
 ⟨some 57, none, .extract 0, [.t 52]⟩ ::
 ⟨some 58, none, .extract 1, [.t 52]⟩ ::
 ⟨some 10, none, .zero [.int .i64 0, .int .i64 0, .list true [], .int .i64 0, .int .i64 0, .int .i64 0, .int .i64 0, .int .i64 0, .int .i64 0, .int .i64 0, .int .i64 0, .list true []], []⟩ ::
 ⟨none, none, .store 12, [.t 10, .t 57]⟩ ::
 ⟨some 11, none, .mov, [.t 58]⟩ ::
 []) [2, 3, 5, 6, 7, 8, 9, 10, 11])
 (.seq (.seq (.reg [] (
 ⟨some 59, none, .load true 12, [.t 8]⟩ ::
 ⟨some 60, none, .load true 12, [.t 10]⟩ ::
 ⟨some 61, none, .call 26, [.t 59, .t 60]⟩ ::
 ⟨some 62, none, .un .not, [.t 61]⟩ ::
 ⟨some 63, none, .mov, [.t 62]⟩ ::
 ⟨some 64, some (63, false), .mov, [.t 9]⟩ ::
 ⟨some 65, some (63, false), .mov, [.t 11]⟩ ::
 ⟨some 66, some (63, false), .bin .neq, [.t 64, .t 65]⟩ ::
 ⟨some 67, none, .pick, [.t 63, .k (.d (.bool true)), .t 66]⟩ ::
 []) [2, 3, 5, 6, 7, 67])
 (.cond (.t 67)
 (.seq (.reg [] (
 ⟨some 4, none, .mov, [.k (.d (.bool false))]⟩ ::
 []) [4])
 (.ret))
 (.skip)))
 (.seq (.reg [.freeze 6] (
 ⟨some 69, none, .load true 12, [.t 5]⟩ ::
 ⟨some 70, none, .mov, [.t 6]⟩ ::
 ⟨some 71, none, .faddr 1, [.t 3]⟩ ::
 ⟨some 72, none, .load false 1, [.t 71]⟩ ::
 ⟨some 73, none, .faddr 2, [.t 3]⟩ ::
 ⟨some 74, none, .load false 1, [.t 73]⟩ ::
 ⟨some 75, none, .call 18, [.t 69, .t 70, .t 72, .t 74]⟩ ::
 ⟨some 68, none, .mov, [.t 75]⟩ ::
 ⟨some 76, none, .extract 0, [.t 68]⟩ ::
 ⟨some 77, none, .extract 1, [.t 68]⟩ ::
 ⟨some 12, none, .zero [.int .i64 0, .int .i64 0, .list true [], .int .i64 0, .int .i64 0, .int .i64 0, .int .i64 0, .int .i64 0, .int .i64 0, .int .i64 0, .int .i64 0, .list true []], []⟩ ::
 ⟨none, none, .store 12, [.t 12, .t 76]⟩ ::
 ⟨some 13, none, .mov, [.t 77]⟩ ::
 []) [2, 3, 5, 6, 7, 12, 13])
 (.seq (.reg [] (
 ⟨some 79, none, .load true 12, [.t 2]⟩ ::
 ⟨some 80, none, .faddr 0, [.t 3]⟩ ::
 ⟨some 81, none, .load false 1, [.t 80]⟩ ::
 ⟨some 82, none, .faddr 1, [.t 3]⟩ ::
 ⟨some 83, none, .load false 1, [.t 82]⟩ ::
 ⟨some 84, none, .faddr 2, [.t 3]⟩ ::
 ⟨some 85, none, .load false 1, [.t 84]⟩ ::
 ⟨some 86, none, .call 27, [.t 79, .t 81, .t 83, .t 85]⟩ ::
 ⟨some 78, none, .mov, [.t 86]⟩ ::
 ⟨some 87, none, .extract 0, [.t 78]⟩ ::
 ⟨some 88, none, .extract 1, [.t 78]⟩ ::
 ⟨some 14, none, .zero [.int .i64 0, .int .i64 0, .list true [], .int .i64 0, .int .i64 0, .int .i64 0, .int .i64 0, .int .i64 0, .int .i64 0, .int .i64 0, .int .i64 0, .list true []], []⟩ ::
 ⟨none, none, .store 12, [.t 14, .t 87]⟩ ::
 ⟨some 15, none, .mov, [.t 88]⟩ ::
 []) [2, 3, 5, 6, 7, 12, 13, 14, 15])
 (.seq (.reg [.freeze 7] (
 ⟨some 90, none, .load true 12, [.t 5]⟩ ::
 ⟨some 91, none, .mov, [.t 7]⟩ ::
 ⟨some 92, none, .call 15, [.t 90, .t 91]⟩ ::
 ⟨some 89, none, .mov, [.t 92]⟩ ::
 ⟨some 93, none, .extract 0, [.t 89]⟩ ::
 ⟨some 94, none, .extract 1, [.t 89]⟩ ::
 ⟨some 16, none, .mov, [.t 93]⟩ ::
 ⟨some 17, none, .mov, [.t 94]⟩ ::
 []) [2, 3, 5, 6, 7, 12, 13, 14, 15, 16, 17])
 (.seq (.reg [] (
 ⟨some 96, none, .load true 12, [.t 2]⟩ ::
 ⟨some 97, none, .faddr 3, [.t 3]⟩ ::
 ⟨some 98, none, .load false 1, [.t 97]⟩ ::
 ⟨some 99, none, .call 28, [.t 96, .t 98]⟩ ::
 ⟨some 95, none, .mov, [.t 99]⟩ ::
 ⟨some 100, none, .extract 0, [.t 95]⟩ ::
 ⟨some 101, none, .extract 1, [.t 95]⟩ ::
 ⟨some 18, none, .mov, [.t 100]⟩ ::
 ⟨some 19, none, .mov, [.t 101]⟩ ::
 []) [2, 3, 5, 6, 7, 12, 13, 14, 15, 16, 17, 18, 19])
 (.seq (.seq (.reg [.freeze 7] (
 ⟨some 102, none, .load true 12, [.t 12]⟩ ::
 ⟨some 103, none, .load true 12, [.t 14]⟩ ::
 ⟨some 104, none, .call 26, [.t 102, .t 103]⟩ ::
 ⟨some 105, none, .un .not, [.t 104]⟩ ::
 ⟨some 106, none, .mov, [.t 105]⟩ ::
 ⟨some 107, some (106, false), .mov, [.t 13]⟩ ::
 ⟨some 108, some (106, false), .mov, [.t 15]⟩ ::
 ⟨some 109, some (106, false), .bin .neq, [.t 107, .t 108]⟩ ::
 ⟨some 110, none, .pick, [.t 106, .k (.d (.bool true)), .t 109]⟩ ::
 ⟨some 111, none, .mov, [.t 110]⟩ ::
 ⟨some 112, some (111, false), .mov, [.t 16]⟩ ::
 ⟨some 113, some (111, false), .mov, [.t 18]⟩ ::
 ⟨some 114, some (111, false), .call 16, [.t 112, .t 113]⟩ ::
 ⟨some 115, some (111, false), .un .not, [.t 114]⟩ ::
 ⟨some 116, none, .pick, [.t 111, .k (.d (.bool true)), .t 115]⟩ ::
 ⟨some 117, none, .mov, [.t 116]⟩ ::
 ⟨some 118, some (117, false), .mov, [.t 17]⟩ ::
 ⟨some 119, some (117, false), .mov, [.t 19]⟩ ::
 ⟨some 120, some (117, false), .bin .neq, [.t 118, .t 119]⟩ ::
 ⟨some 121, none, .pick, [.t 117, .k (.d (.bool true)), .t 120]⟩ ::
 ⟨some 122, none, .mov, [.t 121]⟩ ::
 ⟨some 123, some (122, false), .load true 12, [.t 5]⟩ ::
 ⟨some 124, some (122, false), .load true 12, [.t 2]⟩ ::
 ⟨some 125, some (122, false), .call 26, [.t 123, .t 124]⟩ ::
 ⟨some 126, some (122, false), .un .not, [.t 125]⟩ ::
 ⟨some 127, none, .pick, [.t 122, .k (.d (.bool true)), .t 126]⟩ ::
 ⟨some 128, none, .mov, [.t 127]⟩ ::
 ⟨some 129, some (128, false), .mov, [.t 7]⟩ ::
 ⟨some 130, some (128, false), .faddr 3, [.t 3]⟩ ::
 ⟨some 131, some (128, false), .load false 1, [.t 130]⟩ ::
 ⟨some 132, some (128, false), .call 16, [.t 129, .t 131]⟩ ::
 ⟨some 133, some (128, false), .un .not, [.t 132]⟩ ::
 ⟨some 134, none, .pick, [.t 128, .k (.d (.bool true)), .t 133]⟩ ::
 []) [3, 6, 134])
 (.cond (.t 134)
 (.seq (.reg [] (
 ⟨some 4, none, .mov, [.k (.d (.bool false))]⟩ ::
 []) [4])
 (.ret))
 (.skip)))
 (.seq (.seq (.reg [] (
 ⟨some 20, none, .mov, [.k (.d (.int .i64 0))]⟩ ::
 []) [3, 6, 20])
 (.block 0
 (.loop [.freeze 6] [3, 6, 20] [3, 900001, 901001]
 (.seq (.seq (.reg [] (
 ⟨some 135, none, .mov, [.t 20]⟩ ::
 ⟨some 136, none, .mov, [.t 6]⟩ ::
 ⟨some 137, none, .len false, [.t 136]⟩ ::
 ⟨some 138, none, .bin .lss, [.t 135, .t 137]⟩ ::
 []) [3, 6, 20, 138])
 (.cond (.t 138)
 (.skip)
 (.exit 0)))
 (.seq (.block 1
 (.seq (.draw [] (
 (⟨some 141, none, .mov, [.t 6]⟩, []) ::
 (⟨some 142, none, .mov, [.t 20]⟩, []) ::
 (⟨some 143, none, .iaddrS 3, [.t 141, .t 142]⟩, []) ::
 (⟨some 144, none, .load true 3, [.t 143]⟩, []) ::
 (⟨some 145, none, .faddr 0, [.t 3]⟩, []) ::
 (⟨some 146, none, .load false 1, [.t 145]⟩, []) ::
 (⟨some 147, none, .mov, [.t 20]⟩, []) ::
 (⟨some 148, none, .iaddrS 3, [.t 146, .t 147]⟩, []) ::
 (⟨some 149, none, .load true 3, [.t 148]⟩, []) ::
 (⟨some 150, none, .eqv true (true, [some .i64, some .i64, some .i64]), [.t 144, .t 149]⟩, []) ::
 []) [3, 6, 20, 150])
 (.cond (.t 150)
 (.seq (.reg [] (
 ⟨some 4, none, .mov, [.k (.d (.bool false))]⟩ ::
 []) [4])
 (.ret))
 (.skip))))
 (.reg [] (
 ⟨some 139, none, .mov, [.t 20]⟩ ::
 ⟨some 140, none, .bin .add, [.t 139, .k (.d (.int .i64 1))]⟩ ::
 ⟨some 20, none, .mov, [.t 140]⟩ ::
 []) [3, 6, 20]))))))
 (.seq (.reg [] (
 ⟨some 151, none, .call 13, []⟩ ::
 ⟨some 4, none, .mov, [.t 151]⟩ ::
 []) [4])
 (.ret)))))))))))))
theorem dec_law16_JournalWrites : Fun E0 F_law16_JournalWrites pc_law16_JournalWrites [.t 4] 152 := fun_of_dec (fl := [41, 45]) (by kernel_rfl)
abbrev F_law16_JournalKept : Nat := 6
abbrev F_law16_JournalCut : Nat := 7
abbrev F_law16_JournalOld : Nat := 8
abbrev F_law16_JournalRoom : Nat := 9
abbrev F_law16_JournalRuns : Nat := 10
abbrev F_law16_JournalScan : Nat := 11
abbrev F_law16_ready : Nat := 12
-- platter/platterlaw16.works (0)
abbrev F_law16_works : Nat := 13
def pc_law16_works : PC :=
 .seq (.reg [] (
 ⟨some 0, none, .mov, [.k (.d (.bool false))]⟩ ::
 []) [])
 (.seq (.reg [] (
 ⟨some 8, none, .call 38, []⟩ ::
 ⟨some 1, none, .zero [.int .i64 0, .int .i64 0, .list true [], .int .i64 0, .int .i64 0, .int .i64 0, .int .i64 0, .int .i64 0, .int .i64 0, .int .i64 0, .int .i64 0, .list true []], []⟩ ::
 ⟨none, none, .store 12, [.t 1, .t 8]⟩ ::
 []) [1])
 (.seq (.reg [] (
 ⟨some 10, none, .load true 12, [.t 1]⟩ ::
 ⟨some 11, none, .call 14, [.t 10]⟩ ::
 ⟨some 9, none, .mov, [.t 11]⟩ ::
 ⟨some 12, none, .extract 0, [.t 9]⟩ ::
 ⟨some 13, none, .extract 1, [.t 9]⟩ ::
 ⟨some 2, none, .mov, [.t 12]⟩ ::
 ⟨some 3, none, .mov, [.t 13]⟩ ::
 []) [1, 2, 3])
 (.seq (.reg [] (
 ⟨some 15, none, .load true 12, [.t 1]⟩ ::
 ⟨some 16, none, .call 30, [.t 15]⟩ ::
 ⟨some 14, none, .mov, [.t 16]⟩ ::
 ⟨some 17, none, .extract 0, [.t 14]⟩ ::
 ⟨some 18, none, .extract 1, [.t 14]⟩ ::
 ⟨some 4, none, .mov, [.t 17]⟩ ::
 ⟨some 5, none, .mov, [.t 18]⟩ ::
 []) [1, 2, 3, 4, 5])
 (.seq (.reg [] (
 ⟨some 20, none, .load true 12, [.t 1]⟩ ::
 ⟨some 21, none, .mkrow 1 (.int .i64 0) 3 [0, 1, 2], [.k (.d (.int .i64 1)), .k (.d (.int .i64 1)), .k (.d (.int .i64 1))]⟩ ::
 ⟨some 22, none, .call 15, [.t 20, .t 21]⟩ ::
 ⟨some 19, none, .mov, [.t 22]⟩ ::
 ⟨some 23, none, .extract 0, [.t 19]⟩ ::
 ⟨some 24, none, .extract 1, [.t 19]⟩ ::
 ⟨some 6, none, .mov, [.t 23]⟩ ::
 ⟨some 7, none, .mov, [.t 24]⟩ ::
 []) [2, 3, 4, 5, 6, 7])
 (.seq (.reg [] (
 ⟨some 25, none, .mov, [.t 3]⟩ ::
 ⟨some 26, none, .bin .eql, [.t 25, .k (.d (.int .i64 0))]⟩ ::
 ⟨some 27, none, .mov, [.t 26]⟩ ::
 ⟨some 28, some (27, true), .mov, [.t 5]⟩ ::
 ⟨some 29, some (27, true), .bin .eql, [.t 28, .k (.d (.int .i64 0))]⟩ ::
 ⟨some 30, none, .pick, [.t 27, .t 29, .k (.d (.bool false))]⟩ ::
 ⟨some 31, none, .mov, [.t 30]⟩ ::
 ⟨some 32, some (31, true), .mov, [.t 7]⟩ ::
 ⟨some 33, some (31, true), .bin .eql, [.t 32, .k (.d (.int .i64 0))]⟩ ::
 ⟨some 34, none, .pick, [.t 31, .t 33, .k (.d (.bool false))]⟩ ::
 ⟨some 35, none, .mov, [.t 34]⟩ ::
 ⟨some 36, some (35, true), .mov, [.t 2]⟩ ::
 ⟨some 37, some (35, true), .len false, [.t 36]⟩ ::
 ⟨some 38, some (35, true), .bin .eql, [.t 37, .k (.d (.int .i64 3))]⟩ ::
 ⟨some 39, none, .pick, [.t 35, .t 38, .k (.d (.bool false))]⟩ ::
 ⟨some 40, none, .mov, [.t 39]⟩ ::
 ⟨some 41, some (40, true), .mov, [.t 2]⟩ ::
 ⟨some 42, some (40, true), .iaddrS 5, [.t 41, .k (.d (.int .i64 0))]⟩ ::
 ⟨some 43, some (40, true), .faddr 0, [.t 42]⟩ ::
 ⟨some 44, some (40, true), .load false 1, [.t 43]⟩ ::
 ⟨some 45, some (40, true), .bin .eql, [.t 44, .k (.d (.int .i64 3))]⟩ ::
 ⟨some 46, none, .pick, [.t 40, .t 45, .k (.d (.bool false))]⟩ ::
 ⟨some 47, none, .mov, [.t 46]⟩ ::
 ⟨some 48, some (47, true), .mov, [.t 4]⟩ ::
 ⟨some 49, some (47, true), .bin .eql, [.t 48, .k (.d (.int .i64 1))]⟩ ::
 ⟨some 50, none, .pick, [.t 47, .t 49, .k (.d (.bool false))]⟩ ::
 ⟨some 51, none, .mov, [.t 50]⟩ ::
 ⟨some 52, some (51, true), .mov, [.t 6]⟩ ::
 ⟨some 53, some (51, true), .mkrow 1 (.int .i64 0) 3 [0, 1, 2], [.k (.d (.int .i64 7)), .k (.d (.int .i64 8)), .k (.d (.int .i64 6))]⟩ ::
 ⟨some 54, some (51, true), .call 16, [.t 52, .t 53]⟩ ::
 ⟨some 55, none, .pick, [.t 51, .t 54, .k (.d (.bool false))]⟩ ::
 ⟨some 0, none, .mov, [.t 55]⟩ ::
 []) [0])
 (.ret))))))
theorem dec_law16_works : Fun E0 F_law16_works pc_law16_works [.t 0] 56 := fun_of_dec (fl := []) (by kernel_rfl)
-- platter/journal.Recover (1)
abbrev F_journal_Recover : Nat := 14
def pc_journal_Recover : PC :=
 .seq (.reg [] (
 ⟨some 1, none, .box, [.t 0]⟩ ::
 ⟨some 2, none, .mov, [.k (.d (.list true []))]⟩ ::
 ⟨some 3, none, .mov, [.k (.d (.int .i64 0))]⟩ ::
 []) [1])
 (.seq (.reg [] (
 ⟨some 9, none, .load true 12, [.t 1]⟩ ::
 ⟨some 10, none, .call 39, [.t 9]⟩ ::
 ⟨some 8, none, .mov, [.t 10]⟩ ::
 ⟨some 11, none, .extract 0, [.t 8]⟩ ::
 ⟨some 12, none, .extract 1, [.t 8]⟩ ::
 ⟨some 4, none, .mov, [.t 11]⟩ ::
 ⟨some 5, none, .mov, [.t 12]⟩ ::
 []) [4, 5])
 (.seq (.seq (.reg [] (
 ⟨some 13, none, .mov, [.t 5]⟩ ::
 ⟨some 14, none, .bin .neq, [.t 13, .k (.d (.int .i64 0))]⟩ ::
 []) [4, 5, 14])
 (.cond (.t 14)
 (.seq (.reg [] (
 ⟨some 15, none, .mov, [.t 5]⟩ ::
 ⟨some 2, none, .mov, [.k (.d (.list true []))]⟩ ::
 ⟨some 3, none, .mov, [.t 15]⟩ ::
 []) [2, 3])
 (.ret))
 (.skip)))
 (.seq (.reg [] (
 ⟨some 17, none, .mov, [.t 4]⟩ ::
 ⟨some 18, none, .call 40, [.t 17]⟩ ::
 ⟨some 16, none, .mov, [.t 18]⟩ ::
 ⟨some 19, none, .extract 0, [.t 16]⟩ ::
 ⟨some 20, none, .extract 1, [.t 16]⟩ ::
 ⟨some 6, none, .mov, [.t 19]⟩ ::
 ⟨some 7, none, .mov, [.t 20]⟩ ::
 []) [6])
 (.seq (.reg [] (
 ⟨some 21, none, .mov, [.t 6]⟩ ::
 ⟨some 2, none, .mov, [.t 21]⟩ ::
 ⟨some 3, none, .mov, [.k (.d (.int .i64 0))]⟩ ::
 []) [2, 3])
 (.ret)))))
theorem dec_journal_Recover : Fun E0 F_journal_Recover pc_journal_Recover [.t 2, .t 3] 22 := fun_of_dec (fl := []) (by kernel_rfl)
-- platter/journal.Replay (2)
abbrev F_journal_Replay : Nat := 15
def pc_journal_Replay : PC :=
 .seq (.reg [] (
 ⟨some 2, none, .box, [.t 0]⟩ ::
 ⟨some 4, none, .mov, [.k (.d (.list true []))]⟩ ::
 ⟨some 5, none, .mov, [.k (.d (.int .i64 0))]⟩ ::
 []) [1, 2])
 (.seq (.reg [] (
 ⟨some 14, none, .load true 12, [.t 2]⟩ ::
 ⟨some 15, none, .call 39, [.t 14]⟩ ::
 ⟨some 13, none, .mov, [.t 15]⟩ ::
 ⟨some 16, none, .extract 0, [.t 13]⟩ ::
 ⟨some 17, none, .extract 1, [.t 13]⟩ ::
 ⟨some 6, none, .mov, [.t 16]⟩ ::
 ⟨some 7, none, .mov, [.t 17]⟩ ::
 []) [1, 6, 7])
 (.seq (.seq (.reg [] (
 ⟨some 18, none, .mov, [.t 7]⟩ ::
 ⟨some 19, none, .bin .neq, [.t 18, .k (.d (.int .i64 0))]⟩ ::
 []) [1, 6, 7, 19])
 (.cond (.t 19)
 (.seq (.reg [] (
 ⟨some 20, none, .mov, [.t 7]⟩ ::
 ⟨some 4, none, .mov, [.k (.d (.list true []))]⟩ ::
 ⟨some 5, none, .mov, [.t 20]⟩ ::
 []) [4, 5])
 (.ret))
 (.skip)))
 (.seq (.seq (.reg [] (
 ⟨some 21, none, .mov, [.t 1]⟩ ::
 ⟨some 22, none, .len false, [.t 21]⟩ ::
 ⟨some 23, none, .mov, [.t 6]⟩ ::
 ⟨some 24, none, .nilck, [.t 23]⟩ ::
 ⟨some 25, none, .faddr 0, [.t 24]⟩ ::
 ⟨some 26, none, .faddr 9, [.t 25]⟩ ::
 ⟨some 27, none, .load false 1, [.t 26]⟩ ::
 ⟨some 28, none, .bin .neq, [.t 22, .t 27]⟩ ::
 ⟨some 29, none, .mov, [.t 28]⟩ ::
 ⟨some 30, some (29, false), .mov, [.t 1]⟩ ::
 ⟨some 31, some (29, false), .call 41, [.t 30, .k (.fn 42 [])]⟩ ::
 ⟨some 32, none, .pick, [.t 29, .k (.d (.bool true)), .t 31]⟩ ::
 []) [1, 6, 32])
 (.cond (.t 32)
 (.seq (.reg [] (
 ⟨some 4, none, .mov, [.k (.d (.list true []))]⟩ ::
 ⟨some 5, none, .mov, [.k (.d (.int .i64 1))]⟩ ::
 []) [4, 5])
 (.ret))
 (.skip)))
 (.seq (.reg [] (
 ⟨some 33, none, .mov, [.t 1]⟩ ::
 ⟨some 34, none, .call 44, [.t 33]⟩ ::
 ⟨some 8, none, .mov, [.t 34]⟩ ::
 []) [6, 8])
 (.seq (.reg [] (
 ⟨some 36, none, .mov, [.t 6]⟩ ::
 ⟨some 37, none, .call 40, [.t 36]⟩ ::
 ⟨some 35, none, .mov, [.t 37]⟩ ::
 ⟨some 38, none, .extract 0, [.t 35]⟩ ::
 ⟨some 39, none, .extract 1, [.t 35]⟩ ::
 ⟨some 9, none, .mov, [.t 38]⟩ ::
 ⟨some 10, none, .mov, [.t 39]⟩ ::
 []) [8, 9])
 (.seq (.seq (.reg [] (
 ⟨some 40, none, .mov, [.t 9]⟩ ::
 ⟨some 41, none, .len false, [.t 40]⟩ ::
 ⟨some 42, none, .mov, [.k (.d (.int .i64 0))]⟩ ::
 []) [8, 40, 41, 42])
 (.block 0
 (.loop [] [8, 40, 41, 42] [34, 37, 10034, 10037]
 (.seq (.reg [] (
 ⟨some 43, none, .bin .lss, [.t 42, .t 41]⟩ ::
 []) [8, 40, 41, 42, 43])
 (.seq (.cond (.t 43)
 (.skip)
 (.exit 0))
 (.seq (.block 1
 (.seq (.reg [] (
 ⟨some 44, none, .iaddrS 5, [.t 40, .t 42]⟩ ::
 ⟨some 45, none, .load true 5, [.t 44]⟩ ::
 ⟨some 12, none, .zero [.int .i64 0, .int .i64 0, .int .i64 0, .int .i64 0, .bool false], []⟩ ::
 ⟨none, none, .store 5, [.t 12, .t 45]⟩ ::
 []) [8, 12, 40, 41, 42])
 (.reg [] (
 ⟨some 46, none, .mov, [.t 8]⟩ ::
 ⟨some 47, none, .faddr 1, [.t 12]⟩ ::
 ⟨some 48, none, .load false 1, [.t 47]⟩ ::
 ⟨some 49, none, .faddr 2, [.t 12]⟩ ::
 ⟨some 50, none, .load false 1, [.t 49]⟩ ::
 ⟨some 51, none, .iaddrS 1, [.t 46, .t 48]⟩ ::
 ⟨none, none, .store 1, [.t 51, .t 50]⟩ ::
 []) [8, 40, 41, 42])))
 (.reg [] (
 ⟨some 52, none, .bin .add, [.t 42, .k (.d (.int .i64 1))]⟩ ::
 ⟨some 42, none, .mov, [.t 52]⟩ ::
 []) [8, 40, 41, 42])))))))
 (.seq (.reg [] (
 ⟨some 53, none, .mov, [.t 8]⟩ ::
 ⟨some 4, none, .mov, [.t 53]⟩ ::
 ⟨some 5, none, .mov, [.k (.d (.int .i64 0))]⟩ ::
 []) [4, 5])
 (.ret))))))))
theorem dec_journal_Replay : Fun E0 F_journal_Replay pc_journal_Replay [.t 4, .t 5] 54 := fun_of_dec (fl := []) (by kernel_rfl)
-- platter/platterlaw16.sameInts (2)
abbrev F_law16_sameInts : Nat := 16
def pc_law16_sameInts : PC :=
 .seq (.reg [] (
 ⟨some 4, none, .mov, [.k (.d (.bool false))]⟩ ::
 []) [0, 1])
 (.seq (.seq (.reg [] (
 ⟨some 6, none, .mov, [.t 0]⟩ ::
 ⟨some 7, none, .len false, [.t 6]⟩ ::
 ⟨some 8, none, .mov, [.t 1]⟩ ::
 ⟨some 9, none, .len false, [.t 8]⟩ ::
 ⟨some 10, none, .bin .neq, [.t 7, .t 9]⟩ ::
 []) [0, 1, 10])
 (.cond (.t 10)
 (.seq (.reg [] (
 ⟨some 4, none, .mov, [.k (.d (.bool false))]⟩ ::
 []) [4])
 (.ret))
 (.skip)))
 (.seq (.seq (.reg [] (
 ⟨some 5, none, .mov, [.k (.d (.int .i64 0))]⟩ ::
 []) [0, 1, 5])
 (.block 0
 (.loop [] [0, 1, 5] [900000, 900001, 901000, 901001]
 (.seq (.seq (.reg [] (
 ⟨some 11, none, .mov, [.t 5]⟩ ::
 ⟨some 12, none, .mov, [.t 0]⟩ ::
 ⟨some 13, none, .len false, [.t 12]⟩ ::
 ⟨some 14, none, .bin .lss, [.t 11, .t 13]⟩ ::
 []) [0, 1, 5, 14])
 (.cond (.t 14)
 (.skip)
 (.exit 0)))
 (.seq (.block 1
 (.seq (.draw [] (
 (⟨some 17, none, .mov, [.t 0]⟩, []) ::
 (⟨some 18, none, .mov, [.t 5]⟩, []) ::
 (⟨some 19, none, .iaddrS 1, [.t 17, .t 18]⟩, []) ::
 (⟨some 20, none, .load false 1, [.t 19]⟩, []) ::
 (⟨some 21, none, .mov, [.t 1]⟩, []) ::
 (⟨some 22, none, .mov, [.t 5]⟩, []) ::
 (⟨some 23, none, .iaddrS 1, [.t 21, .t 22]⟩, []) ::
 (⟨some 24, none, .load false 1, [.t 23]⟩, []) ::
 (⟨some 25, none, .bin .neq, [.t 20, .t 24]⟩, []) ::
 []) [0, 1, 5, 25])
 (.cond (.t 25)
 (.seq (.reg [] (
 ⟨some 4, none, .mov, [.k (.d (.bool false))]⟩ ::
 []) [4])
 (.ret))
 (.skip))))
 (.reg [] (
 ⟨some 15, none, .mov, [.t 5]⟩ ::
 ⟨some 16, none, .bin .add, [.t 15, .k (.d (.int .i64 1))]⟩ ::
 ⟨some 5, none, .mov, [.t 16]⟩ ::
 []) [0, 1, 5]))))))
 (.seq (.reg [] (
 ⟨some 4, none, .mov, [.k (.d (.bool true))]⟩ ::
 []) [4])
 (.ret))))
theorem dec_law16_sameInts : Fun E0 F_law16_sameInts pc_law16_sameInts [.t 4] 26 := fun_of_dec (fl := []) (by kernel_rfl)
-- platter/platterref16.Copy (1)
abbrev F_ref16_Copy : Nat := 17
def pc_ref16_Copy : PC :=
 .seq (.reg [] (
 ⟨some 1, none, .box, [.t 0]⟩ ::
 ⟨some 2, none, .zero [.int .i64 0, .int .i64 0, .list true [], .int .i64 0, .int .i64 0, .int .i64 0, .int .i64 0, .int .i64 0, .int .i64 0, .int .i64 0, .int .i64 0, .list true []], []⟩ ::
 []) [1, 2])
 (.seq (.reg [] (
 ⟨some 4, none, .load true 12, [.t 1]⟩ ::
 ⟨some 3, none, .zero [.int .i64 0, .int .i64 0, .list true [], .int .i64 0, .int .i64 0, .int .i64 0, .int .i64 0, .int .i64 0, .int .i64 0, .int .i64 0, .int .i64 0, .list true []], []⟩ ::
 ⟨none, none, .store 12, [.t 3, .t 4]⟩ ::
 []) [1, 2, 3])
 (.seq (.reg [] (
 ⟨some 5, none, .faddr 0, [.t 1]⟩ ::
 ⟨some 6, none, .load true 9, [.t 5]⟩ ::
 ⟨some 7, none, .call 45, [.t 6]⟩ ::
 ⟨some 8, none, .faddr 0, [.t 3]⟩ ::
 ⟨none, none, .store 9, [.t 8, .t 7]⟩ ::
 []) [1, 2, 3])
 (.seq (.reg [] (
 ⟨some 9, none, .mkrow 5 (.agg [.int .i64 0, .int .i64 0, .int .i64 0, .int .i64 0, .bool false]) 0 [], []⟩ ::
 ⟨some 10, none, .faddr 11, [.t 1]⟩ ::
 ⟨some 11, none, .load false 1, [.t 10]⟩ ::
 ⟨some 12, none, .app 40 5 none true, [.t 9, .t 11]⟩ ::
 ⟨some 13, none, .faddr 11, [.t 3]⟩ ::
 ⟨none, none, .store 1, [.t 13, .t 12]⟩ ::
 []) [2, 3])
 (.seq (.reg [] (
 ⟨some 14, none, .load true 12, [.t 3]⟩ ::
 ⟨none, none, .store 12, [.t 2, .t 14]⟩ ::
 []) [2])
 (.ret)))))
theorem dec_ref16_Copy : Fun E0 F_ref16_Copy pc_ref16_Copy [.c 2 29 true 12] 15 := fun_of_dec (fl := []) (by kernel_rfl)
-- platter/journal.Cut (4)
abbrev F_journal_Cut : Nat := 18
def pc_journal_Cut : PC :=
 .seq (.reg [] (
 ⟨some 4, none, .box, [.t 0]⟩ ::
 ⟨some 8, none, .zero [.int .i64 0, .int .i64 0, .list true [], .int .i64 0, .int .i64 0, .int .i64 0, .int .i64 0, .int .i64 0, .int .i64 0, .int .i64 0, .int .i64 0, .list true []], []⟩ ::
 ⟨some 9, none, .mov, [.k (.d (.int .i64 0))]⟩ ::
 []) [1, 2, 3, 4, 8])
 (.seq (.reg [] (
 ⟨some 19, none, .load true 12, [.t 4]⟩ ::
 ⟨some 20, none, .call 39, [.t 19]⟩ ::
 ⟨some 18, none, .mov, [.t 20]⟩ ::
 ⟨some 21, none, .extract 0, [.t 18]⟩ ::
 ⟨some 22, none, .extract 1, [.t 18]⟩ ::
 ⟨some 10, none, .mov, [.t 21]⟩ ::
 ⟨some 11, none, .mov, [.t 22]⟩ ::
 []) [1, 2, 3, 8, 10, 11])
 (.seq (.seq (.reg [] (
 ⟨some 23, none, .mov, [.t 11]⟩ ::
 ⟨some 24, none, .bin .neq, [.t 23, .k (.d (.int .i64 0))]⟩ ::
 []) [1, 2, 3, 8, 10, 11, 24])
 (.cond (.t 24)
 (.seq (.reg [] (
 ⟨some 25, none, .build [.int .i64 0, .int .i64 0, .list true [], .int .i64 0, .int .i64 0, .int .i64 0, .int .i64 0, .int .i64 0, .int .i64 0, .int .i64 0, .int .i64 0, .list true []] [], []⟩ ::
 ⟨some 26, none, .mov, [.t 11]⟩ ::
 ⟨none, none, .store 12, [.t 8, .t 25]⟩ ::
 ⟨some 9, none, .mov, [.t 26]⟩ ::
 []) [8, 9])
 (.ret))
 (.skip)))
 (.seq (.seq (.reg [] (
 ⟨some 27, none, .mov, [.t 2]⟩ ::
 ⟨some 28, none, .mov, [.t 1]⟩ ::
 ⟨some 29, none, .len false, [.t 28]⟩ ::
 ⟨some 30, none, .call 43, [.t 27, .t 29]⟩ ::
 ⟨some 31, none, .un .not, [.t 30]⟩ ::
 ⟨some 32, none, .mov, [.t 31]⟩ ::
 ⟨some 33, some (32, false), .mov, [.t 3]⟩ ::
 ⟨some 34, some (32, false), .mov, [.t 33]⟩ ::
 ⟨some 35, some (34, true), .mov, [.t 2]⟩ ::
 ⟨some 36, some (34, true), .mov, [.t 1]⟩ ::
 ⟨some 37, some (34, true), .len false, [.t 36]⟩ ::
 ⟨some 38, some (34, true), .bin .eql, [.t 35, .t 37]⟩ ::
 ⟨some 39, some (32, false), .pick, [.t 34, .t 38, .k (.d (.bool false))]⟩ ::
 ⟨some 40, none, .pick, [.t 32, .k (.d (.bool true)), .t 39]⟩ ::
 []) [1, 2, 3, 8, 10, 40])
 (.cond (.t 40)
 (.seq (.reg [] (
 ⟨some 41, none, .build [.int .i64 0, .int .i64 0, .list true [], .int .i64 0, .int .i64 0, .int .i64 0, .int .i64 0, .int .i64 0, .int .i64 0, .int .i64 0, .int .i64 0, .list true []] [], []⟩ ::
 ⟨none, none, .store 12, [.t 8, .t 41]⟩ ::
 ⟨some 9, none, .mov, [.k (.d (.int .i64 1))]⟩ ::
 []) [8, 9])
 (.ret))
 (.skip)))
 (.seq (.reg [] (
 ⟨some 42, none, .mov, [.t 10]⟩ ::
 ⟨some 43, none, .nilck, [.t 42]⟩ ::
 ⟨some 44, none, .faddr 0, [.t 43]⟩ ::
 ⟨some 45, none, .faddr 11, [.t 44]⟩ ::
 ⟨some 46, none, .load false 1, [.t 45]⟩ ::
 ⟨some 47, none, .call 46, [.t 46]⟩ ::
 ⟨some 12, none, .mov, [.t 47]⟩ ::
 []) [1, 2, 3, 8, 10, 12])
 (.seq (.seq (.reg [] (
 ⟨some 48, none, .mov, [.t 1]⟩ ::
 ⟨some 49, none, .len false, [.t 48]⟩ ::
 ⟨some 50, none, .mov, [.k (.d (.int .i64 0))]⟩ ::
 []) [2, 3, 8, 10, 12, 48, 49, 50])
 (.block 0
 (.loop [] [2, 3, 8, 10, 12, 48, 49, 50] [8, 20, 47, 10020, 10047, 900001, 900002, 900003, 901001, 901002, 901003]
 (.seq (.reg [] (
 ⟨some 51, none, .bin .lss, [.t 50, .t 49]⟩ ::
 []) [2, 3, 8, 10, 12, 48, 49, 50, 51])
 (.seq (.cond (.t 51)
 (.skip)
 (.exit 0))
 (.seq (.block 1
 (.seq (.reg [] (
 ⟨some 52, none, .mov, [.t 50]⟩ ::
 ⟨some 53, none, .iaddrS 3, [.t 48, .t 50]⟩ ::
 ⟨some 54, none, .load true 3, [.t 53]⟩ ::
 ⟨some 14, none, .zero [.int .i64 0, .int .i64 0, .int .i64 0], []⟩ ::
 ⟨some 13, none, .mov, [.t 52]⟩ ::
 ⟨none, none, .store 3, [.t 14, .t 54]⟩ ::
 []) [2, 3, 8, 10, 12, 13, 14, 48, 49, 50])
 (.seq (.reg [] (
 ⟨some 55, none, .mov, [.t 10]⟩ ::
 ⟨some 56, none, .call 47, [.t 55]⟩ ::
 ⟨some 57, none, .field false 0 1, [.t 56]⟩ ::
 ⟨some 58, none, .bin .add, [.t 57, .k (.d (.int .i64 1))]⟩ ::
 ⟨some 15, none, .mov, [.t 58]⟩ ::
 []) [2, 3, 8, 10, 12, 13, 14, 15, 48, 49, 50])
 (.seq (.seq (.reg [] (
 ⟨some 59, none, .mov, [.t 10]⟩ ::
 ⟨some 60, none, .load true 3, [.t 14]⟩ ::
 ⟨some 61, none, .call 48, [.t 59, .t 60]⟩ ::
 ⟨some 16, none, .mov, [.t 61]⟩ ::
 []) [2, 3, 8, 10, 12, 13, 15, 16, 48, 49, 50])
 (.seq (.reg [] (
 ⟨some 62, none, .mov, [.t 16]⟩ ::
 ⟨some 63, none, .bin .neq, [.t 62, .k (.d (.int .i64 0))]⟩ ::
 []) [2, 3, 8, 10, 12, 13, 15, 16, 48, 49, 50, 63])
 (.cond (.t 63)
 (.seq (.reg [] (
 ⟨some 64, none, .build [.int .i64 0, .int .i64 0, .list true [], .int .i64 0, .int .i64 0, .int .i64 0, .int .i64 0, .int .i64 0, .int .i64 0, .int .i64 0, .int .i64 0, .list true []] [], []⟩ ::
 ⟨some 65, none, .mov, [.t 16]⟩ ::
 ⟨none, none, .store 12, [.t 8, .t 64]⟩ ::
 ⟨some 9, none, .mov, [.t 65]⟩ ::
 []) [8, 9])
 (.ret))
 (.skip))))
 (.seq (.reg [] (
 ⟨some 66, none, .mov, [.t 15]⟩ ::
 ⟨some 67, none, .mov, [.t 12]⟩ ::
 ⟨some 68, none, .len false, [.t 67]⟩ ::
 ⟨some 69, none, .bin .rem, [.t 66, .t 68]⟩ ::
 ⟨some 17, none, .mov, [.t 69]⟩ ::
 []) [2, 3, 8, 10, 12, 13, 17, 48, 49, 50])
 (.block 2
 (.seq (.reg [] (
 ⟨some 71, none, .mov, [.t 13]⟩ ::
 ⟨some 72, none, .mov, [.t 2]⟩ ::
 ⟨some 73, none, .bin .lss, [.t 71, .t 72]⟩ ::
 ⟨some 70, none, .mov, [.t 73]⟩ ::
 []) [2, 3, 8, 10, 12, 13, 17, 48, 49, 50, 70])
 (.cond (.t 70)
 (.reg [] (
 ⟨some 74, none, .mov, [.t 12]⟩ ::
 ⟨some 75, none, .mov, [.t 17]⟩ ::
 ⟨some 76, none, .mov, [.t 10]⟩ ::
 ⟨some 77, none, .nilck, [.t 76]⟩ ::
 ⟨some 78, none, .faddr 0, [.t 77]⟩ ::
 ⟨some 79, none, .faddr 11, [.t 78]⟩ ::
 ⟨some 80, none, .load false 1, [.t 79]⟩ ::
 ⟨some 81, none, .mov, [.t 17]⟩ ::
 ⟨some 82, none, .iaddrS 5, [.t 80, .t 81]⟩ ::
 ⟨some 83, none, .load true 5, [.t 82]⟩ ::
 ⟨some 84, none, .iaddrS 5, [.t 74, .t 75]⟩ ::
 ⟨none, none, .store 5, [.t 84, .t 83]⟩ ::
 []) [2, 3, 8, 10, 12, 48, 49, 50])
 (.seq (.reg [] (
 ⟨some 86, none, .mov, [.t 13]⟩ ::
 ⟨some 87, none, .mov, [.t 2]⟩ ::
 ⟨some 88, none, .bin .eql, [.t 86, .t 87]⟩ ::
 ⟨some 89, none, .mov, [.t 88]⟩ ::
 ⟨some 90, some (89, true), .mov, [.t 3]⟩ ::
 ⟨some 91, none, .pick, [.t 89, .t 90, .k (.d (.bool false))]⟩ ::
 ⟨some 85, none, .mov, [.t 91]⟩ ::
 []) [2, 3, 8, 10, 12, 17, 48, 49, 50, 85])
 (.cond (.t 85)
 (.reg [] (
 ⟨some 92, none, .mov, [.t 12]⟩ ::
 ⟨some 93, none, .mov, [.t 17]⟩ ::
 ⟨some 94, none, .load true 5, [.k (.d (.ptr [.int .i64 0, .int .i64 0, .int .i64 0, .int .i64 0, .bool true]))]⟩ ::
 ⟨some 95, none, .iaddrS 5, [.t 92, .t 93]⟩ ::
 ⟨none, none, .store 5, [.t 95, .t 94]⟩ ::
 []) [2, 3, 8, 10, 12, 48, 49, 50])
 (.skip)))))))))))
 (.reg [] (
 ⟨some 96, none, .bin .add, [.t 50, .k (.d (.int .i64 1))]⟩ ::
 ⟨some 50, none, .mov, [.t 96]⟩ ::
 []) [2, 3, 8, 10, 12, 48, 49, 50])))))))
 (.seq (.reg [] (
 ⟨some 97, none, .mov, [.t 10]⟩ ::
 ⟨some 98, none, .mov, [.t 12]⟩ ::
 ⟨some 99, none, .nilck, [.t 97]⟩ ::
 ⟨some 100, none, .faddr 0, [.t 99]⟩ ::
 ⟨some 101, none, .faddr 11, [.t 100]⟩ ::
 ⟨none, none, .store 1, [.t 101, .t 98]⟩ ::
 []) [8, 10])
 (.seq (.reg [] (
 ⟨some 102, none, .mov, [.t 10]⟩ ::
 ⟨some 103, none, .nilck, [.t 102]⟩ ::
 ⟨some 104, none, .faddr 0, [.t 103]⟩ ::
 ⟨some 105, none, .load true 12, [.t 104]⟩ ::
 ⟨none, none, .store 12, [.t 8, .t 105]⟩ ::
 ⟨some 9, none, .mov, [.k (.d (.int .i64 0))]⟩ ::
 []) [8, 9])
 (.ret))))))))
theorem dec_journal_Cut : Fun E0 F_journal_Cut pc_journal_Cut [.c 8 29 true 12, .t 9] 106 := fun_of_dec (fl := []) (by kernel_rfl)
-- platter/platterref16.Check (1)
abbrev F_ref16_Check : Nat := 19
def pc_ref16_Check : PC :=
 .seq (.reg [] (
 ⟨some 1, none, .box, [.t 0]⟩ ::
 ⟨some 2, none, .mov, [.k (.d (.int .i64 0))]⟩ ::
 []) [1])
 (.seq (.seq (.reg [] (
 ⟨some 4, none, .faddr 0, [.t 1]⟩ ::
 ⟨some 5, none, .load true 9, [.t 4]⟩ ::
 ⟨some 6, none, .call 49, [.t 5]⟩ ::
 ⟨some 7, none, .bin .neq, [.t 6, .k (.d (.int .i64 0))]⟩ ::
 []) [1, 7])
 (.cond (.t 7)
 (.seq (.reg [] (
 ⟨some 2, none, .mov, [.k (.d (.int .i64 10))]⟩ ::
 []) [2])
 (.ret))
 (.skip)))
 (.seq (.seq (.reg [] (
 ⟨some 8, none, .faddr 9, [.t 1]⟩ ::
 ⟨some 9, none, .load false 1, [.t 8]⟩ ::
 ⟨some 10, none, .call 50, [.t 9, .k (.d (.int .i64 1)), .k (.d (.int .i64 8))]⟩ ::
 ⟨some 11, none, .un .not, [.t 10]⟩ ::
 ⟨some 12, none, .mov, [.t 11]⟩ ::
 ⟨some 13, some (12, false), .faddr 11, [.t 1]⟩ ::
 ⟨some 14, some (12, false), .load false 1, [.t 13]⟩ ::
 ⟨some 15, some (12, false), .len false, [.t 14]⟩ ::
 ⟨some 16, some (12, false), .call 50, [.t 15, .k (.d (.int .i64 2)), .k (.d (.int .i64 12))]⟩ ::
 ⟨some 17, some (12, false), .un .not, [.t 16]⟩ ::
 ⟨some 18, none, .pick, [.t 12, .k (.d (.bool true)), .t 17]⟩ ::
 ⟨some 19, none, .mov, [.t 18]⟩ ::
 ⟨some 20, some (19, false), .faddr 0, [.t 1]⟩ ::
 ⟨some 21, some (19, false), .load true 9, [.t 20]⟩ ::
 ⟨some 22, some (19, false), .faddr 10, [.t 1]⟩ ::
 ⟨some 23, some (19, false), .load false 1, [.t 22]⟩ ::
 ⟨some 24, some (19, false), .faddr 11, [.t 1]⟩ ::
 ⟨some 25, some (19, false), .load false 1, [.t 24]⟩ ::
 ⟨some 26, some (19, false), .len false, [.t 25]⟩ ::
 ⟨some 27, some (19, false), .call 51, [.t 21, .t 23, .t 26]⟩ ::
 ⟨some 28, some (19, false), .un .not, [.t 27]⟩ ::
 ⟨some 29, none, .pick, [.t 19, .k (.d (.bool true)), .t 28]⟩ ::
 []) [1, 29])
 (.cond (.t 29)
 (.seq (.reg [] (
 ⟨some 2, none, .mov, [.k (.d (.int .i64 160))]⟩ ::
 []) [2])
 (.ret))
 (.skip)))
 (.seq (.seq (.reg [] (
 ⟨some 3, none, .mov, [.k (.d (.int .i64 0))]⟩ ::
 []) [1, 3])
 (.block 0
 (.loop [] [1, 3] [1, 900000, 901000]
 (.seq (.seq (.reg [] (
 ⟨some 30, none, .mov, [.t 3]⟩ ::
 ⟨some 31, none, .faddr 11, [.t 1]⟩ ::
 ⟨some 32, none, .load false 1, [.t 31]⟩ ::
 ⟨some 33, none, .len false, [.t 32]⟩ ::
 ⟨some 34, none, .bin .lss, [.t 30, .t 33]⟩ ::
 []) [1, 3, 34])
 (.cond (.t 34)
 (.skip)
 (.exit 0)))
 (.seq (.block 1
 (.seq (.reg [] (
 ⟨some 37, none, .load true 12, [.t 1]⟩ ::
 ⟨some 38, none, .mov, [.t 3]⟩ ::
 ⟨some 39, none, .call 52, [.t 37, .t 38]⟩ ::
 ⟨some 40, none, .un .not, [.t 39]⟩ ::
 []) [1, 3, 40])
 (.cond (.t 40)
 (.seq (.reg [] (
 ⟨some 2, none, .mov, [.k (.d (.int .i64 160))]⟩ ::
 []) [2])
 (.ret))
 (.skip))))
 (.reg [] (
 ⟨some 35, none, .mov, [.t 3]⟩ ::
 ⟨some 36, none, .bin .add, [.t 35, .k (.d (.int .i64 1))]⟩ ::
 ⟨some 3, none, .mov, [.t 36]⟩ ::
 []) [1, 3]))))))
 (.seq (.reg [] (
 ⟨some 2, none, .mov, [.k (.d (.int .i64 0))]⟩ ::
 []) [2])
 (.ret)))))
theorem dec_ref16_Check : Fun E0 F_ref16_Check pc_ref16_Check [.t 2] 41 := fun_of_dec (fl := []) (by kernel_rfl)
-- platter/platterref16.Newest (1)
abbrev F_ref16_Newest : Nat := 20
def pc_ref16_Newest : PC :=
 .seq (.reg [] (
 ⟨some 1, none, .box, [.t 0]⟩ ::
 ⟨some 2, none, .mov, [.k (.d (.int .i64 0))]⟩ ::
 ⟨some 3, none, .mov, [.k (.d (.int .i64 0))]⟩ ::
 []) [1, 3])
 (.seq (.reg [] (
 ⟨some 2, none, .mov, [.k (.d (.int .i64 (-1)))]⟩ ::
 []) [1, 2, 3])
 (.seq (.seq (.reg [] (
 ⟨some 4, none, .mov, [.k (.d (.int .i64 0))]⟩ ::
 []) [1, 2, 3, 4])
 (.block 0
 (.loop [] [1, 2, 3, 4] [1, 900000, 901000]
 (.seq (.seq (.reg [] (
 ⟨some 6, none, .mov, [.t 4]⟩ ::
 ⟨some 7, none, .faddr 11, [.t 1]⟩ ::
 ⟨some 8, none, .load false 1, [.t 7]⟩ ::
 ⟨some 9, none, .len false, [.t 8]⟩ ::
 ⟨some 10, none, .bin .lss, [.t 6, .t 9]⟩ ::
 []) [1, 2, 3, 4, 10])
 (.cond (.t 10)
 (.skip)
 (.exit 0)))
 (.seq (.block 1
 (.seq (.reg [] (
 ⟨some 13, none, .faddr 11, [.t 1]⟩ ::
 ⟨some 14, none, .load false 1, [.t 13]⟩ ::
 ⟨some 15, none, .mov, [.t 4]⟩ ::
 ⟨some 16, none, .iaddrS 5, [.t 14, .t 15]⟩ ::
 ⟨some 17, none, .load true 5, [.t 16]⟩ ::
 ⟨some 5, none, .zero [.int .i64 0, .int .i64 0, .int .i64 0, .int .i64 0, .bool false], []⟩ ::
 ⟨none, none, .store 5, [.t 5, .t 17]⟩ ::
 []) [1, 2, 3, 4, 5])
 (.seq (.reg [] (
 ⟨some 18, none, .load true 5, [.t 5]⟩ ::
 ⟨some 19, none, .call 53, [.t 18]⟩ ::
 ⟨some 20, none, .mov, [.t 19]⟩ ::
 ⟨some 21, some (20, true), .faddr 0, [.t 5]⟩ ::
 ⟨some 22, some (20, true), .load false 1, [.t 21]⟩ ::
 ⟨some 23, some (20, true), .mov, [.t 2]⟩ ::
 ⟨some 24, some (20, true), .bin .gtr, [.t 22, .t 23]⟩ ::
 ⟨some 25, none, .pick, [.t 20, .t 24, .k (.d (.bool false))]⟩ ::
 []) [1, 2, 3, 4, 5, 25])
 (.cond (.t 25)
 (.draw [] (
 (⟨some 26, none, .faddr 0, [.t 5]⟩, []) ::
 (⟨some 27, none, .load false 1, [.t 26]⟩, []) ::
 (⟨some 28, none, .faddr 3, [.t 5]⟩, []) ::
 (⟨some 29, none, .load false 1, [.t 28]⟩, []) ::
 (⟨some 2, none, .mov, [.t 27]⟩, []) ::
 (⟨some 3, none, .mov, [.t 29]⟩, []) ::
 []) [1, 2, 3, 4])
 (.skip)))))
 (.reg [] (
 ⟨some 11, none, .mov, [.t 4]⟩ ::
 ⟨some 12, none, .bin .add, [.t 11, .k (.d (.int .i64 1))]⟩ ::
 ⟨some 4, none, .mov, [.t 12]⟩ ::
 []) [1, 2, 3, 4]))))))
 (.seq (.reg [] (
 ⟨some 30, none, .mov, [.t 2]⟩ ::
 ⟨some 31, none, .mov, [.t 3]⟩ ::
 ⟨some 2, none, .mov, [.t 30]⟩ ::
 ⟨some 3, none, .mov, [.t 31]⟩ ::
 []) [2, 3])
 (.ret))))
theorem dec_ref16_Newest : Fun E0 F_ref16_Newest pc_ref16_Newest [.t 2, .t 3] 32 := fun_of_dec (fl := []) (by kernel_rfl)
abbrev F_law16_expected : Nat := 21
-- platter/platterlaw16.sameRecords (2)
abbrev F_law16_sameRecords : Nat := 22
def pc_law16_sameRecords : PC :=
 .seq (.reg [] (
 ⟨some 4, none, .mov, [.k (.d (.bool false))]⟩ ::
 []) [0, 1])
 (.seq (.seq (.reg [] (
 ⟨some 6, none, .mov, [.t 0]⟩ ::
 ⟨some 7, none, .len false, [.t 6]⟩ ::
 ⟨some 8, none, .mov, [.t 1]⟩ ::
 ⟨some 9, none, .len false, [.t 8]⟩ ::
 ⟨some 10, none, .bin .neq, [.t 7, .t 9]⟩ ::
 []) [0, 1, 10])
 (.cond (.t 10)
 (.seq (.reg [] (
 ⟨some 4, none, .mov, [.k (.d (.bool false))]⟩ ::
 []) [4])
 (.ret))
 (.skip)))
 (.seq (.seq (.reg [] (
 ⟨some 5, none, .mov, [.k (.d (.int .i64 0))]⟩ ::
 []) [0, 1, 5])
 (.block 0
 (.loop [] [0, 1, 5] [900000, 900001, 901000, 901001]
 (.seq (.seq (.reg [] (
 ⟨some 11, none, .mov, [.t 5]⟩ ::
 ⟨some 12, none, .mov, [.t 0]⟩ ::
 ⟨some 13, none, .len false, [.t 12]⟩ ::
 ⟨some 14, none, .bin .lss, [.t 11, .t 13]⟩ ::
 []) [0, 1, 5, 14])
 (.cond (.t 14)
 (.skip)
 (.exit 0)))
 (.seq (.block 1
 (.seq (.draw [] (
 (⟨some 17, none, .mov, [.t 0]⟩, []) ::
 (⟨some 18, none, .mov, [.t 5]⟩, []) ::
 (⟨some 19, none, .iaddrS 5, [.t 17, .t 18]⟩, []) ::
 (⟨some 20, none, .load true 5, [.t 19]⟩, []) ::
 (⟨some 21, none, .mov, [.t 1]⟩, []) ::
 (⟨some 22, none, .mov, [.t 5]⟩, []) ::
 (⟨some 23, none, .iaddrS 5, [.t 21, .t 22]⟩, []) ::
 (⟨some 24, none, .load true 5, [.t 23]⟩, []) ::
 (⟨some 25, none, .eqv true (true, [some .i64, some .i64, some .i64, some .i64, none]), [.t 20, .t 24]⟩, []) ::
 []) [0, 1, 5, 25])
 (.cond (.t 25)
 (.seq (.reg [] (
 ⟨some 4, none, .mov, [.k (.d (.bool false))]⟩ ::
 []) [4])
 (.ret))
 (.skip))))
 (.reg [] (
 ⟨some 15, none, .mov, [.t 5]⟩ ::
 ⟨some 16, none, .bin .add, [.t 15, .k (.d (.int .i64 1))]⟩ ::
 ⟨some 5, none, .mov, [.t 16]⟩ ::
 []) [0, 1, 5]))))))
 (.seq (.reg [] (
 ⟨some 4, none, .mov, [.k (.d (.bool true))]⟩ ::
 []) [4])
 (.ret))))
theorem dec_law16_sameRecords : Fun E0 F_law16_sameRecords pc_law16_sameRecords [.t 4] 26 := fun_of_dec (fl := []) (by kernel_rfl)
-- platter/platterlaw16.Far (1)
abbrev F_law16_Far : Nat := 23
def pc_law16_Far : PC :=
 .seq (.reg [] (
 ⟨some 1, none, .box, [.t 0]⟩ ::
 ⟨some 2, none, .mov, [.k (.d (.bool false))]⟩ ::
 []) [1])
 (.seq (.reg [] (
 ⟨some 3, none, .faddr 0, [.t 1]⟩ ::
 ⟨some 4, none, .load true 9, [.t 3]⟩ ::
 ⟨some 5, none, .call 54, [.t 4]⟩ ::
 ⟨some 6, none, .mov, [.t 5]⟩ ::
 ⟨some 7, some (6, false), .faddr 11, [.t 1]⟩ ::
 ⟨some 8, some (6, false), .load false 1, [.t 7]⟩ ::
 ⟨some 9, some (6, false), .len false, [.t 8]⟩ ::
 ⟨some 10, some (6, false), .bin .gtr, [.t 9, .k (.d (.int .i64 40))]⟩ ::
 ⟨some 11, none, .pick, [.t 6, .k (.d (.bool true)), .t 10]⟩ ::
 ⟨some 2, none, .mov, [.t 11]⟩ ::
 []) [2])
 (.ret))
theorem dec_law16_Far : Fun E0 F_law16_Far pc_law16_Far [.t 2] 12 := fun_of_dec (fl := []) (by kernel_rfl)
-- platter/journal.Append (2)
abbrev F_journal_Append : Nat := 24
def pc_journal_Append : PC :=
 .seq (.reg [] (
 ⟨some 2, none, .box, [.t 0]⟩ ::
 ⟨some 4, none, .zero [.int .i64 0, .int .i64 0, .list true [], .int .i64 0, .int .i64 0, .int .i64 0, .int .i64 0, .int .i64 0, .int .i64 0, .int .i64 0, .int .i64 0, .list true []], []⟩ ::
 ⟨some 5, none, .mov, [.k (.d (.int .i64 0))]⟩ ::
 []) [1, 2, 4])
 (.seq (.reg [] (
 ⟨some 6, none, .load true 12, [.t 2]⟩ ::
 ⟨some 7, none, .mov, [.t 1]⟩ ::
 ⟨some 8, none, .mov, [.t 1]⟩ ::
 ⟨some 9, none, .len false, [.t 8]⟩ ::
 ⟨some 10, none, .call 18, [.t 6, .t 7, .t 9, .k (.d (.bool false))]⟩ ::
 ⟨some 11, none, .extract 0, [.t 10]⟩ ::
 ⟨some 12, none, .extract 1, [.t 10]⟩ ::
 ⟨none, none, .store 12, [.t 4, .t 11]⟩ ::
 ⟨some 5, none, .mov, [.t 12]⟩ ::
 []) [4, 5])
 (.ret))
theorem dec_journal_Append : Fun E0 F_journal_Append pc_journal_Append [.c 4 29 true 12, .t 5] 13 := fun_of_dec (fl := []) (by kernel_rfl)
-- platter/platterref16.Append (2)
abbrev F_ref16_Append : Nat := 25
def pc_ref16_Append : PC :=
 .seq (.reg [] (
 ⟨some 2, none, .box, [.t 0]⟩ ::
 ⟨some 4, none, .zero [.int .i64 0, .int .i64 0, .list true [], .int .i64 0, .int .i64 0, .int .i64 0, .int .i64 0, .int .i64 0, .int .i64 0, .int .i64 0, .int .i64 0, .list true []], []⟩ ::
 ⟨some 5, none, .mov, [.k (.d (.int .i64 0))]⟩ ::
 []) [1, 2, 4])
 (.seq (.seq (.reg [] (
 ⟨some 7, none, .load true 12, [.t 2]⟩ ::
 ⟨some 8, none, .call 37, [.t 7]⟩ ::
 ⟨some 6, none, .mov, [.t 8]⟩ ::
 []) [1, 2, 4, 6])
 (.seq (.reg [] (
 ⟨some 9, none, .mov, [.t 6]⟩ ::
 ⟨some 10, none, .bin .neq, [.t 9, .k (.d (.int .i64 0))]⟩ ::
 []) [1, 2, 4, 6, 10])
 (.cond (.t 10)
 (.seq (.reg [] (
 ⟨some 11, none, .build [.int .i64 0, .int .i64 0, .list true [], .int .i64 0, .int .i64 0, .int .i64 0, .int .i64 0, .int .i64 0, .int .i64 0, .int .i64 0, .int .i64 0, .list true []] [], []⟩ ::
 ⟨some 12, none, .mov, [.t 6]⟩ ::
 ⟨none, none, .store 12, [.t 4, .t 11]⟩ ::
 ⟨some 5, none, .mov, [.t 12]⟩ ::
 []) [4, 5])
 (.ret))
 (.skip))))
 (.seq (.reg [] (
 ⟨some 13, none, .load true 12, [.t 2]⟩ ::
 ⟨some 14, none, .mov, [.t 1]⟩ ::
 ⟨some 15, none, .call 55, [.t 13, .t 14]⟩ ::
 ⟨some 16, none, .extract 0, [.t 15]⟩ ::
 ⟨some 17, none, .extract 1, [.t 15]⟩ ::
 ⟨none, none, .store 12, [.t 4, .t 16]⟩ ::
 ⟨some 5, none, .mov, [.t 17]⟩ ::
 []) [4, 5])
 (.ret)))
theorem dec_ref16_Append : Fun E0 F_ref16_Append pc_ref16_Append [.c 4 29 true 12, .t 5] 18 := fun_of_dec (fl := []) (by kernel_rfl)
-- platter/platterref16.Same (2)
abbrev F_ref16_Same : Nat := 26
def pc_ref16_Same : PC :=
 .seq (.reg [] (
 ⟨some 2, none, .box, [.t 0]⟩ ::
 ⟨some 3, none, .box, [.t 1]⟩ ::
 ⟨some 4, none, .mov, [.k (.d (.bool false))]⟩ ::
 []) [2, 3])
 (.seq (.seq (.reg [] (
 ⟨some 7, none, .faddr 9, [.t 2]⟩ ::
 ⟨some 8, none, .load false 1, [.t 7]⟩ ::
 ⟨some 9, none, .faddr 9, [.t 3]⟩ ::
 ⟨some 10, none, .load false 1, [.t 9]⟩ ::
 ⟨some 11, none, .bin .neq, [.t 8, .t 10]⟩ ::
 ⟨some 12, none, .mov, [.t 11]⟩ ::
 ⟨some 13, some (12, false), .faddr 10, [.t 2]⟩ ::
 ⟨some 14, some (12, false), .load false 1, [.t 13]⟩ ::
 ⟨some 15, some (12, false), .faddr 10, [.t 3]⟩ ::
 ⟨some 16, some (12, false), .load false 1, [.t 15]⟩ ::
 ⟨some 17, some (12, false), .bin .neq, [.t 14, .t 16]⟩ ::
 ⟨some 18, none, .pick, [.t 12, .k (.d (.bool true)), .t 17]⟩ ::
 ⟨some 19, none, .mov, [.t 18]⟩ ::
 ⟨some 20, some (19, false), .faddr 11, [.t 2]⟩ ::
 ⟨some 21, some (19, false), .load false 1, [.t 20]⟩ ::
 ⟨some 22, some (19, false), .len false, [.t 21]⟩ ::
 ⟨some 23, some (19, false), .faddr 11, [.t 3]⟩ ::
 ⟨some 24, some (19, false), .load false 1, [.t 23]⟩ ::
 ⟨some 25, some (19, false), .len false, [.t 24]⟩ ::
 ⟨some 26, some (19, false), .bin .neq, [.t 22, .t 25]⟩ ::
 ⟨some 27, none, .pick, [.t 19, .k (.d (.bool true)), .t 26]⟩ ::
 ⟨some 28, none, .mov, [.t 27]⟩ ::
 ⟨some 29, some (28, false), .faddr 0, [.t 2]⟩ ::
 ⟨some 30, some (28, false), .faddr 2, [.t 29]⟩ ::
 ⟨some 31, some (28, false), .load false 1, [.t 30]⟩ ::
 ⟨some 32, some (28, false), .len false, [.t 31]⟩ ::
 ⟨some 33, some (28, false), .faddr 0, [.t 3]⟩ ::
 ⟨some 34, some (28, false), .faddr 2, [.t 33]⟩ ::
 ⟨some 35, some (28, false), .load false 1, [.t 34]⟩ ::
 ⟨some 36, some (28, false), .len false, [.t 35]⟩ ::
 ⟨some 37, some (28, false), .bin .neq, [.t 32, .t 36]⟩ ::
 ⟨some 38, none, .pick, [.t 28, .k (.d (.bool true)), .t 37]⟩ ::
 []) [2, 3, 38])
 (.cond (.t 38)
 (.seq (.reg [] (
 ⟨some 4, none, .mov, [.k (.d (.bool false))]⟩ ::
 []) [4])
 (.ret))
 (.skip)))
 (.seq (.seq (.reg [] (
 ⟨some 5, none, .mov, [.k (.d (.int .i64 0))]⟩ ::
 []) [2, 3, 5])
 (.block 0
 (.loop [] [2, 3, 5] [2, 3, 900000, 900001, 901000, 901001]
 (.seq (.seq (.reg [] (
 ⟨some 39, none, .mov, [.t 5]⟩ ::
 ⟨some 40, none, .faddr 11, [.t 2]⟩ ::
 ⟨some 41, none, .load false 1, [.t 40]⟩ ::
 ⟨some 42, none, .len false, [.t 41]⟩ ::
 ⟨some 43, none, .bin .lss, [.t 39, .t 42]⟩ ::
 []) [2, 3, 5, 43])
 (.cond (.t 43)
 (.skip)
 (.exit 0)))
 (.seq (.block 1
 (.seq (.draw [] (
 (⟨some 46, none, .faddr 11, [.t 2]⟩, []) ::
 (⟨some 47, none, .load false 1, [.t 46]⟩, []) ::
 (⟨some 48, none, .mov, [.t 5]⟩, []) ::
 (⟨some 49, none, .iaddrS 5, [.t 47, .t 48]⟩, []) ::
 (⟨some 50, none, .load true 5, [.t 49]⟩, []) ::
 (⟨some 51, none, .faddr 11, [.t 3]⟩, []) ::
 (⟨some 52, none, .load false 1, [.t 51]⟩, []) ::
 (⟨some 53, none, .mov, [.t 5]⟩, []) ::
 (⟨some 54, none, .iaddrS 5, [.t 52, .t 53]⟩, []) ::
 (⟨some 55, none, .load true 5, [.t 54]⟩, []) ::
 (⟨some 56, none, .eqv true (true, [some .i64, some .i64, some .i64, some .i64, none]), [.t 50, .t 55]⟩, []) ::
 []) [2, 3, 5, 56])
 (.cond (.t 56)
 (.seq (.reg [] (
 ⟨some 4, none, .mov, [.k (.d (.bool false))]⟩ ::
 []) [4])
 (.ret))
 (.skip))))
 (.reg [] (
 ⟨some 44, none, .mov, [.t 5]⟩ ::
 ⟨some 45, none, .bin .add, [.t 44, .k (.d (.int .i64 1))]⟩ ::
 ⟨some 5, none, .mov, [.t 45]⟩ ::
 []) [2, 3, 5]))))))
 (.seq (.seq (.reg [] (
 ⟨some 6, none, .mov, [.k (.d (.int .i64 0))]⟩ ::
 []) [2, 3, 6])
 (.block 2
 (.loop [] [2, 3, 6] [2, 3, 900000, 900001, 901000, 901001]
 (.seq (.seq (.reg [] (
 ⟨some 57, none, .mov, [.t 6]⟩ ::
 ⟨some 58, none, .faddr 0, [.t 2]⟩ ::
 ⟨some 59, none, .faddr 2, [.t 58]⟩ ::
 ⟨some 60, none, .load false 1, [.t 59]⟩ ::
 ⟨some 61, none, .len false, [.t 60]⟩ ::
 ⟨some 62, none, .bin .lss, [.t 57, .t 61]⟩ ::
 []) [2, 3, 6, 62])
 (.cond (.t 62)
 (.skip)
 (.exit 2)))
 (.seq (.block 3
 (.seq (.draw [] (
 (⟨some 65, none, .faddr 0, [.t 2]⟩, []) ::
 (⟨some 66, none, .faddr 2, [.t 65]⟩, []) ::
 (⟨some 67, none, .load false 1, [.t 66]⟩, []) ::
 (⟨some 68, none, .mov, [.t 6]⟩, []) ::
 (⟨some 69, none, .iaddrS 2, [.t 67, .t 68]⟩, []) ::
 (⟨some 70, none, .load true 2, [.t 69]⟩, []) ::
 (⟨some 71, none, .faddr 0, [.t 3]⟩, []) ::
 (⟨some 72, none, .faddr 2, [.t 71]⟩, []) ::
 (⟨some 73, none, .load false 1, [.t 72]⟩, []) ::
 (⟨some 74, none, .mov, [.t 6]⟩, []) ::
 (⟨some 75, none, .iaddrS 2, [.t 73, .t 74]⟩, []) ::
 (⟨some 76, none, .load true 2, [.t 75]⟩, []) ::
 (⟨some 77, none, .eqv true (true, [some .i64, some .i64]), [.t 70, .t 76]⟩, []) ::
 []) [2, 3, 6, 77])
 (.cond (.t 77)
 (.seq (.reg [] (
 ⟨some 4, none, .mov, [.k (.d (.bool false))]⟩ ::
 []) [4])
 (.ret))
 (.skip))))
 (.reg [] (
 ⟨some 63, none, .mov, [.t 6]⟩ ::
 ⟨some 64, none, .bin .add, [.t 63, .k (.d (.int .i64 1))]⟩ ::
 ⟨some 6, none, .mov, [.t 64]⟩ ::
 []) [2, 3, 6]))))))
 (.seq (.reg [] (
 ⟨some 78, none, .faddr 0, [.t 2]⟩ ::
 ⟨some 79, none, .faddr 0, [.t 78]⟩ ::
 ⟨some 80, none, .load false 1, [.t 79]⟩ ::
 ⟨some 81, none, .faddr 0, [.t 3]⟩ ::
 ⟨some 82, none, .faddr 0, [.t 81]⟩ ::
 ⟨some 83, none, .load false 1, [.t 82]⟩ ::
 ⟨some 84, none, .bin .eql, [.t 80, .t 83]⟩ ::
 ⟨some 85, none, .mov, [.t 84]⟩ ::
 ⟨some 86, some (85, true), .faddr 0, [.t 2]⟩ ::
 ⟨some 87, some (85, true), .faddr 1, [.t 86]⟩ ::
 ⟨some 88, some (85, true), .load false 1, [.t 87]⟩ ::
 ⟨some 89, some (85, true), .faddr 0, [.t 3]⟩ ::
 ⟨some 90, some (85, true), .faddr 1, [.t 89]⟩ ::
 ⟨some 91, some (85, true), .load false 1, [.t 90]⟩ ::
 ⟨some 92, some (85, true), .bin .eql, [.t 88, .t 91]⟩ ::
 ⟨some 93, none, .pick, [.t 85, .t 92, .k (.d (.bool false))]⟩ ::
 ⟨some 94, none, .mov, [.t 93]⟩ ::
 ⟨some 95, some (94, true), .faddr 0, [.t 2]⟩ ::
 ⟨some 96, some (94, true), .faddr 3, [.t 95]⟩ ::
 ⟨some 97, some (94, true), .load false 1, [.t 96]⟩ ::
 ⟨some 98, some (94, true), .faddr 0, [.t 3]⟩ ::
 ⟨some 99, some (94, true), .faddr 3, [.t 98]⟩ ::
 ⟨some 100, some (94, true), .load false 1, [.t 99]⟩ ::
 ⟨some 101, some (94, true), .bin .eql, [.t 97, .t 100]⟩ ::
 ⟨some 102, none, .pick, [.t 94, .t 101, .k (.d (.bool false))]⟩ ::
 ⟨some 103, none, .mov, [.t 102]⟩ ::
 ⟨some 104, some (103, true), .faddr 0, [.t 2]⟩ ::
 ⟨some 105, some (103, true), .faddr 4, [.t 104]⟩ ::
 ⟨some 106, some (103, true), .load false 1, [.t 105]⟩ ::
 ⟨some 107, some (103, true), .faddr 0, [.t 3]⟩ ::
 ⟨some 108, some (103, true), .faddr 4, [.t 107]⟩ ::
 ⟨some 109, some (103, true), .load false 1, [.t 108]⟩ ::
 ⟨some 110, some (103, true), .bin .eql, [.t 106, .t 109]⟩ ::
 ⟨some 111, none, .pick, [.t 103, .t 110, .k (.d (.bool false))]⟩ ::
 ⟨some 112, none, .mov, [.t 111]⟩ ::
 ⟨some 113, some (112, true), .faddr 0, [.t 2]⟩ ::
 ⟨some 114, some (112, true), .faddr 5, [.t 113]⟩ ::
 ⟨some 115, some (112, true), .load true 2, [.t 114]⟩ ::
 ⟨some 116, some (112, true), .faddr 0, [.t 3]⟩ ::
 ⟨some 117, some (112, true), .faddr 5, [.t 116]⟩ ::
 ⟨some 118, some (112, true), .load true 2, [.t 117]⟩ ::
 ⟨some 119, some (112, true), .eqv false (true, [some .i64, some .i64]), [.t 115, .t 118]⟩ ::
 ⟨some 120, none, .pick, [.t 112, .t 119, .k (.d (.bool false))]⟩ ::
 ⟨some 121, none, .mov, [.t 120]⟩ ::
 ⟨some 122, some (121, true), .faddr 0, [.t 2]⟩ ::
 ⟨some 123, some (121, true), .faddr 7, [.t 122]⟩ ::
 ⟨some 124, some (121, true), .load true 2, [.t 123]⟩ ::
 ⟨some 125, some (121, true), .faddr 0, [.t 3]⟩ ::
 ⟨some 126, some (121, true), .faddr 7, [.t 125]⟩ ::
 ⟨some 127, some (121, true), .load true 2, [.t 126]⟩ ::
 ⟨some 128, some (121, true), .eqv false (true, [some .i64, some .i64]), [.t 124, .t 127]⟩ ::
 ⟨some 129, none, .pick, [.t 121, .t 128, .k (.d (.bool false))]⟩ ::
 ⟨some 4, none, .mov, [.t 129]⟩ ::
 []) [4])
 (.ret)))))
theorem dec_ref16_Same : Fun E0 F_ref16_Same pc_ref16_Same [.t 4] 130 := fun_of_dec (fl := []) (by kernel_rfl)
-- platter/platterref16.Cut (4)
abbrev F_ref16_Cut : Nat := 27
def pc_ref16_Cut : PC :=
 .seq (.reg [] (
 ⟨some 4, none, .box, [.t 0]⟩ ::
 ⟨some 8, none, .zero [.int .i64 0, .int .i64 0, .list true [], .int .i64 0, .int .i64 0, .int .i64 0, .int .i64 0, .int .i64 0, .int .i64 0, .int .i64 0, .int .i64 0, .list true []], []⟩ ::
 ⟨some 9, none, .mov, [.k (.d (.int .i64 0))]⟩ ::
 []) [1, 2, 3, 4, 8])
 (.seq (.seq (.reg [] (
 ⟨some 17, none, .load true 12, [.t 4]⟩ ::
 ⟨some 18, none, .call 37, [.t 17]⟩ ::
 ⟨some 10, none, .mov, [.t 18]⟩ ::
 []) [1, 2, 3, 4, 8, 10])
 (.seq (.reg [] (
 ⟨some 19, none, .mov, [.t 10]⟩ ::
 ⟨some 20, none, .bin .neq, [.t 19, .k (.d (.int .i64 0))]⟩ ::
 []) [1, 2, 3, 4, 8, 10, 20])
 (.cond (.t 20)
 (.seq (.reg [] (
 ⟨some 21, none, .build [.int .i64 0, .int .i64 0, .list true [], .int .i64 0, .int .i64 0, .int .i64 0, .int .i64 0, .int .i64 0, .int .i64 0, .int .i64 0, .int .i64 0, .list true []] [], []⟩ ::
 ⟨some 22, none, .mov, [.t 10]⟩ ::
 ⟨none, none, .store 12, [.t 8, .t 21]⟩ ::
 ⟨some 9, none, .mov, [.t 22]⟩ ::
 []) [8, 9])
 (.ret))
 (.skip))))
 (.seq (.seq (.reg [] (
 ⟨some 23, none, .mov, [.t 2]⟩ ::
 ⟨some 24, none, .mov, [.t 1]⟩ ::
 ⟨some 25, none, .len false, [.t 24]⟩ ::
 ⟨some 26, none, .call 50, [.t 23, .k (.d (.int .i64 0)), .t 25]⟩ ::
 ⟨some 27, none, .un .not, [.t 26]⟩ ::
 ⟨some 28, none, .mov, [.t 27]⟩ ::
 ⟨some 29, some (28, false), .mov, [.t 3]⟩ ::
 ⟨some 30, some (28, false), .mov, [.t 29]⟩ ::
 ⟨some 31, some (30, true), .mov, [.t 2]⟩ ::
 ⟨some 32, some (30, true), .mov, [.t 1]⟩ ::
 ⟨some 33, some (30, true), .len false, [.t 32]⟩ ::
 ⟨some 34, some (30, true), .bin .eql, [.t 31, .t 33]⟩ ::
 ⟨some 35, some (28, false), .pick, [.t 30, .t 34, .k (.d (.bool false))]⟩ ::
 ⟨some 36, none, .pick, [.t 28, .k (.d (.bool true)), .t 35]⟩ ::
 []) [1, 2, 3, 4, 8, 36])
 (.cond (.t 36)
 (.seq (.reg [] (
 ⟨some 37, none, .build [.int .i64 0, .int .i64 0, .list true [], .int .i64 0, .int .i64 0, .int .i64 0, .int .i64 0, .int .i64 0, .int .i64 0, .int .i64 0, .int .i64 0, .list true []] [], []⟩ ::
 ⟨none, none, .store 12, [.t 8, .t 37]⟩ ::
 ⟨some 9, none, .mov, [.k (.d (.int .i64 1))]⟩ ::
 []) [8, 9])
 (.ret))
 (.skip)))
 (.seq (.seq (.reg [] (
 ⟨some 39, none, .load true 12, [.t 4]⟩ ::
 ⟨some 40, none, .mov, [.t 1]⟩ ::
 ⟨some 41, none, .call 55, [.t 39, .t 40]⟩ ::
 ⟨some 38, none, .mov, [.t 41]⟩ ::
 ⟨some 42, none, .extract 0, [.t 38]⟩ ::
 ⟨some 43, none, .extract 1, [.t 38]⟩ ::
 ⟨some 11, none, .zero [.int .i64 0, .int .i64 0, .list true [], .int .i64 0, .int .i64 0, .int .i64 0, .int .i64 0, .int .i64 0, .int .i64 0, .int .i64 0, .int .i64 0, .list true []], []⟩ ::
 ⟨none, none, .store 12, [.t 11, .t 42]⟩ ::
 ⟨some 12, none, .mov, [.t 43]⟩ ::
 []) [1, 2, 3, 4, 8, 12])
 (.seq (.reg [] (
 ⟨some 44, none, .mov, [.t 12]⟩ ::
 ⟨some 45, none, .bin .neq, [.t 44, .k (.d (.int .i64 0))]⟩ ::
 []) [1, 2, 3, 4, 8, 12, 45])
 (.cond (.t 45)
 (.seq (.reg [] (
 ⟨some 46, none, .build [.int .i64 0, .int .i64 0, .list true [], .int .i64 0, .int .i64 0, .int .i64 0, .int .i64 0, .int .i64 0, .int .i64 0, .int .i64 0, .int .i64 0, .list true []] [], []⟩ ::
 ⟨some 47, none, .mov, [.t 12]⟩ ::
 ⟨none, none, .store 12, [.t 8, .t 46]⟩ ::
 ⟨some 9, none, .mov, [.t 47]⟩ ::
 []) [8, 9])
 (.ret))
 (.skip))))
 (.seq (.draw [] (
 (⟨some 49, none, .load true 12, [.t 4]⟩, []) ::
 (⟨some 50, none, .mov, [.t 1]⟩, []) ::
 (⟨some 51, none, .mov, [.t 2]⟩, []) ::
 (⟨some 52, none, .slice 3 false true false, [.t 50, .t 51]⟩, [0]) ::
 (⟨some 53, none, .call 55, [.t 49, .t 52]⟩, []) ::
 (⟨some 48, none, .mov, [.t 53]⟩, []) ::
 (⟨some 54, none, .extract 0, [.t 48]⟩, []) ::
 (⟨some 55, none, .extract 1, [.t 48]⟩, []) ::
 (⟨some 13, none, .zero [.int .i64 0, .int .i64 0, .list true [], .int .i64 0, .int .i64 0, .int .i64 0, .int .i64 0, .int .i64 0, .int .i64 0, .int .i64 0, .int .i64 0, .list true []], []⟩, [0, 3, 4]) ::
 (⟨none, none, .store 12, [.t 13, .t 54]⟩, []) ::
 (⟨some 14, none, .mov, [.t 55]⟩, []) ::
 []) [3, 8, 13])
 (.seq (.seq (.reg [] (
 ⟨some 56, none, .mov, [.t 3]⟩ ::
 []) [8, 13, 56])
 (.cond (.t 56)
 (.seq (.reg [] (
 ⟨some 58, none, .load true 12, [.t 13]⟩ ::
 ⟨some 59, none, .call 20, [.t 58]⟩ ::
 ⟨some 57, none, .mov, [.t 59]⟩ ::
 ⟨some 60, none, .extract 0, [.t 57]⟩ ::
 ⟨some 61, none, .extract 1, [.t 57]⟩ ::
 ⟨some 15, none, .mov, [.t 60]⟩ ::
 ⟨some 16, none, .mov, [.t 61]⟩ ::
 []) [8, 13, 15])
 (.draw [] (
 (⟨some 62, none, .faddr 11, [.t 13]⟩, []) ::
 (⟨some 63, none, .load false 1, [.t 62]⟩, []) ::
 (⟨some 64, none, .mov, [.t 15]⟩, []) ::
 (⟨some 65, none, .bin .add, [.t 64, .k (.d (.int .i64 1))]⟩, []) ::
 (⟨some 66, none, .faddr 11, [.t 13]⟩, []) ::
 (⟨some 67, none, .load false 1, [.t 66]⟩, []) ::
 (⟨some 68, none, .len false, [.t 67]⟩, []) ::
 (⟨some 69, none, .bin .rem, [.t 65, .t 68]⟩, []) ::
 (⟨some 70, none, .call 29, []⟩, [1, 5, 6]) ::
 (⟨some 71, none, .iaddrS 5, [.t 63, .t 69]⟩, []) ::
 (⟨none, none, .store 5, [.t 71, .t 70]⟩, []) ::
 []) [8, 13]))
 (.skip)))
 (.seq (.reg [] (
 ⟨some 72, none, .load true 12, [.t 13]⟩ ::
 ⟨none, none, .store 12, [.t 8, .t 72]⟩ ::
 ⟨some 9, none, .mov, [.k (.d (.int .i64 0))]⟩ ::
 []) [8, 9])
 (.ret)))))))
theorem dec_ref16_Cut : Fun E0 F_ref16_Cut pc_ref16_Cut [.c 8 29 true 12, .t 9] 73 := fun_of_dec (fl := []) (by kernel_rfl)
-- platter/platterref16.Replay (2)
abbrev F_ref16_Replay : Nat := 28
def pc_ref16_Replay : PC :=
 .seq (.reg [] (
 ⟨some 2, none, .box, [.t 0]⟩ ::
 ⟨some 4, none, .mov, [.k (.d (.list true []))]⟩ ::
 ⟨some 5, none, .mov, [.k (.d (.int .i64 0))]⟩ ::
 []) [1, 2])
 (.seq (.seq (.reg [] (
 ⟨some 12, none, .load true 12, [.t 2]⟩ ::
 ⟨some 13, none, .call 37, [.t 12]⟩ ::
 ⟨some 6, none, .mov, [.t 13]⟩ ::
 []) [1, 2, 6])
 (.seq (.reg [] (
 ⟨some 14, none, .mov, [.t 6]⟩ ::
 ⟨some 15, none, .bin .neq, [.t 14, .k (.d (.int .i64 0))]⟩ ::
 []) [1, 2, 6, 15])
 (.cond (.t 15)
 (.seq (.reg [] (
 ⟨some 16, none, .mov, [.t 6]⟩ ::
 ⟨some 4, none, .mov, [.k (.d (.list true []))]⟩ ::
 ⟨some 5, none, .mov, [.t 16]⟩ ::
 []) [4, 5])
 (.ret))
 (.skip))))
 (.seq (.seq (.reg [] (
 ⟨some 7, none, .mov, [.k (.d (.int .i64 0))]⟩ ::
 []) [1, 2, 7])
 (.block 0
 (.loop [] [1, 2, 7] [2, 900000, 900001, 901000, 901001]
 (.seq (.seq (.reg [] (
 ⟨some 17, none, .mov, [.t 7]⟩ ::
 ⟨some 18, none, .mov, [.t 1]⟩ ::
 ⟨some 19, none, .len false, [.t 18]⟩ ::
 ⟨some 20, none, .bin .lss, [.t 17, .t 19]⟩ ::
 []) [1, 2, 7, 20])
 (.cond (.t 20)
 (.skip)
 (.exit 0)))
 (.seq (.block 1
 (.seq (.reg [] (
 ⟨some 23, none, .mov, [.t 1]⟩ ::
 ⟨some 24, none, .mov, [.t 7]⟩ ::
 ⟨some 25, none, .iaddrS 1, [.t 23, .t 24]⟩ ::
 ⟨some 26, none, .load false 1, [.t 25]⟩ ::
 ⟨some 27, none, .call 50, [.t 26, .k (.d (.int .i64 0)), .k (.d (.int .i64 999))]⟩ ::
 ⟨some 28, none, .un .not, [.t 27]⟩ ::
 []) [1, 2, 7, 28])
 (.cond (.t 28)
 (.seq (.reg [] (
 ⟨some 4, none, .mov, [.k (.d (.list true []))]⟩ ::
 ⟨some 5, none, .mov, [.k (.d (.int .i64 1))]⟩ ::
 []) [4, 5])
 (.ret))
 (.skip))))
 (.reg [] (
 ⟨some 21, none, .mov, [.t 7]⟩ ::
 ⟨some 22, none, .bin .add, [.t 21, .k (.d (.int .i64 1))]⟩ ::
 ⟨some 7, none, .mov, [.t 22]⟩ ::
 []) [1, 2, 7]))))))
 (.seq (.seq (.reg [] (
 ⟨some 29, none, .mov, [.t 1]⟩ ::
 ⟨some 30, none, .len false, [.t 29]⟩ ::
 ⟨some 31, none, .faddr 9, [.t 2]⟩ ::
 ⟨some 32, none, .load false 1, [.t 31]⟩ ::
 ⟨some 33, none, .bin .neq, [.t 30, .t 32]⟩ ::
 []) [1, 2, 33])
 (.cond (.t 33)
 (.seq (.reg [] (
 ⟨some 4, none, .mov, [.k (.d (.list true []))]⟩ ::
 ⟨some 5, none, .mov, [.k (.d (.int .i64 1))]⟩ ::
 []) [4, 5])
 (.ret))
 (.skip)))
 (.seq (.reg [] (
 ⟨some 34, none, .mkrow 1 (.int .i64 0) 0 [], []⟩ ::
 ⟨some 35, none, .mov, [.t 1]⟩ ::
 ⟨some 36, none, .app 3 1 none true, [.t 34, .t 35]⟩ ::
 ⟨some 8, none, .mov, [.t 36]⟩ ::
 []) [2, 8])
 (.seq (.reg [] (
 ⟨some 38, none, .load true 12, [.t 2]⟩ ::
 ⟨some 39, none, .call 56, [.t 38]⟩ ::
 ⟨some 37, none, .mov, [.t 39]⟩ ::
 ⟨some 40, none, .extract 0, [.t 37]⟩ ::
 ⟨some 41, none, .extract 1, [.t 37]⟩ ::
 ⟨some 9, none, .mov, [.t 40]⟩ ::
 ⟨some 10, none, .mov, [.t 41]⟩ ::
 []) [8, 9])
 (.seq (.seq (.reg [] (
 ⟨some 11, none, .mov, [.k (.d (.int .i64 0))]⟩ ::
 []) [8, 9, 11])
 (.block 2
 (.loop [] [8, 9, 11] [36, 39, 10039]
 (.seq (.seq (.reg [] (
 ⟨some 42, none, .mov, [.t 11]⟩ ::
 ⟨some 43, none, .mov, [.t 9]⟩ ::
 ⟨some 44, none, .len false, [.t 43]⟩ ::
 ⟨some 45, none, .bin .lss, [.t 42, .t 44]⟩ ::
 []) [8, 9, 11, 45])
 (.cond (.t 45)
 (.skip)
 (.exit 2)))
 (.seq (.block 3
 (.draw [] (
 (⟨some 48, none, .mov, [.t 8]⟩, []) ::
 (⟨some 49, none, .mov, [.t 9]⟩, []) ::
 (⟨some 50, none, .mov, [.t 11]⟩, []) ::
 (⟨some 51, none, .iaddrS 5, [.t 49, .t 50]⟩, []) ::
 (⟨some 52, none, .faddr 1, [.t 51]⟩, []) ::
 (⟨some 53, none, .load false 1, [.t 52]⟩, []) ::
 (⟨some 54, none, .mov, [.t 9]⟩, []) ::
 (⟨some 55, none, .mov, [.t 11]⟩, []) ::
 (⟨some 56, none, .iaddrS 5, [.t 54, .t 55]⟩, []) ::
 (⟨some 57, none, .faddr 2, [.t 56]⟩, []) ::
 (⟨some 58, none, .load false 1, [.t 57]⟩, []) ::
 (⟨some 59, none, .iaddrS 1, [.t 48, .t 53]⟩, []) ::
 (⟨none, none, .store 1, [.t 59, .t 58]⟩, []) ::
 []) [8, 9, 11]))
 (.reg [] (
 ⟨some 46, none, .mov, [.t 11]⟩ ::
 ⟨some 47, none, .bin .add, [.t 46, .k (.d (.int .i64 1))]⟩ ::
 ⟨some 11, none, .mov, [.t 47]⟩ ::
 []) [8, 9, 11]))))))
 (.seq (.reg [] (
 ⟨some 60, none, .mov, [.t 8]⟩ ::
 ⟨some 4, none, .mov, [.t 60]⟩ ::
 ⟨some 5, none, .mov, [.k (.d (.int .i64 0))]⟩ ::
 []) [4, 5])
 (.ret))))))))
theorem dec_ref16_Replay : Fun E0 F_ref16_Replay pc_ref16_Replay [.t 4, .t 5] 61 := fun_of_dec (fl := []) (by kernel_rfl)
-- platter/platterref16.Torn (0)
abbrev F_ref16_Torn : Nat := 29
def pc_ref16_Torn : PC :=
 .seq (.reg [] (
 ⟨some 0, none, .zero [.int .i64 0, .int .i64 0, .int .i64 0, .int .i64 0, .bool false], []⟩ ::
 []) [0])
 (.seq (.reg [] (
 ⟨some 1, none, .build [.int .i64 0, .int .i64 0, .int .i64 0, .int .i64 0, .bool false] [(4, 1)], [.k (.d (.bool true))]⟩ ::
 ⟨none, none, .store 5, [.t 0, .t 1]⟩ ::
 []) [0])
 (.ret))
theorem dec_ref16_Torn : Fun E0 F_ref16_Torn pc_ref16_Torn [.c 0 40 true 5] 2 := fun_of_dec (fl := []) (by kernel_rfl)
-- platter/journal.Room (1)
abbrev F_journal_Room : Nat := 30
def pc_journal_Room : PC :=
 .seq (.reg [] (
 ⟨some 1, none, .box, [.t 0]⟩ ::
 ⟨some 2, none, .mov, [.k (.d (.int .i64 0))]⟩ ::
 ⟨some 3, none, .mov, [.k (.d (.int .i64 0))]⟩ ::
 []) [1])
 (.seq (.reg [] (
 ⟨some 7, none, .load true 12, [.t 1]⟩ ::
 ⟨some 8, none, .call 39, [.t 7]⟩ ::
 ⟨some 6, none, .mov, [.t 8]⟩ ::
 ⟨some 9, none, .extract 0, [.t 6]⟩ ::
 ⟨some 10, none, .extract 1, [.t 6]⟩ ::
 ⟨some 4, none, .mov, [.t 9]⟩ ::
 ⟨some 5, none, .mov, [.t 10]⟩ ::
 []) [4, 5])
 (.seq (.seq (.reg [] (
 ⟨some 11, none, .mov, [.t 5]⟩ ::
 ⟨some 12, none, .bin .neq, [.t 11, .k (.d (.int .i64 0))]⟩ ::
 []) [4, 5, 12])
 (.cond (.t 12)
 (.seq (.reg [] (
 ⟨some 13, none, .mov, [.t 5]⟩ ::
 ⟨some 2, none, .mov, [.k (.d (.int .i64 0))]⟩ ::
 ⟨some 3, none, .mov, [.t 13]⟩ ::
 []) [2, 3])
 (.ret))
 (.skip)))
 (.seq (.reg [] (
 ⟨some 14, none, .mov, [.t 4]⟩ ::
 ⟨some 15, none, .call 57, [.t 14]⟩ ::
 ⟨some 16, none, .mov, [.t 4]⟩ ::
 ⟨some 17, none, .call 47, [.t 16]⟩ ::
 ⟨some 18, none, .field false 0 1, [.t 17]⟩ ::
 ⟨some 19, none, .bin .sub, [.t 15, .t 18]⟩ ::
 ⟨some 20, none, .bin .sub, [.t 19, .k (.d (.int .i64 1))]⟩ ::
 ⟨some 2, none, .mov, [.t 20]⟩ ::
 ⟨some 3, none, .mov, [.k (.d (.int .i64 0))]⟩ ::
 []) [2, 3])
 (.ret))))
theorem dec_journal_Room : Fun E0 F_journal_Room pc_journal_Room [.t 2, .t 3] 21 := fun_of_dec (fl := []) (by kernel_rfl)
-- platter/journal.Check (1)
abbrev F_journal_Check : Nat := 31
def pc_journal_Check : PC :=
 .seq (.reg [] (
 ⟨some 1, none, .box, [.t 0]⟩ ::
 ⟨some 2, none, .mov, [.k (.d (.int .i64 0))]⟩ ::
 []) [1])
 (.seq (.reg [] (
 ⟨some 9, none, .faddr 0, [.t 1]⟩ ::
 ⟨some 10, none, .load true 9, [.t 9]⟩ ::
 ⟨some 11, none, .call 58, [.t 10]⟩ ::
 ⟨some 8, none, .mov, [.t 11]⟩ ::
 ⟨some 12, none, .extract 0, [.t 8]⟩ ::
 ⟨some 13, none, .extract 1, [.t 8]⟩ ::
 ⟨some 3, none, .mov, [.t 12]⟩ ::
 ⟨some 4, none, .mov, [.t 13]⟩ ::
 []) [1, 3, 4])
 (.seq (.seq (.reg [] (
 ⟨some 14, none, .mov, [.t 4]⟩ ::
 ⟨some 15, none, .bin .neq, [.t 14, .k (.d (.int .i64 0))]⟩ ::
 []) [1, 3, 4, 15])
 (.cond (.t 15)
 (.seq (.reg [] (
 ⟨some 16, none, .mov, [.t 4]⟩ ::
 ⟨some 2, none, .mov, [.t 16]⟩ ::
 []) [2])
 (.ret))
 (.skip)))
 (.seq (.reg [] (
 ⟨some 17, none, .faddr 11, [.t 1]⟩ ::
 ⟨some 18, none, .load false 1, [.t 17]⟩ ::
 ⟨some 19, none, .len false, [.t 18]⟩ ::
 ⟨some 5, none, .mov, [.t 19]⟩ ::
 []) [1, 3, 5])
 (.seq (.seq (.reg [] (
 ⟨some 20, none, .faddr 9, [.t 1]⟩ ::
 ⟨some 21, none, .load false 1, [.t 20]⟩ ::
 ⟨some 22, none, .bin .lss, [.t 21, .k (.d (.int .i64 1))]⟩ ::
 ⟨some 23, none, .mov, [.t 22]⟩ ::
 ⟨some 24, some (23, false), .faddr 9, [.t 1]⟩ ::
 ⟨some 25, some (23, false), .load false 1, [.t 24]⟩ ::
 ⟨some 26, some (23, false), .bin .gtr, [.t 25, .k (.d (.int .i64 8))]⟩ ::
 ⟨some 27, none, .pick, [.t 23, .k (.d (.bool true)), .t 26]⟩ ::
 ⟨some 28, none, .mov, [.t 27]⟩ ::
 ⟨some 29, some (28, false), .mov, [.t 5]⟩ ::
 ⟨some 30, some (28, false), .bin .lss, [.t 29, .k (.d (.int .i64 2))]⟩ ::
 ⟨some 31, none, .pick, [.t 28, .k (.d (.bool true)), .t 30]⟩ ::
 ⟨some 32, none, .mov, [.t 31]⟩ ::
 ⟨some 33, some (32, false), .mov, [.t 5]⟩ ::
 ⟨some 34, some (32, false), .bin .gtr, [.t 33, .k (.d (.int .i64 12))]⟩ ::
 ⟨some 35, none, .pick, [.t 32, .k (.d (.bool true)), .t 34]⟩ ::
 ⟨some 36, none, .mov, [.t 35]⟩ ::
 ⟨some 37, some (36, false), .faddr 10, [.t 1]⟩ ::
 ⟨some 38, some (36, false), .load false 1, [.t 37]⟩ ::
 ⟨some 39, some (36, false), .mov, [.t 3]⟩ ::
 ⟨some 40, some (36, false), .mov, [.t 5]⟩ ::
 ⟨some 41, some (36, false), .bin .sub, [.t 39, .t 40]⟩ ::
 ⟨some 42, some (36, false), .call 43, [.t 38, .t 41]⟩ ::
 ⟨some 43, some (36, false), .un .not, [.t 42]⟩ ::
 ⟨some 44, none, .pick, [.t 36, .k (.d (.bool true)), .t 43]⟩ ::
 []) [1, 5, 44])
 (.cond (.t 44)
 (.seq (.reg [] (
 ⟨some 2, none, .mov, [.k (.d (.int .i64 160))]⟩ ::
 []) [2])
 (.ret))
 (.skip)))
 (.seq (.seq (.reg [] (
 ⟨some 45, none, .faddr 11, [.t 1]⟩ ::
 ⟨some 46, none, .load false 1, [.t 45]⟩ ::
 ⟨some 47, none, .len false, [.t 46]⟩ ::
 ⟨some 48, none, .mov, [.k (.d (.int .i64 0))]⟩ ::
 []) [1, 5, 46, 47, 48])
 (.block 0
 (.loop [] [1, 5, 46, 47, 48] [1, 900000, 901000]
 (.seq (.reg [] (
 ⟨some 49, none, .bin .lss, [.t 48, .t 47]⟩ ::
 []) [1, 5, 46, 47, 48, 49])
 (.seq (.cond (.t 49)
 (.skip)
 (.exit 0))
 (.seq (.block 1
 (.seq (.reg [] (
 ⟨some 50, none, .mov, [.t 48]⟩ ::
 ⟨some 51, none, .iaddrS 5, [.t 46, .t 48]⟩ ::
 ⟨some 52, none, .load true 5, [.t 51]⟩ ::
 ⟨some 7, none, .zero [.int .i64 0, .int .i64 0, .int .i64 0, .int .i64 0, .bool false], []⟩ ::
 ⟨some 6, none, .mov, [.t 50]⟩ ::
 ⟨none, none, .store 5, [.t 7, .t 52]⟩ ::
 []) [1, 5, 6, 7, 46, 47, 48])
 (.block 2
 (.seq (.reg [] (
 ⟨some 54, none, .load true 5, [.t 7]⟩ ::
 ⟨some 55, none, .load true 5, [.k (.d (.ptr [.int .i64 (-1), .int .i64 0, .int .i64 0, .int .i64 0, .bool false]))]⟩ ::
 ⟨some 56, none, .eqv false (true, [some .i64, some .i64, some .i64, some .i64, none]), [.t 54, .t 55]⟩ ::
 ⟨some 57, none, .mov, [.t 56]⟩ ::
 ⟨some 58, some (57, false), .load true 5, [.t 7]⟩ ::
 ⟨some 59, some (57, false), .load true 5, [.k (.d (.ptr [.int .i64 0, .int .i64 0, .int .i64 0, .int .i64 0, .bool true]))]⟩ ::
 ⟨some 60, some (57, false), .eqv false (true, [some .i64, some .i64, some .i64, some .i64, none]), [.t 58, .t 59]⟩ ::
 ⟨some 61, none, .pick, [.t 57, .k (.d (.bool true)), .t 60]⟩ ::
 ⟨some 53, none, .mov, [.t 61]⟩ ::
 []) [1, 5, 6, 7, 46, 47, 48, 53])
 (.cond (.t 53)
 (.skip)
 (.seq (.seq (.reg [] (
 ⟨some 63, none, .faddr 4, [.t 7]⟩ ::
 ⟨some 64, none, .load false 1, [.t 63]⟩ ::
 ⟨some 62, none, .mov, [.t 64]⟩ ::
 []) [1, 5, 6, 7, 46, 47, 48, 62])
 (.cond (.t 62)
 (.skip)
 (.seq (.reg [] (
 ⟨some 65, none, .faddr 0, [.t 7]⟩ ::
 ⟨some 66, none, .load false 1, [.t 65]⟩ ::
 ⟨some 67, none, .call 43, [.t 66, .k (.d (.int .i64 999))]⟩ ::
 ⟨some 68, none, .un .not, [.t 67]⟩ ::
 ⟨some 62, none, .mov, [.t 68]⟩ ::
 []) [1, 5, 6, 7, 46, 47, 48, 62])
 (.cond (.t 62)
 (.skip)
 (.seq (.reg [] (
 ⟨some 69, none, .faddr 0, [.t 7]⟩ ::
 ⟨some 70, none, .load false 1, [.t 69]⟩ ::
 ⟨some 71, none, .mov, [.t 5]⟩ ::
 ⟨some 72, none, .bin .rem, [.t 70, .t 71]⟩ ::
 ⟨some 73, none, .mov, [.t 6]⟩ ::
 ⟨some 74, none, .bin .neq, [.t 72, .t 73]⟩ ::
 ⟨some 62, none, .mov, [.t 74]⟩ ::
 []) [1, 5, 7, 46, 47, 48, 62])
 (.cond (.t 62)
 (.skip)
 (.seq (.reg [] (
 ⟨some 75, none, .faddr 1, [.t 7]⟩ ::
 ⟨some 76, none, .load false 1, [.t 75]⟩ ::
 ⟨some 77, none, .faddr 9, [.t 1]⟩ ::
 ⟨some 78, none, .load false 1, [.t 77]⟩ ::
 ⟨some 79, none, .bin .sub, [.t 78, .k (.d (.int .i64 1))]⟩ ::
 ⟨some 80, none, .call 43, [.t 76, .t 79]⟩ ::
 ⟨some 81, none, .un .not, [.t 80]⟩ ::
 ⟨some 62, none, .mov, [.t 81]⟩ ::
 []) [1, 5, 7, 46, 47, 48, 62])
 (.cond (.t 62)
 (.skip)
 (.seq (.reg [] (
 ⟨some 82, none, .faddr 2, [.t 7]⟩ ::
 ⟨some 83, none, .load false 1, [.t 82]⟩ ::
 ⟨some 84, none, .call 43, [.t 83, .k (.d (.int .i64 999))]⟩ ::
 ⟨some 85, none, .un .not, [.t 84]⟩ ::
 ⟨some 62, none, .mov, [.t 85]⟩ ::
 []) [1, 5, 7, 46, 47, 48, 62])
 (.cond (.t 62)
 (.skip)
 (.reg [] (
 ⟨some 86, none, .faddr 3, [.t 7]⟩ ::
 ⟨some 87, none, .load false 1, [.t 86]⟩ ::
 ⟨some 88, none, .faddr 0, [.t 7]⟩ ::
 ⟨some 89, none, .load false 1, [.t 88]⟩ ::
 ⟨some 90, none, .call 43, [.t 87, .t 89]⟩ ::
 ⟨some 91, none, .un .not, [.t 90]⟩ ::
 ⟨some 62, none, .mov, [.t 91]⟩ ::
 []) [1, 5, 46, 47, 48, 62])))))))))))
 (.cond (.t 62)
 (.seq (.reg [] (
 ⟨some 2, none, .mov, [.k (.d (.int .i64 160))]⟩ ::
 []) [2])
 (.ret))
 (.skip))))))))
 (.reg [] (
 ⟨some 92, none, .bin .add, [.t 48, .k (.d (.int .i64 1))]⟩ ::
 ⟨some 48, none, .mov, [.t 92]⟩ ::
 []) [1, 5, 46, 47, 48])))))))
 (.seq (.reg [] (
 ⟨some 2, none, .mov, [.k (.d (.int .i64 0))]⟩ ::
 []) [2])
 (.ret)))))))
theorem dec_journal_Check : Fun E0 F_journal_Check pc_journal_Check [.t 2] 93 := fun_of_dec (fl := []) (by kernel_rfl)
-- platter/platterref16.Recover (1)
abbrev F_ref16_Recover : Nat := 32
def pc_ref16_Recover : PC :=
 .seq (.reg [] (
 ⟨some 1, none, .box, [.t 0]⟩ ::
 ⟨some 2, none, .mov, [.k (.d (.list true []))]⟩ ::
 ⟨some 3, none, .mov, [.k (.d (.int .i64 0))]⟩ ::
 []) [1])
 (.seq (.seq (.reg [] (
 ⟨some 7, none, .load true 12, [.t 1]⟩ ::
 ⟨some 8, none, .call 37, [.t 7]⟩ ::
 ⟨some 4, none, .mov, [.t 8]⟩ ::
 []) [1, 4])
 (.seq (.reg [] (
 ⟨some 9, none, .mov, [.t 4]⟩ ::
 ⟨some 10, none, .bin .neq, [.t 9, .k (.d (.int .i64 0))]⟩ ::
 []) [1, 4, 10])
 (.cond (.t 10)
 (.seq (.reg [] (
 ⟨some 11, none, .mov, [.t 4]⟩ ::
 ⟨some 2, none, .mov, [.k (.d (.list true []))]⟩ ::
 ⟨some 3, none, .mov, [.t 11]⟩ ::
 []) [2, 3])
 (.ret))
 (.skip))))
 (.seq (.reg [] (
 ⟨some 13, none, .load true 12, [.t 1]⟩ ::
 ⟨some 14, none, .call 56, [.t 13]⟩ ::
 ⟨some 12, none, .mov, [.t 14]⟩ ::
 ⟨some 15, none, .extract 0, [.t 12]⟩ ::
 ⟨some 16, none, .extract 1, [.t 12]⟩ ::
 ⟨some 5, none, .mov, [.t 15]⟩ ::
 ⟨some 6, none, .mov, [.t 16]⟩ ::
 []) [5])
 (.seq (.reg [] (
 ⟨some 17, none, .mov, [.t 5]⟩ ::
 ⟨some 2, none, .mov, [.t 17]⟩ ::
 ⟨some 3, none, .mov, [.k (.d (.int .i64 0))]⟩ ::
 []) [2, 3])
 (.ret))))
theorem dec_ref16_Recover : Fun E0 F_ref16_Recover pc_ref16_Recover [.t 2, .t 3] 18 := fun_of_dec (fl := []) (by kernel_rfl)
-- platter/platterref16.Room (1)
abbrev F_ref16_Room : Nat := 33
def pc_ref16_Room : PC :=
 .seq (.reg [] (
 ⟨some 1, none, .box, [.t 0]⟩ ::
 ⟨some 2, none, .mov, [.k (.d (.int .i64 0))]⟩ ::
 ⟨some 3, none, .mov, [.k (.d (.int .i64 0))]⟩ ::
 []) [1])
 (.seq (.seq (.reg [] (
 ⟨some 8, none, .load true 12, [.t 1]⟩ ::
 ⟨some 9, none, .call 37, [.t 8]⟩ ::
 ⟨some 4, none, .mov, [.t 9]⟩ ::
 []) [1, 4])
 (.seq (.reg [] (
 ⟨some 10, none, .mov, [.t 4]⟩ ::
 ⟨some 11, none, .bin .neq, [.t 10, .k (.d (.int .i64 0))]⟩ ::
 []) [1, 4, 11])
 (.cond (.t 11)
 (.seq (.reg [] (
 ⟨some 12, none, .mov, [.t 4]⟩ ::
 ⟨some 2, none, .mov, [.k (.d (.int .i64 0))]⟩ ::
 ⟨some 3, none, .mov, [.t 12]⟩ ::
 []) [2, 3])
 (.ret))
 (.skip))))
 (.seq (.reg [] (
 ⟨some 14, none, .load true 12, [.t 1]⟩ ::
 ⟨some 15, none, .call 20, [.t 14]⟩ ::
 ⟨some 13, none, .mov, [.t 15]⟩ ::
 ⟨some 16, none, .extract 0, [.t 13]⟩ ::
 ⟨some 17, none, .extract 1, [.t 13]⟩ ::
 ⟨some 5, none, .mov, [.t 16]⟩ ::
 ⟨some 6, none, .mov, [.t 17]⟩ ::
 []) [1, 5])
 (.seq (.reg [] (
 ⟨some 7, none, .mov, [.k (.d (.int .i64 0))]⟩ ::
 []) [1, 5, 7])
 (.seq (.block 0
 (.loop [] [1, 5, 7] [1, 15, 10015, 900000, 901000]
 (.seq (.seq (.reg [] (
 ⟨some 18, none, .load true 12, [.t 1]⟩ ::
 ⟨some 19, none, .mov, [.t 5]⟩ ::
 ⟨some 20, none, .bin .add, [.t 19, .k (.d (.int .i64 1))]⟩ ::
 ⟨some 21, none, .mov, [.t 7]⟩ ::
 ⟨some 22, none, .bin .add, [.t 20, .t 21]⟩ ::
 ⟨some 23, none, .call 59, [.t 18, .t 22]⟩ ::
 []) [1, 5, 7, 23])
 (.cond (.t 23)
 (.skip)
 (.exit 0)))
 (.block 1
 (.reg [] (
 ⟨some 24, none, .mov, [.t 7]⟩ ::
 ⟨some 25, none, .bin .add, [.t 24, .k (.d (.int .i64 1))]⟩ ::
 ⟨some 7, none, .mov, [.t 25]⟩ ::
 []) [1, 5, 7])))))
 (.seq (.reg [] (
 ⟨some 26, none, .mov, [.t 7]⟩ ::
 ⟨some 2, none, .mov, [.t 26]⟩ ::
 ⟨some 3, none, .mov, [.k (.d (.int .i64 0))]⟩ ::
 []) [2, 3])
 (.ret))))))
theorem dec_ref16_Room : Fun E0 F_ref16_Room pc_ref16_Room [.t 2, .t 3] 27 := fun_of_dec (fl := []) (by kernel_rfl)
abbrev F_journal_Scan : Nat := 34
abbrev F_ref16_Scan : Nat := 35
abbrev F_zones_Run : Nat := 36
-- platter/platterref16.CheckKept (1)
abbrev F_ref16_CheckKept : Nat := 37
def pc_ref16_CheckKept : PC :=
 .seq (.reg [] (
 ⟨some 1, none, .box, [.t 0]⟩ ::
 ⟨some 2, none, .mov, [.k (.d (.int .i64 0))]⟩ ::
 []) [1])
 (.seq (.seq (.reg [] (
 ⟨some 6, none, .load true 12, [.t 1]⟩ ::
 ⟨some 7, none, .call 19, [.t 6]⟩ ::
 ⟨some 3, none, .mov, [.t 7]⟩ ::
 []) [1, 3])
 (.seq (.reg [] (
 ⟨some 8, none, .mov, [.t 3]⟩ ::
 ⟨some 9, none, .bin .neq, [.t 8, .k (.d (.int .i64 0))]⟩ ::
 []) [1, 3, 9])
 (.cond (.t 9)
 (.seq (.reg [] (
 ⟨some 10, none, .mov, [.t 3]⟩ ::
 ⟨some 2, none, .mov, [.t 10]⟩ ::
 []) [2])
 (.ret))
 (.skip))))
 (.seq (.seq (.reg [] (
 ⟨some 12, none, .load true 12, [.t 1]⟩ ::
 ⟨some 13, none, .call 56, [.t 12]⟩ ::
 ⟨some 11, none, .mov, [.t 13]⟩ ::
 ⟨some 14, none, .extract 0, [.t 11]⟩ ::
 ⟨some 15, none, .extract 1, [.t 11]⟩ ::
 ⟨some 4, none, .mov, [.t 14]⟩ ::
 ⟨some 5, none, .mov, [.t 15]⟩ ::
 []) [5])
 (.seq (.reg [] (
 ⟨some 16, none, .mov, [.t 5]⟩ ::
 ⟨some 17, none, .un .not, [.t 16]⟩ ::
 []) [17])
 (.cond (.t 17)
 (.seq (.reg [] (
 ⟨some 2, none, .mov, [.k (.d (.int .i64 161))]⟩ ::
 []) [2])
 (.ret))
 (.skip))))
 (.seq (.reg [] (
 ⟨some 2, none, .mov, [.k (.d (.int .i64 0))]⟩ ::
 []) [2])
 (.ret))))
theorem dec_ref16_CheckKept : Fun E0 F_ref16_CheckKept pc_ref16_CheckKept [.t 2] 18 := fun_of_dec (fl := []) (by kernel_rfl)
-- platter/platterlaw16.Example (0)
abbrev F_law16_Example : Nat := 38
def pc_law16_Example : PC :=
 .seq (.reg [] (
 ⟨some 0, none, .zero [.int .i64 0, .int .i64 0, .list true [], .int .i64 0, .int .i64 0, .int .i64 0, .int .i64 0, .int .i64 0, .int .i64 0, .int .i64 0, .int .i64 0, .list true []], []⟩ ::
 []) [0])
 (.seq (.reg [] (
 ⟨some 1, none, .call 64, []⟩ ::
 ⟨some 2, none, .build [.int .i64 0, .int .i64 0, .int .i64 0, .int .i64 0, .bool false] [(0, 1), (2, 1), (3, 1)], [.k (.d (.int .i64 4)), .k (.d (.int .i64 7)), .k (.d (.int .i64 3))]⟩ ::
 ⟨some 3, none, .build [.int .i64 0, .int .i64 0, .int .i64 0, .int .i64 0, .bool false] [(0, 1), (1, 1), (2, 1), (3, 1)], [.k (.d (.int .i64 5)), .k (.d (.int .i64 1)), .k (.d (.int .i64 8)), .k (.d (.int .i64 3))]⟩ ::
 ⟨some 4, none, .build [.int .i64 0, .int .i64 0, .int .i64 0, .int .i64 0, .bool false] [(0, 1), (2, 1), (3, 1)], [.k (.d (.int .i64 2)), .k (.d (.int .i64 5)), .k (.d (.int .i64 1))]⟩ ::
 ⟨some 5, none, .build [.int .i64 0, .int .i64 0, .int .i64 0, .int .i64 0, .bool false] [(0, 1), (1, 1), (2, 1), (3, 1)], [.k (.d (.int .i64 3)), .k (.d (.int .i64 2)), .k (.d (.int .i64 6)), .k (.d (.int .i64 2))]⟩ ::
 ⟨some 6, none, .mkrow 5 (.agg [.int .i64 0, .int .i64 0, .int .i64 0, .int .i64 0, .bool false]) 4 [0, 1, 2, 3], [.t 2, .t 3, .t 4, .t 5]⟩ ::
 ⟨some 7, none, .build [.int .i64 0, .int .i64 0, .list true [], .int .i64 0, .int .i64 0, .int .i64 0, .int .i64 0, .int .i64 0, .int .i64 0, .int .i64 0, .int .i64 0, .list true []] [(0, 9), (9, 1), (10, 1), (11, 1)], [.t 1, .k (.d (.int .i64 3)), .k (.d (.int .i64 24)), .t 6]⟩ ::
 ⟨none, none, .store 12, [.t 0, .t 7]⟩ ::
 []) [0])
 (.ret))
theorem dec_law16_Example : Fun E0 F_law16_Example pc_law16_Example [.c 0 29 true 12] 8 := fun_of_dec (fl := []) (by kernel_rfl)
-- platter/journal.open (1)
abbrev F_journal_open : Nat := 39
def pc_journal_open : PC :=
 .seq (.reg [] (
 ⟨some 1, none, .box, [.t 0]⟩ ::
 ⟨some 2, none, .mov, [.k (.d (.nilptr))]⟩ ::
 ⟨some 3, none, .mov, [.k (.d (.int .i64 0))]⟩ ::
 []) [1])
 (.seq (.seq (.reg [] (
 ⟨some 8, none, .load true 12, [.t 1]⟩ ::
 ⟨some 9, none, .call 31, [.t 8]⟩ ::
 ⟨some 4, none, .mov, [.t 9]⟩ ::
 []) [1, 4])
 (.seq (.reg [] (
 ⟨some 10, none, .mov, [.t 4]⟩ ::
 ⟨some 11, none, .bin .neq, [.t 10, .k (.d (.int .i64 0))]⟩ ::
 []) [1, 4, 11])
 (.cond (.t 11)
 (.seq (.reg [] (
 ⟨some 12, none, .mov, [.t 4]⟩ ::
 ⟨some 2, none, .mov, [.k (.d (.nilptr))]⟩ ::
 ⟨some 3, none, .mov, [.t 12]⟩ ::
 []) [2, 3])
 (.ret))
 (.skip))))
 (.seq (.reg [] (
 ⟨some 13, none, .load true 12, [.t 1]⟩ ::
 ⟨some 14, none, .build [.int .i64 0, .int .i64 0, .list true [], .int .i64 0, .int .i64 0, .int .i64 0, .int .i64 0, .int .i64 0, .int .i64 0, .int .i64 0, .int .i64 0, .list true []] [(0, 12)], [.t 13]⟩ ::
 ⟨some 15, none, .box, [.t 14]⟩ ::
 ⟨some 5, none, .mov, [.t 15]⟩ ::
 []) [1, 5])
 (.seq (.reg [] (
 ⟨some 16, none, .mov, [.t 5]⟩ ::
 ⟨some 17, none, .faddr 11, [.t 1]⟩ ::
 ⟨some 18, none, .load false 1, [.t 17]⟩ ::
 ⟨some 19, none, .call 46, [.t 18]⟩ ::
 ⟨some 20, none, .nilck, [.t 16]⟩ ::
 ⟨some 21, none, .faddr 0, [.t 20]⟩ ::
 ⟨some 22, none, .faddr 11, [.t 21]⟩ ::
 ⟨none, none, .store 1, [.t 22, .t 19]⟩ ::
 []) [1, 5])
 (.seq (.reg [] (
 ⟨some 23, none, .mov, [.t 5]⟩ ::
 ⟨some 24, none, .faddr 0, [.t 1]⟩ ::
 ⟨some 25, none, .faddr 2, [.t 24]⟩ ::
 ⟨some 26, none, .load false 1, [.t 25]⟩ ::
 ⟨some 27, none, .call 65, [.t 26]⟩ ::
 ⟨some 28, none, .nilck, [.t 23]⟩ ::
 ⟨some 29, none, .faddr 0, [.t 28]⟩ ::
 ⟨some 30, none, .faddr 0, [.t 29]⟩ ::
 ⟨some 31, none, .faddr 2, [.t 30]⟩ ::
 ⟨none, none, .store 1, [.t 31, .t 27]⟩ ::
 []) [5])
 (.seq (.seq (.reg [.frzP 5] (
 ⟨some 33, none, .mov, [.t 5]⟩ ::
 ⟨some 34, none, .call 40, [.t 33]⟩ ::
 ⟨some 32, none, .mov, [.t 34]⟩ ::
 ⟨some 35, none, .extract 0, [.t 32]⟩ ::
 ⟨some 36, none, .extract 1, [.t 32]⟩ ::
 ⟨some 6, none, .mov, [.t 35]⟩ ::
 ⟨some 7, none, .mov, [.t 36]⟩ ::
 []) [5, 7])
 (.seq (.reg [] (
 ⟨some 37, none, .mov, [.t 7]⟩ ::
 ⟨some 38, none, .un .not, [.t 37]⟩ ::
 []) [5, 38])
 (.cond (.t 38)
 (.seq (.reg [] (
 ⟨some 2, none, .mov, [.k (.d (.nilptr))]⟩ ::
 ⟨some 3, none, .mov, [.k (.d (.int .i64 161))]⟩ ::
 []) [2, 3])
 (.ret))
 (.skip))))
 (.seq (.reg [] (
 ⟨some 39, none, .mov, [.t 5]⟩ ::
 ⟨some 2, none, .mov, [.t 39]⟩ ::
 ⟨some 3, none, .mov, [.k (.d (.int .i64 0))]⟩ ::
 []) [2, 3])
 (.ret)))))))
theorem dec_journal_open : Fun E0 F_journal_open pc_journal_open [.t 2, .t 3] 40 := fun_of_dec (fl := []) (by kernel_rfl)
-- (*platter/journal.log).kept (1)
abbrev F_journal_log_kept : Nat := 40
def pc_journal_log_kept : PC :=
 .seq (.reg [] (
 ⟨some 2, none, .mov, [.k (.d (.list true []))]⟩ ::
 ⟨some 3, none, .mov, [.k (.d (.bool false))]⟩ ::
 []) [0, 2])
 (.seq (.reg [] (
 ⟨some 7, none, .mov, [.t 0]⟩ ::
 ⟨some 8, none, .call 47, [.t 7]⟩ ::
 ⟨some 4, none, .zero [.int .i64 0, .int .i64 0, .int .i64 0, .int .i64 0, .bool false], []⟩ ::
 ⟨none, none, .store 5, [.t 4, .t 8]⟩ ::
 []) [0, 2, 4])
 (.seq (.seq (.reg [] (
 ⟨some 9, none, .faddr 3, [.t 4]⟩ ::
 ⟨some 10, none, .load false 1, [.t 9]⟩ ::
 ⟨some 5, none, .mov, [.t 10]⟩ ::
 []) [0, 2, 4, 5])
 (.block 0
 (.loop [.own 2 33 40 5] [0, 2, 4, 5] [4, 8, 33, 10008, 900000, 901000]
 (.seq (.seq (.reg [] (
 ⟨some 11, none, .mov, [.t 5]⟩ ::
 ⟨some 12, none, .faddr 0, [.t 4]⟩ ::
 ⟨some 13, none, .load false 1, [.t 12]⟩ ::
 ⟨some 14, none, .bin .leq, [.t 11, .t 13]⟩ ::
 []) [0, 2, 4, 5, 14])
 (.cond (.t 14)
 (.skip)
 (.exit 0)))
 (.seq (.block 1
 (.seq (.reg [] (
 ⟨some 17, none, .mov, [.t 0]⟩ ::
 ⟨some 18, none, .mov, [.t 5]⟩ ::
 ⟨some 19, none, .call 66, [.t 17, .t 18]⟩ ::
 ⟨some 20, none, .nilck, [.t 19]⟩ ::
 ⟨some 21, none, .load true 5, [.t 20]⟩ ::
 ⟨some 6, none, .zero [.int .i64 0, .int .i64 0, .int .i64 0, .int .i64 0, .bool false], []⟩ ::
 ⟨none, none, .store 5, [.t 6, .t 21]⟩ ::
 []) [0, 2, 4, 5, 6])
 (.seq (.seq (.reg [] (
 ⟨some 22, none, .faddr 4, [.t 6]⟩ ::
 ⟨some 23, none, .load false 1, [.t 22]⟩ ::
 ⟨some 24, none, .mov, [.t 23]⟩ ::
 ⟨some 25, some (24, false), .faddr 0, [.t 6]⟩ ::
 ⟨some 26, some (24, false), .load false 1, [.t 25]⟩ ::
 ⟨some 27, some (24, false), .mov, [.t 5]⟩ ::
 ⟨some 28, some (24, false), .bin .neq, [.t 26, .t 27]⟩ ::
 ⟨some 29, none, .pick, [.t 24, .k (.d (.bool true)), .t 28]⟩ ::
 []) [0, 2, 4, 5, 6, 29])
 (.cond (.t 29)
 (.seq (.reg [] (
 ⟨some 2, none, .mov, [.k (.d (.list true []))]⟩ ::
 ⟨some 3, none, .mov, [.k (.d (.bool false))]⟩ ::
 []) [2, 3])
 (.ret))
 (.skip)))
 (.reg [] (
 ⟨some 30, none, .mov, [.t 2]⟩ ::
 ⟨some 31, none, .load true 5, [.t 6]⟩ ::
 ⟨some 32, none, .mkrow 5 (.agg [.int .i64 0, .int .i64 0, .int .i64 0, .int .i64 0, .bool false]) 1 [0], [.t 31]⟩ ::
 ⟨some 33, none, .app 40 5 none true, [.t 30, .t 32]⟩ ::
 ⟨some 2, none, .mov, [.t 33]⟩ ::
 []) [0, 2, 4, 5]))))
 (.reg [] (
 ⟨some 15, none, .mov, [.t 5]⟩ ::
 ⟨some 16, none, .bin .add, [.t 15, .k (.d (.int .i64 1))]⟩ ::
 ⟨some 5, none, .mov, [.t 16]⟩ ::
 []) [0, 2, 4, 5]))))))
 (.seq (.reg [] (
 ⟨some 34, none, .mov, [.t 2]⟩ ::
 ⟨some 2, none, .mov, [.t 34]⟩ ::
 ⟨some 3, none, .mov, [.k (.d (.bool true))]⟩ ::
 []) [2, 3])
 (.ret))))
theorem dec_journal_log_kept : Fun E0 F_journal_log_kept pc_journal_log_kept [.t 2, .t 3] 35 := fun_of_dec (fl := []) (by kernel_rfl)
-- slices.ContainsFunc[[]int,int] (2)
abbrev F_slices_ContainsFunc_int_int : Nat := 41
def pc_slices_ContainsFunc_int_int : PC :=
 .seq (.reg [] (
 ⟨some 4, none, .mov, [.k (.d (.bool false))]⟩ ::
 []) [0, 1])
 (.seq (.reg [] (
 ⟨some 5, none, .mov, [.t 0]⟩ ::
 ⟨some 6, none, .mov, [.t 1]⟩ ::
 ⟨some 7, none, .call 67, [.t 5, .t 6]⟩ ::
 ⟨some 8, none, .bin .geq, [.t 7, .k (.d (.int .i64 0))]⟩ ::
 ⟨some 4, none, .mov, [.t 8]⟩ ::
 []) [4])
 (.ret))
theorem dec_slices_ContainsFunc_int_int : Fun E0 F_slices_ContainsFunc_int_int pc_slices_ContainsFunc_int_int [.t 4] 9 := fun_of_dec (fl := []) (by kernel_rfl)
-- platter/journal.Replay$1 (1)
abbrev F_journal_Replay_1 : Nat := 42
def pc_journal_Replay_1 : PC :=
 .seq (.reg [] (
 ⟨some 2, none, .mov, [.k (.d (.bool false))]⟩ ::
 []) [0])
 (.seq (.reg [] (
 ⟨some 3, none, .mov, [.t 0]⟩ ::
 ⟨some 4, none, .call 43, [.t 3, .k (.d (.int .i64 999))]⟩ ::
 ⟨some 5, none, .un .not, [.t 4]⟩ ::
 ⟨some 2, none, .mov, [.t 5]⟩ ::
 []) [2])
 (.ret))
theorem dec_journal_Replay_1 : Fun E0 F_journal_Replay_1 pc_journal_Replay_1 [.t 2] 6 := fun_of_dec (fl := []) (by kernel_rfl)
-- platter/journal.to (2)
abbrev F_journal_to : Nat := 43
def pc_journal_to : PC :=
 .seq (.reg [] (
 ⟨some 4, none, .mov, [.k (.d (.bool false))]⟩ ::
 []) [0, 1])
 (.seq (.reg [] (
 ⟨some 5, none, .mov, [.t 0]⟩ ::
 ⟨some 6, none, .bin .leq, [.k (.d (.int .i64 0)), .t 5]⟩ ::
 ⟨some 7, none, .mov, [.t 6]⟩ ::
 ⟨some 8, some (7, true), .mov, [.t 0]⟩ ::
 ⟨some 9, some (7, true), .mov, [.t 1]⟩ ::
 ⟨some 10, some (7, true), .bin .leq, [.t 8, .t 9]⟩ ::
 ⟨some 11, none, .pick, [.t 7, .t 10, .k (.d (.bool false))]⟩ ::
 ⟨some 4, none, .mov, [.t 11]⟩ ::
 []) [4])
 (.ret))
theorem dec_journal_to : Fun E0 F_journal_to pc_journal_to [.t 4] 12 := fun_of_dec (fl := []) (by kernel_rfl)
-- slices.Clone[[]int,int] (1)
abbrev F_slices_Clone_int_int : Nat := 44
def pc_slices_Clone_int_int : PC :=
 .seq (.reg [] (
 ⟨some 2, none, .mov, [.k (.d (.list true []))]⟩ ::
 []) [0])
 (.seq (.seq (.reg [] (
 ⟨some 3, none, .mov, [.t 0]⟩ ::
 ⟨some 4, none, .eqnil false, [.t 3, .k (.d (.list true []))]⟩ ::
 []) [0, 4])
 (.cond (.t 4)
 (.seq (.reg [] (
 ⟨some 2, none, .mov, [.k (.d (.list true []))]⟩ ::
 []) [2])
 (.ret))
 (.skip)))
 (.seq (.reg [] (
 ⟨some 5, none, .mkrow 1 (.int .i64 0) 0 [], []⟩ ::
 ⟨some 6, none, .mov, [.t 0]⟩ ::
 ⟨some 7, none, .app 3 1 none true, [.t 5, .t 6]⟩ ::
 ⟨some 2, none, .mov, [.t 7]⟩ ::
 []) [2])
 (.ret)))
theorem dec_slices_Clone_int_int : Fun E0 F_slices_Clone_int_int pc_slices_Clone_int_int [.t 2] 8 := fun_of_dec (fl := []) (by kernel_rfl)
-- platter/platterref01.Copy (1)
abbrev F_ref01_Copy : Nat := 45
def pc_ref01_Copy : PC :=
 .seq (.reg [] (
 ⟨some 1, none, .box, [.t 0]⟩ ::
 ⟨some 2, none, .zero [.int .i64 0, .int .i64 0, .list true [], .int .i64 0, .int .i64 0, .int .i64 0, .int .i64 0, .int .i64 0, .int .i64 0], []⟩ ::
 []) [1, 2])
 (.seq (.reg [] (
 ⟨some 4, none, .load true 9, [.t 1]⟩ ::
 ⟨some 3, none, .zero [.int .i64 0, .int .i64 0, .list true [], .int .i64 0, .int .i64 0, .int .i64 0, .int .i64 0, .int .i64 0, .int .i64 0], []⟩ ::
 ⟨none, none, .store 9, [.t 3, .t 4]⟩ ::
 []) [1, 2, 3])
 (.seq (.reg [] (
 ⟨some 5, none, .mkrow 2 (.agg [.int .i64 0, .int .i64 0]) 0 [], []⟩ ::
 ⟨some 6, none, .faddr 2, [.t 1]⟩ ::
 ⟨some 7, none, .load false 1, [.t 6]⟩ ::
 ⟨some 8, none, .app 91 2 none true, [.t 5, .t 7]⟩ ::
 ⟨some 9, none, .faddr 2, [.t 3]⟩ ::
 ⟨none, none, .store 1, [.t 9, .t 8]⟩ ::
 []) [2, 3])
 (.seq (.reg [] (
 ⟨some 10, none, .load true 9, [.t 3]⟩ ::
 ⟨none, none, .store 9, [.t 2, .t 10]⟩ ::
 []) [2])
 (.ret))))
theorem dec_ref01_Copy : Fun E0 F_ref01_Copy pc_ref01_Copy [.c 2 26 true 9] 11 := fun_of_dec (fl := []) (by kernel_rfl)
-- slices.Clone[[]platter/api.Record,platter/api.Record] (1)
abbrev F_slices_Clone_api_Record_api_Record : Nat := 46
def pc_slices_Clone_api_Record_api_Record : PC :=
 .seq (.reg [] (
 ⟨some 2, none, .mov, [.k (.d (.list true []))]⟩ ::
 []) [0])
 (.seq (.seq (.reg [] (
 ⟨some 3, none, .mov, [.t 0]⟩ ::
 ⟨some 4, none, .eqnil false, [.t 3, .k (.d (.list true []))]⟩ ::
 []) [0, 4])
 (.cond (.t 4)
 (.seq (.reg [] (
 ⟨some 2, none, .mov, [.k (.d (.list true []))]⟩ ::
 []) [2])
 (.ret))
 (.skip)))
 (.seq (.reg [] (
 ⟨some 5, none, .mkrow 5 (.agg [.int .i64 0, .int .i64 0, .int .i64 0, .int .i64 0, .bool false]) 0 [], []⟩ ::
 ⟨some 6, none, .mov, [.t 0]⟩ ::
 ⟨some 7, none, .app 40 5 none true, [.t 5, .t 6]⟩ ::
 ⟨some 2, none, .mov, [.t 7]⟩ ::
 []) [2])
 (.ret)))
theorem dec_slices_Clone_api_Record_api_Record : Fun E0 F_slices_Clone_api_Record_api_Record pc_slices_Clone_api_Record_api_Record [.t 2] 8 := fun_of_dec (fl := []) (by kernel_rfl)
-- (*platter/journal.log).newest (1)
abbrev F_journal_log_newest : Nat := 47
def pc_journal_log_newest : PC :=
 .seq (.reg [] (
 ⟨some 2, none, .zero [.int .i64 0, .int .i64 0, .int .i64 0, .int .i64 0, .bool false], []⟩ ::
 []) [0, 2])
 (.seq (.reg [] (
 ⟨some 6, none, .load true 5, [.k (.d (.ptr [.int .i64 (-1), .int .i64 0, .int .i64 0, .int .i64 0, .bool false]))]⟩ ::
 ⟨some 3, none, .zero [.int .i64 0, .int .i64 0, .int .i64 0, .int .i64 0, .bool false], []⟩ ::
 ⟨none, none, .store 5, [.t 3, .t 6]⟩ ::
 []) [0, 2, 3])
 (.seq (.seq (.reg [] (
 ⟨some 7, none, .mov, [.t 0]⟩ ::
 ⟨some 8, none, .nilck, [.t 7]⟩ ::
 ⟨some 9, none, .faddr 0, [.t 8]⟩ ::
 ⟨some 10, none, .faddr 11, [.t 9]⟩ ::
 ⟨some 11, none, .load false 1, [.t 10]⟩ ::
 ⟨some 12, none, .len false, [.t 11]⟩ ::
 ⟨some 13, none, .mov, [.k (.d (.int .i64 0))]⟩ ::
 []) [2, 3, 11, 12, 13])
 (.block 0
 (.loop [] [2, 3, 11, 12, 13] [2, 3, 901000]
 (.seq (.reg [] (
 ⟨some 14, none, .bin .lss, [.t 13, .t 12]⟩ ::
 []) [2, 3, 11, 12, 13, 14])
 (.seq (.cond (.t 14)
 (.skip)
 (.exit 0))
 (.seq (.block 1
 (.seq (.reg [] (
 ⟨some 15, none, .iaddrS 5, [.t 11, .t 13]⟩ ::
 ⟨some 16, none, .load true 5, [.t 15]⟩ ::
 ⟨some 5, none, .zero [.int .i64 0, .int .i64 0, .int .i64 0, .int .i64 0, .bool false], []⟩ ::
 ⟨none, none, .store 5, [.t 5, .t 16]⟩ ::
 []) [2, 3, 5, 11, 12, 13])
 (.seq (.reg [] (
 ⟨some 17, none, .faddr 4, [.t 5]⟩ ::
 ⟨some 18, none, .load false 1, [.t 17]⟩ ::
 ⟨some 19, none, .un .not, [.t 18]⟩ ::
 ⟨some 20, none, .mov, [.t 19]⟩ ::
 ⟨some 21, some (20, true), .faddr 0, [.t 5]⟩ ::
 ⟨some 22, some (20, true), .load false 1, [.t 21]⟩ ::
 ⟨some 23, some (20, true), .faddr 0, [.t 3]⟩ ::
 ⟨some 24, some (20, true), .load false 1, [.t 23]⟩ ::
 ⟨some 25, some (20, true), .bin .gtr, [.t 22, .t 24]⟩ ::
 ⟨some 26, none, .pick, [.t 20, .t 25, .k (.d (.bool false))]⟩ ::
 []) [2, 3, 5, 11, 12, 13, 26])
 (.cond (.t 26)
 (.reg [] (
 ⟨some 27, none, .load true 5, [.t 5]⟩ ::
 ⟨none, none, .store 5, [.t 3, .t 27]⟩ ::
 []) [2, 3, 11, 12, 13])
 (.skip)))))
 (.reg [] (
 ⟨some 28, none, .bin .add, [.t 13, .k (.d (.int .i64 1))]⟩ ::
 ⟨some 13, none, .mov, [.t 28]⟩ ::
 []) [2, 3, 11, 12, 13])))))))
 (.seq (.reg [] (
 ⟨some 29, none, .load true 5, [.t 3]⟩ ::
 ⟨none, none, .store 5, [.t 2, .t 29]⟩ ::
 []) [2])
 (.ret))))
theorem dec_journal_log_newest : Fun E0 F_journal_log_newest pc_journal_log_newest [.c 2 40 true 5] 30 := fun_of_dec (fl := []) (by kernel_rfl)
-- (*platter/journal.log).append (2)
abbrev F_journal_log_append : Nat := 48
def pc_journal_log_append : PC :=
 .seq (.reg [] (
 ⟨some 3, none, .box, [.t 1]⟩ ::
 ⟨some 4, none, .mov, [.k (.d (.int .i64 0))]⟩ ::
 []) [0, 3])
 (.seq (.reg [] (
 ⟨some 7, none, .mov, [.t 0]⟩ ::
 ⟨some 8, none, .call 47, [.t 7]⟩ ::
 ⟨some 5, none, .zero [.int .i64 0, .int .i64 0, .int .i64 0, .int .i64 0, .bool false], []⟩ ::
 ⟨none, none, .store 5, [.t 5, .t 8]⟩ ::
 []) [0, 3, 5])
 (.seq (.reg [] (
 ⟨some 9, none, .faddr 0, [.t 5]⟩ ::
 ⟨some 10, none, .load false 1, [.t 9]⟩ ::
 ⟨some 11, none, .bin .add, [.t 10, .k (.d (.int .i64 1))]⟩ ::
 ⟨some 6, none, .mov, [.t 11]⟩ ::
 []) [0, 3, 5, 6])
 (.seq (.block 0
 (.seq (.seq (.draw [] (
 (⟨some 13, none, .faddr 0, [.t 3]⟩, []) ::
 (⟨some 14, none, .load false 1, [.t 13]⟩, []) ::
 (⟨some 15, none, .mov, [.t 0]⟩, []) ::
 (⟨some 16, none, .nilck, [.t 15]⟩, []) ::
 (⟨some 17, none, .faddr 0, [.t 16]⟩, []) ::
 (⟨some 18, none, .faddr 9, [.t 17]⟩, []) ::
 (⟨some 19, none, .load false 1, [.t 18]⟩, []) ::
 (⟨some 20, none, .bin .sub, [.t 19, .k (.d (.int .i64 1))]⟩, []) ::
 (⟨some 21, none, .call 43, [.t 14, .t 20]⟩, []) ::
 (⟨some 22, none, .un .not, [.t 21]⟩, []) ::
 (⟨some 12, none, .mov, [.t 22]⟩, []) ::
 []) [0, 3, 5, 6, 12])
 (.cond (.t 12)
 (.skip)
 (.seq (.reg [] (
 ⟨some 23, none, .faddr 1, [.t 3]⟩ ::
 ⟨some 24, none, .load false 1, [.t 23]⟩ ::
 ⟨some 25, none, .call 43, [.t 24, .k (.d (.int .i64 999))]⟩ ::
 ⟨some 26, none, .un .not, [.t 25]⟩ ::
 ⟨some 12, none, .mov, [.t 26]⟩ ::
 []) [0, 3, 5, 6, 12])
 (.cond (.t 12)
 (.skip)
 (.seq (.reg [] (
 ⟨some 27, none, .faddr 2, [.t 3]⟩ ::
 ⟨some 28, none, .load false 1, [.t 27]⟩ ::
 ⟨some 29, none, .faddr 3, [.t 5]⟩ ::
 ⟨some 30, none, .load false 1, [.t 29]⟩ ::
 ⟨some 31, none, .bin .lss, [.t 28, .t 30]⟩ ::
 ⟨some 12, none, .mov, [.t 31]⟩ ::
 []) [0, 3, 6, 12])
 (.cond (.t 12)
 (.skip)
 (.reg [] (
 ⟨some 32, none, .faddr 2, [.t 3]⟩ ::
 ⟨some 33, none, .load false 1, [.t 32]⟩ ::
 ⟨some 34, none, .mov, [.t 6]⟩ ::
 ⟨some 35, none, .bin .gtr, [.t 33, .t 34]⟩ ::
 ⟨some 12, none, .mov, [.t 35]⟩ ::
 []) [0, 3, 6, 12])))))))
 (.cond (.t 12)
 (.seq (.reg [] (
 ⟨some 4, none, .mov, [.k (.d (.int .i64 162))]⟩ ::
 []) [4])
 (.ret))
 (.seq (.reg [] (
 ⟨some 37, none, .mov, [.t 6]⟩ ::
 ⟨some 38, none, .mov, [.t 0]⟩ ::
 ⟨some 39, none, .call 57, [.t 38]⟩ ::
 ⟨some 40, none, .bin .geq, [.t 37, .t 39]⟩ ::
 ⟨some 36, none, .mov, [.t 40]⟩ ::
 []) [0, 3, 6, 36])
 (.cond (.t 36)
 (.seq (.reg [] (
 ⟨some 4, none, .mov, [.k (.d (.int .i64 163))]⟩ ::
 []) [4])
 (.ret))
 (.seq (.reg [] (
 ⟨some 42, none, .mov, [.t 6]⟩ ::
 ⟨some 43, none, .bin .gtr, [.t 42, .k (.d (.int .i64 999))]⟩ ::
 ⟨some 41, none, .mov, [.t 43]⟩ ::
 []) [0, 3, 6, 41])
 (.cond (.t 41)
 (.seq (.reg [] (
 ⟨some 4, none, .mov, [.k (.d (.int .i64 2))]⟩ ::
 []) [4])
 (.ret))
 (.skip))))))))
 (.seq (.draw [] (
 (⟨some 44, none, .mov, [.t 0]⟩, []) ::
 (⟨some 45, none, .mov, [.t 6]⟩, []) ::
 (⟨some 46, none, .call 66, [.t 44, .t 45]⟩, []) ::
 (⟨some 47, none, .mov, [.t 6]⟩, []) ::
 (⟨some 48, none, .faddr 0, [.t 3]⟩, []) ::
 (⟨some 49, none, .load false 1, [.t 48]⟩, [2]) ::
 (⟨some 50, none, .faddr 1, [.t 3]⟩, []) ::
 (⟨some 51, none, .load false 1, [.t 50]⟩, [2]) ::
 (⟨some 52, none, .faddr 2, [.t 3]⟩, []) ::
 (⟨some 53, none, .load false 1, [.t 52]⟩, [2]) ::
 (⟨some 54, none, .build [.int .i64 0, .int .i64 0, .int .i64 0, .int .i64 0, .bool false] [(0, 1), (1, 1), (2, 1), (3, 1)], [.t 47, .t 49, .t 51, .t 53]⟩, []) ::
 (⟨some 55, none, .nilck, [.t 46]⟩, []) ::
 (⟨none, none, .store 5, [.t 55, .t 54]⟩, []) ::
 []) [])
 (.seq (.reg [] (
 ⟨some 4, none, .mov, [.k (.d (.int .i64 0))]⟩ ::
 []) [4])
 (.ret))))))
theorem dec_journal_log_append : Fun E0 F_journal_log_append pc_journal_log_append [.t 4] 56 := fun_of_dec (fl := []) (by kernel_rfl)
-- platter/platterref01.Check (1)
abbrev F_ref01_Check : Nat := 49
def pc_ref01_Check : PC :=
 .seq (.reg [] (
 ⟨some 1, none, .box, [.t 0]⟩ ::
 ⟨some 2, none, .mov, [.k (.d (.int .i64 0))]⟩ ::
 []) [1])
 (.seq (.seq (.reg [] (
 ⟨some 5, none, .faddr 0, [.t 1]⟩ ::
 ⟨some 6, none, .load false 1, [.t 5]⟩ ::
 ⟨some 7, none, .call 68, [.t 6, .k (.d (.int .i64 1)), .k (.d (.int .i64 4))]⟩ ::
 ⟨some 8, none, .un .not, [.t 7]⟩ ::
 ⟨some 9, none, .mov, [.t 8]⟩ ::
 ⟨some 10, some (9, false), .faddr 1, [.t 1]⟩ ::
 ⟨some 11, some (9, false), .load false 1, [.t 10]⟩ ::
 ⟨some 12, some (9, false), .call 68, [.t 11, .k (.d (.int .i64 1)), .k (.d (.int .i64 1000))]⟩ ::
 ⟨some 13, some (9, false), .un .not, [.t 12]⟩ ::
 ⟨some 14, none, .pick, [.t 9, .k (.d (.bool true)), .t 13]⟩ ::
 ⟨some 15, none, .mov, [.t 14]⟩ ::
 ⟨some 16, some (15, false), .faddr 2, [.t 1]⟩ ::
 ⟨some 17, some (15, false), .load false 1, [.t 16]⟩ ::
 ⟨some 18, some (15, false), .len false, [.t 17]⟩ ::
 ⟨some 19, some (15, false), .call 68, [.t 18, .k (.d (.int .i64 1)), .k (.d (.int .i64 4))]⟩ ::
 ⟨some 20, some (15, false), .un .not, [.t 19]⟩ ::
 ⟨some 21, none, .pick, [.t 15, .k (.d (.bool true)), .t 20]⟩ ::
 ⟨some 22, none, .mov, [.t 21]⟩ ::
 ⟨some 23, some (22, false), .faddr 3, [.t 1]⟩ ::
 ⟨some 24, some (22, false), .load false 1, [.t 23]⟩ ::
 ⟨some 25, some (22, false), .faddr 1, [.t 1]⟩ ::
 ⟨some 26, some (22, false), .load false 1, [.t 25]⟩ ::
 ⟨some 27, some (22, false), .bin .sub, [.t 26, .k (.d (.int .i64 1))]⟩ ::
 ⟨some 28, some (22, false), .call 68, [.t 24, .k (.d (.int .i64 0)), .t 27]⟩ ::
 ⟨some 29, some (22, false), .un .not, [.t 28]⟩ ::
 ⟨some 30, none, .pick, [.t 22, .k (.d (.bool true)), .t 29]⟩ ::
 ⟨some 31, none, .mov, [.t 30]⟩ ::
 ⟨some 32, some (31, false), .faddr 4, [.t 1]⟩ ::
 ⟨some 33, some (31, false), .load false 1, [.t 32]⟩ ::
 ⟨some 34, some (31, false), .faddr 1, [.t 1]⟩ ::
 ⟨some 35, some (31, false), .load false 1, [.t 34]⟩ ::
 ⟨some 36, some (31, false), .bin .sub, [.t 35, .k (.d (.int .i64 1))]⟩ ::
 ⟨some 37, some (31, false), .call 68, [.t 33, .k (.d (.int .i64 0)), .t 36]⟩ ::
 ⟨some 38, some (31, false), .un .not, [.t 37]⟩ ::
 ⟨some 39, none, .pick, [.t 31, .k (.d (.bool true)), .t 38]⟩ ::
 []) [1, 39])
 (.cond (.t 39)
 (.seq (.reg [] (
 ⟨some 2, none, .mov, [.k (.d (.int .i64 10))]⟩ ::
 []) [2])
 (.ret))
 (.skip)))
 (.seq (.seq (.reg [] (
 ⟨some 3, none, .mov, [.k (.d (.int .i64 0))]⟩ ::
 []) [1, 3])
 (.block 0
 (.loop [] [1, 3] [1, 900000, 901000]
 (.seq (.seq (.reg [] (
 ⟨some 40, none, .mov, [.t 3]⟩ ::
 ⟨some 41, none, .faddr 2, [.t 1]⟩ ::
 ⟨some 42, none, .load false 1, [.t 41]⟩ ::
 ⟨some 43, none, .len false, [.t 42]⟩ ::
 ⟨some 44, none, .bin .lss, [.t 40, .t 43]⟩ ::
 []) [1, 3, 44])
 (.cond (.t 44)
 (.skip)
 (.exit 0)))
 (.seq (.block 1
 (.seq (.reg [] (
 ⟨some 47, none, .faddr 2, [.t 1]⟩ ::
 ⟨some 48, none, .load false 1, [.t 47]⟩ ::
 ⟨some 49, none, .mov, [.t 3]⟩ ::
 ⟨some 50, none, .iaddrS 2, [.t 48, .t 49]⟩ ::
 ⟨some 51, none, .load true 2, [.t 50]⟩ ::
 ⟨some 4, none, .zero [.int .i64 0, .int .i64 0], []⟩ ::
 ⟨none, none, .store 2, [.t 4, .t 51]⟩ ::
 []) [1, 3, 4])
 (.seq (.reg [] (
 ⟨some 52, none, .faddr 0, [.t 4]⟩ ::
 ⟨some 53, none, .load false 1, [.t 52]⟩ ::
 ⟨some 54, none, .call 68, [.t 53, .k (.d (.int .i64 1)), .k (.d (.int .i64 20))]⟩ ::
 ⟨some 55, none, .un .not, [.t 54]⟩ ::
 ⟨some 56, none, .mov, [.t 55]⟩ ::
 ⟨some 57, some (56, false), .faddr 1, [.t 4]⟩ ::
 ⟨some 58, some (56, false), .load false 1, [.t 57]⟩ ::
 ⟨some 59, some (56, false), .call 68, [.t 58, .k (.d (.int .i64 1)), .k (.d (.int .i64 16))]⟩ ::
 ⟨some 60, some (56, false), .un .not, [.t 59]⟩ ::
 ⟨some 61, none, .pick, [.t 56, .k (.d (.bool true)), .t 60]⟩ ::
 ⟨some 62, none, .mov, [.t 61]⟩ ::
 ⟨some 63, some (62, false), .faddr 1, [.t 1]⟩ ::
 ⟨some 64, some (62, false), .load false 1, [.t 63]⟩ ::
 ⟨some 65, some (62, false), .faddr 1, [.t 4]⟩ ::
 ⟨some 66, some (62, false), .load false 1, [.t 65]⟩ ::
 ⟨some 67, some (62, false), .bin .rem, [.t 64, .t 66]⟩ ::
 ⟨some 68, some (62, false), .bin .neq, [.t 67, .k (.d (.int .i64 0))]⟩ ::
 ⟨some 69, none, .pick, [.t 62, .k (.d (.bool true)), .t 68]⟩ ::
 []) [1, 3, 69])
 (.cond (.t 69)
 (.seq (.reg [] (
 ⟨some 2, none, .mov, [.k (.d (.int .i64 10))]⟩ ::
 []) [2])
 (.ret))
 (.skip)))))
 (.reg [] (
 ⟨some 45, none, .mov, [.t 3]⟩ ::
 ⟨some 46, none, .bin .add, [.t 45, .k (.d (.int .i64 1))]⟩ ::
 ⟨some 3, none, .mov, [.t 46]⟩ ::
 []) [1, 3]))))))
 (.seq (.seq (.reg [] (
 ⟨some 70, none, .faddr 5, [.t 1]⟩ ::
 ⟨some 71, none, .faddr 0, [.t 70]⟩ ::
 ⟨some 72, none, .load false 1, [.t 71]⟩ ::
 ⟨some 73, none, .bin .lss, [.t 72, .k (.d (.int .i64 0))]⟩ ::
 ⟨some 74, none, .mov, [.t 73]⟩ ::
 ⟨some 75, some (74, false), .faddr 5, [.t 1]⟩ ::
 ⟨some 76, some (74, false), .faddr 0, [.t 75]⟩ ::
 ⟨some 77, some (74, false), .load false 1, [.t 76]⟩ ::
 ⟨some 78, some (74, false), .faddr 5, [.t 1]⟩ ::
 ⟨some 79, some (74, false), .faddr 1, [.t 78]⟩ ::
 ⟨some 80, some (74, false), .load false 1, [.t 79]⟩ ::
 ⟨some 81, some (74, false), .bin .gtr, [.t 77, .t 80]⟩ ::
 ⟨some 82, none, .pick, [.t 74, .k (.d (.bool true)), .t 81]⟩ ::
 ⟨some 83, none, .mov, [.t 82]⟩ ::
 ⟨some 84, some (83, false), .faddr 5, [.t 1]⟩ ::
 ⟨some 85, some (83, false), .faddr 1, [.t 84]⟩ ::
 ⟨some 86, some (83, false), .load false 1, [.t 85]⟩ ::
 ⟨some 87, some (83, false), .bin .gtr, [.t 86, .k (.d (.int .i64 2000))]⟩ ::
 ⟨some 88, none, .pick, [.t 83, .k (.d (.bool true)), .t 87]⟩ ::
 ⟨some 89, none, .mov, [.t 88]⟩ ::
 ⟨some 90, some (89, false), .faddr 7, [.t 1]⟩ ::
 ⟨some 91, some (89, false), .faddr 0, [.t 90]⟩ ::
 ⟨some 92, some (89, false), .load false 1, [.t 91]⟩ ::
 ⟨some 93, some (89, false), .bin .lss, [.t 92, .k (.d (.int .i64 0))]⟩ ::
 ⟨some 94, none, .pick, [.t 89, .k (.d (.bool true)), .t 93]⟩ ::
 ⟨some 95, none, .mov, [.t 94]⟩ ::
 ⟨some 96, some (95, false), .faddr 7, [.t 1]⟩ ::
 ⟨some 97, some (95, false), .faddr 0, [.t 96]⟩ ::
 ⟨some 98, some (95, false), .load false 1, [.t 97]⟩ ::
 ⟨some 99, some (95, false), .faddr 7, [.t 1]⟩ ::
 ⟨some 100, some (95, false), .faddr 1, [.t 99]⟩ ::
 ⟨some 101, some (95, false), .load false 1, [.t 100]⟩ ::
 ⟨some 102, some (95, false), .bin .gtr, [.t 98, .t 101]⟩ ::
 ⟨some 103, none, .pick, [.t 95, .k (.d (.bool true)), .t 102]⟩ ::
 ⟨some 104, none, .mov, [.t 103]⟩ ::
 ⟨some 105, some (104, false), .faddr 7, [.t 1]⟩ ::
 ⟨some 106, some (104, false), .faddr 1, [.t 105]⟩ ::
 ⟨some 107, some (104, false), .load false 1, [.t 106]⟩ ::
 ⟨some 108, some (104, false), .bin .gtr, [.t 107, .k (.d (.int .i64 2000))]⟩ ::
 ⟨some 109, none, .pick, [.t 104, .k (.d (.bool true)), .t 108]⟩ ::
 []) [109])
 (.cond (.t 109)
 (.seq (.reg [] (
 ⟨some 2, none, .mov, [.k (.d (.int .i64 10))]⟩ ::
 []) [2])
 (.ret))
 (.skip)))
 (.seq (.reg [] (
 ⟨some 2, none, .mov, [.k (.d (.int .i64 0))]⟩ ::
 []) [2])
 (.ret)))))
theorem dec_ref01_Check : Fun E0 F_ref01_Check pc_ref01_Check [.t 2] 110 := fun_of_dec (fl := []) (by kernel_rfl)
-- platter/platterref16.within (3)
abbrev F_ref16_within : Nat := 50
def pc_ref16_within : PC :=
 .seq (.reg [] (
 ⟨some 6, none, .mov, [.k (.d (.bool false))]⟩ ::
 []) [0, 1, 2])
 (.seq (.reg [] (
 ⟨some 7, none, .mov, [.t 0]⟩ ::
 ⟨some 8, none, .mov, [.t 1]⟩ ::
 ⟨some 9, none, .bin .geq, [.t 7, .t 8]⟩ ::
 ⟨some 10, none, .mov, [.t 9]⟩ ::
 ⟨some 11, some (10, true), .mov, [.t 0]⟩ ::
 ⟨some 12, some (10, true), .mov, [.t 2]⟩ ::
 ⟨some 13, some (10, true), .bin .leq, [.t 11, .t 12]⟩ ::
 ⟨some 14, none, .pick, [.t 10, .t 13, .k (.d (.bool false))]⟩ ::
 ⟨some 6, none, .mov, [.t 14]⟩ ::
 []) [6])
 (.ret))
theorem dec_ref16_within : Fun E0 F_ref16_within pc_ref16_within [.t 6] 15 := fun_of_dec (fl := []) (by kernel_rfl)
-- platter/platterref01.IsRun (3)
abbrev F_ref01_IsRun : Nat := 51
def pc_ref01_IsRun : PC :=
 .seq (.reg [] (
 ⟨some 3, none, .box, [.t 0]⟩ ::
 ⟨some 6, none, .mov, [.k (.d (.bool false))]⟩ ::
 []) [1, 2, 3])
 (.seq (.reg [] (
 ⟨some 7, none, .load true 9, [.t 3]⟩ ::
 ⟨some 8, none, .mov, [.t 1]⟩ ::
 ⟨some 9, none, .call 69, [.t 7, .t 8]⟩ ::
 ⟨some 10, none, .mov, [.t 9]⟩ ::
 ⟨some 11, some (10, true), .mov, [.t 2]⟩ ::
 ⟨some 12, some (10, true), .load true 9, [.t 3]⟩ ::
 ⟨some 13, some (10, true), .call 70, [.t 12]⟩ ::
 ⟨some 14, some (10, true), .mov, [.t 1]⟩ ::
 ⟨some 15, some (10, true), .bin .sub, [.t 13, .t 14]⟩ ::
 ⟨some 16, some (10, true), .call 68, [.t 11, .k (.d (.int .i64 1)), .t 15]⟩ ::
 ⟨some 17, none, .pick, [.t 10, .t 16, .k (.d (.bool false))]⟩ ::
 ⟨some 6, none, .mov, [.t 17]⟩ ::
 []) [6])
 (.ret))
theorem dec_ref01_IsRun : Fun E0 F_ref01_IsRun pc_ref01_IsRun [.t 6] 18 := fun_of_dec (fl := []) (by kernel_rfl)
-- platter/platterref16.isSlot (2)
abbrev F_ref16_isSlot : Nat := 52
def pc_ref16_isSlot : PC :=
 .seq (.reg [] (
 ⟨some 2, none, .box, [.t 0]⟩ ::
 ⟨some 4, none, .mov, [.k (.d (.bool false))]⟩ ::
 []) [1, 2])
 (.seq (.reg [] (
 ⟨some 6, none, .faddr 11, [.t 2]⟩ ::
 ⟨some 7, none, .load false 1, [.t 6]⟩ ::
 ⟨some 8, none, .mov, [.t 1]⟩ ::
 ⟨some 9, none, .iaddrS 5, [.t 7, .t 8]⟩ ::
 ⟨some 10, none, .load true 5, [.t 9]⟩ ::
 ⟨some 5, none, .zero [.int .i64 0, .int .i64 0, .int .i64 0, .int .i64 0, .bool false], []⟩ ::
 ⟨none, none, .store 5, [.t 5, .t 10]⟩ ::
 []) [1, 2, 5])
 (.seq (.seq (.draw [] (
 (⟨some 11, none, .load true 5, [.t 5]⟩, []) ::
 (⟨some 12, none, .call 71, []⟩, [0]) ::
 (⟨some 13, none, .eqv false (true, [some .i64, some .i64, some .i64, some .i64, none]), [.t 11, .t 12]⟩, []) ::
 (⟨some 14, none, .mov, [.t 13]⟩, []) ::
 (⟨some 15, some (14, false), .load true 5, [.t 5]⟩, []) ::
 (⟨some 16, some (14, false), .call 29, []⟩, [4]) ::
 (⟨some 17, some (14, false), .eqv false (true, [some .i64, some .i64, some .i64, some .i64, none]), [.t 15, .t 16]⟩, []) ::
 (⟨some 18, none, .pick, [.t 14, .k (.d (.bool true)), .t 17]⟩, []) ::
 []) [1, 2, 5, 18])
 (.cond (.t 18)
 (.seq (.reg [] (
 ⟨some 4, none, .mov, [.k (.d (.bool true))]⟩ ::
 []) [4])
 (.ret))
 (.skip)))
 (.seq (.reg [] (
 ⟨some 19, none, .faddr 4, [.t 5]⟩ ::
 ⟨some 20, none, .load false 1, [.t 19]⟩ ::
 ⟨some 21, none, .un .not, [.t 20]⟩ ::
 ⟨some 22, none, .mov, [.t 21]⟩ ::
 ⟨some 23, some (22, true), .faddr 0, [.t 5]⟩ ::
 ⟨some 24, some (22, true), .load false 1, [.t 23]⟩ ::
 ⟨some 25, some (22, true), .call 50, [.t 24, .k (.d (.int .i64 0)), .k (.d (.int .i64 999))]⟩ ::
 ⟨some 26, none, .pick, [.t 22, .t 25, .k (.d (.bool false))]⟩ ::
 ⟨some 27, none, .mov, [.t 26]⟩ ::
 ⟨some 28, some (27, true), .faddr 0, [.t 5]⟩ ::
 ⟨some 29, some (27, true), .load false 1, [.t 28]⟩ ::
 ⟨some 30, some (27, true), .faddr 11, [.t 2]⟩ ::
 ⟨some 31, some (27, true), .load false 1, [.t 30]⟩ ::
 ⟨some 32, some (27, true), .len false, [.t 31]⟩ ::
 ⟨some 33, some (27, true), .bin .rem, [.t 29, .t 32]⟩ ::
 ⟨some 34, some (27, true), .mov, [.t 1]⟩ ::
 ⟨some 35, some (27, true), .bin .eql, [.t 33, .t 34]⟩ ::
 ⟨some 36, none, .pick, [.t 27, .t 35, .k (.d (.bool false))]⟩ ::
 ⟨some 37, none, .mov, [.t 36]⟩ ::
 ⟨some 38, some (37, true), .faddr 1, [.t 5]⟩ ::
 ⟨some 39, some (37, true), .load false 1, [.t 38]⟩ ::
 ⟨some 40, some (37, true), .faddr 9, [.t 2]⟩ ::
 ⟨some 41, some (37, true), .load false 1, [.t 40]⟩ ::
 ⟨some 42, some (37, true), .bin .sub, [.t 41, .k (.d (.int .i64 1))]⟩ ::
 ⟨some 43, some (37, true), .call 50, [.t 39, .k (.d (.int .i64 0)), .t 42]⟩ ::
 ⟨some 44, none, .pick, [.t 37, .t 43, .k (.d (.bool false))]⟩ ::
 ⟨some 45, none, .mov, [.t 44]⟩ ::
 ⟨some 46, some (45, true), .faddr 2, [.t 5]⟩ ::
 ⟨some 47, some (45, true), .load false 1, [.t 46]⟩ ::
 ⟨some 48, some (45, true), .call 50, [.t 47, .k (.d (.int .i64 0)), .k (.d (.int .i64 999))]⟩ ::
 ⟨some 49, none, .pick, [.t 45, .t 48, .k (.d (.bool false))]⟩ ::
 ⟨some 50, none, .mov, [.t 49]⟩ ::
 ⟨some 51, some (50, true), .faddr 3, [.t 5]⟩ ::
 ⟨some 52, some (50, true), .load false 1, [.t 51]⟩ ::
 ⟨some 53, some (50, true), .faddr 0, [.t 5]⟩ ::
 ⟨some 54, some (50, true), .load false 1, [.t 53]⟩ ::
 ⟨some 55, some (50, true), .call 50, [.t 52, .k (.d (.int .i64 0)), .t 54]⟩ ::
 ⟨some 56, none, .pick, [.t 50, .t 55, .k (.d (.bool false))]⟩ ::
 ⟨some 4, none, .mov, [.t 56]⟩ ::
 []) [4])
 (.ret))))
theorem dec_ref16_isSlot : Fun E0 F_ref16_isSlot pc_ref16_isSlot [.t 4] 57 := fun_of_dec (fl := []) (by kernel_rfl)
-- platter/platterref16.Has (1)
abbrev F_ref16_Has : Nat := 53
def pc_ref16_Has : PC :=
 .seq (.reg [] (
 ⟨some 1, none, .box, [.t 0]⟩ ::
 ⟨some 2, none, .mov, [.k (.d (.bool false))]⟩ ::
 []) [1])
 (.seq (.reg [] (
 ⟨some 3, none, .faddr 4, [.t 1]⟩ ::
 ⟨some 4, none, .load false 1, [.t 3]⟩ ::
 ⟨some 5, none, .un .not, [.t 4]⟩ ::
 ⟨some 6, none, .mov, [.t 5]⟩ ::
 ⟨some 7, some (6, true), .faddr 0, [.t 1]⟩ ::
 ⟨some 8, some (6, true), .load false 1, [.t 7]⟩ ::
 ⟨some 9, some (6, true), .bin .geq, [.t 8, .k (.d (.int .i64 0))]⟩ ::
 ⟨some 10, none, .pick, [.t 6, .t 9, .k (.d (.bool false))]⟩ ::
 ⟨some 2, none, .mov, [.t 10]⟩ ::
 []) [2])
 (.ret))
theorem dec_ref16_Has : Fun E0 F_ref16_Has pc_ref16_Has [.t 2] 11 := fun_of_dec (fl := []) (by kernel_rfl)
-- platter/platterlaw01.Far (1)
abbrev F_law01_Far : Nat := 54
def pc_law01_Far : PC :=
 .seq (.reg [] (
 ⟨some 1, none, .box, [.t 0]⟩ ::
 ⟨some 2, none, .mov, [.k (.d (.bool false))]⟩ ::
 []) [1])
 (.seq (.reg [] (
 ⟨some 3, none, .faddr 2, [.t 1]⟩ ::
 ⟨some 4, none, .load false 1, [.t 3]⟩ ::
 ⟨some 5, none, .len false, [.t 4]⟩ ::
 ⟨some 6, none, .bin .gtr, [.t 5, .k (.d (.int .i64 20))]⟩ ::
 ⟨some 7, none, .mov, [.t 6]⟩ ::
 ⟨some 8, some (7, false), .load true 9, [.t 1]⟩ ::
 ⟨some 9, some (7, false), .call 49, [.t 8]⟩ ::
 ⟨some 10, some (7, false), .bin .eql, [.t 9, .k (.d (.int .i64 0))]⟩ ::
 ⟨some 11, some (7, false), .mov, [.t 10]⟩ ::
 ⟨some 12, some (11, true), .load true 9, [.t 1]⟩ ::
 ⟨some 13, some (11, true), .call 70, [.t 12]⟩ ::
 ⟨some 14, some (11, true), .bin .gtr, [.t 13, .k (.d (.int .i64 200))]⟩ ::
 ⟨some 15, some (11, true), .mov, [.t 14]⟩ ::
 ⟨some 16, some (15, false), .faddr 1, [.t 1]⟩ ::
 ⟨some 17, some (15, false), .load false 1, [.t 16]⟩ ::
 ⟨some 18, some (15, false), .bin .gtr, [.t 17, .k (.d (.int .i64 120))]⟩ ::
 ⟨some 19, some (11, true), .pick, [.t 15, .k (.d (.bool true)), .t 18]⟩ ::
 ⟨some 20, some (7, false), .pick, [.t 11, .t 19, .k (.d (.bool false))]⟩ ::
 ⟨some 21, none, .pick, [.t 7, .k (.d (.bool true)), .t 20]⟩ ::
 ⟨some 2, none, .mov, [.t 21]⟩ ::
 []) [2])
 (.ret))
theorem dec_law01_Far : Fun E0 F_law01_Far pc_law01_Far [.t 2] 22 := fun_of_dec (fl := []) (by kernel_rfl)
-- platter/platterref16.all (2)
abbrev F_ref16_all : Nat := 55
def pc_ref16_all : PC :=
 .seq (.reg [] (
 ⟨some 2, none, .box, [.t 0]⟩ ::
 ⟨some 4, none, .zero [.int .i64 0, .int .i64 0, .list true [], .int .i64 0, .int .i64 0, .int .i64 0, .int .i64 0, .int .i64 0, .int .i64 0, .int .i64 0, .int .i64 0, .list true []], []⟩ ::
 ⟨some 5, none, .mov, [.k (.d (.int .i64 0))]⟩ ::
 []) [1, 2, 4])
 (.seq (.reg [] (
 ⟨some 10, none, .load true 12, [.t 2]⟩ ::
 ⟨some 11, none, .call 17, [.t 10]⟩ ::
 ⟨some 6, none, .zero [.int .i64 0, .int .i64 0, .list true [], .int .i64 0, .int .i64 0, .int .i64 0, .int .i64 0, .int .i64 0, .int .i64 0, .int .i64 0, .int .i64 0, .list true []], []⟩ ::
 ⟨none, none, .store 12, [.t 6, .t 11]⟩ ::
 []) [1, 4, 6])
 (.seq (.seq (.reg [] (
 ⟨some 7, none, .mov, [.k (.d (.int .i64 0))]⟩ ::
 []) [1, 4, 6, 7])
 (.block 0
 (.loop [] [1, 4, 6, 7] [4, 6, 11, 24, 10011, 10024, 900001, 901001]
 (.seq (.seq (.reg [] (
 ⟨some 12, none, .mov, [.t 7]⟩ ::
 ⟨some 13, none, .mov, [.t 1]⟩ ::
 ⟨some 14, none, .len false, [.t 13]⟩ ::
 ⟨some 15, none, .bin .lss, [.t 12, .t 14]⟩ ::
 []) [1, 4, 6, 7, 15])
 (.cond (.t 15)
 (.skip)
 (.exit 0)))
 (.seq (.block 1
 (.seq (.draw [] (
 (⟨some 19, none, .load true 12, [.t 6]⟩, []) ::
 (⟨some 20, none, .mov, [.t 1]⟩, []) ::
 (⟨some 21, none, .mov, [.t 7]⟩, []) ::
 (⟨some 22, none, .iaddrS 3, [.t 20, .t 21]⟩, []) ::
 (⟨some 23, none, .load true 3, [.t 22]⟩, []) ::
 (⟨some 24, none, .call 72, [.t 19, .t 23]⟩, []) ::
 (⟨some 18, none, .mov, [.t 24]⟩, []) ::
 (⟨some 25, none, .extract 0, [.t 18]⟩, []) ::
 (⟨some 26, none, .extract 1, [.t 18]⟩, []) ::
 (⟨some 8, none, .zero [.int .i64 0, .int .i64 0, .list true [], .int .i64 0, .int .i64 0, .int .i64 0, .int .i64 0, .int .i64 0, .int .i64 0, .int .i64 0, .int .i64 0, .list true []], []⟩, [0, 3, 4, 5]) ::
 (⟨none, none, .store 12, [.t 8, .t 25]⟩, []) ::
 (⟨some 9, none, .mov, [.t 26]⟩, []) ::
 []) [1, 4, 6, 7, 8, 9])
 (.seq (.seq (.reg [] (
 ⟨some 27, none, .mov, [.t 9]⟩ ::
 ⟨some 28, none, .bin .neq, [.t 27, .k (.d (.int .i64 0))]⟩ ::
 []) [1, 4, 6, 7, 8, 9, 28])
 (.cond (.t 28)
 (.seq (.reg [] (
 ⟨some 29, none, .build [.int .i64 0, .int .i64 0, .list true [], .int .i64 0, .int .i64 0, .int .i64 0, .int .i64 0, .int .i64 0, .int .i64 0, .int .i64 0, .int .i64 0, .list true []] [], []⟩ ::
 ⟨some 30, none, .mov, [.t 9]⟩ ::
 ⟨none, none, .store 12, [.t 4, .t 29]⟩ ::
 ⟨some 5, none, .mov, [.t 30]⟩ ::
 []) [4, 5])
 (.ret))
 (.skip)))
 (.reg [] (
 ⟨some 31, none, .load true 12, [.t 8]⟩ ::
 ⟨none, none, .store 12, [.t 6, .t 31]⟩ ::
 []) [1, 4, 6, 7]))))
 (.reg [] (
 ⟨some 16, none, .mov, [.t 7]⟩ ::
 ⟨some 17, none, .bin .add, [.t 16, .k (.d (.int .i64 1))]⟩ ::
 ⟨some 7, none, .mov, [.t 17]⟩ ::
 []) [1, 4, 6, 7]))))))
 (.seq (.reg [] (
 ⟨some 32, none, .load true 12, [.t 6]⟩ ::
 ⟨none, none, .store 12, [.t 4, .t 32]⟩ ::
 ⟨some 5, none, .mov, [.k (.d (.int .i64 0))]⟩ ::
 []) [4, 5])
 (.ret))))
theorem dec_ref16_all : Fun E0 F_ref16_all pc_ref16_all [.c 4 29 true 12, .t 5] 33 := fun_of_dec (fl := []) (by kernel_rfl)
-- platter/platterref16.kept (1)
abbrev F_ref16_kept : Nat := 56
def pc_ref16_kept : PC :=
 .seq (.reg [] (
 ⟨some 1, none, .box, [.t 0]⟩ ::
 ⟨some 2, none, .mov, [.k (.d (.list true []))]⟩ ::
 ⟨some 3, none, .mov, [.k (.d (.bool false))]⟩ ::
 []) [1])
 (.seq (.reg [] (
 ⟨some 4, none, .mov, [.k (.d (.list true []))]⟩ ::
 []) [1, 4])
 (.seq (.reg [] (
 ⟨some 10, none, .load true 12, [.t 1]⟩ ::
 ⟨some 11, none, .call 20, [.t 10]⟩ ::
 ⟨some 9, none, .mov, [.t 11]⟩ ::
 ⟨some 12, none, .extract 0, [.t 9]⟩ ::
 ⟨some 13, none, .extract 1, [.t 9]⟩ ::
 ⟨some 5, none, .mov, [.t 12]⟩ ::
 ⟨some 6, none, .mov, [.t 13]⟩ ::
 []) [1, 4, 5, 6])
 (.seq (.seq (.reg [] (
 ⟨some 14, none, .mov, [.t 6]⟩ ::
 ⟨some 7, none, .mov, [.t 14]⟩ ::
 []) [1, 4, 5, 7])
 (.block 0
 (.loop [.own 4 41 40 5] [1, 4, 5, 7] [1, 11, 41, 10011, 900000, 901000]
 (.seq (.seq (.reg [] (
 ⟨some 15, none, .mov, [.t 7]⟩ ::
 ⟨some 16, none, .mov, [.t 5]⟩ ::
 ⟨some 17, none, .bin .leq, [.t 15, .t 16]⟩ ::
 []) [1, 4, 5, 7, 17])
 (.cond (.t 17)
 (.skip)
 (.exit 0)))
 (.seq (.block 1
 (.seq (.draw [] (
 (⟨some 20, none, .faddr 11, [.t 1]⟩, []) ::
 (⟨some 21, none, .load false 1, [.t 20]⟩, []) ::
 (⟨some 22, none, .mov, [.t 7]⟩, []) ::
 (⟨some 23, none, .faddr 11, [.t 1]⟩, []) ::
 (⟨some 24, none, .load false 1, [.t 23]⟩, []) ::
 (⟨some 25, none, .len false, [.t 24]⟩, []) ::
 (⟨some 26, none, .bin .rem, [.t 22, .t 25]⟩, []) ::
 (⟨some 27, none, .iaddrS 5, [.t 21, .t 26]⟩, []) ::
 (⟨some 28, none, .load true 5, [.t 27]⟩, []) ::
 (⟨some 8, none, .zero [.int .i64 0, .int .i64 0, .int .i64 0, .int .i64 0, .bool false], []⟩, [1, 4, 5, 7, 8]) ::
 (⟨none, none, .store 5, [.t 8, .t 28]⟩, []) ::
 []) [1, 4, 5, 7, 8])
 (.seq (.seq (.reg [] (
 ⟨some 29, none, .load true 5, [.t 8]⟩ ::
 ⟨some 30, none, .call 53, [.t 29]⟩ ::
 ⟨some 31, none, .un .not, [.t 30]⟩ ::
 ⟨some 32, none, .mov, [.t 31]⟩ ::
 ⟨some 33, some (32, false), .faddr 0, [.t 8]⟩ ::
 ⟨some 34, some (32, false), .load false 1, [.t 33]⟩ ::
 ⟨some 35, some (32, false), .mov, [.t 7]⟩ ::
 ⟨some 36, some (32, false), .bin .neq, [.t 34, .t 35]⟩ ::
 ⟨some 37, none, .pick, [.t 32, .k (.d (.bool true)), .t 36]⟩ ::
 []) [1, 4, 5, 7, 8, 37])
 (.cond (.t 37)
 (.seq (.reg [] (
 ⟨some 2, none, .mov, [.k (.d (.list true []))]⟩ ::
 ⟨some 3, none, .mov, [.k (.d (.bool false))]⟩ ::
 []) [2, 3])
 (.ret))
 (.skip)))
 (.reg [] (
 ⟨some 38, none, .mov, [.t 4]⟩ ::
 ⟨some 39, none, .load true 5, [.t 8]⟩ ::
 ⟨some 40, none, .mkrow 5 (.agg [.int .i64 0, .int .i64 0, .int .i64 0, .int .i64 0, .bool false]) 1 [0], [.t 39]⟩ ::
 ⟨some 41, none, .app 40 5 none true, [.t 38, .t 40]⟩ ::
 ⟨some 4, none, .mov, [.t 41]⟩ ::
 []) [1, 4, 5, 7]))))
 (.reg [] (
 ⟨some 18, none, .mov, [.t 7]⟩ ::
 ⟨some 19, none, .bin .add, [.t 18, .k (.d (.int .i64 1))]⟩ ::
 ⟨some 7, none, .mov, [.t 19]⟩ ::
 []) [1, 4, 5, 7]))))))
 (.seq (.reg [] (
 ⟨some 42, none, .mov, [.t 4]⟩ ::
 ⟨some 2, none, .mov, [.t 42]⟩ ::
 ⟨some 3, none, .mov, [.k (.d (.bool true))]⟩ ::
 []) [2, 3])
 (.ret)))))
theorem dec_ref16_kept : Fun E0 F_ref16_kept pc_ref16_kept [.t 2, .t 3] 43 := fun_of_dec (fl := []) (by kernel_rfl)
-- (*platter/journal.log).limit (1)
abbrev F_journal_log_limit : Nat := 57
def pc_journal_log_limit : PC :=
 .seq (.reg [] (
 ⟨some 2, none, .mov, [.k (.d (.int .i64 0))]⟩ ::
 []) [0])
 (.seq (.draw [] (
 (⟨some 3, none, .mov, [.t 0]⟩, []) ::
 (⟨some 4, none, .call 47, [.t 3]⟩, []) ::
 (⟨some 5, none, .field false 3 1, [.t 4]⟩, []) ::
 (⟨some 6, none, .mov, [.t 0]⟩, []) ::
 (⟨some 7, none, .nilck, [.t 6]⟩, []) ::
 (⟨some 8, none, .faddr 0, [.t 7]⟩, []) ::
 (⟨some 9, none, .faddr 11, [.t 8]⟩, []) ::
 (⟨some 10, none, .load false 1, [.t 9]⟩, [1]) ::
 (⟨some 11, none, .len false, [.t 10]⟩, [1]) ::
 (⟨some 12, none, .bin .add, [.t 5, .t 11]⟩, []) ::
 (⟨some 2, none, .mov, [.t 12]⟩, []) ::
 []) [2])
 (.ret))
theorem dec_journal_log_limit : Fun E0 F_journal_log_limit pc_journal_log_limit [.t 2] 13 := fun_of_dec (fl := []) (by kernel_rfl)
-- platter/zones.Size (1)
abbrev F_zones_Size : Nat := 58
def pc_zones_Size : PC :=
 .seq (.reg [] (
 ⟨some 1, none, .box, [.t 0]⟩ ::
 ⟨some 2, none, .mov, [.k (.d (.int .i64 0))]⟩ ::
 ⟨some 3, none, .mov, [.k (.d (.int .i64 0))]⟩ ::
 []) [1])
 (.seq (.reg [] (
 ⟨some 7, none, .load true 9, [.t 1]⟩ ::
 ⟨some 8, none, .call 61, [.t 7]⟩ ::
 ⟨some 6, none, .mov, [.t 8]⟩ ::
 ⟨some 9, none, .extract 0, [.t 6]⟩ ::
 ⟨some 10, none, .extract 1, [.t 6]⟩ ::
 ⟨some 4, none, .zero [.int .i64 0, .int .i64 0, .list true [], .int .i64 0, .int .i64 0, .int .i64 0, .int .i64 0, .int .i64 0, .int .i64 0], []⟩ ::
 ⟨none, none, .store 9, [.t 4, .t 9]⟩ ::
 ⟨some 5, none, .mov, [.t 10]⟩ ::
 []) [4, 5])
 (.seq (.seq (.reg [] (
 ⟨some 11, none, .mov, [.t 5]⟩ ::
 ⟨some 12, none, .bin .neq, [.t 11, .k (.d (.int .i64 0))]⟩ ::
 []) [4, 5, 12])
 (.cond (.t 12)
 (.seq (.reg [] (
 ⟨some 13, none, .mov, [.t 5]⟩ ::
 ⟨some 2, none, .mov, [.k (.d (.int .i64 0))]⟩ ::
 ⟨some 3, none, .mov, [.t 13]⟩ ::
 []) [2, 3])
 (.ret))
 (.skip)))
 (.seq (.reg [] (
 ⟨some 14, none, .load true 9, [.t 4]⟩ ::
 ⟨some 15, none, .call 62, [.t 14]⟩ ::
 ⟨some 2, none, .mov, [.t 15]⟩ ::
 ⟨some 3, none, .mov, [.k (.d (.int .i64 0))]⟩ ::
 []) [2, 3])
 (.ret))))
theorem dec_zones_Size : Fun E0 F_zones_Size pc_zones_Size [.t 2, .t 3] 16 := fun_of_dec (fl := []) (by kernel_rfl)
-- platter/platterref16.hasRoom (2)
abbrev F_ref16_hasRoom : Nat := 59
def pc_ref16_hasRoom : PC :=
 .seq (.reg [] (
 ⟨some 2, none, .box, [.t 0]⟩ ::
 ⟨some 4, none, .mov, [.k (.d (.bool false))]⟩ ::
 []) [1, 2])
 (.seq (.reg [] (
 ⟨some 8, none, .load true 12, [.t 2]⟩ ::
 ⟨some 9, none, .call 20, [.t 8]⟩ ::
 ⟨some 7, none, .mov, [.t 9]⟩ ::
 ⟨some 10, none, .extract 0, [.t 7]⟩ ::
 ⟨some 11, none, .extract 1, [.t 7]⟩ ::
 ⟨some 5, none, .mov, [.t 10]⟩ ::
 ⟨some 6, none, .mov, [.t 11]⟩ ::
 []) [1, 2, 6])
 (.seq (.reg [] (
 ⟨some 12, none, .mov, [.t 1]⟩ ::
 ⟨some 13, none, .faddr 11, [.t 2]⟩ ::
 ⟨some 14, none, .load false 1, [.t 13]⟩ ::
 ⟨some 15, none, .len false, [.t 14]⟩ ::
 ⟨some 16, none, .bin .sub, [.t 12, .t 15]⟩ ::
 ⟨some 17, none, .mov, [.t 6]⟩ ::
 ⟨some 18, none, .bin .lss, [.t 16, .t 17]⟩ ::
 ⟨some 4, none, .mov, [.t 18]⟩ ::
 []) [4])
 (.ret)))
theorem dec_ref16_hasRoom : Fun E0 F_ref16_hasRoom pc_ref16_hasRoom [.t 4] 19 := fun_of_dec (fl := []) (by kernel_rfl)
abbrev F_ref01_Run : Nat := 60
-- platter/zones.open (1)
abbrev F_zones_open : Nat := 61
def pc_zones_open : PC :=
 .seq (.reg [] (
 ⟨some 1, none, .box, [.t 0]⟩ ::
 ⟨some 2, none, .zero [.int .i64 0, .int .i64 0, .list true [], .int .i64 0, .int .i64 0, .int .i64 0, .int .i64 0, .int .i64 0, .int .i64 0], []⟩ ::
 ⟨some 3, none, .mov, [.k (.d (.int .i64 0))]⟩ ::
 []) [1, 2])
 (.seq (.draw [] (
 (⟨some 4, none, .load true 9, [.t 1]⟩, []) ::
 (⟨some 5, none, .build [.int .i64 0, .int .i64 0, .list true [], .int .i64 0, .int .i64 0, .int .i64 0, .int .i64 0, .int .i64 0, .int .i64 0] [(0, 9)], [.t 4]⟩, []) ::
 (⟨some 6, none, .load true 9, [.t 1]⟩, []) ::
 (⟨some 7, none, .call 74, [.t 6]⟩, [0]) ::
 (⟨none, none, .store 9, [.t 2, .t 5]⟩, []) ::
 (⟨some 3, none, .mov, [.t 7]⟩, []) ::
 []) [2, 3])
 (.ret))
theorem dec_zones_open : Fun E0 F_zones_open pc_zones_open [.c 2 96 true 9, .t 3] 8 := fun_of_dec (fl := []) (by kernel_rfl)
-- (platter/zones.disk).size (1)
abbrev F_zones_disk_size : Nat := 62
def pc_zones_disk_size : PC :=
 .seq (.reg [] (
 ⟨some 1, none, .box, [.t 0]⟩ ::
 ⟨some 2, none, .zero [.int .i64 0], []⟩ ::
 []) [1, 2])
 (.seq (.seq (.reg [] (
 ⟨some 4, none, .load true 9, [.t 1]⟩ ::
 ⟨some 5, none, .mkbnd 75, [.t 4]⟩ ::
 []) [2, 5])
 (.block 0
 (.rngF [] (.t 5) [6] [2] [2, 5000002]
 (.reg [] (
 ⟨some 3, none, .zero [.int .i64 0, .int .i64 0, .int .i64 0, .int .i64 0, .int .i64 0], []⟩ ::
 ⟨none, none, .store 5, [.t 3, .t 6]⟩ ::
 []) [2, 3])
 [] [2, 5000002]
 (.block 1
 (.reg [] (
 ⟨some 7, none, .load false 1, [.t 2]⟩ ::
 ⟨some 8, none, .faddr 2, [.t 3]⟩ ::
 ⟨some 9, none, .load false 1, [.t 8]⟩ ::
 ⟨some 10, none, .bin .add, [.t 7, .t 9]⟩ ::
 ⟨none, none, .store 1, [.t 2, .t 10]⟩ ::
 []) [])))))
 (.seq (.reg [] (
 ⟨some 11, none, .load false 1, [.t 2]⟩ ::
 ⟨none, none, .store 1, [.t 2, .t 11]⟩ ::
 []) [2])
 (.ret)))
theorem dec_zones_disk_size : Fun E0 F_zones_disk_size pc_zones_disk_size [.c 2 3 false 1] 12 := fun_of_dec (fl := []) (by kernel_rfl)
abbrev F_zones_disk_span : Nat := 63
-- platter/platterlaw01.Example (0)
abbrev F_law01_Example : Nat := 64
def pc_law01_Example : PC :=
 .seq (.reg [] (
 ⟨some 0, none, .zero [.int .i64 0, .int .i64 0, .list true [], .int .i64 0, .int .i64 0, .int .i64 0, .int .i64 0, .int .i64 0, .int .i64 0], []⟩ ::
 []) [0])
 (.seq (.reg [] (
 ⟨some 1, none, .build [.int .i64 0, .int .i64 0] [(0, 1), (1, 1)], [.k (.d (.int .i64 2)), .k (.d (.int .i64 6))]⟩ ::
 ⟨some 2, none, .build [.int .i64 0, .int .i64 0] [(0, 1), (1, 1)], [.k (.d (.int .i64 1)), .k (.d (.int .i64 5))]⟩ ::
 ⟨some 3, none, .mkrow 2 (.agg [.int .i64 0, .int .i64 0]) 2 [0, 1], [.t 1, .t 2]⟩ ::
 ⟨some 4, none, .call 79, [.k (.d (.int .i64 4)), .k (.d (.int .i64 12))]⟩ ::
 ⟨some 5, none, .call 79, [.k (.d (.int .i64 20)), .k (.d (.int .i64 30))]⟩ ::
 ⟨some 6, none, .build [.int .i64 0, .int .i64 0, .list true [], .int .i64 0, .int .i64 0, .int .i64 0, .int .i64 0, .int .i64 0, .int .i64 0] [(0, 1), (1, 1), (2, 1), (3, 1), (4, 1), (5, 2), (7, 2)], [.k (.d (.int .i64 2)), .k (.d (.int .i64 60)), .t 3, .k (.d (.int .i64 10)), .k (.d (.int .i64 25)), .t 4, .t 5]⟩ ::
 ⟨none, none, .store 9, [.t 0, .t 6]⟩ ::
 []) [0])
 (.ret))
theorem dec_law01_Example : Fun E0 F_law01_Example pc_law01_Example [.c 0 26 true 9] 7 := fun_of_dec (fl := []) (by kernel_rfl)
-- slices.Clone[[]platter/api.Zone,platter/api.Zone] (1)
abbrev F_slices_Clone_api_Zone_api_Zone : Nat := 65
def pc_slices_Clone_api_Zone_api_Zone : PC :=
 .seq (.reg [] (
 ⟨some 2, none, .mov, [.k (.d (.list true []))]⟩ ::
 []) [0])
 (.seq (.seq (.reg [] (
 ⟨some 3, none, .mov, [.t 0]⟩ ::
 ⟨some 4, none, .eqnil false, [.t 3, .k (.d (.list true []))]⟩ ::
 []) [0, 4])
 (.cond (.t 4)
 (.seq (.reg [] (
 ⟨some 2, none, .mov, [.k (.d (.list true []))]⟩ ::
 []) [2])
 (.ret))
 (.skip)))
 (.seq (.reg [] (
 ⟨some 5, none, .mkrow 2 (.agg [.int .i64 0, .int .i64 0]) 0 [], []⟩ ::
 ⟨some 6, none, .mov, [.t 0]⟩ ::
 ⟨some 7, none, .app 91 2 none true, [.t 5, .t 6]⟩ ::
 ⟨some 2, none, .mov, [.t 7]⟩ ::
 []) [2])
 (.ret)))
theorem dec_slices_Clone_api_Zone_api_Zone : Fun E0 F_slices_Clone_api_Zone_api_Zone pc_slices_Clone_api_Zone_api_Zone [.t 2] 8 := fun_of_dec (fl := []) (by kernel_rfl)
-- (*platter/journal.log).slot (2)
abbrev F_journal_log_slot : Nat := 66
def pc_journal_log_slot : PC :=
 .seq (.reg [] (
 ⟨some 4, none, .mov, [.k (.d (.nilptr))]⟩ ::
 []) [0, 1])
 (.seq (.draw [] (
 (⟨some 5, none, .mov, [.t 0]⟩, []) ::
 (⟨some 6, none, .nilck, [.t 5]⟩, []) ::
 (⟨some 7, none, .faddr 0, [.t 6]⟩, []) ::
 (⟨some 8, none, .faddr 11, [.t 7]⟩, []) ::
 (⟨some 9, none, .load false 1, [.t 8]⟩, []) ::
 (⟨some 10, none, .mov, [.t 1]⟩, []) ::
 (⟨some 11, none, .mov, [.t 0]⟩, []) ::
 (⟨some 12, none, .nilck, [.t 11]⟩, []) ::
 (⟨some 13, none, .faddr 0, [.t 12]⟩, []) ::
 (⟨some 14, none, .faddr 11, [.t 13]⟩, []) ::
 (⟨some 15, none, .load false 1, [.t 14]⟩, []) ::
 (⟨some 16, none, .len false, [.t 15]⟩, []) ::
 (⟨some 17, none, .bin .rem, [.t 10, .t 16]⟩, []) ::
 (⟨some 18, none, .iaddrS 5, [.t 9, .t 17]⟩, []) ::
 (⟨some 4, none, .mov, [.t 18]⟩, []) ::
 []) [4])
 (.ret))
theorem dec_journal_log_slot : Fun E0 F_journal_log_slot pc_journal_log_slot [.t 4] 19 := fun_of_dec (fl := []) (by kernel_rfl)
-- slices.IndexFunc[[]int,int] (2)
abbrev F_slices_IndexFunc_int_int : Nat := 67
def pc_slices_IndexFunc_int_int : PC :=
 .seq (.reg [] (
 ⟨some 4, none, .mov, [.k (.d (.int .i64 0))]⟩ ::
 []) [0, 1])
 (.seq (.seq (.reg [] (
 ⟨some 6, none, .mov, [.t 0]⟩ ::
 ⟨some 7, none, .len false, [.t 6]⟩ ::
 ⟨some 8, none, .mov, [.k (.d (.int .i64 0))]⟩ ::
 []) [0, 1, 7, 8])
 (.block 0
 (.loop [] [0, 1, 7, 8] [900000, 900001, 901000, 901001]
 (.seq (.reg [] (
 ⟨some 9, none, .bin .lss, [.t 8, .t 7]⟩ ::
 []) [0, 1, 7, 8, 9])
 (.seq (.cond (.t 9)
 (.skip)
 (.exit 0))
 (.seq (.block 1
 (.seq (.reg [] (
 ⟨some 10, none, .mov, [.t 8]⟩ ::
 ⟨some 5, none, .mov, [.t 10]⟩ ::
 []) [0, 1, 5, 7, 8])
 (.seq (.reg [] (
 ⟨some 11, none, .mov, [.t 1]⟩ ::
 ⟨some 12, none, .mov, [.t 0]⟩ ::
 ⟨some 13, none, .mov, [.t 5]⟩ ::
 ⟨some 14, none, .iaddrS 1, [.t 12, .t 13]⟩ ::
 ⟨some 15, none, .load false 1, [.t 14]⟩ ::
 ⟨some 16, none, .callv, [.t 11, .t 15]⟩ ::
 []) [0, 1, 5, 7, 8, 16])
 (.cond (.t 16)
 (.seq (.reg [] (
 ⟨some 17, none, .mov, [.t 5]⟩ ::
 ⟨some 4, none, .mov, [.t 17]⟩ ::
 []) [4])
 (.ret))
 (.skip)))))
 (.reg [] (
 ⟨some 18, none, .bin .add, [.t 8, .k (.d (.int .i64 1))]⟩ ::
 ⟨some 8, none, .mov, [.t 18]⟩ ::
 []) [0, 1, 7, 8])))))))
 (.seq (.reg [] (
 ⟨some 4, none, .mov, [.k (.d (.int .i64 (-1)))]⟩ ::
 []) [4])
 (.ret)))
theorem dec_slices_IndexFunc_int_int : Fun E0 F_slices_IndexFunc_int_int pc_slices_IndexFunc_int_int [.t 4] 19 := fun_of_dec (fl := []) (by kernel_rfl)
-- platter/platterref01.within (3)
abbrev F_ref01_within : Nat := 68
def pc_ref01_within : PC :=
 .seq (.reg [] (
 ⟨some 6, none, .mov, [.k (.d (.bool false))]⟩ ::
 []) [0, 1, 2])
 (.seq (.reg [] (
 ⟨some 7, none, .mov, [.t 0]⟩ ::
 ⟨some 8, none, .mov, [.t 1]⟩ ::
 ⟨some 9, none, .bin .geq, [.t 7, .t 8]⟩ ::
 ⟨some 10, none, .mov, [.t 9]⟩ ::
 ⟨some 11, some (10, true), .mov, [.t 0]⟩ ::
 ⟨some 12, some (10, true), .mov, [.t 2]⟩ ::
 ⟨some 13, some (10, true), .bin .leq, [.t 11, .t 12]⟩ ::
 ⟨some 14, none, .pick, [.t 10, .t 13, .k (.d (.bool false))]⟩ ::
 ⟨some 6, none, .mov, [.t 14]⟩ ::
 []) [6])
 (.ret))
theorem dec_ref01_within : Fun E0 F_ref01_within pc_ref01_within [.t 6] 15 := fun_of_dec (fl := []) (by kernel_rfl)
-- platter/platterref01.IsSector (2)
abbrev F_ref01_IsSector : Nat := 69
def pc_ref01_IsSector : PC :=
 .seq (.reg [] (
 ⟨some 2, none, .box, [.t 0]⟩ ::
 ⟨some 4, none, .mov, [.k (.d (.bool false))]⟩ ::
 []) [1, 2])
 (.seq (.reg [] (
 ⟨some 5, none, .mov, [.t 1]⟩ ::
 ⟨some 6, none, .load true 9, [.t 2]⟩ ::
 ⟨some 7, none, .call 70, [.t 6]⟩ ::
 ⟨some 8, none, .bin .sub, [.t 7, .k (.d (.int .i64 1))]⟩ ::
 ⟨some 9, none, .call 68, [.t 5, .k (.d (.int .i64 0)), .t 8]⟩ ::
 ⟨some 4, none, .mov, [.t 9]⟩ ::
 []) [4])
 (.ret))
theorem dec_ref01_IsSector : Fun E0 F_ref01_IsSector pc_ref01_IsSector [.t 4] 10 := fun_of_dec (fl := []) (by kernel_rfl)
-- platter/platterref01.Count (1)
abbrev F_ref01_Count : Nat := 70
def pc_ref01_Count : PC :=
 .seq (.reg [] (
 ⟨some 1, none, .box, [.t 0]⟩ ::
 ⟨some 2, none, .mov, [.k (.d (.int .i64 0))]⟩ ::
 []) [1])
 (.seq (.reg [] (
 ⟨some 3, none, .mov, [.k (.d (.int .i64 0))]⟩ ::
 []) [1, 3])
 (.seq (.seq (.reg [] (
 ⟨some 4, none, .mov, [.k (.d (.int .i64 0))]⟩ ::
 []) [1, 3, 4])
 (.block 0
 (.loop [] [1, 3, 4] [1, 900000, 901000]
 (.seq (.seq (.reg [] (
 ⟨some 5, none, .mov, [.t 4]⟩ ::
 ⟨some 6, none, .faddr 2, [.t 1]⟩ ::
 ⟨some 7, none, .load false 1, [.t 6]⟩ ::
 ⟨some 8, none, .len false, [.t 7]⟩ ::
 ⟨some 9, none, .bin .lss, [.t 5, .t 8]⟩ ::
 []) [1, 3, 4, 9])
 (.cond (.t 9)
 (.skip)
 (.exit 0)))
 (.seq (.block 1
 (.draw [] (
 (⟨some 12, none, .mov, [.t 3]⟩, []) ::
 (⟨some 13, none, .faddr 2, [.t 1]⟩, []) ::
 (⟨some 14, none, .load false 1, [.t 13]⟩, []) ::
 (⟨some 15, none, .mov, [.t 4]⟩, []) ::
 (⟨some 16, none, .iaddrS 2, [.t 14, .t 15]⟩, []) ::
 (⟨some 17, none, .faddr 0, [.t 16]⟩, []) ::
 (⟨some 18, none, .load false 1, [.t 17]⟩, []) ::
 (⟨some 19, none, .faddr 2, [.t 1]⟩, []) ::
 (⟨some 20, none, .load false 1, [.t 19]⟩, []) ::
 (⟨some 21, none, .mov, [.t 4]⟩, []) ::
 (⟨some 22, none, .iaddrS 2, [.t 20, .t 21]⟩, []) ::
 (⟨some 23, none, .faddr 1, [.t 22]⟩, []) ::
 (⟨some 24, none, .load false 1, [.t 23]⟩, []) ::
 (⟨some 25, none, .bin .mul, [.t 18, .t 24]⟩, []) ::
 (⟨some 26, none, .faddr 0, [.t 1]⟩, []) ::
 (⟨some 27, none, .load false 1, [.t 26]⟩, []) ::
 (⟨some 28, none, .bin .mul, [.t 25, .t 27]⟩, []) ::
 (⟨some 29, none, .bin .add, [.t 12, .t 28]⟩, []) ::
 (⟨some 3, none, .mov, [.t 29]⟩, []) ::
 []) [1, 3, 4]))
 (.reg [] (
 ⟨some 10, none, .mov, [.t 4]⟩ ::
 ⟨some 11, none, .bin .add, [.t 10, .k (.d (.int .i64 1))]⟩ ::
 ⟨some 4, none, .mov, [.t 11]⟩ ::
 []) [1, 3, 4]))))))
 (.seq (.reg [] (
 ⟨some 30, none, .mov, [.t 3]⟩ ::
 ⟨some 2, none, .mov, [.t 30]⟩ ::
 []) [2])
 (.ret))))
theorem dec_ref01_Count : Fun E0 F_ref01_Count pc_ref01_Count [.t 2] 31 := fun_of_dec (fl := []) (by kernel_rfl)
-- platter/platterref16.Empty (0)
abbrev F_ref16_Empty : Nat := 71
def pc_ref16_Empty : PC :=
 .seq (.reg [] (
 ⟨some 0, none, .zero [.int .i64 0, .int .i64 0, .int .i64 0, .int .i64 0, .bool false], []⟩ ::
 []) [0])
 (.seq (.reg [] (
 ⟨some 1, none, .build [.int .i64 0, .int .i64 0, .int .i64 0, .int .i64 0, .bool false] [(0, 1)], [.k (.d (.int .i64 (-1)))]⟩ ::
 ⟨none, none, .store 5, [.t 0, .t 1]⟩ ::
 []) [0])
 (.ret))
theorem dec_ref16_Empty : Fun E0 F_ref16_Empty pc_ref16_Empty [.c 0 40 true 5] 2 := fun_of_dec (fl := []) (by kernel_rfl)
-- platter/platterref16.one (2)
abbrev F_ref16_one : Nat := 72
def pc_ref16_one : PC :=
 .seq (.reg [] (
 ⟨some 2, none, .box, [.t 0]⟩ ::
 ⟨some 3, none, .box, [.t 1]⟩ ::
 ⟨some 4, none, .zero [.int .i64 0, .int .i64 0, .list true [], .int .i64 0, .int .i64 0, .int .i64 0, .int .i64 0, .int .i64 0, .int .i64 0, .int .i64 0, .int .i64 0, .list true []], []⟩ ::
 ⟨some 5, none, .mov, [.k (.d (.int .i64 0))]⟩ ::
 []) [2, 3, 4])
 (.seq (.reg [] (
 ⟨some 10, none, .load true 12, [.t 2]⟩ ::
 ⟨some 11, none, .call 20, [.t 10]⟩ ::
 ⟨some 9, none, .mov, [.t 11]⟩ ::
 ⟨some 12, none, .extract 0, [.t 9]⟩ ::
 ⟨some 13, none, .extract 1, [.t 9]⟩ ::
 ⟨some 6, none, .mov, [.t 12]⟩ ::
 ⟨some 7, none, .mov, [.t 13]⟩ ::
 []) [2, 3, 4, 6, 7])
 (.seq (.reg [] (
 ⟨some 14, none, .mov, [.t 6]⟩ ::
 ⟨some 15, none, .bin .add, [.t 14, .k (.d (.int .i64 1))]⟩ ::
 ⟨some 6, none, .mov, [.t 15]⟩ ::
 []) [2, 3, 4, 6, 7])
 (.seq (.seq (.reg [] (
 ⟨some 16, none, .faddr 0, [.t 3]⟩ ::
 ⟨some 17, none, .load false 1, [.t 16]⟩ ::
 ⟨some 18, none, .faddr 9, [.t 2]⟩ ::
 ⟨some 19, none, .load false 1, [.t 18]⟩ ::
 ⟨some 20, none, .bin .sub, [.t 19, .k (.d (.int .i64 1))]⟩ ::
 ⟨some 21, none, .call 50, [.t 17, .k (.d (.int .i64 0)), .t 20]⟩ ::
 ⟨some 22, none, .un .not, [.t 21]⟩ ::
 ⟨some 23, none, .mov, [.t 22]⟩ ::
 ⟨some 24, some (23, false), .faddr 1, [.t 3]⟩ ::
 ⟨some 25, some (23, false), .load false 1, [.t 24]⟩ ::
 ⟨some 26, some (23, false), .call 50, [.t 25, .k (.d (.int .i64 0)), .k (.d (.int .i64 999))]⟩ ::
 ⟨some 27, some (23, false), .un .not, [.t 26]⟩ ::
 ⟨some 28, none, .pick, [.t 23, .k (.d (.bool true)), .t 27]⟩ ::
 ⟨some 29, none, .mov, [.t 28]⟩ ::
 ⟨some 30, some (29, false), .faddr 2, [.t 3]⟩ ::
 ⟨some 31, some (29, false), .load false 1, [.t 30]⟩ ::
 ⟨some 32, some (29, false), .mov, [.t 7]⟩ ::
 ⟨some 33, some (29, false), .mov, [.t 6]⟩ ::
 ⟨some 34, some (29, false), .call 50, [.t 31, .t 32, .t 33]⟩ ::
 ⟨some 35, some (29, false), .un .not, [.t 34]⟩ ::
 ⟨some 36, none, .pick, [.t 29, .k (.d (.bool true)), .t 35]⟩ ::
 []) [2, 3, 4, 6, 36])
 (.cond (.t 36)
 (.seq (.reg [] (
 ⟨some 37, none, .build [.int .i64 0, .int .i64 0, .list true [], .int .i64 0, .int .i64 0, .int .i64 0, .int .i64 0, .int .i64 0, .int .i64 0, .int .i64 0, .int .i64 0, .list true []] [], []⟩ ::
 ⟨none, none, .store 12, [.t 4, .t 37]⟩ ::
 ⟨some 5, none, .mov, [.k (.d (.int .i64 162))]⟩ ::
 []) [4, 5])
 (.ret))
 (.skip)))
 (.seq (.seq (.reg [] (
 ⟨some 38, none, .load true 12, [.t 2]⟩ ::
 ⟨some 39, none, .mov, [.t 6]⟩ ::
 ⟨some 40, none, .call 59, [.t 38, .t 39]⟩ ::
 ⟨some 41, none, .un .not, [.t 40]⟩ ::
 []) [2, 3, 4, 6, 41])
 (.cond (.t 41)
 (.seq (.reg [] (
 ⟨some 42, none, .build [.int .i64 0, .int .i64 0, .list true [], .int .i64 0, .int .i64 0, .int .i64 0, .int .i64 0, .int .i64 0, .int .i64 0, .int .i64 0, .int .i64 0, .list true []] [], []⟩ ::
 ⟨none, none, .store 12, [.t 4, .t 42]⟩ ::
 ⟨some 5, none, .mov, [.k (.d (.int .i64 163))]⟩ ::
 []) [4, 5])
 (.ret))
 (.skip)))
 (.seq (.seq (.reg [] (
 ⟨some 43, none, .mov, [.t 6]⟩ ::
 ⟨some 44, none, .bin .gtr, [.t 43, .k (.d (.int .i64 999))]⟩ ::
 []) [2, 3, 4, 6, 44])
 (.cond (.t 44)
 (.seq (.reg [] (
 ⟨some 45, none, .build [.int .i64 0, .int .i64 0, .list true [], .int .i64 0, .int .i64 0, .int .i64 0, .int .i64 0, .int .i64 0, .int .i64 0, .int .i64 0, .int .i64 0, .list true []] [], []⟩ ::
 ⟨none, none, .store 12, [.t 4, .t 45]⟩ ::
 ⟨some 5, none, .mov, [.k (.d (.int .i64 2))]⟩ ::
 []) [4, 5])
 (.ret))
 (.skip)))
 (.seq (.reg [] (
 ⟨some 46, none, .load true 12, [.t 2]⟩ ::
 ⟨some 47, none, .call 17, [.t 46]⟩ ::
 ⟨some 8, none, .zero [.int .i64 0, .int .i64 0, .list true [], .int .i64 0, .int .i64 0, .int .i64 0, .int .i64 0, .int .i64 0, .int .i64 0, .int .i64 0, .int .i64 0, .list true []], []⟩ ::
 ⟨none, none, .store 12, [.t 8, .t 47]⟩ ::
 []) [2, 3, 4, 6, 8])
 (.seq (.draw [] (
 (⟨some 48, none, .faddr 11, [.t 8]⟩, []) ::
 (⟨some 49, none, .load false 1, [.t 48]⟩, []) ::
 (⟨some 50, none, .mov, [.t 6]⟩, []) ::
 (⟨some 51, none, .faddr 11, [.t 2]⟩, []) ::
 (⟨some 52, none, .load false 1, [.t 51]⟩, []) ::
 (⟨some 53, none, .len false, [.t 52]⟩, []) ::
 (⟨some 54, none, .bin .rem, [.t 50, .t 53]⟩, []) ::
 (⟨some 55, none, .mov, [.t 6]⟩, []) ::
 (⟨some 56, none, .faddr 0, [.t 3]⟩, []) ::
 (⟨some 57, none, .load false 1, [.t 56]⟩, []) ::
 (⟨some 58, none, .faddr 1, [.t 3]⟩, []) ::
 (⟨some 59, none, .load false 1, [.t 58]⟩, []) ::
 (⟨some 60, none, .faddr 2, [.t 3]⟩, []) ::
 (⟨some 61, none, .load false 1, [.t 60]⟩, []) ::
 (⟨some 62, none, .build [.int .i64 0, .int .i64 0, .int .i64 0, .int .i64 0, .bool false] [(0, 1), (1, 1), (2, 1), (3, 1)], [.t 55, .t 57, .t 59, .t 61]⟩, []) ::
 (⟨some 63, none, .iaddrS 5, [.t 49, .t 54]⟩, []) ::
 (⟨none, none, .store 5, [.t 63, .t 62]⟩, []) ::
 []) [4, 8])
 (.seq (.reg [] (
 ⟨some 64, none, .load true 12, [.t 8]⟩ ::
 ⟨none, none, .store 12, [.t 4, .t 64]⟩ ::
 ⟨some 5, none, .mov, [.k (.d (.int .i64 0))]⟩ ::
 []) [4, 5])
 (.ret)))))))))
theorem dec_ref16_one : Fun E0 F_ref16_one pc_ref16_one [.c 4 29 true 12, .t 5] 65 := fun_of_dec (fl := []) (by kernel_rfl)
abbrev F_ref01_run : Nat := 73
-- platter/zones.Check (1)
abbrev F_zones_Check : Nat := 74
def pc_zones_Check : PC :=
 .seq (.reg [] (
 ⟨some 1, none, .box, [.t 0]⟩ ::
 ⟨some 2, none, .mov, [.k (.d (.int .i64 0))]⟩ ::
 []) [1])
 (.seq (.reg [] (
 ⟨some 3, none, .mov, [.k (.fn 83 [])]⟩ ::
 []) [1, 3])
 (.seq (.block 0
 (.seq (.seq (.reg [] (
 ⟨some 7, none, .faddr 0, [.t 1]⟩ ::
 ⟨some 8, none, .load false 1, [.t 7]⟩ ::
 ⟨some 9, none, .call 84, [.t 8, .k (.d (.int .i64 1)), .k (.d (.int .i64 4))]⟩ ::
 ⟨some 10, none, .un .not, [.t 9]⟩ ::
 ⟨some 6, none, .mov, [.t 10]⟩ ::
 []) [1, 3, 6])
 (.cond (.t 6)
 (.skip)
 (.seq (.reg [] (
 ⟨some 11, none, .faddr 1, [.t 1]⟩ ::
 ⟨some 12, none, .load false 1, [.t 11]⟩ ::
 ⟨some 13, none, .call 84, [.t 12, .k (.d (.int .i64 1)), .k (.d (.int .i64 1000))]⟩ ::
 ⟨some 14, none, .un .not, [.t 13]⟩ ::
 ⟨some 6, none, .mov, [.t 14]⟩ ::
 []) [1, 3, 6])
 (.cond (.t 6)
 (.skip)
 (.reg [] (
 ⟨some 15, none, .faddr 2, [.t 1]⟩ ::
 ⟨some 16, none, .load false 1, [.t 15]⟩ ::
 ⟨some 17, none, .len false, [.t 16]⟩ ::
 ⟨some 18, none, .call 84, [.t 17, .k (.d (.int .i64 1)), .k (.d (.int .i64 4))]⟩ ::
 ⟨some 19, none, .un .not, [.t 18]⟩ ::
 ⟨some 6, none, .mov, [.t 19]⟩ ::
 []) [1, 3, 6])))))
 (.cond (.t 6)
 (.seq (.reg [] (
 ⟨some 2, none, .mov, [.k (.d (.int .i64 10))]⟩ ::
 []) [2])
 (.ret))
 (.seq (.seq (.reg [] (
 ⟨some 21, none, .faddr 3, [.t 1]⟩ ::
 ⟨some 22, none, .load false 1, [.t 21]⟩ ::
 ⟨some 23, none, .faddr 1, [.t 1]⟩ ::
 ⟨some 24, none, .load false 1, [.t 23]⟩ ::
 ⟨some 25, none, .bin .sub, [.t 24, .k (.d (.int .i64 1))]⟩ ::
 ⟨some 26, none, .call 84, [.t 22, .k (.d (.int .i64 0)), .t 25]⟩ ::
 ⟨some 27, none, .un .not, [.t 26]⟩ ::
 ⟨some 20, none, .mov, [.t 27]⟩ ::
 []) [1, 3, 20])
 (.cond (.t 20)
 (.skip)
 (.seq (.reg [] (
 ⟨some 28, none, .faddr 4, [.t 1]⟩ ::
 ⟨some 29, none, .load false 1, [.t 28]⟩ ::
 ⟨some 30, none, .faddr 1, [.t 1]⟩ ::
 ⟨some 31, none, .load false 1, [.t 30]⟩ ::
 ⟨some 32, none, .bin .sub, [.t 31, .k (.d (.int .i64 1))]⟩ ::
 ⟨some 33, none, .call 84, [.t 29, .k (.d (.int .i64 0)), .t 32]⟩ ::
 ⟨some 34, none, .un .not, [.t 33]⟩ ::
 ⟨some 20, none, .mov, [.t 34]⟩ ::
 []) [1, 3, 20])
 (.cond (.t 20)
 (.skip)
 (.seq (.reg [] (
 ⟨some 35, none, .mov, [.t 3]⟩ ::
 ⟨some 36, none, .faddr 5, [.t 1]⟩ ::
 ⟨some 37, none, .load true 2, [.t 36]⟩ ::
 ⟨some 38, none, .callv, [.t 35, .t 37]⟩ ::
 ⟨some 39, none, .un .not, [.t 38]⟩ ::
 ⟨some 20, none, .mov, [.t 39]⟩ ::
 []) [1, 3, 20])
 (.cond (.t 20)
 (.skip)
 (.reg [] (
 ⟨some 40, none, .mov, [.t 3]⟩ ::
 ⟨some 41, none, .faddr 7, [.t 1]⟩ ::
 ⟨some 42, none, .load true 2, [.t 41]⟩ ::
 ⟨some 43, none, .callv, [.t 40, .t 42]⟩ ::
 ⟨some 44, none, .un .not, [.t 43]⟩ ::
 ⟨some 20, none, .mov, [.t 44]⟩ ::
 []) [1, 20])))))))
 (.cond (.t 20)
 (.seq (.reg [] (
 ⟨some 2, none, .mov, [.k (.d (.int .i64 10))]⟩ ::
 []) [2])
 (.ret))
 (.skip))))))
 (.seq (.seq (.reg [] (
 ⟨some 45, none, .faddr 2, [.t 1]⟩ ::
 ⟨some 46, none, .load false 1, [.t 45]⟩ ::
 ⟨some 47, none, .len false, [.t 46]⟩ ::
 ⟨some 48, none, .mov, [.k (.d (.int .i64 0))]⟩ ::
 []) [1, 46, 47, 48])
 (.block 1
 (.loop [] [1, 46, 47, 48] [1, 900000, 901000]
 (.seq (.reg [] (
 ⟨some 49, none, .bin .lss, [.t 48, .t 47]⟩ ::
 []) [1, 46, 47, 48, 49])
 (.seq (.cond (.t 49)
 (.skip)
 (.exit 1))
 (.seq (.block 2
 (.seq (.reg [] (
 ⟨some 50, none, .iaddrS 2, [.t 46, .t 48]⟩ ::
 ⟨some 51, none, .load true 2, [.t 50]⟩ ::
 ⟨some 5, none, .zero [.int .i64 0, .int .i64 0], []⟩ ::
 ⟨none, none, .store 2, [.t 5, .t 51]⟩ ::
 []) [1, 5, 46, 47, 48])
 (.seq (.reg [] (
 ⟨some 52, none, .faddr 0, [.t 5]⟩ ::
 ⟨some 53, none, .load false 1, [.t 52]⟩ ::
 ⟨some 54, none, .call 84, [.t 53, .k (.d (.int .i64 1)), .k (.d (.int .i64 20))]⟩ ::
 ⟨some 55, none, .un .not, [.t 54]⟩ ::
 ⟨some 56, none, .mov, [.t 55]⟩ ::
 ⟨some 57, some (56, false), .faddr 1, [.t 5]⟩ ::
 ⟨some 58, some (56, false), .load false 1, [.t 57]⟩ ::
 ⟨some 59, some (56, false), .call 84, [.t 58, .k (.d (.int .i64 1)), .k (.d (.int .i64 16))]⟩ ::
 ⟨some 60, some (56, false), .un .not, [.t 59]⟩ ::
 ⟨some 61, none, .pick, [.t 56, .k (.d (.bool true)), .t 60]⟩ ::
 ⟨some 62, none, .mov, [.t 61]⟩ ::
 ⟨some 63, some (62, false), .faddr 1, [.t 1]⟩ ::
 ⟨some 64, some (62, false), .load false 1, [.t 63]⟩ ::
 ⟨some 65, some (62, false), .faddr 1, [.t 5]⟩ ::
 ⟨some 66, some (62, false), .load false 1, [.t 65]⟩ ::
 ⟨some 67, some (62, false), .bin .rem, [.t 64, .t 66]⟩ ::
 ⟨some 68, some (62, false), .bin .neq, [.t 67, .k (.d (.int .i64 0))]⟩ ::
 ⟨some 69, none, .pick, [.t 62, .k (.d (.bool true)), .t 68]⟩ ::
 []) [1, 46, 47, 48, 69])
 (.cond (.t 69)
 (.seq (.reg [] (
 ⟨some 2, none, .mov, [.k (.d (.int .i64 10))]⟩ ::
 []) [2])
 (.ret))
 (.skip)))))
 (.reg [] (
 ⟨some 70, none, .bin .add, [.t 48, .k (.d (.int .i64 1))]⟩ ::
 ⟨some 48, none, .mov, [.t 70]⟩ ::
 []) [1, 46, 47, 48])))))))
 (.seq (.reg [] (
 ⟨some 2, none, .mov, [.k (.d (.int .i64 0))]⟩ ::
 []) [2])
 (.ret)))))
theorem dec_zones_Check : Fun E0 F_zones_Check pc_zones_Check [.t 2] 71 := fun_of_dec (fl := []) (by kernel_rfl)
-- (platter/zones.disk).tracks (2)
abbrev F_zones_disk_tracks : Nat := 75
def pc_zones_disk_tracks : PC :=
 .seq (.reg [] (
 ⟨some 2, none, .box, [.t 0]⟩ ::
 []) [1, 2])
 (.seq (.reg [] (
 ⟨some 4, none, .zero [.int .i64 0, .int .i64 0, .int .i64 0, .int .i64 0, .int .i64 0], []⟩ ::
 []) [1, 2, 4])
 (.seq (.reg [] (
 ⟨some 7, none, .faddr 0, [.t 2]⟩ ::
 ⟨some 8, none, .faddr 2, [.t 7]⟩ ::
 ⟨some 9, none, .load false 1, [.t 8]⟩ ::
 ⟨some 10, none, .len false, [.t 9]⟩ ::
 ⟨some 11, none, .mov, [.k (.d (.int .i64 0))]⟩ ::
 []) [1, 2, 4, 9, 10, 11])
 (.block 0
 (.loop [] [1, 2, 4, 9, 10, 11] [2, 4, 900000, 900001, 901000, 901001]
 (.seq (.reg [] (
 ⟨some 12, none, .bin .lss, [.t 11, .t 10]⟩ ::
 []) [1, 2, 4, 9, 10, 11, 12])
 (.seq (.cond (.t 12)
 (.skip)
 (.exit 0))
 (.seq (.block 1
 (.seq (.reg [] (
 ⟨some 13, none, .iaddrS 2, [.t 9, .t 11]⟩ ::
 ⟨some 14, none, .load true 2, [.t 13]⟩ ::
 ⟨some 6, none, .zero [.int .i64 0, .int .i64 0], []⟩ ::
 ⟨none, none, .store 2, [.t 6, .t 14]⟩ ::
 []) [1, 2, 4, 6, 9, 10, 11])
 (.seq (.reg [] (
 ⟨some 15, none, .faddr 0, [.t 6]⟩ ::
 ⟨some 16, none, .load false 1, [.t 15]⟩ ::
 ⟨some 17, none, .mov, [.k (.d (.int .i64 0))]⟩ ::
 []) [1, 2, 4, 6, 9, 10, 11, 16, 17])
 (.block 2
 (.loop [] [1, 2, 4, 6, 9, 10, 11, 16, 17] [2, 4, 6, 900000, 900001, 901000, 901001]
 (.seq (.reg [] (
 ⟨some 18, none, .bin .lss, [.t 17, .t 16]⟩ ::
 []) [1, 2, 4, 6, 9, 10, 11, 16, 17, 18])
 (.seq (.cond (.t 18)
 (.skip)
 (.exit 2))
 (.seq (.block 3
 (.seq (.seq (.reg [] (
 ⟨some 19, none, .faddr 0, [.t 2]⟩ ::
 ⟨some 20, none, .faddr 0, [.t 19]⟩ ::
 ⟨some 21, none, .load false 1, [.t 20]⟩ ::
 ⟨some 22, none, .mov, [.k (.d (.int .i64 0))]⟩ ::
 []) [1, 2, 4, 6, 9, 10, 11, 16, 17, 21, 22])
 (.block 4
 (.loop [] [1, 2, 4, 6, 9, 10, 11, 16, 17, 21, 22] [2, 4, 6, 900000, 900001, 901000, 901001]
 (.seq (.reg [] (
 ⟨some 23, none, .bin .lss, [.t 22, .t 21]⟩ ::
 []) [1, 2, 4, 6, 9, 10, 11, 16, 17, 21, 22, 23])
 (.seq (.cond (.t 23)
 (.skip)
 (.exit 4))
 (.seq (.block 5
 (.seq (.reg [] (
 ⟨some 24, none, .mov, [.t 22]⟩ ::
 ⟨some 25, none, .faddr 1, [.t 4]⟩ ::
 ⟨none, none, .store 1, [.t 25, .t 24]⟩ ::
 []) [1, 2, 4, 6, 9, 10, 11, 16, 17, 21, 22])
 (.seq (.reg [] (
 ⟨some 26, none, .faddr 1, [.t 6]⟩ ::
 ⟨some 27, none, .load false 1, [.t 26]⟩ ::
 ⟨some 28, none, .faddr 2, [.t 4]⟩ ::
 ⟨none, none, .store 1, [.t 28, .t 27]⟩ ::
 []) [1, 2, 4, 6, 9, 10, 11, 16, 17, 21, 22])
 (.seq (.seq (.yld [] (
 ⟨some 29, none, .mov, [.t 1]⟩ ::
 ⟨some 30, none, .load true 5, [.t 4]⟩ ::
 []) (some 31) (.t 29) [.t 30] (
 ⟨some 32, none, .un .not, [.t 31]⟩ ::
 []) [1, 2, 4, 6, 9, 10, 11, 16, 17, 21, 22, 32])
 (.cond (.t 32)
 (.ret)
 (.skip)))
 (.seq (.reg [] (
 ⟨some 33, none, .faddr 3, [.t 4]⟩ ::
 ⟨some 34, none, .load false 1, [.t 33]⟩ ::
 ⟨some 35, none, .faddr 1, [.t 6]⟩ ::
 ⟨some 36, none, .load false 1, [.t 35]⟩ ::
 ⟨some 37, none, .bin .add, [.t 34, .t 36]⟩ ::
 ⟨some 38, none, .faddr 3, [.t 4]⟩ ::
 ⟨none, none, .store 1, [.t 38, .t 37]⟩ ::
 []) [1, 2, 4, 6, 9, 10, 11, 16, 17, 21, 22])
 (.draw [] (
 (⟨some 39, none, .faddr 4, [.t 4]⟩, []) ::
 (⟨some 40, none, .load false 1, [.t 39]⟩, []) ::
 (⟨some 41, none, .load true 9, [.t 2]⟩, []) ::
 (⟨some 42, none, .faddr 1, [.t 4]⟩, []) ::
 (⟨some 43, none, .load false 1, [.t 42]⟩, []) ::
 (⟨some 44, none, .faddr 0, [.t 2]⟩, []) ::
 (⟨some 45, none, .faddr 0, [.t 44]⟩, []) ::
 (⟨some 46, none, .load false 1, [.t 45]⟩, []) ::
 (⟨some 47, none, .bin .sub, [.t 46, .k (.d (.int .i64 1))]⟩, []) ::
 (⟨some 48, none, .bin .eql, [.t 43, .t 47]⟩, []) ::
 (⟨some 49, none, .call 85, [.t 41, .t 48]⟩, [1]) ::
 (⟨some 50, none, .bin .add, [.t 40, .t 49]⟩, []) ::
 (⟨some 51, none, .faddr 0, [.t 2]⟩, []) ::
 (⟨some 52, none, .faddr 1, [.t 51]⟩, []) ::
 (⟨some 53, none, .load false 1, [.t 52]⟩, [10]) ::
 (⟨some 54, none, .bin .rem, [.t 50, .t 53]⟩, []) ::
 (⟨some 55, none, .faddr 4, [.t 4]⟩, []) ::
 (⟨none, none, .store 1, [.t 55, .t 54]⟩, []) ::
 []) [1, 2, 4, 6, 9, 10, 11, 16, 17, 21, 22]))))))
 (.reg [] (
 ⟨some 56, none, .bin .add, [.t 22, .k (.d (.int .i64 1))]⟩ ::
 ⟨some 22, none, .mov, [.t 56]⟩ ::
 []) [1, 2, 4, 6, 9, 10, 11, 16, 17, 21, 22])))))))
 (.reg [] (
 ⟨some 57, none, .faddr 0, [.t 4]⟩ ::
 ⟨some 58, none, .load false 1, [.t 57]⟩ ::
 ⟨some 59, none, .bin .add, [.t 58, .k (.d (.int .i64 1))]⟩ ::
 ⟨some 60, none, .faddr 0, [.t 4]⟩ ::
 ⟨none, none, .store 1, [.t 60, .t 59]⟩ ::
 []) [1, 2, 4, 6, 9, 10, 11, 16, 17])))
 (.reg [] (
 ⟨some 61, none, .bin .add, [.t 17, .k (.d (.int .i64 1))]⟩ ::
 ⟨some 17, none, .mov, [.t 61]⟩ ::
 []) [1, 2, 4, 6, 9, 10, 11, 16, 17])))))))))
 (.reg [] (
 ⟨some 62, none, .bin .add, [.t 11, .k (.d (.int .i64 1))]⟩ ::
 ⟨some 11, none, .mov, [.t 62]⟩ ::
 []) [1, 2, 4, 9, 10, 11]))))))))
theorem dec_zones_disk_tracks : Fun E0 F_zones_disk_tracks pc_zones_disk_tracks [] 63 := fun_of_dec (fl := [1000031, 1000049]) (by kernel_rfl)
theorem body_zones_disk_tracks : hasBody E0.P F_zones_disk_tracks = true := by kernel_rfl
abbrev F_zones_disk_run : Nat := 76
abbrev F_zones_disk_changes : Nat := 77
abbrev F_zones_disk_gap : Nat := 78
-- platter/platterlaw01.span (2)
abbrev F_law01_span : Nat := 79
def pc_law01_span : PC :=
 .seq (.reg [] (
 ⟨some 4, none, .zero [.int .i64 0, .int .i64 0], []⟩ ::
 []) [0, 1, 4])
 (.seq (.reg [] (
 ⟨some 5, none, .mov, [.t 0]⟩ ::
 ⟨some 6, none, .mov, [.t 1]⟩ ::
 ⟨some 7, none, .build [.int .i64 0, .int .i64 0] [(0, 1), (1, 1)], [.t 5, .t 6]⟩ ::
 ⟨none, none, .store 2, [.t 4, .t 7]⟩ ::
 []) [4])
 (.ret))
theorem dec_law01_span : Fun E0 F_law01_span pc_law01_span [.c 4 24 true 2] 8 := fun_of_dec (fl := []) (by kernel_rfl)
abbrev F_ref01_Switches : Nat := 80
abbrev F_ref01_SwitchOf : Nat := 81
abbrev F_ref01_Ticks : Nat := 82
-- platter/zones.Check$1 (1)
abbrev F_zones_Check_1 : Nat := 83
def pc_zones_Check_1 : PC :=
 .seq (.reg [] (
 ⟨some 1, none, .box, [.t 0]⟩ ::
 ⟨some 2, none, .mov, [.k (.d (.bool false))]⟩ ::
 []) [1])
 (.seq (.reg [] (
 ⟨some 3, none, .faddr 0, [.t 1]⟩ ::
 ⟨some 4, none, .load false 1, [.t 3]⟩ ::
 ⟨some 5, none, .bin .leq, [.k (.d (.int .i64 0)), .t 4]⟩ ::
 ⟨some 6, none, .mov, [.t 5]⟩ ::
 ⟨some 7, some (6, true), .faddr 0, [.t 1]⟩ ::
 ⟨some 8, some (6, true), .load false 1, [.t 7]⟩ ::
 ⟨some 9, some (6, true), .faddr 1, [.t 1]⟩ ::
 ⟨some 10, some (6, true), .load false 1, [.t 9]⟩ ::
 ⟨some 11, some (6, true), .bin .leq, [.t 8, .t 10]⟩ ::
 ⟨some 12, none, .pick, [.t 6, .t 11, .k (.d (.bool false))]⟩ ::
 ⟨some 13, none, .mov, [.t 12]⟩ ::
 ⟨some 14, some (13, true), .faddr 1, [.t 1]⟩ ::
 ⟨some 15, some (13, true), .load false 1, [.t 14]⟩ ::
 ⟨some 16, some (13, true), .bin .leq, [.t 15, .k (.d (.int .i64 2000))]⟩ ::
 ⟨some 17, none, .pick, [.t 13, .t 16, .k (.d (.bool false))]⟩ ::
 ⟨some 2, none, .mov, [.t 17]⟩ ::
 []) [2])
 (.ret))
theorem dec_zones_Check_1 : Fun E0 F_zones_Check_1 pc_zones_Check_1 [.t 2] 18 := fun_of_dec (fl := []) (by kernel_rfl)
-- platter/zones.in (3)
abbrev F_zones_in : Nat := 84
def pc_zones_in : PC :=
 .seq (.reg [] (
 ⟨some 6, none, .mov, [.k (.d (.bool false))]⟩ ::
 []) [0, 1, 2])
 (.seq (.reg [] (
 ⟨some 7, none, .mov, [.t 1]⟩ ::
 ⟨some 8, none, .mov, [.t 0]⟩ ::
 ⟨some 9, none, .bin .leq, [.t 7, .t 8]⟩ ::
 ⟨some 10, none, .mov, [.t 9]⟩ ::
 ⟨some 11, some (10, true), .mov, [.t 0]⟩ ::
 ⟨some 12, some (10, true), .mov, [.t 2]⟩ ::
 ⟨some 13, some (10, true), .bin .leq, [.t 11, .t 12]⟩ ::
 ⟨some 14, none, .pick, [.t 10, .t 13, .k (.d (.bool false))]⟩ ::
 ⟨some 6, none, .mov, [.t 14]⟩ ::
 []) [6])
 (.ret))
theorem dec_zones_in : Fun E0 F_zones_in pc_zones_in [.t 6] 15 := fun_of_dec (fl := []) (by kernel_rfl)
-- (platter/zones.disk).skew (2)
abbrev F_zones_disk_skew : Nat := 85
def pc_zones_disk_skew : PC :=
 .seq (.reg [] (
 ⟨some 2, none, .box, [.t 0]⟩ ::
 ⟨some 4, none, .mov, [.k (.d (.int .i64 0))]⟩ ::
 []) [1, 2])
 (.seq (.seq (.reg [] (
 ⟨some 5, none, .mov, [.t 1]⟩ ::
 []) [2, 5])
 (.cond (.t 5)
 (.seq (.reg [] (
 ⟨some 6, none, .faddr 0, [.t 2]⟩ ::
 ⟨some 7, none, .faddr 4, [.t 6]⟩ ::
 ⟨some 8, none, .load false 1, [.t 7]⟩ ::
 ⟨some 4, none, .mov, [.t 8]⟩ ::
 []) [4])
 (.ret))
 (.skip)))
 (.seq (.reg [] (
 ⟨some 9, none, .faddr 0, [.t 2]⟩ ::
 ⟨some 10, none, .faddr 3, [.t 9]⟩ ::
 ⟨some 11, none, .load false 1, [.t 10]⟩ ::
 ⟨some 4, none, .mov, [.t 11]⟩ ::
 []) [4])
 (.ret)))
theorem dec_zones_disk_skew : Fun E0 F_zones_disk_skew pc_zones_disk_skew [.t 4] 12 := fun_of_dec (fl := []) (by kernel_rfl)
abbrev F_ref01_Places : Nat := 86
abbrev F_ref01_Sectors : Nat := 87
abbrev F_ref01_Gap : Nat := 88
-- platter/platterref01.Cylinders (1)
abbrev F_ref01_Cylinders : Nat := 89
def pc_ref01_Cylinders : PC :=
 .seq (.reg [] (
 ⟨some 1, none, .box, [.t 0]⟩ ::
 ⟨some 2, none, .mov, [.k (.d (.int .i64 0))]⟩ ::
 []) [1])
 (.seq (.reg [] (
 ⟨some 3, none, .mov, [.k (.d (.int .i64 0))]⟩ ::
 []) [1, 3])
 (.seq (.seq (.reg [] (
 ⟨some 4, none, .mov, [.k (.d (.int .i64 0))]⟩ ::
 []) [1, 3, 4])
 (.block 0
 (.loop [] [1, 3, 4] [1, 900000, 901000]
 (.seq (.seq (.reg [] (
 ⟨some 5, none, .mov, [.t 4]⟩ ::
 ⟨some 6, none, .faddr 2, [.t 1]⟩ ::
 ⟨some 7, none, .load false 1, [.t 6]⟩ ::
 ⟨some 8, none, .len false, [.t 7]⟩ ::
 ⟨some 9, none, .bin .lss, [.t 5, .t 8]⟩ ::
 []) [1, 3, 4, 9])
 (.cond (.t 9)
 (.skip)
 (.exit 0)))
 (.seq (.block 1
 (.reg [] (
 ⟨some 12, none, .mov, [.t 3]⟩ ::
 ⟨some 13, none, .faddr 2, [.t 1]⟩ ::
 ⟨some 14, none, .load false 1, [.t 13]⟩ ::
 ⟨some 15, none, .mov, [.t 4]⟩ ::
 ⟨some 16, none, .iaddrS 2, [.t 14, .t 15]⟩ ::
 ⟨some 17, none, .faddr 0, [.t 16]⟩ ::
 ⟨some 18, none, .load false 1, [.t 17]⟩ ::
 ⟨some 19, none, .bin .add, [.t 12, .t 18]⟩ ::
 ⟨some 3, none, .mov, [.t 19]⟩ ::
 []) [1, 3, 4]))
 (.reg [] (
 ⟨some 10, none, .mov, [.t 4]⟩ ::
 ⟨some 11, none, .bin .add, [.t 10, .k (.d (.int .i64 1))]⟩ ::
 ⟨some 4, none, .mov, [.t 11]⟩ ::
 []) [1, 3, 4]))))))
 (.seq (.reg [] (
 ⟨some 20, none, .mov, [.t 3]⟩ ::
 ⟨some 2, none, .mov, [.t 20]⟩ ::
 []) [2])
 (.ret))))
theorem dec_ref01_Cylinders : Fun E0 F_ref01_Cylinders pc_ref01_Cylinders [.t 2] 21 := fun_of_dec (fl := []) (by kernel_rfl)
abbrev F_ref01_ZoneOf : Nat := 90
abbrev F_ref01_After : Nat := 91
abbrev F_gosem_cut_vars : Nat := 112
end Go.Pw
