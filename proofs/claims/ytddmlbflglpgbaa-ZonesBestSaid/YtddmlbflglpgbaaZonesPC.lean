/- A part of the proof. -/
import Derived.Test.YtddmlbflglpgbaaPwVC
import Derived.Test.YtddmlbflglpgbaaProg
import Derived.KernelRfl
set_option linter.all false
open Go Go.Pw Go.Proofs
namespace Go.Pw
set_option maxRecDepth 100000
noncomputable def E0 : Env := ⟨Try.prog, fun _ => none⟩
theorem mixed : E0.P.follows .mixedOrders = true := by kernel_rfl
abbrev T_int : Nat := 3
abbrev F_gosem_cut_init : Nat := 2
-- platter/platterlaw01.ZonesSkews (2)
abbrev F_law01_ZonesSkews : Nat := 3
def pc_law01_ZonesSkews : PC :=
 .seq (.reg [] (
 ⟨some 2, none, .box, [.t 0]⟩ ::
 ⟨some 4, none, .mov, [.k (.d (.bool false))]⟩ ::
 []) [1, 2])
 (.seq (.seq (.reg [] (
 ⟨some 13, none, .load true 9, [.t 2]⟩ ::
 ⟨some 14, none, .call 13, [.t 13]⟩ ::
 []) [1, 2, 14])
 (.cond (.t 14)
 (.seq (.reg [] (
 ⟨some 15, none, .call 14, []⟩ ::
 ⟨some 4, none, .mov, [.t 15]⟩ ::
 []) [4])
 (.ret))
 (.skip)))
 (.seq (.reg [] (
 ⟨some 17, none, .load true 9, [.t 2]⟩ ::
 ⟨some 18, none, .call 16, [.t 17]⟩ ::
 ⟨some 19, none, .mov, [.t 1]⟩ ::
 ⟨some 20, none, .call 15, [.t 18, .t 19]⟩ ::
 ⟨some 16, none, .mov, [.t 20]⟩ ::
 ⟨some 21, none, .extract 0, [.t 16]⟩ ::
 ⟨some 22, none, .extract 1, [.t 16]⟩ ::
 ⟨some 23, none, .extract 2, [.t 16]⟩ ::
 ⟨some 24, none, .extract 3, [.t 16]⟩ ::
 ⟨some 5, none, .mov, [.t 21]⟩ ::
 ⟨some 6, none, .mov, [.t 22]⟩ ::
 ⟨some 7, none, .mov, [.t 23]⟩ ::
 ⟨some 8, none, .mov, [.t 24]⟩ ::
 []) [1, 2, 5, 6, 7, 8])
 (.seq (.reg [] (
 ⟨some 26, none, .load true 9, [.t 2]⟩ ::
 ⟨some 27, none, .mov, [.t 1]⟩ ::
 ⟨some 28, none, .call 17, [.t 26, .t 27]⟩ ::
 ⟨some 25, none, .mov, [.t 28]⟩ ::
 ⟨some 29, none, .extract 0, [.t 25]⟩ ::
 ⟨some 30, none, .extract 1, [.t 25]⟩ ::
 ⟨some 31, none, .extract 2, [.t 25]⟩ ::
 ⟨some 32, none, .extract 3, [.t 25]⟩ ::
 ⟨some 9, none, .mov, [.t 29]⟩ ::
 ⟨some 10, none, .mov, [.t 30]⟩ ::
 ⟨some 11, none, .mov, [.t 31]⟩ ::
 ⟨some 12, none, .mov, [.t 32]⟩ ::
 []) [5, 6, 7, 8, 9, 10, 11, 12])
 (.seq (.reg [] (
 ⟨some 33, none, .mov, [.t 5]⟩ ::
 ⟨some 34, none, .mov, [.t 9]⟩ ::
 ⟨some 35, none, .bin .eql, [.t 33, .t 34]⟩ ::
 ⟨some 36, none, .mov, [.t 35]⟩ ::
 ⟨some 37, some (36, true), .mov, [.t 6]⟩ ::
 ⟨some 38, some (36, true), .mov, [.t 10]⟩ ::
 ⟨some 39, some (36, true), .bin .eql, [.t 37, .t 38]⟩ ::
 ⟨some 40, none, .pick, [.t 36, .t 39, .k (.d (.bool false))]⟩ ::
 ⟨some 41, none, .mov, [.t 40]⟩ ::
 ⟨some 42, some (41, true), .mov, [.t 7]⟩ ::
 ⟨some 43, some (41, true), .mov, [.t 11]⟩ ::
 ⟨some 44, some (41, true), .bin .eql, [.t 42, .t 43]⟩ ::
 ⟨some 45, none, .pick, [.t 41, .t 44, .k (.d (.bool false))]⟩ ::
 ⟨some 46, none, .mov, [.t 45]⟩ ::
 ⟨some 47, some (46, true), .mov, [.t 8]⟩ ::
 ⟨some 48, some (46, true), .mov, [.t 12]⟩ ::
 ⟨some 49, some (46, true), .bin .eql, [.t 47, .t 48]⟩ ::
 ⟨some 50, none, .pick, [.t 46, .t 49, .k (.d (.bool false))]⟩ ::
 ⟨some 51, none, .mov, [.t 50]⟩ ::
 ⟨some 52, some (51, true), .call 14, []⟩ ::
 ⟨some 53, none, .pick, [.t 51, .t 52, .k (.d (.bool false))]⟩ ::
 ⟨some 4, none, .mov, [.t 53]⟩ ::
 []) [4])
 (.ret)))))
theorem dec_law01_ZonesSkews : Fun E0 F_law01_ZonesSkews pc_law01_ZonesSkews [.t 4] 54 := fun_of_dec (fl := []) (by kernel_rfl)
-- platter/platterlaw01.ZonesTrue (2)
abbrev F_law01_ZonesTrue : Nat := 4
def pc_law01_ZonesTrue : PC :=
 .seq (.reg [] (
 ⟨some 2, none, .box, [.t 0]⟩ ::
 ⟨some 3, none, .box, [.t 1]⟩ ::
 ⟨some 4, none, .mov, [.k (.d (.bool false))]⟩ ::
 []) [2, 3])
 (.seq (.seq (.reg [] (
 ⟨some 15, none, .load true 9, [.t 2]⟩ ::
 ⟨some 16, none, .call 18, [.t 15]⟩ ::
 ⟨some 17, none, .un .not, [.t 16]⟩ ::
 ⟨some 18, none, .mov, [.t 17]⟩ ::
 ⟨some 19, some (18, false), .load true 9, [.t 2]⟩ ::
 ⟨some 20, some (18, false), .faddr 0, [.t 3]⟩ ::
 ⟨some 21, some (18, false), .load false 1, [.t 20]⟩ ::
 ⟨some 22, some (18, false), .faddr 1, [.t 3]⟩ ::
 ⟨some 23, some (18, false), .load false 1, [.t 22]⟩ ::
 ⟨some 24, some (18, false), .call 19, [.t 19, .t 21, .t 23]⟩ ::
 ⟨some 25, some (18, false), .un .not, [.t 24]⟩ ::
 ⟨some 26, none, .pick, [.t 18, .k (.d (.bool true)), .t 25]⟩ ::
 ⟨some 27, none, .mov, [.t 26]⟩ ::
 ⟨some 28, some (27, false), .faddr 2, [.t 3]⟩ ::
 ⟨some 29, some (27, false), .load false 1, [.t 28]⟩ ::
 ⟨some 30, some (27, false), .len false, [.t 29]⟩ ::
 ⟨some 31, some (27, false), .bin .gtr, [.t 30, .k (.d (.int .i64 300))]⟩ ::
 ⟨some 32, none, .pick, [.t 27, .k (.d (.bool true)), .t 31]⟩ ::
 []) [2, 3, 32])
 (.cond (.t 32)
 (.seq (.reg [] (
 ⟨some 33, none, .call 14, []⟩ ::
 ⟨some 4, none, .mov, [.t 33]⟩ ::
 []) [4])
 (.ret))
 (.skip)))
 (.seq (.reg [] (
 ⟨some 35, none, .load true 9, [.t 2]⟩ ::
 ⟨some 36, none, .faddr 0, [.t 3]⟩ ::
 ⟨some 37, none, .load false 1, [.t 36]⟩ ::
 ⟨some 38, none, .faddr 1, [.t 3]⟩ ::
 ⟨some 39, none, .load false 1, [.t 38]⟩ ::
 ⟨some 40, none, .call 20, [.t 35, .t 37, .t 39]⟩ ::
 ⟨some 34, none, .mov, [.t 40]⟩ ::
 ⟨some 41, none, .extract 0, [.t 34]⟩ ::
 ⟨some 42, none, .extract 1, [.t 34]⟩ ::
 ⟨some 5, none, .zero [.int .i64 0, .int .i64 0], []⟩ ::
 ⟨none, none, .store 2, [.t 5, .t 41]⟩ ::
 ⟨some 6, none, .mov, [.t 42]⟩ ::
 []) [2, 3, 5, 6])
 (.seq (.seq (.reg [] (
 ⟨some 43, none, .mov, [.t 6]⟩ ::
 ⟨some 44, none, .bin .neq, [.t 43, .k (.d (.int .i64 0))]⟩ ::
 []) [2, 3, 5, 44])
 (.cond (.t 44)
 (.seq (.reg [] (
 ⟨some 4, none, .mov, [.k (.d (.bool false))]⟩ ::
 []) [4])
 (.ret))
 (.skip)))
 (.seq (.reg [] (
 ⟨some 45, none, .load true 9, [.t 2]⟩ ::
 ⟨some 46, none, .faddr 0, [.t 3]⟩ ::
 ⟨some 47, none, .load false 1, [.t 46]⟩ ::
 ⟨some 48, none, .faddr 1, [.t 3]⟩ ::
 ⟨some 49, none, .load false 1, [.t 48]⟩ ::
 ⟨some 50, none, .call 21, [.t 45, .t 47, .t 49]⟩ ::
 ⟨some 7, none, .mov, [.t 50]⟩ ::
 []) [2, 3, 5, 7])
 (.seq (.reg [] (
 ⟨some 8, none, .mov, [.k (.d (.list true []))]⟩ ::
 ⟨some 9, none, .mov, [.k (.d (.list true []))]⟩ ::
 []) [2, 3, 5, 7, 8, 9])
 (.seq (.reg [] (
 ⟨some 51, none, .faddr 2, [.t 3]⟩ ::
 ⟨some 52, none, .load false 1, [.t 51]⟩ ::
 ⟨some 53, none, .len false, [.t 52]⟩ ::
 ⟨some 54, none, .mov, [.t 7]⟩ ::
 ⟨some 55, none, .len false, [.t 54]⟩ ::
 ⟨some 56, none, .bin .eql, [.t 53, .t 55]⟩ ::
 ⟨some 10, none, .mov, [.t 56]⟩ ::
 []) [2, 3, 5, 7, 8, 9, 10])
 (.seq (.seq (.reg [] (
 ⟨some 11, none, .mov, [.k (.d (.int .i64 0))]⟩ ::
 []) [2, 3, 5, 7, 8, 9, 10, 11])
 (.block 0
 (.loop [.own 8 76 3 1, .own 9 81 3 1] [2, 3, 5, 7, 8, 9, 10, 11] [2, 3, 5, 40, 50, 76, 81, 10040, 10050, 900000, 900001, 901000, 901001]
 (.seq (.seq (.reg [] (
 ⟨some 57, none, .mov, [.t 11]⟩ ::
 ⟨some 58, none, .mov, [.t 7]⟩ ::
 ⟨some 59, none, .len false, [.t 58]⟩ ::
 ⟨some 60, none, .bin .lss, [.t 57, .t 59]⟩ ::
 []) [2, 3, 5, 7, 8, 9, 10, 11, 60])
 (.cond (.t 60)
 (.skip)
 (.exit 0)))
 (.seq (.block 1
 (.seq (.draw [] (
 (⟨some 64, none, .load true 9, [.t 2]⟩, []) ::
 (⟨some 65, none, .mov, [.t 7]⟩, []) ::
 (⟨some 66, none, .mov, [.t 11]⟩, []) ::
 (⟨some 67, none, .iaddrS 1, [.t 65, .t 66]⟩, []) ::
 (⟨some 68, none, .load false 1, [.t 67]⟩, []) ::
 (⟨some 69, none, .call 22, [.t 64, .t 68]⟩, []) ::
 (⟨some 63, none, .mov, [.t 69]⟩, []) ::
 (⟨some 70, none, .extract 0, [.t 63]⟩, []) ::
 (⟨some 71, none, .extract 1, [.t 63]⟩, []) ::
 (⟨some 12, none, .zero [.int .i64 0, .int .i64 0], []⟩, [0, 3, 4, 5]) ::
 (⟨none, none, .store 2, [.t 12, .t 70]⟩, []) ::
 (⟨some 13, none, .mov, [.t 71]⟩, []) ::
 []) [2, 3, 5, 7, 8, 9, 10, 11, 12])
 (.seq (.draw [] (
 (⟨some 72, none, .mov, [.t 8]⟩, []) ::
 (⟨some 73, none, .faddr 0, [.t 12]⟩, []) ::
 (⟨some 74, none, .load false 1, [.t 73]⟩, []) ::
 (⟨some 75, none, .mkrow 1 (.int .i64 0) 1 [0], [.t 74]⟩, []) ::
 (⟨some 76, none, .app 3 1 none true, [.t 72, .t 75]⟩, []) ::
 (⟨some 77, none, .mov, [.t 9]⟩, []) ::
 (⟨some 78, none, .faddr 1, [.t 12]⟩, []) ::
 (⟨some 79, none, .load false 1, [.t 78]⟩, [4]) ::
 (⟨some 80, none, .mkrow 1 (.int .i64 0) 1 [0], [.t 79]⟩, []) ::
 (⟨some 81, none, .app 3 1 none true, [.t 77, .t 80]⟩, []) ::
 (⟨some 8, none, .mov, [.t 76]⟩, []) ::
 (⟨some 9, none, .mov, [.t 81]⟩, []) ::
 []) [2, 3, 5, 7, 8, 9, 10, 11, 12])
 (.draw [] (
 (⟨some 82, none, .mov, [.t 10]⟩, []) ::
 (⟨some 83, none, .mov, [.t 82]⟩, []) ::
 (⟨some 84, some (83, true), .mov, [.t 7]⟩, []) ::
 (⟨some 85, some (83, true), .mov, [.t 11]⟩, []) ::
 (⟨some 86, some (83, true), .iaddrS 1, [.t 84, .t 85]⟩, []) ::
 (⟨some 87, some (83, true), .load false 1, [.t 86]⟩, []) ::
 (⟨some 88, some (83, true), .bin .eql, [.t 87, .k (.d (.int .i64 0))]⟩, []) ::
 (⟨some 89, some (83, true), .mov, [.t 88]⟩, []) ::
 (⟨some 90, some (89, false), .faddr 2, [.t 3]⟩, []) ::
 (⟨some 91, some (89, false), .load false 1, [.t 90]⟩, []) ::
 (⟨some 92, some (89, false), .mov, [.t 11]⟩, []) ::
 (⟨some 93, some (89, false), .iaddrS 1, [.t 91, .t 92]⟩, []) ::
 (⟨some 94, some (89, false), .load false 1, [.t 93]⟩, []) ::
 (⟨some 95, some (89, false), .faddr 0, [.t 12]⟩, []) ::
 (⟨some 96, some (89, false), .load false 1, [.t 95]⟩, []) ::
 (⟨some 97, some (89, false), .bin .geq, [.t 94, .t 96]⟩, []) ::
 (⟨some 98, some (89, false), .mov, [.t 97]⟩, []) ::
 (⟨some 99, some (98, true), .faddr 2, [.t 3]⟩, []) ::
 (⟨some 100, some (98, true), .load false 1, [.t 99]⟩, []) ::
 (⟨some 101, some (98, true), .mov, [.t 11]⟩, []) ::
 (⟨some 102, some (98, true), .iaddrS 1, [.t 100, .t 101]⟩, []) ::
 (⟨some 103, some (98, true), .load false 1, [.t 102]⟩, []) ::
 (⟨some 104, some (98, true), .faddr 1, [.t 12]⟩, []) ::
 (⟨some 105, some (98, true), .load false 1, [.t 104]⟩, []) ::
 (⟨some 106, some (98, true), .bin .leq, [.t 103, .t 105]⟩, []) ::
 (⟨some 107, some (89, false), .pick, [.t 98, .t 106, .k (.d (.bool false))]⟩, []) ::
 (⟨some 108, some (83, true), .pick, [.t 89, .k (.d (.bool true)), .t 107]⟩, []) ::
 (⟨some 109, none, .pick, [.t 83, .t 108, .k (.d (.bool false))]⟩, []) ::
 (⟨some 10, none, .mov, [.t 109]⟩, []) ::
 []) [2, 3, 5, 7, 8, 9, 10, 11]))))
 (.reg [] (
 ⟨some 61, none, .mov, [.t 11]⟩ ::
 ⟨some 62, none, .bin .add, [.t 61, .k (.d (.int .i64 1))]⟩ ::
 ⟨some 11, none, .mov, [.t 62]⟩ ::
 []) [2, 3, 5, 7, 8, 9, 10, 11]))))))
 (.seq (.seq (.draw [.freeze 8, .freeze 9] (
 (⟨some 110, none, .load true 9, [.t 2]⟩, []) ::
 (⟨some 111, none, .faddr 0, [.t 3]⟩, []) ::
 (⟨some 112, none, .load false 1, [.t 111]⟩, []) ::
 (⟨some 113, none, .faddr 1, [.t 3]⟩, []) ::
 (⟨some 114, none, .load false 1, [.t 113]⟩, []) ::
 (⟨some 115, none, .mov, [.t 8]⟩, []) ::
 (⟨some 116, none, .call 23, [.t 110, .t 112, .t 114, .t 115]⟩, []) ::
 (⟨some 117, none, .faddr 0, [.t 5]⟩, []) ::
 (⟨some 118, none, .load false 1, [.t 117]⟩, [6]) ::
 (⟨some 119, none, .bin .neq, [.t 116, .t 118]⟩, []) ::
 (⟨some 120, none, .mov, [.t 119]⟩, []) ::
 (⟨some 121, some (120, false), .load true 9, [.t 2]⟩, []) ::
 (⟨some 122, some (120, false), .faddr 0, [.t 3]⟩, []) ::
 (⟨some 123, some (120, false), .load false 1, [.t 122]⟩, []) ::
 (⟨some 124, some (120, false), .faddr 1, [.t 3]⟩, []) ::
 (⟨some 125, some (120, false), .load false 1, [.t 124]⟩, []) ::
 (⟨some 126, some (120, false), .mov, [.t 9]⟩, []) ::
 (⟨some 127, some (120, false), .call 23, [.t 121, .t 123, .t 125, .t 126]⟩, []) ::
 (⟨some 128, some (120, false), .faddr 1, [.t 5]⟩, []) ::
 (⟨some 129, some (120, false), .load false 1, [.t 128]⟩, [17]) ::
 (⟨some 130, some (120, false), .bin .neq, [.t 127, .t 129]⟩, []) ::
 (⟨some 131, none, .pick, [.t 120, .k (.d (.bool true)), .t 130]⟩, []) ::
 []) [2, 3, 5, 10, 131])
 (.cond (.t 131)
 (.seq (.reg [] (
 ⟨some 4, none, .mov, [.k (.d (.bool false))]⟩ ::
 []) [4])
 (.ret))
 (.skip)))
 (.seq (.seq (.reg [] (
 ⟨some 132, none, .mov, [.t 10]⟩ ::
 ⟨some 133, none, .un .not, [.t 132]⟩ ::
 []) [2, 3, 5, 133])
 (.cond (.t 133)
 (.seq (.reg [] (
 ⟨some 134, none, .call 14, []⟩ ::
 ⟨some 4, none, .mov, [.t 134]⟩ ::
 []) [4])
 (.ret))
 (.skip)))
 (.seq (.reg [] (
 ⟨some 135, none, .load true 9, [.t 2]⟩ ::
 ⟨some 136, none, .faddr 0, [.t 3]⟩ ::
 ⟨some 137, none, .load false 1, [.t 136]⟩ ::
 ⟨some 138, none, .faddr 1, [.t 3]⟩ ::
 ⟨some 139, none, .load false 1, [.t 138]⟩ ::
 ⟨some 140, none, .faddr 2, [.t 3]⟩ ::
 ⟨some 141, none, .load false 1, [.t 140]⟩ ::
 ⟨some 142, none, .call 23, [.t 135, .t 137, .t 139, .t 141]⟩ ::
 ⟨some 14, none, .mov, [.t 142]⟩ ::
 []) [5, 14])
 (.seq (.reg [] (
 ⟨some 143, none, .mov, [.t 14]⟩ ::
 ⟨some 144, none, .faddr 0, [.t 5]⟩ ::
 ⟨some 145, none, .load false 1, [.t 144]⟩ ::
 ⟨some 146, none, .bin .geq, [.t 143, .t 145]⟩ ::
 ⟨some 147, none, .mov, [.t 146]⟩ ::
 ⟨some 148, some (147, true), .mov, [.t 14]⟩ ::
 ⟨some 149, some (147, true), .faddr 1, [.t 5]⟩ ::
 ⟨some 150, some (147, true), .load false 1, [.t 149]⟩ ::
 ⟨some 151, some (147, true), .bin .leq, [.t 148, .t 150]⟩ ::
 ⟨some 152, none, .pick, [.t 147, .t 151, .k (.d (.bool false))]⟩ ::
 ⟨some 153, none, .mov, [.t 152]⟩ ::
 ⟨some 154, some (153, true), .call 14, []⟩ ::
 ⟨some 155, none, .pick, [.t 153, .t 154, .k (.d (.bool false))]⟩ ::
 ⟨some 4, none, .mov, [.t 155]⟩ ::
 []) [4])
 (.ret))))))))))))
theorem dec_law01_ZonesTrue : Fun E0 F_law01_ZonesTrue pc_law01_ZonesTrue [.t 4] 156 := fun_of_dec (fl := [76, 81]) (by kernel_rfl)
-- platter/platterlaw01.ZonesParts (2)
abbrev F_law01_ZonesParts : Nat := 5
def pc_law01_ZonesParts : PC :=
 .seq (.reg [] (
 ⟨some 2, none, .box, [.t 0]⟩ ::
 ⟨some 3, none, .box, [.t 1]⟩ ::
 ⟨some 4, none, .mov, [.k (.d (.bool false))]⟩ ::
 []) [2, 3])
 (.seq (.seq (.reg [] (
 ⟨some 19, none, .load true 9, [.t 2]⟩ ::
 ⟨some 20, none, .call 18, [.t 19]⟩ ::
 ⟨some 21, none, .un .not, [.t 20]⟩ ::
 ⟨some 22, none, .mov, [.t 21]⟩ ::
 ⟨some 23, some (22, false), .load true 9, [.t 2]⟩ ::
 ⟨some 24, some (22, false), .faddr 0, [.t 3]⟩ ::
 ⟨some 25, some (22, false), .load false 1, [.t 24]⟩ ::
 ⟨some 26, some (22, false), .faddr 1, [.t 3]⟩ ::
 ⟨some 27, some (22, false), .load false 1, [.t 26]⟩ ::
 ⟨some 28, some (22, false), .call 19, [.t 23, .t 25, .t 27]⟩ ::
 ⟨some 29, some (22, false), .un .not, [.t 28]⟩ ::
 ⟨some 30, none, .pick, [.t 22, .k (.d (.bool true)), .t 29]⟩ ::
 ⟨some 31, none, .mov, [.t 30]⟩ ::
 ⟨some 32, some (31, false), .faddr 2, [.t 3]⟩ ::
 ⟨some 33, some (31, false), .load false 1, [.t 32]⟩ ::
 ⟨some 34, some (31, false), .bin .lss, [.t 33, .k (.d (.int .i64 1))]⟩ ::
 ⟨some 35, none, .pick, [.t 31, .k (.d (.bool true)), .t 34]⟩ ::
 ⟨some 36, none, .mov, [.t 35]⟩ ::
 ⟨some 37, some (36, false), .faddr 2, [.t 3]⟩ ::
 ⟨some 38, some (36, false), .load false 1, [.t 37]⟩ ::
 ⟨some 39, some (36, false), .faddr 1, [.t 3]⟩ ::
 ⟨some 40, some (36, false), .load false 1, [.t 39]⟩ ::
 ⟨some 41, some (36, false), .bin .geq, [.t 38, .t 40]⟩ ::
 ⟨some 42, none, .pick, [.t 36, .k (.d (.bool true)), .t 41]⟩ ::
 ⟨some 43, none, .mov, [.t 42]⟩ ::
 ⟨some 44, some (43, false), .faddr 3, [.t 3]⟩ ::
 ⟨some 45, some (43, false), .load false 1, [.t 44]⟩ ::
 ⟨some 46, some (43, false), .bin .lss, [.t 45, .k (.d (.int .i64 0))]⟩ ::
 ⟨some 47, none, .pick, [.t 43, .k (.d (.bool true)), .t 46]⟩ ::
 ⟨some 48, none, .mov, [.t 47]⟩ ::
 ⟨some 49, some (48, false), .faddr 3, [.t 3]⟩ ::
 ⟨some 50, some (48, false), .load false 1, [.t 49]⟩ ::
 ⟨some 51, some (48, false), .bin .gtr, [.t 50, .k (.d (.int .i64 2000))]⟩ ::
 ⟨some 52, none, .pick, [.t 48, .k (.d (.bool true)), .t 51]⟩ ::
 ⟨some 53, none, .mov, [.t 52]⟩ ::
 ⟨some 54, some (53, false), .faddr 4, [.t 3]⟩ ::
 ⟨some 55, some (53, false), .load false 1, [.t 54]⟩ ::
 ⟨some 56, some (53, false), .bin .lss, [.t 55, .k (.d (.int .i64 0))]⟩ ::
 ⟨some 57, none, .pick, [.t 53, .k (.d (.bool true)), .t 56]⟩ ::
 ⟨some 58, none, .mov, [.t 57]⟩ ::
 ⟨some 59, some (58, false), .faddr 4, [.t 3]⟩ ::
 ⟨some 60, some (58, false), .load false 1, [.t 59]⟩ ::
 ⟨some 61, some (58, false), .bin .gtr, [.t 60, .k (.d (.int .i64 2000))]⟩ ::
 ⟨some 62, none, .pick, [.t 58, .k (.d (.bool true)), .t 61]⟩ ::
 []) [2, 3, 62])
 (.cond (.t 62)
 (.seq (.reg [] (
 ⟨some 63, none, .call 14, []⟩ ::
 ⟨some 4, none, .mov, [.t 63]⟩ ::
 []) [4])
 (.ret))
 (.skip)))
 (.seq (.reg [] (
 ⟨some 65, none, .load true 9, [.t 2]⟩ ::
 ⟨some 66, none, .faddr 0, [.t 3]⟩ ::
 ⟨some 67, none, .load false 1, [.t 66]⟩ ::
 ⟨some 68, none, .faddr 2, [.t 3]⟩ ::
 ⟨some 69, none, .load false 1, [.t 68]⟩ ::
 ⟨some 70, none, .call 20, [.t 65, .t 67, .t 69]⟩ ::
 ⟨some 64, none, .mov, [.t 70]⟩ ::
 ⟨some 71, none, .extract 0, [.t 64]⟩ ::
 ⟨some 72, none, .extract 1, [.t 64]⟩ ::
 ⟨some 5, none, .zero [.int .i64 0, .int .i64 0], []⟩ ::
 ⟨none, none, .store 2, [.t 5, .t 71]⟩ ::
 ⟨some 6, none, .mov, [.t 72]⟩ ::
 []) [2, 3, 5, 6])
 (.seq (.reg [] (
 ⟨some 74, none, .load true 9, [.t 2]⟩ ::
 ⟨some 75, none, .faddr 0, [.t 3]⟩ ::
 ⟨some 76, none, .load false 1, [.t 75]⟩ ::
 ⟨some 77, none, .faddr 2, [.t 3]⟩ ::
 ⟨some 78, none, .load false 1, [.t 77]⟩ ::
 ⟨some 79, none, .bin .add, [.t 76, .t 78]⟩ ::
 ⟨some 80, none, .faddr 1, [.t 3]⟩ ::
 ⟨some 81, none, .load false 1, [.t 80]⟩ ::
 ⟨some 82, none, .faddr 2, [.t 3]⟩ ::
 ⟨some 83, none, .load false 1, [.t 82]⟩ ::
 ⟨some 84, none, .bin .sub, [.t 81, .t 83]⟩ ::
 ⟨some 85, none, .call 20, [.t 74, .t 79, .t 84]⟩ ::
 ⟨some 73, none, .mov, [.t 85]⟩ ::
 ⟨some 86, none, .extract 0, [.t 73]⟩ ::
 ⟨some 87, none, .extract 1, [.t 73]⟩ ::
 ⟨some 7, none, .zero [.int .i64 0, .int .i64 0], []⟩ ::
 ⟨none, none, .store 2, [.t 7, .t 86]⟩ ::
 ⟨some 8, none, .mov, [.t 87]⟩ ::
 []) [2, 3, 5, 6, 7, 8])
 (.seq (.reg [] (
 ⟨some 89, none, .load true 9, [.t 2]⟩ ::
 ⟨some 90, none, .faddr 0, [.t 3]⟩ ::
 ⟨some 91, none, .load false 1, [.t 90]⟩ ::
 ⟨some 92, none, .faddr 1, [.t 3]⟩ ::
 ⟨some 93, none, .load false 1, [.t 92]⟩ ::
 ⟨some 94, none, .call 20, [.t 89, .t 91, .t 93]⟩ ::
 ⟨some 88, none, .mov, [.t 94]⟩ ::
 ⟨some 95, none, .extract 0, [.t 88]⟩ ::
 ⟨some 96, none, .extract 1, [.t 88]⟩ ::
 ⟨some 9, none, .zero [.int .i64 0, .int .i64 0], []⟩ ::
 ⟨none, none, .store 2, [.t 9, .t 95]⟩ ::
 ⟨some 10, none, .mov, [.t 96]⟩ ::
 []) [2, 3, 5, 6, 7, 8, 9, 10])
 (.seq (.seq (.reg [] (
 ⟨some 97, none, .mov, [.t 6]⟩ ::
 ⟨some 98, none, .bin .neq, [.t 97, .k (.d (.int .i64 0))]⟩ ::
 ⟨some 99, none, .mov, [.t 98]⟩ ::
 ⟨some 100, some (99, false), .mov, [.t 8]⟩ ::
 ⟨some 101, some (99, false), .bin .neq, [.t 100, .k (.d (.int .i64 0))]⟩ ::
 ⟨some 102, none, .pick, [.t 99, .k (.d (.bool true)), .t 101]⟩ ::
 ⟨some 103, none, .mov, [.t 102]⟩ ::
 ⟨some 104, some (103, false), .mov, [.t 10]⟩ ::
 ⟨some 105, some (103, false), .bin .neq, [.t 104, .k (.d (.int .i64 0))]⟩ ::
 ⟨some 106, none, .pick, [.t 103, .k (.d (.bool true)), .t 105]⟩ ::
 []) [2, 3, 5, 7, 9, 106])
 (.cond (.t 106)
 (.seq (.reg [] (
 ⟨some 4, none, .mov, [.k (.d (.bool false))]⟩ ::
 []) [4])
 (.ret))
 (.skip)))
 (.seq (.reg [] (
 ⟨some 11, none, .mov, [.k (.d (.int .i64 0))]⟩ ::
 ⟨some 12, none, .mov, [.k (.d (.int .i64 0))]⟩ ::
 []) [2, 3, 5, 7, 9, 11, 12])
 (.seq (.seq (.draw [] (
 (⟨some 107, none, .load true 9, [.t 2]⟩, []) ::
 (⟨some 108, none, .faddr 0, [.t 3]⟩, []) ::
 (⟨some 109, none, .load false 1, [.t 108]⟩, []) ::
 (⟨some 110, none, .faddr 1, [.t 3]⟩, []) ::
 (⟨some 111, none, .load false 1, [.t 110]⟩, []) ::
 (⟨some 112, none, .call 21, [.t 107, .t 109, .t 111]⟩, []) ::
 (⟨some 113, none, .faddr 2, [.t 3]⟩, []) ::
 (⟨some 114, none, .load false 1, [.t 113]⟩, [5]) ::
 (⟨some 115, none, .bin .sub, [.t 114, .k (.d (.int .i64 1))]⟩, []) ::
 (⟨some 116, none, .iaddrS 1, [.t 112, .t 115]⟩, []) ::
 (⟨some 117, none, .load false 1, [.t 116]⟩, []) ::
 (⟨some 13, none, .mov, [.t 117]⟩, []) ::
 []) [2, 3, 5, 7, 9, 11, 12, 13])
 (.seq (.reg [] (
 ⟨some 118, none, .mov, [.t 13]⟩ ::
 ⟨some 119, none, .bin .gtr, [.t 118, .k (.d (.int .i64 0))]⟩ ::
 []) [2, 3, 5, 7, 9, 11, 12, 13, 119])
 (.cond (.t 119)
 (.seq (.reg [] (
 ⟨some 121, none, .load true 9, [.t 2]⟩ ::
 ⟨some 122, none, .mov, [.t 13]⟩ ::
 ⟨some 123, none, .call 22, [.t 121, .t 122]⟩ ::
 ⟨some 120, none, .mov, [.t 123]⟩ ::
 ⟨some 124, none, .extract 0, [.t 120]⟩ ::
 ⟨some 125, none, .extract 1, [.t 120]⟩ ::
 ⟨some 14, none, .zero [.int .i64 0, .int .i64 0], []⟩ ::
 ⟨none, none, .store 2, [.t 14, .t 124]⟩ ::
 ⟨some 15, none, .mov, [.t 125]⟩ ::
 []) [2, 3, 5, 7, 9, 13, 14])
 (.draw [] (
 (⟨some 126, none, .load true 9, [.t 2]⟩, []) ::
 (⟨some 127, none, .mov, [.t 13]⟩, []) ::
 (⟨some 128, none, .faddr 0, [.t 14]⟩, []) ::
 (⟨some 129, none, .load false 1, [.t 128]⟩, []) ::
 (⟨some 130, none, .call 24, [.t 126, .t 127, .t 129]⟩, []) ::
 (⟨some 131, none, .load true 9, [.t 2]⟩, [4]) ::
 (⟨some 132, none, .mov, [.t 13]⟩, []) ::
 (⟨some 133, none, .faddr 1, [.t 14]⟩, []) ::
 (⟨some 134, none, .load false 1, [.t 133]⟩, [4]) ::
 (⟨some 135, none, .call 24, [.t 131, .t 132, .t 134]⟩, []) ::
 (⟨some 11, none, .mov, [.t 130]⟩, []) ::
 (⟨some 12, none, .mov, [.t 135]⟩, []) ::
 []) [2, 3, 5, 7, 9, 11, 12]))
 (.skip))))
 (.seq (.seq (.reg [] (
 ⟨some 136, none, .faddr 0, [.t 9]⟩ ::
 ⟨some 137, none, .load false 1, [.t 136]⟩ ::
 ⟨some 138, none, .faddr 0, [.t 5]⟩ ::
 ⟨some 139, none, .load false 1, [.t 138]⟩ ::
 ⟨some 140, none, .faddr 0, [.t 7]⟩ ::
 ⟨some 141, none, .load false 1, [.t 140]⟩ ::
 ⟨some 142, none, .bin .add, [.t 139, .t 141]⟩ ::
 ⟨some 143, none, .mov, [.t 11]⟩ ::
 ⟨some 144, none, .bin .add, [.t 142, .t 143]⟩ ::
 ⟨some 145, none, .bin .neq, [.t 137, .t 144]⟩ ::
 ⟨some 146, none, .mov, [.t 145]⟩ ::
 ⟨some 147, some (146, false), .faddr 1, [.t 9]⟩ ::
 ⟨some 148, some (146, false), .load false 1, [.t 147]⟩ ::
 ⟨some 149, some (146, false), .faddr 1, [.t 5]⟩ ::
 ⟨some 150, some (146, false), .load false 1, [.t 149]⟩ ::
 ⟨some 151, some (146, false), .faddr 1, [.t 7]⟩ ::
 ⟨some 152, some (146, false), .load false 1, [.t 151]⟩ ::
 ⟨some 153, some (146, false), .bin .add, [.t 150, .t 152]⟩ ::
 ⟨some 154, some (146, false), .mov, [.t 12]⟩ ::
 ⟨some 155, some (146, false), .bin .add, [.t 153, .t 154]⟩ ::
 ⟨some 156, some (146, false), .bin .neq, [.t 148, .t 155]⟩ ::
 ⟨some 157, none, .pick, [.t 146, .k (.d (.bool true)), .t 156]⟩ ::
 ⟨some 158, none, .mov, [.t 157]⟩ ::
 ⟨some 159, some (158, false), .faddr 0, [.t 9]⟩ ::
 ⟨some 160, some (158, false), .load false 1, [.t 159]⟩ ::
 ⟨some 161, some (158, false), .faddr 0, [.t 5]⟩ ::
 ⟨some 162, some (158, false), .load false 1, [.t 161]⟩ ::
 ⟨some 163, some (158, false), .bin .leq, [.t 160, .t 162]⟩ ::
 ⟨some 164, none, .pick, [.t 158, .k (.d (.bool true)), .t 163]⟩ ::
 ⟨some 165, none, .mov, [.t 164]⟩ ::
 ⟨some 166, some (165, false), .faddr 1, [.t 9]⟩ ::
 ⟨some 167, some (165, false), .load false 1, [.t 166]⟩ ::
 ⟨some 168, some (165, false), .faddr 1, [.t 7]⟩ ::
 ⟨some 169, some (165, false), .load false 1, [.t 168]⟩ ::
 ⟨some 170, some (165, false), .bin .leq, [.t 167, .t 169]⟩ ::
 ⟨some 171, none, .pick, [.t 165, .k (.d (.bool true)), .t 170]⟩ ::
 []) [2, 3, 9, 171])
 (.cond (.t 171)
 (.seq (.reg [] (
 ⟨some 4, none, .mov, [.k (.d (.bool false))]⟩ ::
 []) [4])
 (.ret))
 (.skip)))
 (.seq (.reg [] (
 ⟨some 172, none, .load true 9, [.t 2]⟩ ::
 ⟨some 173, none, .call 16, [.t 172]⟩ ::
 ⟨some 16, none, .zero [.int .i64 0, .int .i64 0, .list true [], .int .i64 0, .int .i64 0, .int .i64 0, .int .i64 0, .int .i64 0, .int .i64 0], []⟩ ::
 ⟨none, none, .store 9, [.t 16, .t 173]⟩ ::
 []) [2, 3, 9, 16])
 (.seq (.reg [] (
 ⟨some 174, none, .faddr 5, [.t 2]⟩ ::
 ⟨some 175, none, .load true 2, [.t 174]⟩ ::
 ⟨some 176, none, .faddr 3, [.t 3]⟩ ::
 ⟨some 177, none, .load false 1, [.t 176]⟩ ::
 ⟨some 178, none, .faddr 4, [.t 3]⟩ ::
 ⟨some 179, none, .load false 1, [.t 178]⟩ ::
 ⟨some 180, none, .call 25, [.t 175, .t 177, .t 179]⟩ ::
 ⟨some 181, none, .faddr 5, [.t 16]⟩ ::
 ⟨none, none, .store 2, [.t 181, .t 180]⟩ ::
 []) [2, 3, 9, 16])
 (.seq (.reg [] (
 ⟨some 182, none, .faddr 7, [.t 2]⟩ ::
 ⟨some 183, none, .load true 2, [.t 182]⟩ ::
 ⟨some 184, none, .faddr 3, [.t 3]⟩ ::
 ⟨some 185, none, .load false 1, [.t 184]⟩ ::
 ⟨some 186, none, .faddr 4, [.t 3]⟩ ::
 ⟨some 187, none, .load false 1, [.t 186]⟩ ::
 ⟨some 188, none, .call 25, [.t 183, .t 185, .t 187]⟩ ::
 ⟨some 189, none, .faddr 7, [.t 16]⟩ ::
 ⟨none, none, .store 2, [.t 189, .t 188]⟩ ::
 []) [3, 9, 16])
 (.seq (.reg [] (
 ⟨some 191, none, .load true 9, [.t 16]⟩ ::
 ⟨some 192, none, .faddr 0, [.t 3]⟩ ::
 ⟨some 193, none, .load false 1, [.t 192]⟩ ::
 ⟨some 194, none, .faddr 1, [.t 3]⟩ ::
 ⟨some 195, none, .load false 1, [.t 194]⟩ ::
 ⟨some 196, none, .call 20, [.t 191, .t 193, .t 195]⟩ ::
 ⟨some 190, none, .mov, [.t 196]⟩ ::
 ⟨some 197, none, .extract 0, [.t 190]⟩ ::
 ⟨some 198, none, .extract 1, [.t 190]⟩ ::
 ⟨some 17, none, .zero [.int .i64 0, .int .i64 0], []⟩ ::
 ⟨none, none, .store 2, [.t 17, .t 197]⟩ ::
 ⟨some 18, none, .mov, [.t 198]⟩ ::
 []) [9, 17, 18])
 (.seq (.reg [] (
 ⟨some 199, none, .mov, [.t 18]⟩ ::
 ⟨some 200, none, .bin .eql, [.t 199, .k (.d (.int .i64 0))]⟩ ::
 ⟨some 201, none, .mov, [.t 200]⟩ ::
 ⟨some 202, some (201, true), .faddr 0, [.t 17]⟩ ::
 ⟨some 203, some (201, true), .load false 1, [.t 202]⟩ ::
 ⟨some 204, some (201, true), .faddr 0, [.t 9]⟩ ::
 ⟨some 205, some (201, true), .load false 1, [.t 204]⟩ ::
 ⟨some 206, some (201, true), .bin .geq, [.t 203, .t 205]⟩ ::
 ⟨some 207, none, .pick, [.t 201, .t 206, .k (.d (.bool false))]⟩ ::
 ⟨some 208, none, .mov, [.t 207]⟩ ::
 ⟨some 209, some (208, true), .faddr 1, [.t 17]⟩ ::
 ⟨some 210, some (208, true), .load false 1, [.t 209]⟩ ::
 ⟨some 211, some (208, true), .faddr 1, [.t 9]⟩ ::
 ⟨some 212, some (208, true), .load false 1, [.t 211]⟩ ::
 ⟨some 213, some (208, true), .bin .leq, [.t 210, .t 212]⟩ ::
 ⟨some 214, none, .pick, [.t 208, .t 213, .k (.d (.bool false))]⟩ ::
 ⟨some 215, none, .mov, [.t 214]⟩ ::
 ⟨some 216, some (215, true), .call 14, []⟩ ::
 ⟨some 217, none, .pick, [.t 215, .t 216, .k (.d (.bool false))]⟩ ::
 ⟨some 4, none, .mov, [.t 217]⟩ ::
 []) [4])
 (.ret))))))))))))))
theorem dec_law01_ZonesParts : Fun E0 F_law01_ZonesParts pc_law01_ZonesParts [.t 4] 218 := fun_of_dec (fl := []) (by kernel_rfl)
-- platter/platterlaw01.ZonesBest (3)
abbrev F_law01_ZonesBest : Nat := 6
def pc_law01_ZonesBest : PC :=
 .seq (.reg [] (
 ⟨some 3, none, .box, [.t 0]⟩ ::
 ⟨some 5, none, .box, [.t 2]⟩ ::
 ⟨some 6, none, .mov, [.k (.d (.bool false))]⟩ ::
 []) [1, 3, 5])
 (.seq (.seq (.reg [] (
 ⟨some 15, none, .load true 9, [.t 3]⟩ ::
 ⟨some 16, none, .call 18, [.t 15]⟩ ::
 ⟨some 17, none, .un .not, [.t 16]⟩ ::
 ⟨some 18, none, .mov, [.t 17]⟩ ::
 ⟨some 19, some (18, false), .mov, [.t 1]⟩ ::
 ⟨some 20, some (18, false), .bin .lss, [.t 19, .k (.d (.int .i64 1))]⟩ ::
 ⟨some 21, none, .pick, [.t 18, .k (.d (.bool true)), .t 20]⟩ ::
 ⟨some 22, none, .mov, [.t 21]⟩ ::
 ⟨some 23, some (22, false), .mov, [.t 1]⟩ ::
 ⟨some 24, some (22, false), .faddr 1, [.t 3]⟩ ::
 ⟨some 25, some (22, false), .load false 1, [.t 24]⟩ ::
 ⟨some 26, some (22, false), .bin .gtr, [.t 23, .t 25]⟩ ::
 ⟨some 27, none, .pick, [.t 22, .k (.d (.bool true)), .t 26]⟩ ::
 []) [1, 3, 5, 27])
 (.cond (.t 27)
 (.seq (.reg [] (
 ⟨some 28, none, .call 14, []⟩ ::
 ⟨some 6, none, .mov, [.t 28]⟩ ::
 []) [6])
 (.ret))
 (.skip)))
 (.seq (.reg [] (
 ⟨some 30, none, .load true 9, [.t 3]⟩ ::
 ⟨some 31, none, .mov, [.t 1]⟩ ::
 ⟨some 32, none, .call 15, [.t 30, .t 31]⟩ ::
 ⟨some 29, none, .mov, [.t 32]⟩ ::
 ⟨some 33, none, .extract 0, [.t 29]⟩ ::
 ⟨some 34, none, .extract 1, [.t 29]⟩ ::
 ⟨some 35, none, .extract 2, [.t 29]⟩ ::
 ⟨some 36, none, .extract 3, [.t 29]⟩ ::
 ⟨some 7, none, .mov, [.t 33]⟩ ::
 ⟨some 8, none, .mov, [.t 34]⟩ ::
 ⟨some 9, none, .mov, [.t 35]⟩ ::
 ⟨some 10, none, .mov, [.t 36]⟩ ::
 []) [1, 3, 5, 7, 8, 9, 10])
 (.seq (.seq (.reg [] (
 ⟨some 37, none, .mov, [.t 10]⟩ ::
 ⟨some 38, none, .bin .neq, [.t 37, .k (.d (.int .i64 0))]⟩ ::
 ⟨some 39, none, .mov, [.t 38]⟩ ::
 ⟨some 40, some (39, false), .mov, [.t 7]⟩ ::
 ⟨some 41, some (39, false), .bin .lss, [.t 40, .k (.d (.int .i64 0))]⟩ ::
 ⟨some 42, none, .pick, [.t 39, .k (.d (.bool true)), .t 41]⟩ ::
 ⟨some 43, none, .mov, [.t 42]⟩ ::
 ⟨some 44, some (43, false), .mov, [.t 7]⟩ ::
 ⟨some 45, some (43, false), .faddr 1, [.t 3]⟩ ::
 ⟨some 46, some (43, false), .load false 1, [.t 45]⟩ ::
 ⟨some 47, some (43, false), .bin .geq, [.t 44, .t 46]⟩ ::
 ⟨some 48, none, .pick, [.t 43, .k (.d (.bool true)), .t 47]⟩ ::
 ⟨some 49, none, .mov, [.t 48]⟩ ::
 ⟨some 50, some (49, false), .mov, [.t 7]⟩ ::
 ⟨some 51, some (49, false), .mov, [.t 1]⟩ ::
 ⟨some 52, some (49, false), .bin .rem, [.t 50, .t 51]⟩ ::
 ⟨some 53, some (49, false), .bin .neq, [.t 52, .k (.d (.int .i64 0))]⟩ ::
 ⟨some 54, none, .pick, [.t 49, .k (.d (.bool true)), .t 53]⟩ ::
 ⟨some 55, none, .mov, [.t 54]⟩ ::
 ⟨some 56, some (55, false), .mov, [.t 8]⟩ ::
 ⟨some 57, some (55, false), .bin .lss, [.t 56, .k (.d (.int .i64 0))]⟩ ::
 ⟨some 58, none, .pick, [.t 55, .k (.d (.bool true)), .t 57]⟩ ::
 ⟨some 59, none, .mov, [.t 58]⟩ ::
 ⟨some 60, some (59, false), .mov, [.t 8]⟩ ::
 ⟨some 61, some (59, false), .faddr 1, [.t 3]⟩ ::
 ⟨some 62, some (59, false), .load false 1, [.t 61]⟩ ::
 ⟨some 63, some (59, false), .bin .geq, [.t 60, .t 62]⟩ ::
 ⟨some 64, none, .pick, [.t 59, .k (.d (.bool true)), .t 63]⟩ ::
 ⟨some 65, none, .mov, [.t 64]⟩ ::
 ⟨some 66, some (65, false), .mov, [.t 8]⟩ ::
 ⟨some 67, some (65, false), .mov, [.t 1]⟩ ::
 ⟨some 68, some (65, false), .bin .rem, [.t 66, .t 67]⟩ ::
 ⟨some 69, some (65, false), .bin .neq, [.t 68, .k (.d (.int .i64 0))]⟩ ::
 ⟨some 70, none, .pick, [.t 65, .k (.d (.bool true)), .t 69]⟩ ::
 []) [1, 3, 5, 7, 8, 9, 70])
 (.cond (.t 70)
 (.seq (.reg [] (
 ⟨some 6, none, .mov, [.k (.d (.bool false))]⟩ ::
 []) [6])
 (.ret))
 (.skip)))
 (.seq (.draw [] (
 (⟨some 72, none, .load true 9, [.t 3]⟩, []) ::
 (⟨some 73, none, .mov, [.t 7]⟩, []) ::
 (⟨some 74, none, .mov, [.t 8]⟩, []) ::
 (⟨some 75, none, .call 26, [.t 72, .t 73, .t 74]⟩, []) ::
 (⟨some 76, none, .load true 9, [.t 3]⟩, [3]) ::
 (⟨some 77, none, .call 27, [.t 76]⟩, []) ::
 (⟨some 78, none, .call 20, [.t 75, .k (.d (.int .i64 0)), .t 77]⟩, []) ::
 (⟨some 71, none, .mov, [.t 78]⟩, []) ::
 (⟨some 79, none, .extract 0, [.t 71]⟩, []) ::
 (⟨some 80, none, .extract 1, [.t 71]⟩, []) ::
 (⟨some 11, none, .zero [.int .i64 0, .int .i64 0], []⟩, [0, 3, 4, 5, 6]) ::
 (⟨none, none, .store 2, [.t 11, .t 79]⟩, []) ::
 (⟨some 12, none, .mov, [.t 80]⟩, []) ::
 []) [1, 3, 5, 7, 8, 9, 11, 12])
 (.seq (.seq (.reg [] (
 ⟨some 81, none, .mov, [.t 12]⟩ ::
 ⟨some 82, none, .bin .neq, [.t 81, .k (.d (.int .i64 0))]⟩ ::
 ⟨some 83, none, .mov, [.t 82]⟩ ::
 ⟨some 84, some (83, false), .faddr 1, [.t 11]⟩ ::
 ⟨some 85, some (83, false), .load false 1, [.t 84]⟩ ::
 ⟨some 86, some (83, false), .mov, [.t 9]⟩ ::
 ⟨some 87, some (83, false), .bin .neq, [.t 85, .t 86]⟩ ::
 ⟨some 88, none, .pick, [.t 83, .k (.d (.bool true)), .t 87]⟩ ::
 []) [1, 3, 5, 7, 8, 9, 88])
 (.cond (.t 88)
 (.seq (.reg [] (
 ⟨some 6, none, .mov, [.k (.d (.bool false))]⟩ ::
 []) [6])
 (.ret))
 (.skip)))
 (.seq (.seq (.reg [] (
 ⟨some 89, none, .faddr 0, [.t 5]⟩ ::
 ⟨some 90, none, .load false 1, [.t 89]⟩ ::
 ⟨some 91, none, .bin .lss, [.t 90, .k (.d (.int .i64 0))]⟩ ::
 ⟨some 92, none, .mov, [.t 91]⟩ ::
 ⟨some 93, some (92, false), .faddr 0, [.t 5]⟩ ::
 ⟨some 94, some (92, false), .load false 1, [.t 93]⟩ ::
 ⟨some 95, some (92, false), .faddr 1, [.t 3]⟩ ::
 ⟨some 96, some (92, false), .load false 1, [.t 95]⟩ ::
 ⟨some 97, some (92, false), .bin .geq, [.t 94, .t 96]⟩ ::
 ⟨some 98, none, .pick, [.t 92, .k (.d (.bool true)), .t 97]⟩ ::
 ⟨some 99, none, .mov, [.t 98]⟩ ::
 ⟨some 100, some (99, false), .faddr 0, [.t 5]⟩ ::
 ⟨some 101, some (99, false), .load false 1, [.t 100]⟩ ::
 ⟨some 102, some (99, false), .mov, [.t 1]⟩ ::
 ⟨some 103, some (99, false), .bin .rem, [.t 101, .t 102]⟩ ::
 ⟨some 104, some (99, false), .bin .neq, [.t 103, .k (.d (.int .i64 0))]⟩ ::
 ⟨some 105, none, .pick, [.t 99, .k (.d (.bool true)), .t 104]⟩ ::
 ⟨some 106, none, .mov, [.t 105]⟩ ::
 ⟨some 107, some (106, false), .faddr 1, [.t 5]⟩ ::
 ⟨some 108, some (106, false), .load false 1, [.t 107]⟩ ::
 ⟨some 109, some (106, false), .bin .lss, [.t 108, .k (.d (.int .i64 0))]⟩ ::
 ⟨some 110, none, .pick, [.t 106, .k (.d (.bool true)), .t 109]⟩ ::
 ⟨some 111, none, .mov, [.t 110]⟩ ::
 ⟨some 112, some (111, false), .faddr 1, [.t 5]⟩ ::
 ⟨some 113, some (111, false), .load false 1, [.t 112]⟩ ::
 ⟨some 114, some (111, false), .faddr 1, [.t 3]⟩ ::
 ⟨some 115, some (111, false), .load false 1, [.t 114]⟩ ::
 ⟨some 116, some (111, false), .bin .geq, [.t 113, .t 115]⟩ ::
 ⟨some 117, none, .pick, [.t 111, .k (.d (.bool true)), .t 116]⟩ ::
 ⟨some 118, none, .mov, [.t 117]⟩ ::
 ⟨some 119, some (118, false), .faddr 1, [.t 5]⟩ ::
 ⟨some 120, some (118, false), .load false 1, [.t 119]⟩ ::
 ⟨some 121, some (118, false), .mov, [.t 1]⟩ ::
 ⟨some 122, some (118, false), .bin .rem, [.t 120, .t 121]⟩ ::
 ⟨some 123, some (118, false), .bin .neq, [.t 122, .k (.d (.int .i64 0))]⟩ ::
 ⟨some 124, none, .pick, [.t 118, .k (.d (.bool true)), .t 123]⟩ ::
 []) [3, 5, 7, 8, 9, 124])
 (.cond (.t 124)
 (.seq (.reg [] (
 ⟨some 125, none, .call 14, []⟩ ::
 ⟨some 6, none, .mov, [.t 125]⟩ ::
 []) [6])
 (.ret))
 (.skip)))
 (.seq (.draw [] (
 (⟨some 127, none, .load true 9, [.t 3]⟩, []) ::
 (⟨some 128, none, .faddr 0, [.t 5]⟩, []) ::
 (⟨some 129, none, .load false 1, [.t 128]⟩, []) ::
 (⟨some 130, none, .faddr 1, [.t 5]⟩, []) ::
 (⟨some 131, none, .load false 1, [.t 130]⟩, []) ::
 (⟨some 132, none, .call 26, [.t 127, .t 129, .t 131]⟩, []) ::
 (⟨some 133, none, .load true 9, [.t 3]⟩, [5]) ::
 (⟨some 134, none, .call 27, [.t 133]⟩, []) ::
 (⟨some 135, none, .call 20, [.t 132, .k (.d (.int .i64 0)), .t 134]⟩, []) ::
 (⟨some 126, none, .mov, [.t 135]⟩, []) ::
 (⟨some 136, none, .extract 0, [.t 126]⟩, []) ::
 (⟨some 137, none, .extract 1, [.t 126]⟩, []) ::
 (⟨some 13, none, .zero [.int .i64 0, .int .i64 0], []⟩, [0, 2, 4, 5, 6, 7, 8]) ::
 (⟨none, none, .store 2, [.t 13, .t 136]⟩, []) ::
 (⟨some 14, none, .mov, [.t 137]⟩, []) ::
 []) [5, 7, 8, 9, 13, 14])
 (.seq (.reg [] (
 ⟨some 138, none, .mov, [.t 14]⟩ ::
 ⟨some 139, none, .bin .eql, [.t 138, .k (.d (.int .i64 0))]⟩ ::
 ⟨some 140, none, .mov, [.t 139]⟩ ::
 ⟨some 141, some (140, true), .faddr 1, [.t 13]⟩ ::
 ⟨some 142, some (140, true), .load false 1, [.t 141]⟩ ::
 ⟨some 143, some (140, true), .mov, [.t 9]⟩ ::
 ⟨some 144, some (140, true), .bin .gtr, [.t 142, .t 143]⟩ ::
 ⟨some 145, some (140, true), .mov, [.t 144]⟩ ::
 ⟨some 146, some (145, false), .faddr 1, [.t 13]⟩ ::
 ⟨some 147, some (145, false), .load false 1, [.t 146]⟩ ::
 ⟨some 148, some (145, false), .mov, [.t 9]⟩ ::
 ⟨some 149, some (145, false), .bin .eql, [.t 147, .t 148]⟩ ::
 ⟨some 150, some (145, false), .mov, [.t 149]⟩ ::
 ⟨some 151, some (150, true), .faddr 0, [.t 5]⟩ ::
 ⟨some 152, some (150, true), .load false 1, [.t 151]⟩ ::
 ⟨some 153, some (150, true), .mov, [.t 7]⟩ ::
 ⟨some 154, some (150, true), .bin .gtr, [.t 152, .t 153]⟩ ::
 ⟨some 155, some (150, true), .mov, [.t 154]⟩ ::
 ⟨some 156, some (155, false), .faddr 0, [.t 5]⟩ ::
 ⟨some 157, some (155, false), .load false 1, [.t 156]⟩ ::
 ⟨some 158, some (155, false), .mov, [.t 7]⟩ ::
 ⟨some 159, some (155, false), .bin .eql, [.t 157, .t 158]⟩ ::
 ⟨some 160, some (155, false), .mov, [.t 159]⟩ ::
 ⟨some 161, some (160, true), .faddr 1, [.t 5]⟩ ::
 ⟨some 162, some (160, true), .load false 1, [.t 161]⟩ ::
 ⟨some 163, some (160, true), .mov, [.t 8]⟩ ::
 ⟨some 164, some (160, true), .bin .geq, [.t 162, .t 163]⟩ ::
 ⟨some 165, some (155, false), .pick, [.t 160, .t 164, .k (.d (.bool false))]⟩ ::
 ⟨some 166, some (150, true), .pick, [.t 155, .k (.d (.bool true)), .t 165]⟩ ::
 ⟨some 167, some (145, false), .pick, [.t 150, .t 166, .k (.d (.bool false))]⟩ ::
 ⟨some 168, some (140, true), .pick, [.t 145, .k (.d (.bool true)), .t 167]⟩ ::
 ⟨some 169, none, .pick, [.t 140, .t 168, .k (.d (.bool false))]⟩ ::
 ⟨some 170, none, .mov, [.t 169]⟩ ::
 ⟨some 171, some (170, true), .call 14, []⟩ ::
 ⟨some 172, none, .pick, [.t 170, .t 171, .k (.d (.bool false))]⟩ ::
 ⟨some 6, none, .mov, [.t 172]⟩ ::
 []) [6])
 (.ret)))))))))
theorem dec_law01_ZonesBest : Fun E0 F_law01_ZonesBest pc_law01_ZonesBest [.t 6] 173 := fun_of_dec (fl := []) (by kernel_rfl)
-- platter/platterlaw01.ZonesRuns (3)
abbrev F_law01_ZonesRuns : Nat := 7
def pc_law01_ZonesRuns : PC :=
 .seq (.reg [] (
 ⟨some 3, none, .box, [.t 0]⟩ ::
 ⟨some 6, none, .mov, [.k (.d (.bool false))]⟩ ::
 []) [1, 2, 3])
 (.seq (.seq (.reg [] (
 ⟨some 16, none, .load true 9, [.t 3]⟩ ::
 ⟨some 17, none, .call 13, [.t 16]⟩ ::
 []) [1, 2, 3, 17])
 (.cond (.t 17)
 (.seq (.reg [] (
 ⟨some 18, none, .call 14, []⟩ ::
 ⟨some 6, none, .mov, [.t 18]⟩ ::
 []) [6])
 (.ret))
 (.skip)))
 (.seq (.reg [] (
 ⟨some 19, none, .load true 9, [.t 3]⟩ ::
 ⟨some 20, none, .call 16, [.t 19]⟩ ::
 ⟨some 7, none, .zero [.int .i64 0, .int .i64 0, .list true [], .int .i64 0, .int .i64 0, .int .i64 0, .int .i64 0, .int .i64 0, .int .i64 0], []⟩ ::
 ⟨none, none, .store 9, [.t 7, .t 20]⟩ ::
 []) [1, 2, 3, 7])
 (.seq (.reg [] (
 ⟨some 22, none, .load true 9, [.t 7]⟩ ::
 ⟨some 23, none, .mov, [.t 1]⟩ ::
 ⟨some 24, none, .mov, [.t 2]⟩ ::
 ⟨some 25, none, .call 20, [.t 22, .t 23, .t 24]⟩ ::
 ⟨some 21, none, .mov, [.t 25]⟩ ::
 ⟨some 26, none, .extract 0, [.t 21]⟩ ::
 ⟨some 27, none, .extract 1, [.t 21]⟩ ::
 ⟨some 8, none, .zero [.int .i64 0, .int .i64 0], []⟩ ::
 ⟨none, none, .store 2, [.t 8, .t 26]⟩ ::
 ⟨some 9, none, .mov, [.t 27]⟩ ::
 []) [1, 2, 3, 7, 8, 9])
 (.seq (.reg [] (
 ⟨some 29, none, .load true 9, [.t 3]⟩ ::
 ⟨some 30, none, .mov, [.t 1]⟩ ::
 ⟨some 31, none, .mov, [.t 2]⟩ ::
 ⟨some 32, none, .call 28, [.t 29, .t 30, .t 31]⟩ ::
 ⟨some 28, none, .mov, [.t 32]⟩ ::
 ⟨some 33, none, .extract 0, [.t 28]⟩ ::
 ⟨some 34, none, .extract 1, [.t 28]⟩ ::
 ⟨some 10, none, .zero [.int .i64 0, .int .i64 0], []⟩ ::
 ⟨none, none, .store 2, [.t 10, .t 33]⟩ ::
 ⟨some 11, none, .mov, [.t 34]⟩ ::
 []) [3, 7, 8, 9, 10, 11])
 (.seq (.reg [] (
 ⟨some 36, none, .load true 9, [.t 7]⟩ ::
 ⟨some 37, none, .call 29, [.t 36]⟩ ::
 ⟨some 35, none, .mov, [.t 37]⟩ ::
 ⟨some 38, none, .extract 0, [.t 35]⟩ ::
 ⟨some 39, none, .extract 1, [.t 35]⟩ ::
 ⟨some 12, none, .mov, [.t 38]⟩ ::
 ⟨some 13, none, .mov, [.t 39]⟩ ::
 []) [3, 8, 9, 10, 11, 12, 13])
 (.seq (.reg [] (
 ⟨some 41, none, .load true 9, [.t 3]⟩ ::
 ⟨some 42, none, .call 30, [.t 41]⟩ ::
 ⟨some 40, none, .mov, [.t 42]⟩ ::
 ⟨some 43, none, .extract 0, [.t 40]⟩ ::
 ⟨some 44, none, .extract 1, [.t 40]⟩ ::
 ⟨some 14, none, .mov, [.t 43]⟩ ::
 ⟨some 15, none, .mov, [.t 44]⟩ ::
 []) [8, 9, 10, 11, 12, 13, 14, 15])
 (.seq (.reg [] (
 ⟨some 45, none, .load true 2, [.t 8]⟩ ::
 ⟨some 46, none, .load true 2, [.t 10]⟩ ::
 ⟨some 47, none, .eqv false (true, [some .i64, some .i64]), [.t 45, .t 46]⟩ ::
 ⟨some 48, none, .mov, [.t 47]⟩ ::
 ⟨some 49, some (48, true), .mov, [.t 9]⟩ ::
 ⟨some 50, some (48, true), .mov, [.t 11]⟩ ::
 ⟨some 51, some (48, true), .bin .eql, [.t 49, .t 50]⟩ ::
 ⟨some 52, none, .pick, [.t 48, .t 51, .k (.d (.bool false))]⟩ ::
 ⟨some 53, none, .mov, [.t 52]⟩ ::
 ⟨some 54, some (53, true), .mov, [.t 12]⟩ ::
 ⟨some 55, some (53, true), .mov, [.t 14]⟩ ::
 ⟨some 56, some (53, true), .bin .eql, [.t 54, .t 55]⟩ ::
 ⟨some 57, none, .pick, [.t 53, .t 56, .k (.d (.bool false))]⟩ ::
 ⟨some 58, none, .mov, [.t 57]⟩ ::
 ⟨some 59, some (58, true), .mov, [.t 13]⟩ ::
 ⟨some 60, some (58, true), .mov, [.t 15]⟩ ::
 ⟨some 61, some (58, true), .bin .eql, [.t 59, .t 60]⟩ ::
 ⟨some 62, none, .pick, [.t 58, .t 61, .k (.d (.bool false))]⟩ ::
 ⟨some 63, none, .mov, [.t 62]⟩ ::
 ⟨some 64, some (63, true), .call 14, []⟩ ::
 ⟨some 65, none, .pick, [.t 63, .t 64, .k (.d (.bool false))]⟩ ::
 ⟨some 6, none, .mov, [.t 65]⟩ ::
 []) [6])
 (.ret))))))))
theorem dec_law01_ZonesRuns : Fun E0 F_law01_ZonesRuns pc_law01_ZonesRuns [.t 6] 66 := fun_of_dec (fl := []) (by kernel_rfl)
-- platter/platterlaw01.ZonesNoTurn (1)
abbrev F_law01_ZonesNoTurn : Nat := 8
def pc_law01_ZonesNoTurn : PC :=
 .seq (.reg [] (
 ⟨some 1, none, .box, [.t 0]⟩ ::
 ⟨some 2, none, .mov, [.k (.d (.bool false))]⟩ ::
 []) [1])
 (.seq (.seq (.reg [] (
 ⟨some 7, none, .load true 9, [.t 1]⟩ ::
 ⟨some 8, none, .call 18, [.t 7]⟩ ::
 ⟨some 9, none, .un .not, [.t 8]⟩ ::
 []) [1, 9])
 (.cond (.t 9)
 (.seq (.reg [] (
 ⟨some 10, none, .call 14, []⟩ ::
 ⟨some 2, none, .mov, [.t 10]⟩ ::
 []) [2])
 (.ret))
 (.skip)))
 (.seq (.reg [] (
 ⟨some 12, none, .load true 9, [.t 1]⟩ ::
 ⟨some 13, none, .call 29, [.t 12]⟩ ::
 ⟨some 11, none, .mov, [.t 13]⟩ ::
 ⟨some 14, none, .extract 0, [.t 11]⟩ ::
 ⟨some 15, none, .extract 1, [.t 11]⟩ ::
 ⟨some 3, none, .mov, [.t 14]⟩ ::
 ⟨some 4, none, .mov, [.t 15]⟩ ::
 []) [1, 3, 4])
 (.seq (.draw [] (
 (⟨some 17, none, .load true 9, [.t 1]⟩, []) ::
 (⟨some 18, none, .load true 9, [.t 1]⟩, []) ::
 (⟨some 19, none, .call 27, [.t 18]⟩, [0]) ::
 (⟨some 20, none, .call 20, [.t 17, .k (.d (.int .i64 0)), .t 19]⟩, []) ::
 (⟨some 16, none, .mov, [.t 20]⟩, []) ::
 (⟨some 21, none, .extract 0, [.t 16]⟩, []) ::
 (⟨some 22, none, .extract 1, [.t 16]⟩, []) ::
 (⟨some 5, none, .zero [.int .i64 0, .int .i64 0], []⟩, [0, 1, 2, 3]) ::
 (⟨none, none, .store 2, [.t 5, .t 21]⟩, []) ::
 (⟨some 6, none, .mov, [.t 22]⟩, []) ::
 []) [1, 3, 4, 5, 6])
 (.seq (.seq (.reg [] (
 ⟨some 23, none, .mov, [.t 4]⟩ ::
 ⟨some 24, none, .bin .neq, [.t 23, .k (.d (.int .i64 0))]⟩ ::
 ⟨some 25, none, .mov, [.t 24]⟩ ::
 ⟨some 26, some (25, false), .mov, [.t 6]⟩ ::
 ⟨some 27, some (25, false), .bin .neq, [.t 26, .k (.d (.int .i64 0))]⟩ ::
 ⟨some 28, none, .pick, [.t 25, .k (.d (.bool true)), .t 27]⟩ ::
 ⟨some 29, none, .mov, [.t 28]⟩ ::
 ⟨some 30, some (29, false), .mov, [.t 3]⟩ ::
 ⟨some 31, some (29, false), .bin .lss, [.t 30, .k (.d (.int .i64 0))]⟩ ::
 ⟨some 32, none, .pick, [.t 29, .k (.d (.bool true)), .t 31]⟩ ::
 []) [1, 3, 5, 32])
 (.cond (.t 32)
 (.seq (.reg [] (
 ⟨some 2, none, .mov, [.k (.d (.bool false))]⟩ ::
 []) [2])
 (.ret))
 (.skip)))
 (.seq (.seq (.reg [] (
 ⟨some 33, none, .faddr 3, [.t 1]⟩ ::
 ⟨some 34, none, .load false 1, [.t 33]⟩ ::
 ⟨some 35, none, .faddr 5, [.t 1]⟩ ::
 ⟨some 36, none, .faddr 1, [.t 35]⟩ ::
 ⟨some 37, none, .load false 1, [.t 36]⟩ ::
 ⟨some 38, none, .bin .lss, [.t 34, .t 37]⟩ ::
 ⟨some 39, none, .mov, [.t 38]⟩ ::
 ⟨some 40, some (39, false), .faddr 4, [.t 1]⟩ ::
 ⟨some 41, some (39, false), .load false 1, [.t 40]⟩ ::
 ⟨some 42, some (39, false), .faddr 7, [.t 1]⟩ ::
 ⟨some 43, some (39, false), .faddr 1, [.t 42]⟩ ::
 ⟨some 44, some (39, false), .load false 1, [.t 43]⟩ ::
 ⟨some 45, some (39, false), .bin .lss, [.t 41, .t 44]⟩ ::
 ⟨some 46, none, .pick, [.t 39, .k (.d (.bool true)), .t 45]⟩ ::
 []) [3, 5, 46])
 (.cond (.t 46)
 (.seq (.reg [] (
 ⟨some 47, none, .call 14, []⟩ ::
 ⟨some 2, none, .mov, [.t 47]⟩ ::
 []) [2])
 (.ret))
 (.skip)))
 (.seq (.reg [] (
 ⟨some 48, none, .mov, [.t 3]⟩ ::
 ⟨some 49, none, .bin .eql, [.t 48, .k (.d (.int .i64 0))]⟩ ::
 ⟨some 50, none, .mov, [.t 49]⟩ ::
 ⟨some 51, some (50, true), .faddr 0, [.t 5]⟩ ::
 ⟨some 52, some (50, true), .load false 1, [.t 51]⟩ ::
 ⟨some 53, some (50, true), .faddr 1, [.t 5]⟩ ::
 ⟨some 54, some (50, true), .load false 1, [.t 53]⟩ ::
 ⟨some 55, some (50, true), .bin .eql, [.t 52, .t 54]⟩ ::
 ⟨some 56, none, .pick, [.t 50, .t 55, .k (.d (.bool false))]⟩ ::
 ⟨some 57, none, .mov, [.t 56]⟩ ::
 ⟨some 58, some (57, true), .call 14, []⟩ ::
 ⟨some 59, none, .pick, [.t 57, .t 58, .k (.d (.bool false))]⟩ ::
 ⟨some 2, none, .mov, [.t 59]⟩ ::
 []) [2])
 (.ret)))))))
theorem dec_law01_ZonesNoTurn : Fun E0 F_law01_ZonesNoTurn pc_law01_ZonesNoTurn [.t 2] 60 := fun_of_dec (fl := []) (by kernel_rfl)
-- platter/platterlaw01.ZonesOnce (3)
abbrev F_law01_ZonesOnce : Nat := 9
def pc_law01_ZonesOnce : PC :=
 .seq (.reg [] (
 ⟨some 3, none, .box, [.t 0]⟩ ::
 ⟨some 6, none, .mov, [.k (.d (.bool false))]⟩ ::
 []) [1, 2, 3])
 (.seq (.seq (.reg [] (
 ⟨some 15, none, .load true 9, [.t 3]⟩ ::
 ⟨some 16, none, .call 18, [.t 15]⟩ ::
 ⟨some 17, none, .un .not, [.t 16]⟩ ::
 ⟨some 18, none, .mov, [.t 17]⟩ ::
 ⟨some 19, some (18, false), .load true 9, [.t 3]⟩ ::
 ⟨some 20, some (18, false), .mov, [.t 1]⟩ ::
 ⟨some 21, some (18, false), .call 31, [.t 19, .t 20]⟩ ::
 ⟨some 22, some (18, false), .un .not, [.t 21]⟩ ::
 ⟨some 23, none, .pick, [.t 18, .k (.d (.bool true)), .t 22]⟩ ::
 ⟨some 24, none, .mov, [.t 23]⟩ ::
 ⟨some 25, some (24, false), .load true 9, [.t 3]⟩ ::
 ⟨some 26, some (24, false), .mov, [.t 2]⟩ ::
 ⟨some 27, some (24, false), .call 31, [.t 25, .t 26]⟩ ::
 ⟨some 28, some (24, false), .un .not, [.t 27]⟩ ::
 ⟨some 29, none, .pick, [.t 24, .k (.d (.bool true)), .t 28]⟩ ::
 ⟨some 30, none, .mov, [.t 29]⟩ ::
 ⟨some 31, some (30, false), .mov, [.t 1]⟩ ::
 ⟨some 32, some (30, false), .mov, [.t 2]⟩ ::
 ⟨some 33, some (30, false), .bin .gtr, [.t 31, .t 32]⟩ ::
 ⟨some 34, none, .pick, [.t 30, .k (.d (.bool true)), .t 33]⟩ ::
 []) [1, 2, 3, 34])
 (.cond (.t 34)
 (.seq (.reg [] (
 ⟨some 35, none, .call 14, []⟩ ::
 ⟨some 6, none, .mov, [.t 35]⟩ ::
 []) [6])
 (.ret))
 (.skip)))
 (.seq (.reg [] (
 ⟨some 37, none, .load true 9, [.t 3]⟩ ::
 ⟨some 38, none, .mov, [.t 1]⟩ ::
 ⟨some 39, none, .call 32, [.t 37, .t 38]⟩ ::
 ⟨some 36, none, .mov, [.t 39]⟩ ::
 ⟨some 40, none, .extract 0, [.t 36]⟩ ::
 ⟨some 41, none, .extract 1, [.t 36]⟩ ::
 ⟨some 7, none, .zero [.int .i64 0, .int .i64 0, .int .i64 0], []⟩ ::
 ⟨none, none, .store 3, [.t 7, .t 40]⟩ ::
 ⟨some 8, none, .mov, [.t 41]⟩ ::
 []) [1, 2, 3, 7, 8])
 (.seq (.reg [] (
 ⟨some 43, none, .load true 9, [.t 3]⟩ ::
 ⟨some 44, none, .mov, [.t 2]⟩ ::
 ⟨some 45, none, .call 32, [.t 43, .t 44]⟩ ::
 ⟨some 42, none, .mov, [.t 45]⟩ ::
 ⟨some 46, none, .extract 0, [.t 42]⟩ ::
 ⟨some 47, none, .extract 1, [.t 42]⟩ ::
 ⟨some 9, none, .zero [.int .i64 0, .int .i64 0, .int .i64 0], []⟩ ::
 ⟨none, none, .store 3, [.t 9, .t 46]⟩ ::
 ⟨some 10, none, .mov, [.t 47]⟩ ::
 []) [1, 2, 3, 7, 8, 9, 10])
 (.seq (.reg [] (
 ⟨some 49, none, .load true 9, [.t 3]⟩ ::
 ⟨some 50, none, .load true 3, [.t 7]⟩ ::
 ⟨some 51, none, .call 33, [.t 49, .t 50]⟩ ::
 ⟨some 48, none, .mov, [.t 51]⟩ ::
 ⟨some 52, none, .extract 0, [.t 48]⟩ ::
 ⟨some 53, none, .extract 1, [.t 48]⟩ ::
 ⟨some 11, none, .mov, [.t 52]⟩ ::
 ⟨some 12, none, .mov, [.t 53]⟩ ::
 []) [1, 2, 3, 7, 8, 9, 10, 11, 12])
 (.seq (.reg [] (
 ⟨some 55, none, .load true 9, [.t 3]⟩ ::
 ⟨some 56, none, .load true 3, [.t 9]⟩ ::
 ⟨some 57, none, .call 33, [.t 55, .t 56]⟩ ::
 ⟨some 54, none, .mov, [.t 57]⟩ ::
 ⟨some 58, none, .extract 0, [.t 54]⟩ ::
 ⟨some 59, none, .extract 1, [.t 54]⟩ ::
 ⟨some 13, none, .mov, [.t 58]⟩ ::
 ⟨some 14, none, .mov, [.t 59]⟩ ::
 []) [1, 2, 7, 8, 9, 10, 11, 12, 13, 14])
 (.seq (.seq (.reg [] (
 ⟨some 60, none, .mov, [.t 8]⟩ ::
 ⟨some 61, none, .bin .neq, [.t 60, .k (.d (.int .i64 0))]⟩ ::
 ⟨some 62, none, .mov, [.t 61]⟩ ::
 ⟨some 63, some (62, false), .mov, [.t 10]⟩ ::
 ⟨some 64, some (62, false), .bin .neq, [.t 63, .k (.d (.int .i64 0))]⟩ ::
 ⟨some 65, none, .pick, [.t 62, .k (.d (.bool true)), .t 64]⟩ ::
 ⟨some 66, none, .mov, [.t 65]⟩ ::
 ⟨some 67, some (66, false), .mov, [.t 12]⟩ ::
 ⟨some 68, some (66, false), .bin .neq, [.t 67, .k (.d (.int .i64 0))]⟩ ::
 ⟨some 69, none, .pick, [.t 66, .k (.d (.bool true)), .t 68]⟩ ::
 ⟨some 70, none, .mov, [.t 69]⟩ ::
 ⟨some 71, some (70, false), .mov, [.t 14]⟩ ::
 ⟨some 72, some (70, false), .bin .neq, [.t 71, .k (.d (.int .i64 0))]⟩ ::
 ⟨some 73, none, .pick, [.t 70, .k (.d (.bool true)), .t 72]⟩ ::
 ⟨some 74, none, .mov, [.t 73]⟩ ::
 ⟨some 75, some (74, false), .mov, [.t 11]⟩ ::
 ⟨some 76, some (74, false), .mov, [.t 1]⟩ ::
 ⟨some 77, some (74, false), .bin .neq, [.t 75, .t 76]⟩ ::
 ⟨some 78, none, .pick, [.t 74, .k (.d (.bool true)), .t 77]⟩ ::
 ⟨some 79, none, .mov, [.t 78]⟩ ::
 ⟨some 80, some (79, false), .mov, [.t 13]⟩ ::
 ⟨some 81, some (79, false), .mov, [.t 2]⟩ ::
 ⟨some 82, some (79, false), .bin .neq, [.t 80, .t 81]⟩ ::
 ⟨some 83, none, .pick, [.t 79, .k (.d (.bool true)), .t 82]⟩ ::
 ⟨some 84, none, .mov, [.t 83]⟩ ::
 ⟨some 85, some (84, false), .load true 3, [.t 7]⟩ ::
 ⟨some 86, some (84, false), .load true 3, [.t 9]⟩ ::
 ⟨some 87, some (84, false), .eqv false (true, [some .i64, some .i64, some .i64]), [.t 85, .t 86]⟩ ::
 ⟨some 88, some (84, false), .mov, [.t 1]⟩ ::
 ⟨some 89, some (84, false), .mov, [.t 2]⟩ ::
 ⟨some 90, some (84, false), .bin .eql, [.t 88, .t 89]⟩ ::
 ⟨some 91, some (84, false), .beq true, [.t 87, .t 90]⟩ ::
 ⟨some 92, none, .pick, [.t 84, .k (.d (.bool true)), .t 91]⟩ ::
 []) [1, 2, 7, 9, 92])
 (.cond (.t 92)
 (.seq (.reg [] (
 ⟨some 6, none, .mov, [.k (.d (.bool false))]⟩ ::
 []) [6])
 (.ret))
 (.skip)))
 (.seq (.seq (.reg [] (
 ⟨some 93, none, .mov, [.t 1]⟩ ::
 ⟨some 94, none, .mov, [.t 2]⟩ ::
 ⟨some 95, none, .bin .eql, [.t 93, .t 94]⟩ ::
 []) [7, 9, 95])
 (.cond (.t 95)
 (.seq (.reg [] (
 ⟨some 96, none, .call 14, []⟩ ::
 ⟨some 6, none, .mov, [.t 96]⟩ ::
 []) [6])
 (.ret))
 (.skip)))
 (.seq (.reg [] (
 ⟨some 97, none, .faddr 0, [.t 7]⟩ ::
 ⟨some 98, none, .load false 1, [.t 97]⟩ ::
 ⟨some 99, none, .faddr 0, [.t 9]⟩ ::
 ⟨some 100, none, .load false 1, [.t 99]⟩ ::
 ⟨some 101, none, .bin .lss, [.t 98, .t 100]⟩ ::
 ⟨some 102, none, .mov, [.t 101]⟩ ::
 ⟨some 103, some (102, false), .faddr 0, [.t 7]⟩ ::
 ⟨some 104, some (102, false), .load false 1, [.t 103]⟩ ::
 ⟨some 105, some (102, false), .faddr 0, [.t 9]⟩ ::
 ⟨some 106, some (102, false), .load false 1, [.t 105]⟩ ::
 ⟨some 107, some (102, false), .bin .eql, [.t 104, .t 106]⟩ ::
 ⟨some 108, some (102, false), .mov, [.t 107]⟩ ::
 ⟨some 109, some (108, true), .faddr 1, [.t 7]⟩ ::
 ⟨some 110, some (108, true), .load false 1, [.t 109]⟩ ::
 ⟨some 111, some (108, true), .faddr 1, [.t 9]⟩ ::
 ⟨some 112, some (108, true), .load false 1, [.t 111]⟩ ::
 ⟨some 113, some (108, true), .bin .lss, [.t 110, .t 112]⟩ ::
 ⟨some 114, some (108, true), .mov, [.t 113]⟩ ::
 ⟨some 115, some (114, false), .faddr 1, [.t 7]⟩ ::
 ⟨some 116, some (114, false), .load false 1, [.t 115]⟩ ::
 ⟨some 117, some (114, false), .faddr 1, [.t 9]⟩ ::
 ⟨some 118, some (114, false), .load false 1, [.t 117]⟩ ::
 ⟨some 119, some (114, false), .bin .eql, [.t 116, .t 118]⟩ ::
 ⟨some 120, some (114, false), .mov, [.t 119]⟩ ::
 ⟨some 121, some (120, true), .faddr 2, [.t 7]⟩ ::
 ⟨some 122, some (120, true), .load false 1, [.t 121]⟩ ::
 ⟨some 123, some (120, true), .faddr 2, [.t 9]⟩ ::
 ⟨some 124, some (120, true), .load false 1, [.t 123]⟩ ::
 ⟨some 125, some (120, true), .bin .lss, [.t 122, .t 124]⟩ ::
 ⟨some 126, some (114, false), .pick, [.t 120, .t 125, .k (.d (.bool false))]⟩ ::
 ⟨some 127, some (108, true), .pick, [.t 114, .k (.d (.bool true)), .t 126]⟩ ::
 ⟨some 128, some (102, false), .pick, [.t 108, .t 127, .k (.d (.bool false))]⟩ ::
 ⟨some 129, none, .pick, [.t 102, .k (.d (.bool true)), .t 128]⟩ ::
 ⟨some 130, none, .mov, [.t 129]⟩ ::
 ⟨some 131, some (130, true), .call 14, []⟩ ::
 ⟨some 132, none, .pick, [.t 130, .t 131, .k (.d (.bool false))]⟩ ::
 ⟨some 6, none, .mov, [.t 132]⟩ ::
 []) [6])
 (.ret)))))))))
theorem dec_law01_ZonesOnce : Fun E0 F_law01_ZonesOnce pc_law01_ZonesOnce [.t 6] 133 := fun_of_dec (fl := []) (by kernel_rfl)
-- platter/platterlaw01.ZonesPlaces (3)
abbrev F_law01_ZonesPlaces : Nat := 10
def pc_law01_ZonesPlaces : PC :=
 .seq (.reg [] (
 ⟨some 3, none, .box, [.t 0]⟩ ::
 ⟨some 4, none, .box, [.t 1]⟩ ::
 ⟨some 6, none, .mov, [.k (.d (.bool false))]⟩ ::
 []) [2, 3, 4])
 (.seq (.seq (.reg [] (
 ⟨some 20, none, .load true 9, [.t 3]⟩ ::
 ⟨some 21, none, .call 13, [.t 20]⟩ ::
 []) [2, 3, 4, 21])
 (.cond (.t 21)
 (.seq (.reg [] (
 ⟨some 22, none, .call 14, []⟩ ::
 ⟨some 6, none, .mov, [.t 22]⟩ ::
 []) [6])
 (.ret))
 (.skip)))
 (.seq (.reg [] (
 ⟨some 23, none, .load true 9, [.t 3]⟩ ::
 ⟨some 24, none, .call 16, [.t 23]⟩ ::
 ⟨some 7, none, .zero [.int .i64 0, .int .i64 0, .list true [], .int .i64 0, .int .i64 0, .int .i64 0, .int .i64 0, .int .i64 0, .int .i64 0], []⟩ ::
 ⟨none, none, .store 9, [.t 7, .t 24]⟩ ::
 []) [2, 3, 4, 7])
 (.seq (.seq (.draw [] (
 (⟨some 25, none, .load true 9, [.t 7]⟩, []) ::
 (⟨some 26, none, .call 34, [.t 25]⟩, []) ::
 (⟨some 27, none, .load true 9, [.t 3]⟩, [1]) ::
 (⟨some 28, none, .call 35, [.t 27]⟩, []) ::
 (⟨some 29, none, .bin .neq, [.t 26, .t 28]⟩, []) ::
 []) [2, 3, 4, 7, 29])
 (.cond (.t 29)
 (.seq (.reg [] (
 ⟨some 6, none, .mov, [.k (.d (.bool false))]⟩ ::
 []) [6])
 (.ret))
 (.skip)))
 (.seq (.reg [] (
 ⟨some 31, none, .load true 9, [.t 7]⟩ ::
 ⟨some 32, none, .call 36, [.t 31]⟩ ::
 ⟨some 30, none, .mov, [.t 32]⟩ ::
 ⟨some 33, none, .extract 0, [.t 30]⟩ ::
 ⟨some 34, none, .extract 1, [.t 30]⟩ ::
 ⟨some 8, none, .mov, [.t 33]⟩ ::
 ⟨some 9, none, .mov, [.t 34]⟩ ::
 []) [2, 3, 4, 7, 8, 9])
 (.seq (.reg [] (
 ⟨some 36, none, .load true 9, [.t 3]⟩ ::
 ⟨some 37, none, .call 37, [.t 36]⟩ ::
 ⟨some 35, none, .mov, [.t 37]⟩ ::
 ⟨some 38, none, .extract 0, [.t 35]⟩ ::
 ⟨some 39, none, .extract 1, [.t 35]⟩ ::
 ⟨some 10, none, .mov, [.t 38]⟩ ::
 ⟨some 11, none, .mov, [.t 39]⟩ ::
 []) [2, 3, 4, 7, 8, 9, 10, 11])
 (.seq (.reg [] (
 ⟨some 41, none, .load true 9, [.t 7]⟩ ::
 ⟨some 42, none, .load true 3, [.t 4]⟩ ::
 ⟨some 43, none, .call 33, [.t 41, .t 42]⟩ ::
 ⟨some 40, none, .mov, [.t 43]⟩ ::
 ⟨some 44, none, .extract 0, [.t 40]⟩ ::
 ⟨some 45, none, .extract 1, [.t 40]⟩ ::
 ⟨some 12, none, .mov, [.t 44]⟩ ::
 ⟨some 13, none, .mov, [.t 45]⟩ ::
 []) [2, 3, 4, 7, 8, 9, 10, 11, 12, 13])
 (.seq (.reg [] (
 ⟨some 47, none, .load true 9, [.t 3]⟩ ::
 ⟨some 48, none, .load true 3, [.t 4]⟩ ::
 ⟨some 49, none, .call 38, [.t 47, .t 48]⟩ ::
 ⟨some 46, none, .mov, [.t 49]⟩ ::
 ⟨some 50, none, .extract 0, [.t 46]⟩ ::
 ⟨some 51, none, .extract 1, [.t 46]⟩ ::
 ⟨some 14, none, .mov, [.t 50]⟩ ::
 ⟨some 15, none, .mov, [.t 51]⟩ ::
 []) [2, 3, 7, 8, 9, 10, 11, 12, 13, 14, 15])
 (.seq (.reg [] (
 ⟨some 53, none, .load true 9, [.t 7]⟩ ::
 ⟨some 54, none, .mov, [.t 2]⟩ ::
 ⟨some 55, none, .call 32, [.t 53, .t 54]⟩ ::
 ⟨some 52, none, .mov, [.t 55]⟩ ::
 ⟨some 56, none, .extract 0, [.t 52]⟩ ::
 ⟨some 57, none, .extract 1, [.t 52]⟩ ::
 ⟨some 16, none, .zero [.int .i64 0, .int .i64 0, .int .i64 0], []⟩ ::
 ⟨none, none, .store 3, [.t 16, .t 56]⟩ ::
 ⟨some 17, none, .mov, [.t 57]⟩ ::
 []) [2, 3, 8, 9, 10, 11, 12, 13, 14, 15, 16, 17])
 (.seq (.reg [] (
 ⟨some 59, none, .load true 9, [.t 3]⟩ ::
 ⟨some 60, none, .mov, [.t 2]⟩ ::
 ⟨some 61, none, .call 39, [.t 59, .t 60]⟩ ::
 ⟨some 58, none, .mov, [.t 61]⟩ ::
 ⟨some 62, none, .extract 0, [.t 58]⟩ ::
 ⟨some 63, none, .extract 1, [.t 58]⟩ ::
 ⟨some 18, none, .zero [.int .i64 0, .int .i64 0, .int .i64 0], []⟩ ::
 ⟨none, none, .store 3, [.t 18, .t 62]⟩ ::
 ⟨some 19, none, .mov, [.t 63]⟩ ::
 []) [8, 9, 10, 11, 12, 13, 14, 15, 16, 17, 18, 19])
 (.seq (.reg [] (
 ⟨some 64, none, .mov, [.t 8]⟩ ::
 ⟨some 65, none, .mov, [.t 10]⟩ ::
 ⟨some 66, none, .bin .eql, [.t 64, .t 65]⟩ ::
 ⟨some 67, none, .mov, [.t 66]⟩ ::
 ⟨some 68, some (67, true), .mov, [.t 9]⟩ ::
 ⟨some 69, some (67, true), .mov, [.t 11]⟩ ::
 ⟨some 70, some (67, true), .bin .eql, [.t 68, .t 69]⟩ ::
 ⟨some 71, none, .pick, [.t 67, .t 70, .k (.d (.bool false))]⟩ ::
 ⟨some 72, none, .mov, [.t 71]⟩ ::
 ⟨some 73, some (72, true), .mov, [.t 12]⟩ ::
 ⟨some 74, some (72, true), .mov, [.t 14]⟩ ::
 ⟨some 75, some (72, true), .bin .eql, [.t 73, .t 74]⟩ ::
 ⟨some 76, none, .pick, [.t 72, .t 75, .k (.d (.bool false))]⟩ ::
 ⟨some 77, none, .mov, [.t 76]⟩ ::
 ⟨some 78, some (77, true), .mov, [.t 13]⟩ ::
 ⟨some 79, some (77, true), .mov, [.t 15]⟩ ::
 ⟨some 80, some (77, true), .bin .eql, [.t 78, .t 79]⟩ ::
 ⟨some 81, none, .pick, [.t 77, .t 80, .k (.d (.bool false))]⟩ ::
 ⟨some 82, none, .mov, [.t 81]⟩ ::
 ⟨some 83, some (82, true), .load true 3, [.t 16]⟩ ::
 ⟨some 84, some (82, true), .load true 3, [.t 18]⟩ ::
 ⟨some 85, some (82, true), .eqv false (true, [some .i64, some .i64, some .i64]), [.t 83, .t 84]⟩ ::
 ⟨some 86, none, .pick, [.t 82, .t 85, .k (.d (.bool false))]⟩ ::
 ⟨some 87, none, .mov, [.t 86]⟩ ::
 ⟨some 88, some (87, true), .mov, [.t 17]⟩ ::
 ⟨some 89, some (87, true), .mov, [.t 19]⟩ ::
 ⟨some 90, some (87, true), .bin .eql, [.t 88, .t 89]⟩ ::
 ⟨some 91, none, .pick, [.t 87, .t 90, .k (.d (.bool false))]⟩ ::
 ⟨some 92, none, .mov, [.t 91]⟩ ::
 ⟨some 93, some (92, true), .call 14, []⟩ ::
 ⟨some 94, none, .pick, [.t 92, .t 93, .k (.d (.bool false))]⟩ ::
 ⟨some 6, none, .mov, [.t 94]⟩ ::
 []) [6])
 (.ret)))))))))))
theorem dec_law01_ZonesPlaces : Fun E0 F_law01_ZonesPlaces pc_law01_ZonesPlaces [.t 6] 95 := fun_of_dec (fl := []) (by kernel_rfl)
-- platter/platterlaw01.ZonesAngles (3)
abbrev F_law01_ZonesAngles : Nat := 11
def pc_law01_ZonesAngles : PC :=
 .seq (.reg [] (
 ⟨some 3, none, .box, [.t 0]⟩ ::
 ⟨some 6, none, .mov, [.k (.d (.bool false))]⟩ ::
 []) [1, 2, 3])
 (.seq (.seq (.reg [] (
 ⟨some 18, none, .load true 9, [.t 3]⟩ ::
 ⟨some 19, none, .call 13, [.t 18]⟩ ::
 []) [1, 2, 3, 19])
 (.cond (.t 19)
 (.seq (.reg [] (
 ⟨some 20, none, .call 14, []⟩ ::
 ⟨some 6, none, .mov, [.t 20]⟩ ::
 []) [6])
 (.ret))
 (.skip)))
 (.seq (.reg [] (
 ⟨some 21, none, .load true 9, [.t 3]⟩ ::
 ⟨some 22, none, .call 16, [.t 21]⟩ ::
 ⟨some 7, none, .zero [.int .i64 0, .int .i64 0, .list true [], .int .i64 0, .int .i64 0, .int .i64 0, .int .i64 0, .int .i64 0, .int .i64 0], []⟩ ::
 ⟨none, none, .store 9, [.t 7, .t 22]⟩ ::
 []) [1, 2, 3, 7])
 (.seq (.reg [] (
 ⟨some 24, none, .load true 9, [.t 7]⟩ ::
 ⟨some 25, none, .mov, [.t 1]⟩ ::
 ⟨some 26, none, .call 40, [.t 24, .t 25]⟩ ::
 ⟨some 23, none, .mov, [.t 26]⟩ ::
 ⟨some 27, none, .extract 0, [.t 23]⟩ ::
 ⟨some 28, none, .extract 1, [.t 23]⟩ ::
 ⟨some 29, none, .extract 2, [.t 23]⟩ ::
 ⟨some 8, none, .mov, [.t 27]⟩ ::
 ⟨some 9, none, .mov, [.t 28]⟩ ::
 ⟨some 10, none, .mov, [.t 29]⟩ ::
 []) [1, 2, 3, 7, 8, 9, 10])
 (.seq (.reg [] (
 ⟨some 31, none, .load true 9, [.t 3]⟩ ::
 ⟨some 32, none, .mov, [.t 1]⟩ ::
 ⟨some 33, none, .call 41, [.t 31, .t 32]⟩ ::
 ⟨some 30, none, .mov, [.t 33]⟩ ::
 ⟨some 34, none, .extract 0, [.t 30]⟩ ::
 ⟨some 35, none, .extract 1, [.t 30]⟩ ::
 ⟨some 36, none, .extract 2, [.t 30]⟩ ::
 ⟨some 11, none, .mov, [.t 34]⟩ ::
 ⟨some 12, none, .mov, [.t 35]⟩ ::
 ⟨some 13, none, .mov, [.t 36]⟩ ::
 []) [1, 2, 3, 7, 8, 9, 10, 11, 12, 13])
 (.seq (.reg [] (
 ⟨some 38, none, .load true 9, [.t 7]⟩ ::
 ⟨some 39, none, .mov, [.t 1]⟩ ::
 ⟨some 40, none, .mov, [.t 2]⟩ ::
 ⟨some 41, none, .call 42, [.t 38, .t 39, .t 40]⟩ ::
 ⟨some 37, none, .mov, [.t 41]⟩ ::
 ⟨some 42, none, .extract 0, [.t 37]⟩ ::
 ⟨some 43, none, .extract 1, [.t 37]⟩ ::
 ⟨some 14, none, .mov, [.t 42]⟩ ::
 ⟨some 15, none, .mov, [.t 43]⟩ ::
 []) [1, 2, 3, 8, 9, 10, 11, 12, 13, 14, 15])
 (.seq (.reg [] (
 ⟨some 45, none, .load true 9, [.t 3]⟩ ::
 ⟨some 46, none, .mov, [.t 1]⟩ ::
 ⟨some 47, none, .mov, [.t 2]⟩ ::
 ⟨some 48, none, .call 43, [.t 45, .t 46, .t 47]⟩ ::
 ⟨some 44, none, .mov, [.t 48]⟩ ::
 ⟨some 49, none, .extract 0, [.t 44]⟩ ::
 ⟨some 50, none, .extract 1, [.t 44]⟩ ::
 ⟨some 16, none, .mov, [.t 49]⟩ ::
 ⟨some 17, none, .mov, [.t 50]⟩ ::
 []) [8, 9, 10, 11, 12, 13, 14, 15, 16, 17])
 (.seq (.reg [] (
 ⟨some 51, none, .mov, [.t 8]⟩ ::
 ⟨some 52, none, .mov, [.t 11]⟩ ::
 ⟨some 53, none, .bin .eql, [.t 51, .t 52]⟩ ::
 ⟨some 54, none, .mov, [.t 53]⟩ ::
 ⟨some 55, some (54, true), .mov, [.t 9]⟩ ::
 ⟨some 56, some (54, true), .mov, [.t 12]⟩ ::
 ⟨some 57, some (54, true), .bin .eql, [.t 55, .t 56]⟩ ::
 ⟨some 58, none, .pick, [.t 54, .t 57, .k (.d (.bool false))]⟩ ::
 ⟨some 59, none, .mov, [.t 58]⟩ ::
 ⟨some 60, some (59, true), .mov, [.t 10]⟩ ::
 ⟨some 61, some (59, true), .mov, [.t 13]⟩ ::
 ⟨some 62, some (59, true), .bin .eql, [.t 60, .t 61]⟩ ::
 ⟨some 63, none, .pick, [.t 59, .t 62, .k (.d (.bool false))]⟩ ::
 ⟨some 64, none, .mov, [.t 63]⟩ ::
 ⟨some 65, some (64, true), .mov, [.t 14]⟩ ::
 ⟨some 66, some (64, true), .mov, [.t 16]⟩ ::
 ⟨some 67, some (64, true), .bin .eql, [.t 65, .t 66]⟩ ::
 ⟨some 68, none, .pick, [.t 64, .t 67, .k (.d (.bool false))]⟩ ::
 ⟨some 69, none, .mov, [.t 68]⟩ ::
 ⟨some 70, some (69, true), .mov, [.t 15]⟩ ::
 ⟨some 71, some (69, true), .mov, [.t 17]⟩ ::
 ⟨some 72, some (69, true), .bin .eql, [.t 70, .t 71]⟩ ::
 ⟨some 73, none, .pick, [.t 69, .t 72, .k (.d (.bool false))]⟩ ::
 ⟨some 74, none, .mov, [.t 73]⟩ ::
 ⟨some 75, some (74, true), .call 14, []⟩ ::
 ⟨some 76, none, .pick, [.t 74, .t 75, .k (.d (.bool false))]⟩ ::
 ⟨some 6, none, .mov, [.t 76]⟩ ::
 []) [6])
 (.ret))))))))
theorem dec_law01_ZonesAngles : Fun E0 F_law01_ZonesAngles pc_law01_ZonesAngles [.t 6] 77 := fun_of_dec (fl := []) (by kernel_rfl)
-- platter/platterlaw01.ZonesStands (3)
abbrev F_law01_ZonesStands : Nat := 12
def pc_law01_ZonesStands : PC :=
 .seq (.reg [] (
 ⟨some 3, none, .box, [.t 0]⟩ ::
 ⟨some 6, none, .mov, [.k (.d (.bool false))]⟩ ::
 []) [1, 2, 3])
 (.seq (.seq (.reg [] (
 ⟨some 19, none, .load true 9, [.t 3]⟩ ::
 ⟨some 20, none, .call 18, [.t 19]⟩ ::
 ⟨some 21, none, .un .not, [.t 20]⟩ ::
 ⟨some 22, none, .mov, [.t 21]⟩ ::
 ⟨some 23, some (22, false), .load true 9, [.t 3]⟩ ::
 ⟨some 24, some (22, false), .mov, [.t 1]⟩ ::
 ⟨some 25, some (22, false), .call 31, [.t 23, .t 24]⟩ ::
 ⟨some 26, some (22, false), .un .not, [.t 25]⟩ ::
 ⟨some 27, none, .pick, [.t 22, .k (.d (.bool true)), .t 26]⟩ ::
 ⟨some 28, none, .mov, [.t 27]⟩ ::
 ⟨some 29, some (28, false), .mov, [.t 2]⟩ ::
 ⟨some 30, some (28, false), .bin .lss, [.t 29, .k (.d (.int .i64 0))]⟩ ::
 ⟨some 31, none, .pick, [.t 28, .k (.d (.bool true)), .t 30]⟩ ::
 ⟨some 32, none, .mov, [.t 31]⟩ ::
 ⟨some 33, some (32, false), .mov, [.t 2]⟩ ::
 ⟨some 34, some (32, false), .bin .gtr, [.t 33, .k (.d (.int .i64 1000000))]⟩ ::
 ⟨some 35, none, .pick, [.t 32, .k (.d (.bool true)), .t 34]⟩ ::
 []) [1, 2, 3, 35])
 (.cond (.t 35)
 (.seq (.reg [] (
 ⟨some 36, none, .call 14, []⟩ ::
 ⟨some 6, none, .mov, [.t 36]⟩ ::
 []) [6])
 (.ret))
 (.skip)))
 (.seq (.reg [] (
 ⟨some 38, none, .load true 9, [.t 3]⟩ ::
 ⟨some 39, none, .mov, [.t 1]⟩ ::
 ⟨some 40, none, .mov, [.t 2]⟩ ::
 ⟨some 41, none, .call 42, [.t 38, .t 39, .t 40]⟩ ::
 ⟨some 37, none, .mov, [.t 41]⟩ ::
 ⟨some 42, none, .extract 0, [.t 37]⟩ ::
 ⟨some 43, none, .extract 1, [.t 37]⟩ ::
 ⟨some 7, none, .mov, [.t 42]⟩ ::
 ⟨some 8, none, .mov, [.t 43]⟩ ::
 []) [1, 2, 3, 7, 8])
 (.seq (.reg [] (
 ⟨some 45, none, .load true 9, [.t 3]⟩ ::
 ⟨some 46, none, .mov, [.t 1]⟩ ::
 ⟨some 47, none, .call 40, [.t 45, .t 46]⟩ ::
 ⟨some 44, none, .mov, [.t 47]⟩ ::
 ⟨some 48, none, .extract 0, [.t 44]⟩ ::
 ⟨some 49, none, .extract 1, [.t 44]⟩ ::
 ⟨some 50, none, .extract 2, [.t 44]⟩ ::
 ⟨some 9, none, .mov, [.t 48]⟩ ::
 ⟨some 10, none, .mov, [.t 49]⟩ ::
 ⟨some 11, none, .mov, [.t 50]⟩ ::
 []) [1, 2, 3, 7, 8, 9, 10, 11])
 (.seq (.seq (.reg [] (
 ⟨some 51, none, .mov, [.t 8]⟩ ::
 ⟨some 52, none, .bin .neq, [.t 51, .k (.d (.int .i64 0))]⟩ ::
 ⟨some 53, none, .mov, [.t 52]⟩ ::
 ⟨some 54, some (53, false), .mov, [.t 11]⟩ ::
 ⟨some 55, some (53, false), .bin .neq, [.t 54, .k (.d (.int .i64 0))]⟩ ::
 ⟨some 56, none, .pick, [.t 53, .k (.d (.bool true)), .t 55]⟩ ::
 ⟨some 57, none, .mov, [.t 56]⟩ ::
 ⟨some 58, some (57, false), .mov, [.t 7]⟩ ::
 ⟨some 59, some (57, false), .bin .lss, [.t 58, .k (.d (.int .i64 0))]⟩ ::
 ⟨some 60, none, .pick, [.t 57, .k (.d (.bool true)), .t 59]⟩ ::
 ⟨some 61, none, .mov, [.t 60]⟩ ::
 ⟨some 62, some (61, false), .mov, [.t 7]⟩ ::
 ⟨some 63, some (61, false), .faddr 1, [.t 3]⟩ ::
 ⟨some 64, some (61, false), .load false 1, [.t 63]⟩ ::
 ⟨some 65, some (61, false), .bin .geq, [.t 62, .t 64]⟩ ::
 ⟨some 66, none, .pick, [.t 61, .k (.d (.bool true)), .t 65]⟩ ::
 ⟨some 67, none, .mov, [.t 66]⟩ ::
 ⟨some 68, some (67, false), .mov, [.t 9]⟩ ::
 ⟨some 69, some (67, false), .bin .lss, [.t 68, .k (.d (.int .i64 0))]⟩ ::
 ⟨some 70, none, .pick, [.t 67, .k (.d (.bool true)), .t 69]⟩ ::
 ⟨some 71, none, .mov, [.t 70]⟩ ::
 ⟨some 72, some (71, false), .mov, [.t 9]⟩ ::
 ⟨some 73, some (71, false), .faddr 1, [.t 3]⟩ ::
 ⟨some 74, some (71, false), .load false 1, [.t 73]⟩ ::
 ⟨some 75, some (71, false), .bin .geq, [.t 72, .t 74]⟩ ::
 ⟨some 76, none, .pick, [.t 71, .k (.d (.bool true)), .t 75]⟩ ::
 ⟨some 77, none, .mov, [.t 76]⟩ ::
 ⟨some 78, some (77, false), .mov, [.t 10]⟩ ::
 ⟨some 79, some (77, false), .bin .lss, [.t 78, .k (.d (.int .i64 1))]⟩ ::
 ⟨some 80, none, .pick, [.t 77, .k (.d (.bool true)), .t 79]⟩ ::
 ⟨some 81, none, .mov, [.t 80]⟩ ::
 ⟨some 82, some (81, false), .mov, [.t 2]⟩ ::
 ⟨some 83, some (81, false), .mov, [.t 7]⟩ ::
 ⟨some 84, some (81, false), .bin .add, [.t 82, .t 83]⟩ ::
 ⟨some 85, some (81, false), .faddr 1, [.t 3]⟩ ::
 ⟨some 86, some (81, false), .load false 1, [.t 85]⟩ ::
 ⟨some 87, some (81, false), .bin .rem, [.t 84, .t 86]⟩ ::
 ⟨some 88, some (81, false), .mov, [.t 9]⟩ ::
 ⟨some 89, some (81, false), .bin .neq, [.t 87, .t 88]⟩ ::
 ⟨some 90, none, .pick, [.t 81, .k (.d (.bool true)), .t 89]⟩ ::
 []) [1, 3, 9, 90])
 (.cond (.t 90)
 (.seq (.reg [] (
 ⟨some 6, none, .mov, [.k (.d (.bool false))]⟩ ::
 []) [6])
 (.ret))
 (.skip)))
 (.seq (.seq (.reg [] (
 ⟨some 91, none, .mov, [.t 1]⟩ ::
 ⟨some 92, none, .bin .eql, [.t 91, .k (.d (.int .i64 0))]⟩ ::
 []) [1, 3, 9, 92])
 (.cond (.t 92)
 (.seq (.reg [] (
 ⟨some 93, none, .call 14, []⟩ ::
 ⟨some 6, none, .mov, [.t 93]⟩ ::
 []) [6])
 (.ret))
 (.skip)))
 (.seq (.reg [] (
 ⟨some 95, none, .load true 9, [.t 3]⟩ ::
 ⟨some 96, none, .mov, [.t 1]⟩ ::
 ⟨some 97, none, .bin .sub, [.t 96, .k (.d (.int .i64 1))]⟩ ::
 ⟨some 98, none, .call 40, [.t 95, .t 97]⟩ ::
 ⟨some 94, none, .mov, [.t 98]⟩ ::
 ⟨some 99, none, .extract 0, [.t 94]⟩ ::
 ⟨some 100, none, .extract 1, [.t 94]⟩ ::
 ⟨some 101, none, .extract 2, [.t 94]⟩ ::
 ⟨some 12, none, .mov, [.t 99]⟩ ::
 ⟨some 13, none, .mov, [.t 100]⟩ ::
 ⟨some 14, none, .mov, [.t 101]⟩ ::
 []) [1, 3, 9, 12, 13, 14])
 (.seq (.reg [] (
 ⟨some 102, none, .mov, [.t 12]⟩ ::
 ⟨some 103, none, .mov, [.t 13]⟩ ::
 ⟨some 104, none, .bin .add, [.t 102, .t 103]⟩ ::
 ⟨some 105, none, .faddr 1, [.t 3]⟩ ::
 ⟨some 106, none, .load false 1, [.t 105]⟩ ::
 ⟨some 107, none, .bin .rem, [.t 104, .t 106]⟩ ::
 ⟨some 15, none, .mov, [.t 107]⟩ ::
 []) [1, 3, 9, 14, 15])
 (.seq (.seq (.reg [] (
 ⟨some 108, none, .load true 9, [.t 3]⟩ ::
 ⟨some 109, none, .mov, [.t 1]⟩ ::
 ⟨some 110, none, .bin .sub, [.t 109, .k (.d (.int .i64 1))]⟩ ::
 ⟨some 111, none, .call 21, [.t 108, .t 110, .k (.d (.int .i64 2))]⟩ ::
 ⟨some 112, none, .iaddrS 1, [.t 111, .k (.d (.int .i64 0))]⟩ ::
 ⟨some 113, none, .load false 1, [.t 112]⟩ ::
 ⟨some 16, none, .mov, [.t 113]⟩ ::
 []) [3, 9, 14, 15, 16])
 (.seq (.reg [] (
 ⟨some 114, none, .mov, [.t 16]⟩ ::
 ⟨some 115, none, .bin .gtr, [.t 114, .k (.d (.int .i64 0))]⟩ ::
 []) [3, 9, 14, 15, 16, 115])
 (.cond (.t 115)
 (.seq (.reg [] (
 ⟨some 117, none, .load true 9, [.t 3]⟩ ::
 ⟨some 118, none, .mov, [.t 16]⟩ ::
 ⟨some 119, none, .call 22, [.t 117, .t 118]⟩ ::
 ⟨some 116, none, .mov, [.t 119]⟩ ::
 ⟨some 120, none, .extract 0, [.t 116]⟩ ::
 ⟨some 121, none, .extract 1, [.t 116]⟩ ::
 ⟨some 17, none, .zero [.int .i64 0, .int .i64 0], []⟩ ::
 ⟨none, none, .store 2, [.t 17, .t 120]⟩ ::
 ⟨some 18, none, .mov, [.t 121]⟩ ::
 []) [3, 9, 14, 15, 18])
 (.reg [] (
 ⟨some 122, none, .mov, [.t 15]⟩ ::
 ⟨some 123, none, .mov, [.t 18]⟩ ::
 ⟨some 124, none, .bin .add, [.t 122, .t 123]⟩ ::
 ⟨some 125, none, .faddr 1, [.t 3]⟩ ::
 ⟨some 126, none, .load false 1, [.t 125]⟩ ::
 ⟨some 127, none, .bin .rem, [.t 124, .t 126]⟩ ::
 ⟨some 15, none, .mov, [.t 127]⟩ ::
 []) [9, 14, 15]))
 (.skip))))
 (.seq (.reg [] (
 ⟨some 128, none, .mov, [.t 14]⟩ ::
 ⟨some 129, none, .bin .eql, [.t 128, .k (.d (.int .i64 0))]⟩ ::
 ⟨some 130, none, .mov, [.t 129]⟩ ::
 ⟨some 131, some (130, true), .mov, [.t 15]⟩ ::
 ⟨some 132, some (130, true), .mov, [.t 9]⟩ ::
 ⟨some 133, some (130, true), .bin .eql, [.t 131, .t 132]⟩ ::
 ⟨some 134, none, .pick, [.t 130, .t 133, .k (.d (.bool false))]⟩ ::
 ⟨some 135, none, .mov, [.t 134]⟩ ::
 ⟨some 136, some (135, true), .call 14, []⟩ ::
 ⟨some 137, none, .pick, [.t 135, .t 136, .k (.d (.bool false))]⟩ ::
 ⟨some 6, none, .mov, [.t 137]⟩ ::
 []) [6])
 (.ret))))))))))
theorem dec_law01_ZonesStands : Fun E0 F_law01_ZonesStands pc_law01_ZonesStands [.t 6] 138 := fun_of_dec (fl := []) (by kernel_rfl)
-- platter/platterlaw01.Far (1)
abbrev F_law01_Far : Nat := 13
def pc_law01_Far : PC :=
 .seq (.reg [] (
 ⟨some 1, none, .box, [.t 0]⟩ ::
 ⟨some 2, none, .mov, [.k (.d (.bool false))]⟩ ::
 []) [1])
 (.seq (.reg [] (
 ⟨some 3, none, .faddr 2, [.t 1]⟩ ::
 ⟨some 4, none, .load false 1, [.t 3]⟩ ::
 ⟨some 5, none, .len false, [.t 4]⟩ ::
 ⟨some 6, none, .bin .gtr, [.t 5, .k (.d (.int .i64 20))]⟩ ::
 ⟨some 7, none, .mov, [.t 6]⟩ ::
 ⟨some 8, some (7, false), .load true 9, [.t 1]⟩ ::
 ⟨some 9, some (7, false), .call 35, [.t 8]⟩ ::
 ⟨some 10, some (7, false), .bin .eql, [.t 9, .k (.d (.int .i64 0))]⟩ ::
 ⟨some 11, some (7, false), .mov, [.t 10]⟩ ::
 ⟨some 12, some (11, true), .load true 9, [.t 1]⟩ ::
 ⟨some 13, some (11, true), .call 27, [.t 12]⟩ ::
 ⟨some 14, some (11, true), .bin .gtr, [.t 13, .k (.d (.int .i64 200))]⟩ ::
 ⟨some 15, some (11, true), .mov, [.t 14]⟩ ::
 ⟨some 16, some (15, false), .faddr 1, [.t 1]⟩ ::
 ⟨some 17, some (15, false), .load false 1, [.t 16]⟩ ::
 ⟨some 18, some (15, false), .bin .gtr, [.t 17, .k (.d (.int .i64 120))]⟩ ::
 ⟨some 19, some (11, true), .pick, [.t 15, .k (.d (.bool true)), .t 18]⟩ ::
 ⟨some 20, some (7, false), .pick, [.t 11, .t 19, .k (.d (.bool false))]⟩ ::
 ⟨some 21, none, .pick, [.t 7, .k (.d (.bool true)), .t 20]⟩ ::
 ⟨some 2, none, .mov, [.t 21]⟩ ::
 []) [2])
 (.ret))
theorem dec_law01_Far : Fun E0 F_law01_Far pc_law01_Far [.t 2] 22 := fun_of_dec (fl := []) (by kernel_rfl)
-- platter/platterlaw01.works (0)
abbrev F_law01_works : Nat := 14
def pc_law01_works : PC :=
 .seq (.reg [] (
 ⟨some 0, none, .mov, [.k (.d (.bool false))]⟩ ::
 []) [])
 (.seq (.reg [] (
 ⟨some 10, none, .call 44, []⟩ ::
 ⟨some 1, none, .zero [.int .i64 0, .int .i64 0, .list true [], .int .i64 0, .int .i64 0, .int .i64 0, .int .i64 0, .int .i64 0, .int .i64 0], []⟩ ::
 ⟨none, none, .store 9, [.t 1, .t 10]⟩ ::
 []) [1])
 (.seq (.reg [] (
 ⟨some 12, none, .load true 9, [.t 1]⟩ ::
 ⟨some 13, none, .build [.int .i64 0, .int .i64 0, .int .i64 0] [(0, 1), (1, 1), (2, 1)], [.k (.d (.int .i64 1)), .k (.d (.int .i64 1)), .k (.d (.int .i64 4))]⟩ ::
 ⟨some 14, none, .call 33, [.t 12, .t 13]⟩ ::
 ⟨some 11, none, .mov, [.t 14]⟩ ::
 ⟨some 15, none, .extract 0, [.t 11]⟩ ::
 ⟨some 16, none, .extract 1, [.t 11]⟩ ::
 ⟨some 2, none, .mov, [.t 15]⟩ ::
 ⟨some 3, none, .mov, [.t 16]⟩ ::
 []) [1, 2, 3])
 (.seq (.reg [] (
 ⟨some 18, none, .load true 9, [.t 1]⟩ ::
 ⟨some 19, none, .call 20, [.t 18, .k (.d (.int .i64 4)), .k (.d (.int .i64 4))]⟩ ::
 ⟨some 17, none, .mov, [.t 19]⟩ ::
 ⟨some 20, none, .extract 0, [.t 17]⟩ ::
 ⟨some 21, none, .extract 1, [.t 17]⟩ ::
 ⟨some 4, none, .zero [.int .i64 0, .int .i64 0], []⟩ ::
 ⟨none, none, .store 2, [.t 4, .t 20]⟩ ::
 ⟨some 5, none, .mov, [.t 21]⟩ ::
 []) [1, 2, 3, 4, 5])
 (.seq (.reg [] (
 ⟨some 23, none, .load true 9, [.t 1]⟩ ::
 ⟨some 24, none, .call 15, [.t 23, .k (.d (.int .i64 10))]⟩ ::
 ⟨some 22, none, .mov, [.t 24]⟩ ::
 ⟨some 25, none, .extract 0, [.t 22]⟩ ::
 ⟨some 26, none, .extract 1, [.t 22]⟩ ::
 ⟨some 27, none, .extract 2, [.t 22]⟩ ::
 ⟨some 28, none, .extract 3, [.t 22]⟩ ::
 ⟨some 6, none, .mov, [.t 25]⟩ ::
 ⟨some 7, none, .mov, [.t 26]⟩ ::
 ⟨some 8, none, .mov, [.t 27]⟩ ::
 ⟨some 9, none, .mov, [.t 28]⟩ ::
 []) [2, 3, 4, 5, 6, 7, 8, 9])
 (.seq (.draw [] (
 (⟨some 29, none, .mov, [.t 3]⟩, []) ::
 (⟨some 30, none, .bin .eql, [.t 29, .k (.d (.int .i64 0))]⟩, []) ::
 (⟨some 31, none, .mov, [.t 30]⟩, []) ::
 (⟨some 32, some (31, true), .mov, [.t 5]⟩, []) ::
 (⟨some 33, some (31, true), .bin .eql, [.t 32, .k (.d (.int .i64 0))]⟩, []) ::
 (⟨some 34, none, .pick, [.t 31, .t 33, .k (.d (.bool false))]⟩, []) ::
 (⟨some 35, none, .mov, [.t 34]⟩, []) ::
 (⟨some 36, some (35, true), .mov, [.t 9]⟩, []) ::
 (⟨some 37, some (35, true), .bin .eql, [.t 36, .k (.d (.int .i64 0))]⟩, []) ::
 (⟨some 38, none, .pick, [.t 35, .t 37, .k (.d (.bool false))]⟩, []) ::
 (⟨some 39, none, .mov, [.t 38]⟩, []) ::
 (⟨some 40, some (39, true), .mov, [.t 2]⟩, []) ::
 (⟨some 41, some (39, true), .bin .eql, [.t 40, .k (.d (.int .i64 22))]⟩, []) ::
 (⟨some 42, none, .pick, [.t 39, .t 41, .k (.d (.bool false))]⟩, []) ::
 (⟨some 43, none, .mov, [.t 42]⟩, []) ::
 (⟨some 44, some (43, true), .load true 2, [.t 4]⟩, []) ::
 (⟨some 45, some (43, true), .call 45, [.k (.d (.int .i64 50)), .k (.d (.int .i64 110))]⟩, [15]) ::
 (⟨some 46, some (43, true), .eqv false (true, [some .i64, some .i64]), [.t 44, .t 45]⟩, []) ::
 (⟨some 47, none, .pick, [.t 43, .t 46, .k (.d (.bool false))]⟩, []) ::
 (⟨some 48, none, .mov, [.t 47]⟩, []) ::
 (⟨some 49, some (48, true), .mov, [.t 6]⟩, []) ::
 (⟨some 50, some (48, true), .bin .eql, [.t 49, .k (.d (.int .i64 20))]⟩, []) ::
 (⟨some 51, none, .pick, [.t 48, .t 50, .k (.d (.bool false))]⟩, []) ::
 (⟨some 52, none, .mov, [.t 51]⟩, []) ::
 (⟨some 53, some (52, true), .mov, [.t 7]⟩, []) ::
 (⟨some 54, some (52, true), .bin .eql, [.t 53, .k (.d (.int .i64 30))]⟩, []) ::
 (⟨some 55, none, .pick, [.t 52, .t 54, .k (.d (.bool false))]⟩, []) ::
 (⟨some 56, none, .mov, [.t 55]⟩, []) ::
 (⟨some 57, some (56, true), .mov, [.t 8]⟩, []) ::
 (⟨some 58, some (56, true), .bin .eql, [.t 57, .k (.d (.int .i64 480))]⟩, []) ::
 (⟨some 59, none, .pick, [.t 56, .t 58, .k (.d (.bool false))]⟩, []) ::
 (⟨some 0, none, .mov, [.t 59]⟩, []) ::
 []) [0])
 (.ret))))))
theorem dec_law01_works : Fun E0 F_law01_works pc_law01_works [.t 0] 60 := fun_of_dec (fl := []) (by kernel_rfl)
-- platter/zones.Skews (2)
abbrev F_zones_Skews : Nat := 15
def pc_zones_Skews : PC :=
 .seq (.reg [] (
 ⟨some 2, none, .box, [.t 0]⟩ ::
 ⟨some 4, none, .mov, [.k (.d (.int .i64 0))]⟩ ::
 ⟨some 5, none, .mov, [.k (.d (.int .i64 0))]⟩ ::
 ⟨some 6, none, .mov, [.k (.d (.int .i64 0))]⟩ ::
 ⟨some 7, none, .mov, [.k (.d (.int .i64 0))]⟩ ::
 []) [1, 2])
 (.seq (.reg [] (
 ⟨some 19, none, .load true 9, [.t 2]⟩ ::
 ⟨some 20, none, .call 46, [.t 19]⟩ ::
 ⟨some 18, none, .mov, [.t 20]⟩ ::
 ⟨some 21, none, .extract 0, [.t 18]⟩ ::
 ⟨some 22, none, .extract 1, [.t 18]⟩ ::
 ⟨some 8, none, .zero [.int .i64 0, .int .i64 0, .list true [], .int .i64 0, .int .i64 0, .int .i64 0, .int .i64 0, .int .i64 0, .int .i64 0], []⟩ ::
 ⟨none, none, .store 9, [.t 8, .t 21]⟩ ::
 ⟨some 7, none, .mov, [.t 22]⟩ ::
 []) [1, 7, 8])
 (.seq (.seq (.reg [] (
 ⟨some 23, none, .mov, [.t 7]⟩ ::
 ⟨some 24, none, .bin .neq, [.t 23, .k (.d (.int .i64 0))]⟩ ::
 []) [1, 7, 8, 24])
 (.cond (.t 24)
 (.seq (.reg [] (
 ⟨some 25, none, .mov, [.t 7]⟩ ::
 ⟨some 4, none, .mov, [.k (.d (.int .i64 0))]⟩ ::
 ⟨some 5, none, .mov, [.k (.d (.int .i64 0))]⟩ ::
 ⟨some 6, none, .mov, [.k (.d (.int .i64 0))]⟩ ::
 ⟨some 7, none, .mov, [.t 25]⟩ ::
 []) [4, 5, 6, 7])
 (.ret))
 (.skip)))
 (.seq (.seq (.reg [] (
 ⟨some 26, none, .mov, [.t 1]⟩ ::
 ⟨some 27, none, .faddr 0, [.t 8]⟩ ::
 ⟨some 28, none, .faddr 1, [.t 27]⟩ ::
 ⟨some 29, none, .load false 1, [.t 28]⟩ ::
 ⟨some 30, none, .call 47, [.t 26, .k (.d (.int .i64 1)), .t 29]⟩ ::
 ⟨some 31, none, .un .not, [.t 30]⟩ ::
 []) [1, 8, 31])
 (.cond (.t 31)
 (.seq (.reg [] (
 ⟨some 4, none, .mov, [.k (.d (.int .i64 0))]⟩ ::
 ⟨some 5, none, .mov, [.k (.d (.int .i64 0))]⟩ ::
 ⟨some 6, none, .mov, [.k (.d (.int .i64 0))]⟩ ::
 ⟨some 7, none, .mov, [.k (.d (.int .i64 1))]⟩ ::
 []) [4, 5, 6, 7])
 (.ret))
 (.skip)))
 (.seq (.draw [] (
 (⟨some 33, none, .load true 9, [.t 8]⟩, []) ::
 (⟨some 34, none, .load true 9, [.t 8]⟩, []) ::
 (⟨some 35, none, .call 49, [.t 34]⟩, [0]) ::
 (⟨some 36, none, .call 48, [.t 33, .k (.d (.int .i64 0)), .t 35]⟩, []) ::
 (⟨some 32, none, .mov, [.t 36]⟩, []) ::
 (⟨some 37, none, .extract 0, [.t 32]⟩, []) ::
 (⟨some 38, none, .extract 1, [.t 32]⟩, []) ::
 (⟨some 9, none, .zero [.int .i64 0, .int .i64 0], []⟩, [0, 1, 2, 3]) ::
 (⟨some 6, none, .mov, [.t 37]⟩, []) ::
 (⟨none, none, .store 2, [.t 9, .t 38]⟩, []) ::
 []) [1, 6, 8, 9])
 (.seq (.reg [] (
 ⟨some 10, none, .zero [.int .i64 0, .int .i64 0], []⟩ ::
 []) [1, 6, 8, 9, 10])
 (.seq (.seq (.reg [] (
 ⟨some 39, none, .load true 9, [.t 8]⟩ ::
 ⟨some 40, none, .call 50, [.t 39]⟩ ::
 ⟨some 41, none, .mov, [.k (.d (.int .i64 0))]⟩ ::
 []) [1, 6, 8, 9, 10, 40, 41])
 (.block 0
 (.loop [] [1, 6, 8, 9, 10, 40, 41] [8, 9, 10, 20, 36, 40, 10020, 10036, 10040, 900001, 901001]
 (.seq (.reg [] (
 ⟨some 42, none, .bin .lss, [.t 41, .k (.d (.int .i64 2))]⟩ ::
 []) [1, 6, 8, 9, 10, 40, 41, 42])
 (.seq (.cond (.t 42)
 (.skip)
 (.exit 0))
 (.seq (.block 1
 (.seq (.reg [] (
 ⟨some 43, none, .mov, [.t 41]⟩ ::
 ⟨some 44, none, .index 2 3 true, [.t 40, .t 41]⟩ ::
 ⟨some 12, none, .zero [.int .i64 0, .int .i64 0, .int .i64 0], []⟩ ::
 ⟨some 11, none, .mov, [.t 43]⟩ ::
 ⟨none, none, .store 3, [.t 12, .t 44]⟩ ::
 []) [1, 6, 8, 9, 10, 11, 12, 40, 41])
 (.seq (.reg [] (
 ⟨some 13, none, .mov, [.k (.d (.int .i64 (-1)))]⟩ ::
 []) [1, 6, 8, 9, 10, 11, 12, 13, 40, 41])
 (.seq (.seq (.reg [] (
 ⟨some 14, none, .mov, [.k (.d (.int .i64 0))]⟩ ::
 []) [1, 6, 8, 9, 10, 11, 12, 13, 14, 40, 41])
 (.block 2
 (.loop [] [1, 6, 8, 9, 10, 11, 12, 13, 14, 40, 41] [8, 9, 10, 12, 20, 36, 40, 10020, 10036, 10040, 900001, 901001]
 (.seq (.seq (.reg [] (
 ⟨some 45, none, .mov, [.t 14]⟩ ::
 ⟨some 46, none, .faddr 0, [.t 8]⟩ ::
 ⟨some 47, none, .faddr 1, [.t 46]⟩ ::
 ⟨some 48, none, .load false 1, [.t 47]⟩ ::
 ⟨some 49, none, .bin .lss, [.t 45, .t 48]⟩ ::
 []) [1, 6, 8, 9, 10, 11, 12, 13, 14, 40, 41, 49])
 (.cond (.t 49)
 (.skip)
 (.exit 2)))
 (.seq (.block 3
 (.seq (.reg [] (
 ⟨some 54, none, .load true 9, [.t 8]⟩ ::
 ⟨some 55, none, .mov, [.t 14]⟩ ::
 ⟨some 56, none, .faddr 0, [.t 12]⟩ ::
 ⟨some 57, none, .faddr 1, [.t 56]⟩ ::
 ⟨some 58, none, .load false 1, [.t 57]⟩ ::
 ⟨some 59, none, .call 51, [.t 54, .t 55, .t 58]⟩ ::
 ⟨some 53, none, .mov, [.t 59]⟩ ::
 ⟨some 60, none, .extract 0, [.t 53]⟩ ::
 ⟨some 61, none, .extract 1, [.t 53]⟩ ::
 ⟨some 15, none, .mov, [.t 60]⟩ ::
 ⟨some 16, none, .mov, [.t 61]⟩ ::
 []) [1, 6, 8, 9, 10, 11, 12, 13, 14, 15, 40, 41])
 (.seq (.reg [] (
 ⟨some 62, none, .mov, [.t 15]⟩ ::
 ⟨some 63, none, .mov, [.t 11]⟩ ::
 ⟨some 64, none, .iaddrA 2 1, [.t 9, .t 63]⟩ ::
 ⟨some 65, none, .load false 1, [.t 64]⟩ ::
 ⟨some 66, none, .bin .mul, [.t 62, .t 65]⟩ ::
 ⟨some 17, none, .mov, [.t 66]⟩ ::
 []) [1, 6, 8, 9, 10, 11, 12, 13, 14, 17, 40, 41])
 (.seq (.reg [] (
 ⟨some 67, none, .mov, [.t 13]⟩ ::
 ⟨some 68, none, .bin .lss, [.t 67, .k (.d (.int .i64 0))]⟩ ::
 ⟨some 69, none, .mov, [.t 68]⟩ ::
 ⟨some 70, some (69, false), .mov, [.t 17]⟩ ::
 ⟨some 71, some (69, false), .mov, [.t 13]⟩ ::
 ⟨some 72, some (69, false), .bin .lss, [.t 70, .t 71]⟩ ::
 ⟨some 73, none, .pick, [.t 69, .k (.d (.bool true)), .t 72]⟩ ::
 []) [1, 6, 8, 9, 10, 11, 12, 13, 14, 17, 40, 41, 73])
 (.cond (.t 73)
 (.reg [] (
 ⟨some 74, none, .mov, [.t 11]⟩ ::
 ⟨some 75, none, .mov, [.t 17]⟩ ::
 ⟨some 76, none, .mov, [.t 14]⟩ ::
 ⟨some 13, none, .mov, [.t 75]⟩ ::
 ⟨some 77, none, .iaddrA 2 1, [.t 10, .t 74]⟩ ::
 ⟨none, none, .store 1, [.t 77, .t 76]⟩ ::
 []) [1, 6, 8, 9, 10, 11, 12, 13, 14, 40, 41])
 (.skip))))))
 (.reg [] (
 ⟨some 50, none, .mov, [.t 14]⟩ ::
 ⟨some 51, none, .mov, [.t 1]⟩ ::
 ⟨some 52, none, .bin .add, [.t 50, .t 51]⟩ ::
 ⟨some 14, none, .mov, [.t 52]⟩ ::
 []) [1, 6, 8, 9, 10, 11, 12, 13, 14, 40, 41]))))))
 (.reg [] (
 ⟨some 78, none, .mov, [.t 6]⟩ ::
 ⟨some 79, none, .mov, [.t 13]⟩ ::
 ⟨some 80, none, .bin .add, [.t 78, .t 79]⟩ ::
 ⟨some 6, none, .mov, [.t 80]⟩ ::
 []) [1, 6, 8, 9, 10, 40, 41])))))
 (.reg [] (
 ⟨some 81, none, .bin .add, [.t 41, .k (.d (.int .i64 1))]⟩ ::
 ⟨some 41, none, .mov, [.t 81]⟩ ::
 []) [1, 6, 8, 9, 10, 40, 41])))))))
 (.seq (.draw [] (
 (⟨some 82, none, .iaddrA 2 1, [.t 10, .k (.d (.int .i64 0))]⟩, []) ::
 (⟨some 83, none, .load false 1, [.t 82]⟩, []) ::
 (⟨some 84, none, .iaddrA 2 1, [.t 10, .k (.d (.int .i64 1))]⟩, []) ::
 (⟨some 85, none, .load false 1, [.t 84]⟩, []) ::
 (⟨some 86, none, .mov, [.t 6]⟩, []) ::
 (⟨some 4, none, .mov, [.t 83]⟩, []) ::
 (⟨some 5, none, .mov, [.t 85]⟩, []) ::
 (⟨some 6, none, .mov, [.t 86]⟩, []) ::
 (⟨some 7, none, .mov, [.k (.d (.int .i64 0))]⟩, []) ::
 []) [4, 5, 6, 7])
 (.ret))))))))
theorem dec_zones_Skews : Fun E0 F_zones_Skews pc_zones_Skews [.t 4, .t 5, .t 6, .t 7] 87 := fun_of_dec (fl := []) (by kernel_rfl)
-- platter/platterref01.Copy (1)
abbrev F_ref01_Copy : Nat := 16
def pc_ref01_Copy : PC :=
 .seq (.reg [] (
 ⟨some 1, none, .box, [.t 0]⟩ ::
 ⟨some 2, none, .zero [.int .i64 0, .int .i64 0, .list true [], .int .i64 0, .int .i64 0, .int .i64 0, .int .i64 0, .int .i64 0, .int .i64 0], []⟩ ::
 []) [1, 2])
 (.seq (.reg [] (
 ⟨some 4, none, .load true 9, [.t 1]⟩ ::
 ⟨some 3, none, .zero [.int .i64 0, .int .i64 0, .list true [], .int .i64 0, .int .i64 0, .int .i64 0, .int .i64 0, .int .i64 0, .int .i64 0], []⟩ ::
 ⟨none, none, .store 9, [.t 3, .t 4]⟩ ::
 []) [1, 2, 3])
 (.seq (.reg [] (
 ⟨some 5, none, .mkrow 2 (.agg [.int .i64 0, .int .i64 0]) 0 [], []⟩ ::
 ⟨some 6, none, .faddr 2, [.t 1]⟩ ::
 ⟨some 7, none, .load false 1, [.t 6]⟩ ::
 ⟨some 8, none, .app 89 2 none true, [.t 5, .t 7]⟩ ::
 ⟨some 9, none, .faddr 2, [.t 3]⟩ ::
 ⟨none, none, .store 1, [.t 9, .t 8]⟩ ::
 []) [2, 3])
 (.seq (.reg [] (
 ⟨some 10, none, .load true 9, [.t 3]⟩ ::
 ⟨none, none, .store 9, [.t 2, .t 10]⟩ ::
 []) [2])
 (.ret))))
theorem dec_ref01_Copy : Fun E0 F_ref01_Copy pc_ref01_Copy [.c 2 26 true 9] 11 := fun_of_dec (fl := []) (by kernel_rfl)
-- platter/platterref01.Skews (2)
abbrev F_ref01_Skews : Nat := 17
def pc_ref01_Skews : PC :=
 .seq (.reg [] (
 ⟨some 2, none, .box, [.t 0]⟩ ::
 ⟨some 4, none, .mov, [.k (.d (.int .i64 0))]⟩ ::
 ⟨some 5, none, .mov, [.k (.d (.int .i64 0))]⟩ ::
 ⟨some 6, none, .mov, [.k (.d (.int .i64 0))]⟩ ::
 ⟨some 7, none, .mov, [.k (.d (.int .i64 0))]⟩ ::
 []) [1, 2, 4, 5])
 (.seq (.seq (.reg [] (
 ⟨some 18, none, .load true 9, [.t 2]⟩ ::
 ⟨some 19, none, .call 35, [.t 18]⟩ ::
 ⟨some 20, none, .bin .neq, [.t 19, .k (.d (.int .i64 0))]⟩ ::
 []) [1, 2, 4, 5, 20])
 (.cond (.t 20)
 (.seq (.reg [] (
 ⟨some 4, none, .mov, [.k (.d (.int .i64 0))]⟩ ::
 ⟨some 5, none, .mov, [.k (.d (.int .i64 0))]⟩ ::
 ⟨some 6, none, .mov, [.k (.d (.int .i64 0))]⟩ ::
 ⟨some 7, none, .mov, [.k (.d (.int .i64 10))]⟩ ::
 []) [4, 5, 6, 7])
 (.ret))
 (.skip)))
 (.seq (.seq (.reg [] (
 ⟨some 21, none, .mov, [.t 1]⟩ ::
 ⟨some 22, none, .faddr 1, [.t 2]⟩ ::
 ⟨some 23, none, .load false 1, [.t 22]⟩ ::
 ⟨some 24, none, .call 52, [.t 21, .k (.d (.int .i64 1)), .t 23]⟩ ::
 ⟨some 25, none, .un .not, [.t 24]⟩ ::
 []) [1, 2, 4, 5, 25])
 (.cond (.t 25)
 (.seq (.reg [] (
 ⟨some 4, none, .mov, [.k (.d (.int .i64 0))]⟩ ::
 ⟨some 5, none, .mov, [.k (.d (.int .i64 0))]⟩ ::
 ⟨some 6, none, .mov, [.k (.d (.int .i64 0))]⟩ ::
 ⟨some 7, none, .mov, [.k (.d (.int .i64 1))]⟩ ::
 []) [4, 5, 6, 7])
 (.ret))
 (.skip)))
 (.seq (.reg [] (
 ⟨some 8, none, .mov, [.k (.d (.int .i64 (-1)))]⟩ ::
 []) [1, 2, 4, 5, 8])
 (.seq (.draw [] (
 (⟨some 26, none, .load true 9, [.t 2]⟩, []) ::
 (⟨some 27, none, .load true 9, [.t 2]⟩, []) ::
 (⟨some 28, none, .call 27, [.t 27]⟩, [0]) ::
 (⟨some 29, none, .call 21, [.t 26, .k (.d (.int .i64 0)), .t 28]⟩, []) ::
 (⟨some 9, none, .mov, [.t 29]⟩, []) ::
 []) [1, 2, 4, 5, 8, 9])
 (.seq (.reg [] (
 ⟨some 10, none, .mov, [.k (.d (.int .i64 0))]⟩ ::
 ⟨some 11, none, .mov, [.k (.d (.int .i64 0))]⟩ ::
 ⟨some 12, none, .mov, [.k (.d (.int .i64 0))]⟩ ::
 []) [1, 2, 4, 5, 8, 9, 10, 11])
 (.seq (.seq (.reg [] (
 ⟨some 13, none, .mov, [.k (.d (.int .i64 0))]⟩ ::
 []) [1, 2, 4, 5, 8, 9, 10, 11, 13])
 (.block 0
 (.loop [] [1, 2, 4, 5, 8, 9, 10, 11, 13] [2, 29, 10029, 900000, 900001, 901000, 901001]
 (.seq (.seq (.reg [] (
 ⟨some 30, none, .mov, [.t 13]⟩ ::
 ⟨some 31, none, .mov, [.t 9]⟩ ::
 ⟨some 32, none, .len false, [.t 31]⟩ ::
 ⟨some 33, none, .bin .lss, [.t 30, .t 32]⟩ ::
 []) [1, 2, 4, 5, 8, 9, 10, 11, 13, 33])
 (.cond (.t 33)
 (.skip)
 (.exit 0)))
 (.seq (.block 1
 (.seq (.seq (.reg [] (
 ⟨some 36, none, .mov, [.t 9]⟩ ::
 ⟨some 37, none, .mov, [.t 13]⟩ ::
 ⟨some 38, none, .iaddrS 1, [.t 36, .t 37]⟩ ::
 ⟨some 39, none, .load false 1, [.t 38]⟩ ::
 ⟨some 40, none, .bin .eql, [.t 39, .k (.d (.int .i64 1))]⟩ ::
 []) [1, 2, 4, 5, 8, 9, 10, 11, 13, 40])
 (.cond (.t 40)
 (.reg [] (
 ⟨some 41, none, .mov, [.t 10]⟩ ::
 ⟨some 42, none, .bin .add, [.t 41, .k (.d (.int .i64 1))]⟩ ::
 ⟨some 10, none, .mov, [.t 42]⟩ ::
 []) [1, 2, 4, 5, 8, 9, 10, 11, 13])
 (.skip)))
 (.seq (.reg [] (
 ⟨some 43, none, .mov, [.t 9]⟩ ::
 ⟨some 44, none, .mov, [.t 13]⟩ ::
 ⟨some 45, none, .iaddrS 1, [.t 43, .t 44]⟩ ::
 ⟨some 46, none, .load false 1, [.t 45]⟩ ::
 ⟨some 47, none, .bin .eql, [.t 46, .k (.d (.int .i64 2))]⟩ ::
 []) [1, 2, 4, 5, 8, 9, 10, 11, 13, 47])
 (.cond (.t 47)
 (.reg [] (
 ⟨some 48, none, .mov, [.t 11]⟩ ::
 ⟨some 49, none, .bin .add, [.t 48, .k (.d (.int .i64 1))]⟩ ::
 ⟨some 11, none, .mov, [.t 49]⟩ ::
 []) [1, 2, 4, 5, 8, 9, 10, 11, 13])
 (.skip)))))
 (.reg [] (
 ⟨some 34, none, .mov, [.t 13]⟩ ::
 ⟨some 35, none, .bin .add, [.t 34, .k (.d (.int .i64 1))]⟩ ::
 ⟨some 13, none, .mov, [.t 35]⟩ ::
 []) [1, 2, 4, 5, 8, 9, 10, 11, 13]))))))
 (.seq (.draw [] (
 (⟨some 50, none, .load true 9, [.t 2]⟩, []) ::
 (⟨some 51, none, .call 53, [.t 50]⟩, []) ::
 (⟨some 52, none, .faddr 0, [.t 2]⟩, []) ::
 (⟨some 53, none, .load false 1, [.t 52]⟩, [1]) ::
 (⟨some 54, none, .bin .mul, [.t 51, .t 53]⟩, []) ::
 (⟨some 55, none, .faddr 1, [.t 2]⟩, []) ::
 (⟨some 56, none, .load false 1, [.t 55]⟩, [1]) ::
 (⟨some 57, none, .bin .mul, [.t 54, .t 56]⟩, []) ::
 (⟨some 12, none, .mov, [.t 57]⟩, []) ::
 []) [1, 2, 4, 5, 8, 10, 11, 12])
 (.seq (.seq (.reg [] (
 ⟨some 14, none, .mov, [.k (.d (.int .i64 0))]⟩ ::
 []) [1, 2, 4, 5, 8, 10, 11, 12, 14])
 (.block 2
 (.loop [] [1, 2, 4, 5, 8, 10, 11, 12, 14] [2, 900000, 900001, 901000, 901001]
 (.seq (.seq (.reg [] (
 ⟨some 58, none, .mov, [.t 14]⟩ ::
 ⟨some 59, none, .faddr 1, [.t 2]⟩ ::
 ⟨some 60, none, .load false 1, [.t 59]⟩ ::
 ⟨some 61, none, .bin .lss, [.t 58, .t 60]⟩ ::
 []) [1, 2, 4, 5, 8, 10, 11, 12, 14, 61])
 (.cond (.t 61)
 (.skip)
 (.exit 2)))
 (.seq (.block 3
 (.seq (.reg [] (
 ⟨some 15, none, .mov, [.k (.d (.int .i64 0))]⟩ ::
 []) [1, 2, 4, 5, 8, 10, 11, 12, 14, 15])
 (.block 4
 (.loop [] [1, 2, 4, 5, 8, 10, 11, 12, 14, 15] [2, 900000, 900001, 901000, 901001]
 (.seq (.seq (.reg [] (
 ⟨some 65, none, .mov, [.t 15]⟩ ::
 ⟨some 66, none, .faddr 1, [.t 2]⟩ ::
 ⟨some 67, none, .load false 1, [.t 66]⟩ ::
 ⟨some 68, none, .bin .lss, [.t 65, .t 67]⟩ ::
 []) [1, 2, 4, 5, 8, 10, 11, 12, 14, 15, 68])
 (.cond (.t 68)
 (.skip)
 (.exit 4)))
 (.seq (.block 5
 (.seq (.reg [] (
 ⟨some 72, none, .load true 9, [.t 2]⟩ ::
 ⟨some 73, none, .mov, [.t 14]⟩ ::
 ⟨some 74, none, .mov, [.t 15]⟩ ::
 ⟨some 75, none, .call 26, [.t 72, .t 73, .t 74]⟩ ::
 ⟨some 16, none, .zero [.int .i64 0, .int .i64 0, .list true [], .int .i64 0, .int .i64 0, .int .i64 0, .int .i64 0, .int .i64 0, .int .i64 0], []⟩ ::
 ⟨none, none, .store 9, [.t 16, .t 75]⟩ ::
 []) [1, 2, 4, 5, 8, 10, 11, 12, 14, 15, 16])
 (.seq (.draw [] (
 (⟨some 76, none, .mov, [.t 12]⟩, []) ::
 (⟨some 77, none, .mov, [.t 10]⟩, []) ::
 (⟨some 78, none, .load true 9, [.t 16]⟩, []) ::
 (⟨some 79, none, .faddr 5, [.t 2]⟩, []) ::
 (⟨some 80, none, .faddr 1, [.t 79]⟩, []) ::
 (⟨some 81, none, .load false 1, [.t 80]⟩, []) ::
 (⟨some 82, none, .call 24, [.t 78, .k (.d (.int .i64 1)), .t 81]⟩, []) ::
 (⟨some 83, none, .bin .mul, [.t 77, .t 82]⟩, []) ::
 (⟨some 84, none, .bin .add, [.t 76, .t 83]⟩, []) ::
 (⟨some 85, none, .mov, [.t 11]⟩, []) ::
 (⟨some 86, none, .load true 9, [.t 16]⟩, [6]) ::
 (⟨some 87, none, .faddr 7, [.t 2]⟩, []) ::
 (⟨some 88, none, .faddr 1, [.t 87]⟩, []) ::
 (⟨some 89, none, .load false 1, [.t 88]⟩, [6]) ::
 (⟨some 90, none, .call 24, [.t 86, .k (.d (.int .i64 2)), .t 89]⟩, []) ::
 (⟨some 91, none, .bin .mul, [.t 85, .t 90]⟩, []) ::
 (⟨some 92, none, .bin .add, [.t 84, .t 91]⟩, []) ::
 (⟨some 17, none, .mov, [.t 92]⟩, []) ::
 []) [1, 2, 4, 5, 8, 10, 11, 12, 14, 15, 17])
 (.seq (.reg [] (
 ⟨some 93, none, .mov, [.t 8]⟩ ::
 ⟨some 94, none, .bin .lss, [.t 93, .k (.d (.int .i64 0))]⟩ ::
 ⟨some 95, none, .mov, [.t 94]⟩ ::
 ⟨some 96, some (95, false), .mov, [.t 17]⟩ ::
 ⟨some 97, some (95, false), .mov, [.t 8]⟩ ::
 ⟨some 98, some (95, false), .bin .lss, [.t 96, .t 97]⟩ ::
 ⟨some 99, none, .pick, [.t 95, .k (.d (.bool true)), .t 98]⟩ ::
 []) [1, 2, 4, 5, 8, 10, 11, 12, 14, 15, 17, 99])
 (.cond (.t 99)
 (.reg [] (
 ⟨some 100, none, .mov, [.t 14]⟩ ::
 ⟨some 101, none, .mov, [.t 15]⟩ ::
 ⟨some 102, none, .mov, [.t 17]⟩ ::
 ⟨some 4, none, .mov, [.t 100]⟩ ::
 ⟨some 5, none, .mov, [.t 101]⟩ ::
 ⟨some 8, none, .mov, [.t 102]⟩ ::
 []) [1, 2, 4, 5, 8, 10, 11, 12, 14, 15])
 (.skip))))))
 (.reg [] (
 ⟨some 69, none, .mov, [.t 15]⟩ ::
 ⟨some 70, none, .mov, [.t 1]⟩ ::
 ⟨some 71, none, .bin .add, [.t 69, .t 70]⟩ ::
 ⟨some 15, none, .mov, [.t 71]⟩ ::
 []) [1, 2, 4, 5, 8, 10, 11, 12, 14, 15])))))))
 (.reg [] (
 ⟨some 62, none, .mov, [.t 14]⟩ ::
 ⟨some 63, none, .mov, [.t 1]⟩ ::
 ⟨some 64, none, .bin .add, [.t 62, .t 63]⟩ ::
 ⟨some 14, none, .mov, [.t 64]⟩ ::
 []) [1, 2, 4, 5, 8, 10, 11, 12, 14]))))))
 (.seq (.reg [] (
 ⟨some 103, none, .mov, [.t 4]⟩ ::
 ⟨some 104, none, .mov, [.t 5]⟩ ::
 ⟨some 105, none, .mov, [.t 8]⟩ ::
 ⟨some 4, none, .mov, [.t 103]⟩ ::
 ⟨some 5, none, .mov, [.t 104]⟩ ::
 ⟨some 6, none, .mov, [.t 105]⟩ ::
 ⟨some 7, none, .mov, [.k (.d (.int .i64 0))]⟩ ::
 []) [4, 5, 6, 7])
 (.ret))))))))))
theorem dec_ref01_Skews : Fun E0 F_ref01_Skews pc_ref01_Skews [.t 4, .t 5, .t 6, .t 7] 106 := fun_of_dec (fl := []) (by kernel_rfl)
-- platter/platterlaw01.ready (1)
abbrev F_law01_ready : Nat := 18
def pc_law01_ready : PC :=
 .seq (.reg [] (
 ⟨some 1, none, .box, [.t 0]⟩ ::
 ⟨some 2, none, .mov, [.k (.d (.bool false))]⟩ ::
 []) [1])
 (.seq (.reg [] (
 ⟨some 3, none, .load true 9, [.t 1]⟩ ::
 ⟨some 4, none, .call 13, [.t 3]⟩ ::
 ⟨some 5, none, .un .not, [.t 4]⟩ ::
 ⟨some 6, none, .mov, [.t 5]⟩ ::
 ⟨some 7, some (6, true), .load true 9, [.t 1]⟩ ::
 ⟨some 8, some (6, true), .call 35, [.t 7]⟩ ::
 ⟨some 9, some (6, true), .bin .eql, [.t 8, .k (.d (.int .i64 0))]⟩ ::
 ⟨some 10, none, .pick, [.t 6, .t 9, .k (.d (.bool false))]⟩ ::
 ⟨some 2, none, .mov, [.t 10]⟩ ::
 []) [2])
 (.ret))
theorem dec_law01_ready : Fun E0 F_law01_ready pc_law01_ready [.t 2] 11 := fun_of_dec (fl := []) (by kernel_rfl)
-- platter/platterref01.IsRun (3)
abbrev F_ref01_IsRun : Nat := 19
def pc_ref01_IsRun : PC :=
 .seq (.reg [] (
 ⟨some 3, none, .box, [.t 0]⟩ ::
 ⟨some 6, none, .mov, [.k (.d (.bool false))]⟩ ::
 []) [1, 2, 3])
 (.seq (.reg [] (
 ⟨some 7, none, .load true 9, [.t 3]⟩ ::
 ⟨some 8, none, .mov, [.t 1]⟩ ::
 ⟨some 9, none, .call 31, [.t 7, .t 8]⟩ ::
 ⟨some 10, none, .mov, [.t 9]⟩ ::
 ⟨some 11, some (10, true), .mov, [.t 2]⟩ ::
 ⟨some 12, some (10, true), .load true 9, [.t 3]⟩ ::
 ⟨some 13, some (10, true), .call 27, [.t 12]⟩ ::
 ⟨some 14, some (10, true), .mov, [.t 1]⟩ ::
 ⟨some 15, some (10, true), .bin .sub, [.t 13, .t 14]⟩ ::
 ⟨some 16, some (10, true), .call 52, [.t 11, .k (.d (.int .i64 1)), .t 15]⟩ ::
 ⟨some 17, none, .pick, [.t 10, .t 16, .k (.d (.bool false))]⟩ ::
 ⟨some 6, none, .mov, [.t 17]⟩ ::
 []) [6])
 (.ret))
theorem dec_ref01_IsRun : Fun E0 F_ref01_IsRun pc_ref01_IsRun [.t 6] 18 := fun_of_dec (fl := []) (by kernel_rfl)
-- platter/zones.Run (3)
abbrev F_zones_Run : Nat := 20
def pc_zones_Run : PC :=
 .seq (.reg [] (
 ⟨some 3, none, .box, [.t 0]⟩ ::
 ⟨some 6, none, .zero [.int .i64 0, .int .i64 0], []⟩ ::
 ⟨some 7, none, .mov, [.k (.d (.int .i64 0))]⟩ ::
 []) [1, 2, 3, 6])
 (.seq (.reg [] (
 ⟨some 14, none, .load true 9, [.t 3]⟩ ::
 ⟨some 15, none, .call 46, [.t 14]⟩ ::
 ⟨some 13, none, .mov, [.t 15]⟩ ::
 ⟨some 16, none, .extract 0, [.t 13]⟩ ::
 ⟨some 17, none, .extract 1, [.t 13]⟩ ::
 ⟨some 8, none, .zero [.int .i64 0, .int .i64 0, .list true [], .int .i64 0, .int .i64 0, .int .i64 0, .int .i64 0, .int .i64 0, .int .i64 0], []⟩ ::
 ⟨none, none, .store 9, [.t 8, .t 16]⟩ ::
 ⟨some 9, none, .mov, [.t 17]⟩ ::
 []) [1, 2, 6, 8, 9])
 (.seq (.seq (.reg [] (
 ⟨some 18, none, .mov, [.t 9]⟩ ::
 ⟨some 19, none, .bin .neq, [.t 18, .k (.d (.int .i64 0))]⟩ ::
 []) [1, 2, 6, 8, 9, 19])
 (.cond (.t 19)
 (.seq (.reg [] (
 ⟨some 20, none, .build [.int .i64 0, .int .i64 0] [], []⟩ ::
 ⟨some 21, none, .mov, [.t 9]⟩ ::
 ⟨none, none, .store 2, [.t 6, .t 20]⟩ ::
 ⟨some 7, none, .mov, [.t 21]⟩ ::
 []) [6, 7])
 (.ret))
 (.skip)))
 (.seq (.seq (.reg [] (
 ⟨some 22, none, .load true 9, [.t 8]⟩ ::
 ⟨some 23, none, .call 49, [.t 22]⟩ ::
 ⟨some 10, none, .mov, [.t 23]⟩ ::
 []) [1, 2, 6, 8, 10])
 (.seq (.reg [] (
 ⟨some 24, none, .mov, [.t 1]⟩ ::
 ⟨some 25, none, .bin .lss, [.t 24, .k (.d (.int .i64 0))]⟩ ::
 ⟨some 26, none, .mov, [.t 25]⟩ ::
 ⟨some 27, some (26, false), .mov, [.t 2]⟩ ::
 ⟨some 28, some (26, false), .bin .lss, [.t 27, .k (.d (.int .i64 1))]⟩ ::
 ⟨some 29, none, .pick, [.t 26, .k (.d (.bool true)), .t 28]⟩ ::
 ⟨some 30, none, .mov, [.t 29]⟩ ::
 ⟨some 31, some (30, false), .mov, [.t 2]⟩ ::
 ⟨some 32, some (30, false), .mov, [.t 10]⟩ ::
 ⟨some 33, some (30, false), .bin .gtr, [.t 31, .t 32]⟩ ::
 ⟨some 34, none, .pick, [.t 30, .k (.d (.bool true)), .t 33]⟩ ::
 ⟨some 35, none, .mov, [.t 34]⟩ ::
 ⟨some 36, some (35, false), .mov, [.t 1]⟩ ::
 ⟨some 37, some (35, false), .mov, [.t 10]⟩ ::
 ⟨some 38, some (35, false), .mov, [.t 2]⟩ ::
 ⟨some 39, some (35, false), .bin .sub, [.t 37, .t 38]⟩ ::
 ⟨some 40, some (35, false), .bin .gtr, [.t 36, .t 39]⟩ ::
 ⟨some 41, none, .pick, [.t 35, .k (.d (.bool true)), .t 40]⟩ ::
 []) [1, 2, 6, 8, 41])
 (.cond (.t 41)
 (.seq (.reg [] (
 ⟨some 42, none, .build [.int .i64 0, .int .i64 0] [], []⟩ ::
 ⟨none, none, .store 2, [.t 6, .t 42]⟩ ::
 ⟨some 7, none, .mov, [.k (.d (.int .i64 1))]⟩ ::
 []) [6, 7])
 (.ret))
 (.skip))))
 (.seq (.reg [] (
 ⟨some 44, none, .load true 9, [.t 8]⟩ ::
 ⟨some 45, none, .mov, [.t 1]⟩ ::
 ⟨some 46, none, .mov, [.t 2]⟩ ::
 ⟨some 47, none, .call 54, [.t 44, .t 45, .t 46]⟩ ::
 ⟨some 43, none, .mov, [.t 47]⟩ ::
 ⟨some 48, none, .extract 0, [.t 43]⟩ ::
 ⟨some 49, none, .extract 1, [.t 43]⟩ ::
 ⟨some 11, none, .zero [.int .i64 0, .int .i64 0], []⟩ ::
 ⟨none, none, .store 2, [.t 11, .t 48]⟩ ::
 ⟨some 12, none, .mov, [.t 49]⟩ ::
 []) [6, 11])
 (.seq (.reg [] (
 ⟨some 50, none, .load true 2, [.t 11]⟩ ::
 ⟨none, none, .store 2, [.t 6, .t 50]⟩ ::
 ⟨some 7, none, .mov, [.k (.d (.int .i64 0))]⟩ ::
 []) [6, 7])
 (.ret))))))
theorem dec_zones_Run : Fun E0 F_zones_Run pc_zones_Run [.c 6 24 true 2, .t 7] 51 := fun_of_dec (fl := []) (by kernel_rfl)
-- platter/platterref01.Switches (3)
abbrev F_ref01_Switches : Nat := 21
def pc_ref01_Switches : PC :=
 .seq (.reg [] (
 ⟨some 3, none, .box, [.t 0]⟩ ::
 ⟨some 6, none, .mov, [.k (.d (.list true []))]⟩ ::
 []) [1, 2, 3])
 (.seq (.reg [] (
 ⟨some 11, none, .load true 9, [.t 3]⟩ ::
 ⟨some 12, none, .call 55, [.t 11]⟩ ::
 ⟨some 7, none, .mov, [.t 12]⟩ ::
 []) [1, 2, 7])
 (.seq (.reg [] (
 ⟨some 8, none, .mov, [.k (.d (.list true []))]⟩ ::
 []) [1, 2, 7, 8])
 (.seq (.seq (.reg [] (
 ⟨some 13, none, .mov, [.t 1]⟩ ::
 ⟨some 14, none, .bin .add, [.t 13, .k (.d (.int .i64 1))]⟩ ::
 ⟨some 9, none, .mov, [.t 14]⟩ ::
 []) [1, 2, 7, 8, 9])
 (.block 0
 (.loop [.own 8 49 3 1] [1, 2, 7, 8, 9] [12, 49, 10012, 900001, 900002, 901001, 901002]
 (.seq (.seq (.reg [] (
 ⟨some 15, none, .mov, [.t 9]⟩ ::
 ⟨some 16, none, .mov, [.t 1]⟩ ::
 ⟨some 17, none, .mov, [.t 2]⟩ ::
 ⟨some 18, none, .bin .add, [.t 16, .t 17]⟩ ::
 ⟨some 19, none, .bin .lss, [.t 15, .t 18]⟩ ::
 []) [1, 2, 7, 8, 9, 19])
 (.cond (.t 19)
 (.skip)
 (.exit 0)))
 (.seq (.block 1
 (.seq (.reg [] (
 ⟨some 10, none, .mov, [.k (.d (.int .i64 0))]⟩ ::
 []) [1, 2, 7, 8, 9, 10])
 (.seq (.seq (.draw [] (
 (⟨some 22, none, .mov, [.t 7]⟩, []) ::
 (⟨some 23, none, .mov, [.t 9]⟩, []) ::
 (⟨some 24, none, .iaddrS 3, [.t 22, .t 23]⟩, []) ::
 (⟨some 25, none, .faddr 0, [.t 24]⟩, []) ::
 (⟨some 26, none, .load false 1, [.t 25]⟩, []) ::
 (⟨some 27, none, .mov, [.t 7]⟩, []) ::
 (⟨some 28, none, .mov, [.t 9]⟩, []) ::
 (⟨some 29, none, .bin .sub, [.t 28, .k (.d (.int .i64 1))]⟩, []) ::
 (⟨some 30, none, .iaddrS 3, [.t 27, .t 29]⟩, []) ::
 (⟨some 31, none, .faddr 0, [.t 30]⟩, []) ::
 (⟨some 32, none, .load false 1, [.t 31]⟩, []) ::
 (⟨some 33, none, .bin .neq, [.t 26, .t 32]⟩, []) ::
 []) [1, 2, 7, 8, 9, 10, 33])
 (.cond (.t 33)
 (.reg [] (
 ⟨some 10, none, .mov, [.k (.d (.int .i64 2))]⟩ ::
 []) [1, 2, 7, 8, 9, 10])
 (.seq (.draw [] (
 (⟨some 34, none, .mov, [.t 7]⟩, []) ::
 (⟨some 35, none, .mov, [.t 9]⟩, []) ::
 (⟨some 36, none, .iaddrS 3, [.t 34, .t 35]⟩, []) ::
 (⟨some 37, none, .faddr 1, [.t 36]⟩, []) ::
 (⟨some 38, none, .load false 1, [.t 37]⟩, []) ::
 (⟨some 39, none, .mov, [.t 7]⟩, []) ::
 (⟨some 40, none, .mov, [.t 9]⟩, []) ::
 (⟨some 41, none, .bin .sub, [.t 40, .k (.d (.int .i64 1))]⟩, []) ::
 (⟨some 42, none, .iaddrS 3, [.t 39, .t 41]⟩, []) ::
 (⟨some 43, none, .faddr 1, [.t 42]⟩, []) ::
 (⟨some 44, none, .load false 1, [.t 43]⟩, []) ::
 (⟨some 45, none, .bin .neq, [.t 38, .t 44]⟩, []) ::
 []) [1, 2, 7, 8, 9, 10, 45])
 (.cond (.t 45)
 (.reg [] (
 ⟨some 10, none, .mov, [.k (.d (.int .i64 1))]⟩ ::
 []) [1, 2, 7, 8, 9, 10])
 (.skip)))))
 (.reg [] (
 ⟨some 46, none, .mov, [.t 8]⟩ ::
 ⟨some 47, none, .mov, [.t 10]⟩ ::
 ⟨some 48, none, .mkrow 1 (.int .i64 0) 1 [0], [.t 47]⟩ ::
 ⟨some 49, none, .app 3 1 none true, [.t 46, .t 48]⟩ ::
 ⟨some 8, none, .mov, [.t 49]⟩ ::
 []) [1, 2, 7, 8, 9]))))
 (.reg [] (
 ⟨some 20, none, .mov, [.t 9]⟩ ::
 ⟨some 21, none, .bin .add, [.t 20, .k (.d (.int .i64 1))]⟩ ::
 ⟨some 9, none, .mov, [.t 21]⟩ ::
 []) [1, 2, 7, 8, 9]))))))
 (.seq (.reg [] (
 ⟨some 50, none, .mov, [.t 8]⟩ ::
 ⟨some 6, none, .mov, [.t 50]⟩ ::
 []) [6])
 (.ret)))))
theorem dec_ref01_Switches : Fun E0 F_ref01_Switches pc_ref01_Switches [.t 6] 51 := fun_of_dec (fl := []) (by kernel_rfl)
-- platter/platterref01.SwitchOf (2)
abbrev F_ref01_SwitchOf : Nat := 22
def pc_ref01_SwitchOf : PC :=
 .seq (.reg [] (
 ⟨some 2, none, .box, [.t 0]⟩ ::
 ⟨some 4, none, .zero [.int .i64 0, .int .i64 0], []⟩ ::
 ⟨some 5, none, .mov, [.k (.d (.int .i64 0))]⟩ ::
 []) [1, 2, 4])
 (.seq (.seq (.reg [] (
 ⟨some 6, none, .mov, [.t 1]⟩ ::
 ⟨some 7, none, .bin .eql, [.t 6, .k (.d (.int .i64 1))]⟩ ::
 []) [1, 2, 4, 7])
 (.cond (.t 7)
 (.seq (.draw [] (
 (⟨some 8, none, .faddr 5, [.t 2]⟩, []) ::
 (⟨some 9, none, .load true 2, [.t 8]⟩, []) ::
 (⟨some 10, none, .faddr 3, [.t 2]⟩, []) ::
 (⟨some 11, none, .load false 1, [.t 10]⟩, []) ::
 (⟨none, none, .store 2, [.t 4, .t 9]⟩, [3]) ::
 (⟨some 5, none, .mov, [.t 11]⟩, []) ::
 []) [4, 5])
 (.ret))
 (.skip)))
 (.seq (.seq (.reg [] (
 ⟨some 12, none, .mov, [.t 1]⟩ ::
 ⟨some 13, none, .bin .eql, [.t 12, .k (.d (.int .i64 2))]⟩ ::
 []) [2, 4, 13])
 (.cond (.t 13)
 (.seq (.draw [] (
 (⟨some 14, none, .faddr 7, [.t 2]⟩, []) ::
 (⟨some 15, none, .load true 2, [.t 14]⟩, []) ::
 (⟨some 16, none, .faddr 4, [.t 2]⟩, []) ::
 (⟨some 17, none, .load false 1, [.t 16]⟩, []) ::
 (⟨none, none, .store 2, [.t 4, .t 15]⟩, [3]) ::
 (⟨some 5, none, .mov, [.t 17]⟩, []) ::
 []) [4, 5])
 (.ret))
 (.skip)))
 (.seq (.reg [] (
 ⟨some 18, none, .build [.int .i64 0, .int .i64 0] [], []⟩ ::
 ⟨none, none, .store 2, [.t 4, .t 18]⟩ ::
 ⟨some 5, none, .mov, [.k (.d (.int .i64 0))]⟩ ::
 []) [4, 5])
 (.ret))))
theorem dec_ref01_SwitchOf : Fun E0 F_ref01_SwitchOf pc_ref01_SwitchOf [.c 4 24 true 2, .t 5] 19 := fun_of_dec (fl := []) (by kernel_rfl)
-- platter/platterref01.Ticks (4)
abbrev F_ref01_Ticks : Nat := 23
def pc_ref01_Ticks : PC :=
 .seq (.reg [] (
 ⟨some 4, none, .box, [.t 0]⟩ ::
 ⟨some 8, none, .mov, [.k (.d (.int .i64 0))]⟩ ::
 []) [1, 2, 3, 4])
 (.seq (.reg [] (
 ⟨some 14, none, .load true 9, [.t 4]⟩ ::
 ⟨some 15, none, .call 55, [.t 14]⟩ ::
 ⟨some 9, none, .mov, [.t 15]⟩ ::
 []) [1, 2, 3, 4, 9])
 (.seq (.reg [] (
 ⟨some 16, none, .load true 9, [.t 4]⟩ ::
 ⟨some 17, none, .mov, [.t 1]⟩ ::
 ⟨some 18, none, .mov, [.t 2]⟩ ::
 ⟨some 19, none, .call 21, [.t 16, .t 17, .t 18]⟩ ::
 ⟨some 10, none, .mov, [.t 19]⟩ ::
 []) [1, 2, 3, 4, 9, 10])
 (.seq (.reg [] (
 ⟨some 11, none, .mov, [.k (.d (.int .i64 0))]⟩ ::
 []) [1, 2, 3, 4, 9, 10, 11])
 (.seq (.seq (.reg [] (
 ⟨some 20, none, .mov, [.t 1]⟩ ::
 ⟨some 12, none, .mov, [.t 20]⟩ ::
 []) [1, 2, 3, 4, 9, 10, 11, 12])
 (.block 0
 (.loop [] [1, 2, 3, 4, 9, 10, 11, 12] [4, 15, 19, 10015, 10019, 900000, 900001, 900002, 900003, 901000, 901001, 901002, 901003]
 (.seq (.seq (.reg [] (
 ⟨some 21, none, .mov, [.t 12]⟩ ::
 ⟨some 22, none, .mov, [.t 1]⟩ ::
 ⟨some 23, none, .mov, [.t 2]⟩ ::
 ⟨some 24, none, .bin .add, [.t 22, .t 23]⟩ ::
 ⟨some 25, none, .bin .lss, [.t 21, .t 24]⟩ ::
 []) [1, 2, 3, 4, 9, 10, 11, 12, 25])
 (.cond (.t 25)
 (.skip)
 (.exit 0)))
 (.seq (.block 1
 (.draw [] (
 (⟨some 28, none, .mov, [.t 11]⟩, []) ::
 (⟨some 29, none, .faddr 1, [.t 4]⟩, []) ::
 (⟨some 30, none, .load false 1, [.t 29]⟩, []) ::
 (⟨some 31, none, .load true 9, [.t 4]⟩, []) ::
 (⟨some 32, none, .mov, [.t 9]⟩, []) ::
 (⟨some 33, none, .mov, [.t 12]⟩, []) ::
 (⟨some 34, none, .iaddrS 3, [.t 32, .t 33]⟩, []) ::
 (⟨some 35, none, .faddr 0, [.t 34]⟩, []) ::
 (⟨some 36, none, .load false 1, [.t 35]⟩, []) ::
 (⟨some 37, none, .call 56, [.t 31, .t 36]⟩, [2]) ::
 (⟨some 38, none, .bin .quo, [.t 30, .t 37]⟩, []) ::
 (⟨some 39, none, .bin .add, [.t 28, .t 38]⟩, []) ::
 (⟨some 11, none, .mov, [.t 39]⟩, []) ::
 []) [1, 2, 3, 4, 9, 10, 11, 12]))
 (.reg [] (
 ⟨some 26, none, .mov, [.t 12]⟩ ::
 ⟨some 27, none, .bin .add, [.t 26, .k (.d (.int .i64 1))]⟩ ::
 ⟨some 12, none, .mov, [.t 27]⟩ ::
 []) [1, 2, 3, 4, 9, 10, 11, 12]))))))
 (.seq (.seq (.reg [] (
 ⟨some 13, none, .mov, [.k (.d (.int .i64 0))]⟩ ::
 []) [3, 4, 10, 11, 13])
 (.block 2
 (.loop [] [3, 4, 10, 11, 13] [4, 19, 10019, 900000, 900003, 901000, 901003]
 (.seq (.seq (.reg [] (
 ⟨some 40, none, .mov, [.t 13]⟩ ::
 ⟨some 41, none, .mov, [.t 10]⟩ ::
 ⟨some 42, none, .len false, [.t 41]⟩ ::
 ⟨some 43, none, .bin .lss, [.t 40, .t 42]⟩ ::
 []) [3, 4, 10, 11, 13, 43])
 (.cond (.t 43)
 (.skip)
 (.exit 2)))
 (.seq (.block 3
 (.seq (.reg [] (
 ⟨some 46, none, .mov, [.t 10]⟩ ::
 ⟨some 47, none, .mov, [.t 13]⟩ ::
 ⟨some 48, none, .iaddrS 1, [.t 46, .t 47]⟩ ::
 ⟨some 49, none, .load false 1, [.t 48]⟩ ::
 ⟨some 50, none, .bin .gtr, [.t 49, .k (.d (.int .i64 0))]⟩ ::
 []) [3, 4, 10, 11, 13, 50])
 (.cond (.t 50)
 (.draw [] (
 (⟨some 51, none, .mov, [.t 11]⟩, []) ::
 (⟨some 52, none, .load true 9, [.t 4]⟩, []) ::
 (⟨some 53, none, .mov, [.t 10]⟩, []) ::
 (⟨some 54, none, .mov, [.t 13]⟩, []) ::
 (⟨some 55, none, .iaddrS 1, [.t 53, .t 54]⟩, []) ::
 (⟨some 56, none, .load false 1, [.t 55]⟩, []) ::
 (⟨some 57, none, .mov, [.t 3]⟩, []) ::
 (⟨some 58, none, .mov, [.t 13]⟩, []) ::
 (⟨some 59, none, .iaddrS 1, [.t 57, .t 58]⟩, []) ::
 (⟨some 60, none, .load false 1, [.t 59]⟩, []) ::
 (⟨some 61, none, .call 24, [.t 52, .t 56, .t 60]⟩, []) ::
 (⟨some 62, none, .bin .add, [.t 51, .t 61]⟩, []) ::
 (⟨some 11, none, .mov, [.t 62]⟩, []) ::
 []) [3, 4, 10, 11, 13])
 (.skip))))
 (.reg [] (
 ⟨some 44, none, .mov, [.t 13]⟩ ::
 ⟨some 45, none, .bin .add, [.t 44, .k (.d (.int .i64 1))]⟩ ::
 ⟨some 13, none, .mov, [.t 45]⟩ ::
 []) [3, 4, 10, 11, 13]))))))
 (.seq (.reg [] (
 ⟨some 63, none, .mov, [.t 11]⟩ ::
 ⟨some 8, none, .mov, [.t 63]⟩ ::
 []) [8])
 (.ret)))))))
theorem dec_ref01_Ticks : Fun E0 F_ref01_Ticks pc_ref01_Ticks [.t 8] 64 := fun_of_dec (fl := []) (by kernel_rfl)
-- platter/platterref01.Gap (3)
abbrev F_ref01_Gap : Nat := 24
def pc_ref01_Gap : PC :=
 .seq (.reg [] (
 ⟨some 3, none, .box, [.t 0]⟩ ::
 ⟨some 6, none, .mov, [.k (.d (.int .i64 0))]⟩ ::
 []) [1, 2, 3])
 (.seq (.reg [] (
 ⟨some 10, none, .load true 9, [.t 3]⟩ ::
 ⟨some 11, none, .mov, [.t 1]⟩ ::
 ⟨some 12, none, .call 22, [.t 10, .t 11]⟩ ::
 ⟨some 9, none, .mov, [.t 12]⟩ ::
 ⟨some 13, none, .extract 0, [.t 9]⟩ ::
 ⟨some 14, none, .extract 1, [.t 9]⟩ ::
 ⟨some 7, none, .zero [.int .i64 0, .int .i64 0], []⟩ ::
 ⟨none, none, .store 2, [.t 7, .t 13]⟩ ::
 ⟨some 8, none, .mov, [.t 14]⟩ ::
 []) [2, 3, 8])
 (.seq (.reg [] (
 ⟨some 15, none, .mov, [.t 2]⟩ ::
 ⟨some 16, none, .load true 9, [.t 3]⟩ ::
 ⟨some 17, none, .mov, [.t 2]⟩ ::
 ⟨some 18, none, .mov, [.t 8]⟩ ::
 ⟨some 19, none, .call 57, [.t 16, .t 17, .t 18]⟩ ::
 ⟨some 20, none, .bin .add, [.t 15, .t 19]⟩ ::
 ⟨some 6, none, .mov, [.t 20]⟩ ::
 []) [6])
 (.ret)))
theorem dec_ref01_Gap : Fun E0 F_ref01_Gap pc_ref01_Gap [.t 6] 21 := fun_of_dec (fl := []) (by kernel_rfl)
-- platter/platterlaw01.narrow (3)
abbrev F_law01_narrow : Nat := 25
def pc_law01_narrow : PC :=
 .seq (.reg [] (
 ⟨some 3, none, .box, [.t 0]⟩ ::
 ⟨some 6, none, .zero [.int .i64 0, .int .i64 0], []⟩ ::
 []) [1, 2, 3, 6])
 (.seq (.reg [] (
 ⟨some 8, none, .faddr 1, [.t 3]⟩ ::
 ⟨some 9, none, .load false 1, [.t 8]⟩ ::
 ⟨some 10, none, .faddr 0, [.t 3]⟩ ::
 ⟨some 11, none, .load false 1, [.t 10]⟩ ::
 ⟨some 12, none, .mov, [.t 1]⟩ ::
 ⟨some 13, none, .bin .add, [.t 11, .t 12]⟩ ::
 ⟨some 14, none, .minmax false, [.t 9, .t 13]⟩ ::
 ⟨some 7, none, .mov, [.t 14]⟩ ::
 []) [2, 3, 6, 7])
 (.seq (.reg [] (
 ⟨some 15, none, .mov, [.t 7]⟩ ::
 ⟨some 16, none, .mov, [.t 7]⟩ ::
 ⟨some 17, none, .faddr 1, [.t 3]⟩ ::
 ⟨some 18, none, .load false 1, [.t 17]⟩ ::
 ⟨some 19, none, .mov, [.t 2]⟩ ::
 ⟨some 20, none, .bin .sub, [.t 18, .t 19]⟩ ::
 ⟨some 21, none, .minmax true, [.t 16, .t 20]⟩ ::
 ⟨some 22, none, .call 45, [.t 15, .t 21]⟩ ::
 ⟨none, none, .store 2, [.t 6, .t 22]⟩ ::
 []) [6])
 (.ret)))
theorem dec_law01_narrow : Fun E0 F_law01_narrow pc_law01_narrow [.c 6 24 true 2] 23 := fun_of_dec (fl := []) (by kernel_rfl)
-- platter/platterref01.With (3)
abbrev F_ref01_With : Nat := 26
def pc_ref01_With : PC :=
 .seq (.reg [] (
 ⟨some 3, none, .box, [.t 0]⟩ ::
 ⟨some 6, none, .zero [.int .i64 0, .int .i64 0, .list true [], .int .i64 0, .int .i64 0, .int .i64 0, .int .i64 0, .int .i64 0, .int .i64 0], []⟩ ::
 []) [1, 2, 3, 6])
 (.seq (.reg [] (
 ⟨some 8, none, .load true 9, [.t 3]⟩ ::
 ⟨some 7, none, .zero [.int .i64 0, .int .i64 0, .list true [], .int .i64 0, .int .i64 0, .int .i64 0, .int .i64 0, .int .i64 0, .int .i64 0], []⟩ ::
 ⟨none, none, .store 9, [.t 7, .t 8]⟩ ::
 []) [1, 2, 6, 7])
 (.seq (.reg [] (
 ⟨some 9, none, .mov, [.t 1]⟩ ::
 ⟨some 10, none, .mov, [.t 2]⟩ ::
 ⟨some 11, none, .faddr 3, [.t 7]⟩ ::
 ⟨none, none, .store 1, [.t 11, .t 9]⟩ ::
 ⟨some 12, none, .faddr 4, [.t 7]⟩ ::
 ⟨none, none, .store 1, [.t 12, .t 10]⟩ ::
 []) [6, 7])
 (.seq (.reg [] (
 ⟨some 13, none, .load true 9, [.t 7]⟩ ::
 ⟨none, none, .store 9, [.t 6, .t 13]⟩ ::
 []) [6])
 (.ret))))
theorem dec_ref01_With : Fun E0 F_ref01_With pc_ref01_With [.c 6 26 true 9] 14 := fun_of_dec (fl := []) (by kernel_rfl)
-- platter/platterref01.Count (1)
abbrev F_ref01_Count : Nat := 27
def pc_ref01_Count : PC :=
 .seq (.reg [] (
 ⟨some 1, none, .box, [.t 0]⟩ ::
 ⟨some 2, none, .mov, [.k (.d (.int .i64 0))]⟩ ::
 []) [1])
 (.seq (.reg [] (
 ⟨some 3, none, .mov, [.k (.d (.int .i64 0))]⟩ ::
 []) [1, 3])
 (.seq (.seq (.reg [] (
 ⟨some 4, none, .mov, [.k (.d (.int .i64 0))]⟩ ::
 []) [1, 3, 4])
 (.block 0
 (.loop [] [1, 3, 4] [1, 900000, 901000]
 (.seq (.seq (.reg [] (
 ⟨some 5, none, .mov, [.t 4]⟩ ::
 ⟨some 6, none, .faddr 2, [.t 1]⟩ ::
 ⟨some 7, none, .load false 1, [.t 6]⟩ ::
 ⟨some 8, none, .len false, [.t 7]⟩ ::
 ⟨some 9, none, .bin .lss, [.t 5, .t 8]⟩ ::
 []) [1, 3, 4, 9])
 (.cond (.t 9)
 (.skip)
 (.exit 0)))
 (.seq (.block 1
 (.draw [] (
 (⟨some 12, none, .mov, [.t 3]⟩, []) ::
 (⟨some 13, none, .faddr 2, [.t 1]⟩, []) ::
 (⟨some 14, none, .load false 1, [.t 13]⟩, []) ::
 (⟨some 15, none, .mov, [.t 4]⟩, []) ::
 (⟨some 16, none, .iaddrS 2, [.t 14, .t 15]⟩, []) ::
 (⟨some 17, none, .faddr 0, [.t 16]⟩, []) ::
 (⟨some 18, none, .load false 1, [.t 17]⟩, []) ::
 (⟨some 19, none, .faddr 2, [.t 1]⟩, []) ::
 (⟨some 20, none, .load false 1, [.t 19]⟩, []) ::
 (⟨some 21, none, .mov, [.t 4]⟩, []) ::
 (⟨some 22, none, .iaddrS 2, [.t 20, .t 21]⟩, []) ::
 (⟨some 23, none, .faddr 1, [.t 22]⟩, []) ::
 (⟨some 24, none, .load false 1, [.t 23]⟩, []) ::
 (⟨some 25, none, .bin .mul, [.t 18, .t 24]⟩, []) ::
 (⟨some 26, none, .faddr 0, [.t 1]⟩, []) ::
 (⟨some 27, none, .load false 1, [.t 26]⟩, []) ::
 (⟨some 28, none, .bin .mul, [.t 25, .t 27]⟩, []) ::
 (⟨some 29, none, .bin .add, [.t 12, .t 28]⟩, []) ::
 (⟨some 3, none, .mov, [.t 29]⟩, []) ::
 []) [1, 3, 4]))
 (.reg [] (
 ⟨some 10, none, .mov, [.t 4]⟩ ::
 ⟨some 11, none, .bin .add, [.t 10, .k (.d (.int .i64 1))]⟩ ::
 ⟨some 4, none, .mov, [.t 11]⟩ ::
 []) [1, 3, 4]))))))
 (.seq (.reg [] (
 ⟨some 30, none, .mov, [.t 3]⟩ ::
 ⟨some 2, none, .mov, [.t 30]⟩ ::
 []) [2])
 (.ret))))
theorem dec_ref01_Count : Fun E0 F_ref01_Count pc_ref01_Count [.t 2] 31 := fun_of_dec (fl := []) (by kernel_rfl)
-- platter/platterref01.Run (3)
abbrev F_ref01_Run : Nat := 28
def pc_ref01_Run : PC :=
 .seq (.reg [] (
 ⟨some 3, none, .box, [.t 0]⟩ ::
 ⟨some 6, none, .zero [.int .i64 0, .int .i64 0], []⟩ ::
 ⟨some 7, none, .mov, [.k (.d (.int .i64 0))]⟩ ::
 []) [1, 2, 3, 6])
 (.seq (.seq (.reg [] (
 ⟨some 8, none, .load true 9, [.t 3]⟩ ::
 ⟨some 9, none, .call 35, [.t 8]⟩ ::
 ⟨some 10, none, .bin .neq, [.t 9, .k (.d (.int .i64 0))]⟩ ::
 []) [1, 2, 3, 6, 10])
 (.cond (.t 10)
 (.seq (.reg [] (
 ⟨some 11, none, .build [.int .i64 0, .int .i64 0] [], []⟩ ::
 ⟨none, none, .store 2, [.t 6, .t 11]⟩ ::
 ⟨some 7, none, .mov, [.k (.d (.int .i64 10))]⟩ ::
 []) [6, 7])
 (.ret))
 (.skip)))
 (.seq (.seq (.reg [] (
 ⟨some 12, none, .load true 9, [.t 3]⟩ ::
 ⟨some 13, none, .mov, [.t 1]⟩ ::
 ⟨some 14, none, .mov, [.t 2]⟩ ::
 ⟨some 15, none, .call 19, [.t 12, .t 13, .t 14]⟩ ::
 ⟨some 16, none, .un .not, [.t 15]⟩ ::
 []) [1, 2, 3, 6, 16])
 (.cond (.t 16)
 (.seq (.reg [] (
 ⟨some 17, none, .build [.int .i64 0, .int .i64 0] [], []⟩ ::
 ⟨none, none, .store 2, [.t 6, .t 17]⟩ ::
 ⟨some 7, none, .mov, [.k (.d (.int .i64 1))]⟩ ::
 []) [6, 7])
 (.ret))
 (.skip)))
 (.seq (.reg [] (
 ⟨some 18, none, .load true 9, [.t 3]⟩ ::
 ⟨some 19, none, .mov, [.t 1]⟩ ::
 ⟨some 20, none, .mov, [.t 2]⟩ ::
 ⟨some 21, none, .call 58, [.t 18, .t 19, .t 20]⟩ ::
 ⟨none, none, .store 2, [.t 6, .t 21]⟩ ::
 ⟨some 7, none, .mov, [.k (.d (.int .i64 0))]⟩ ::
 []) [6, 7])
 (.ret))))
theorem dec_ref01_Run : Fun E0 F_ref01_Run pc_ref01_Run [.c 6 24 true 2, .t 7] 22 := fun_of_dec (fl := []) (by kernel_rfl)
-- platter/zones.Lost (1)
abbrev F_zones_Lost : Nat := 29
def pc_zones_Lost : PC :=
 .seq (.reg [] (
 ⟨some 1, none, .box, [.t 0]⟩ ::
 ⟨some 2, none, .mov, [.k (.d (.int .i64 0))]⟩ ::
 ⟨some 3, none, .mov, [.k (.d (.int .i64 0))]⟩ ::
 []) [1])
 (.seq (.reg [] (
 ⟨some 9, none, .load true 9, [.t 1]⟩ ::
 ⟨some 10, none, .call 46, [.t 9]⟩ ::
 ⟨some 8, none, .mov, [.t 10]⟩ ::
 ⟨some 11, none, .extract 0, [.t 8]⟩ ::
 ⟨some 12, none, .extract 1, [.t 8]⟩ ::
 ⟨some 4, none, .zero [.int .i64 0, .int .i64 0, .list true [], .int .i64 0, .int .i64 0, .int .i64 0, .int .i64 0, .int .i64 0, .int .i64 0], []⟩ ::
 ⟨none, none, .store 9, [.t 4, .t 11]⟩ ::
 ⟨some 5, none, .mov, [.t 12]⟩ ::
 []) [4, 5])
 (.seq (.seq (.reg [] (
 ⟨some 13, none, .mov, [.t 5]⟩ ::
 ⟨some 14, none, .bin .neq, [.t 13, .k (.d (.int .i64 0))]⟩ ::
 []) [4, 5, 14])
 (.cond (.t 14)
 (.seq (.reg [] (
 ⟨some 15, none, .mov, [.t 5]⟩ ::
 ⟨some 2, none, .mov, [.k (.d (.int .i64 0))]⟩ ::
 ⟨some 3, none, .mov, [.t 15]⟩ ::
 []) [2, 3])
 (.ret))
 (.skip)))
 (.seq (.draw [] (
 (⟨some 17, none, .load true 9, [.t 4]⟩, []) ::
 (⟨some 18, none, .load true 9, [.t 4]⟩, []) ::
 (⟨some 19, none, .call 49, [.t 18]⟩, [0]) ::
 (⟨some 20, none, .call 54, [.t 17, .k (.d (.int .i64 0)), .t 19]⟩, []) ::
 (⟨some 16, none, .mov, [.t 20]⟩, []) ::
 (⟨some 21, none, .extract 0, [.t 16]⟩, []) ::
 (⟨some 22, none, .extract 1, [.t 16]⟩, []) ::
 (⟨some 6, none, .zero [.int .i64 0, .int .i64 0], []⟩, [0, 1, 2, 3]) ::
 (⟨none, none, .store 2, [.t 6, .t 21]⟩, []) ::
 (⟨some 7, none, .mov, [.t 22]⟩, []) ::
 []) [7])
 (.seq (.reg [] (
 ⟨some 23, none, .mov, [.t 7]⟩ ::
 ⟨some 2, none, .mov, [.t 23]⟩ ::
 ⟨some 3, none, .mov, [.k (.d (.int .i64 0))]⟩ ::
 []) [2, 3])
 (.ret)))))
theorem dec_zones_Lost : Fun E0 F_zones_Lost pc_zones_Lost [.t 2, .t 3] 24 := fun_of_dec (fl := []) (by kernel_rfl)
-- platter/platterref01.Lost (1)
abbrev F_ref01_Lost : Nat := 30
def pc_ref01_Lost : PC :=
 .seq (.reg [] (
 ⟨some 1, none, .box, [.t 0]⟩ ::
 ⟨some 2, none, .mov, [.k (.d (.int .i64 0))]⟩ ::
 ⟨some 3, none, .mov, [.k (.d (.int .i64 0))]⟩ ::
 []) [1])
 (.seq (.seq (.reg [] (
 ⟨some 4, none, .load true 9, [.t 1]⟩ ::
 ⟨some 5, none, .call 35, [.t 4]⟩ ::
 ⟨some 6, none, .bin .neq, [.t 5, .k (.d (.int .i64 0))]⟩ ::
 []) [1, 6])
 (.cond (.t 6)
 (.seq (.reg [] (
 ⟨some 2, none, .mov, [.k (.d (.int .i64 0))]⟩ ::
 ⟨some 3, none, .mov, [.k (.d (.int .i64 10))]⟩ ::
 []) [2, 3])
 (.ret))
 (.skip)))
 (.seq (.draw [] (
 (⟨some 7, none, .load true 9, [.t 1]⟩, []) ::
 (⟨some 8, none, .load true 9, [.t 1]⟩, []) ::
 (⟨some 9, none, .call 27, [.t 8]⟩, [0]) ::
 (⟨some 10, none, .call 59, [.t 7, .k (.d (.int .i64 0)), .t 9]⟩, []) ::
 (⟨some 2, none, .mov, [.t 10]⟩, []) ::
 (⟨some 3, none, .mov, [.k (.d (.int .i64 0))]⟩, []) ::
 []) [2, 3])
 (.ret)))
theorem dec_ref01_Lost : Fun E0 F_ref01_Lost pc_ref01_Lost [.t 2, .t 3] 11 := fun_of_dec (fl := []) (by kernel_rfl)
-- platter/platterref01.IsSector (2)
abbrev F_ref01_IsSector : Nat := 31
def pc_ref01_IsSector : PC :=
 .seq (.reg [] (
 ⟨some 2, none, .box, [.t 0]⟩ ::
 ⟨some 4, none, .mov, [.k (.d (.bool false))]⟩ ::
 []) [1, 2])
 (.seq (.reg [] (
 ⟨some 5, none, .mov, [.t 1]⟩ ::
 ⟨some 6, none, .load true 9, [.t 2]⟩ ::
 ⟨some 7, none, .call 27, [.t 6]⟩ ::
 ⟨some 8, none, .bin .sub, [.t 7, .k (.d (.int .i64 1))]⟩ ::
 ⟨some 9, none, .call 52, [.t 5, .k (.d (.int .i64 0)), .t 8]⟩ ::
 ⟨some 4, none, .mov, [.t 9]⟩ ::
 []) [4])
 (.ret))
theorem dec_ref01_IsSector : Fun E0 F_ref01_IsSector pc_ref01_IsSector [.t 4] 10 := fun_of_dec (fl := []) (by kernel_rfl)
-- platter/zones.Place (2)
abbrev F_zones_Place : Nat := 32
def pc_zones_Place : PC :=
 .seq (.reg [] (
 ⟨some 2, none, .box, [.t 0]⟩ ::
 ⟨some 4, none, .zero [.int .i64 0, .int .i64 0, .int .i64 0], []⟩ ::
 ⟨some 5, none, .mov, [.k (.d (.int .i64 0))]⟩ ::
 []) [1, 2, 4])
 (.seq (.reg [] (
 ⟨some 10, none, .load true 9, [.t 2]⟩ ::
 ⟨some 11, none, .mov, [.t 1]⟩ ::
 ⟨some 12, none, .call 60, [.t 10, .t 11]⟩ ::
 ⟨some 9, none, .mov, [.t 12]⟩ ::
 ⟨some 13, none, .extract 0, [.t 9]⟩ ::
 ⟨some 14, none, .extract 1, [.t 9]⟩ ::
 ⟨some 15, none, .extract 2, [.t 9]⟩ ::
 ⟨some 6, none, .zero [.int .i64 0, .int .i64 0, .list true [], .int .i64 0, .int .i64 0, .int .i64 0, .int .i64 0, .int .i64 0, .int .i64 0], []⟩ ::
 ⟨some 7, none, .zero [.int .i64 0, .int .i64 0, .int .i64 0, .int .i64 0, .int .i64 0], []⟩ ::
 ⟨none, none, .store 9, [.t 6, .t 13]⟩ ::
 ⟨none, none, .store 5, [.t 7, .t 14]⟩ ::
 ⟨some 8, none, .mov, [.t 15]⟩ ::
 []) [1, 4, 7, 8])
 (.seq (.seq (.reg [] (
 ⟨some 16, none, .mov, [.t 8]⟩ ::
 ⟨some 17, none, .bin .neq, [.t 16, .k (.d (.int .i64 0))]⟩ ::
 []) [1, 4, 7, 8, 17])
 (.cond (.t 17)
 (.seq (.reg [] (
 ⟨some 18, none, .build [.int .i64 0, .int .i64 0, .int .i64 0] [], []⟩ ::
 ⟨some 19, none, .mov, [.t 8]⟩ ::
 ⟨none, none, .store 3, [.t 4, .t 18]⟩ ::
 ⟨some 5, none, .mov, [.t 19]⟩ ::
 []) [4, 5])
 (.ret))
 (.skip)))
 (.seq (.reg [] (
 ⟨some 20, none, .faddr 0, [.t 7]⟩ ::
 ⟨some 21, none, .load false 1, [.t 20]⟩ ::
 ⟨some 22, none, .faddr 1, [.t 7]⟩ ::
 ⟨some 23, none, .load false 1, [.t 22]⟩ ::
 ⟨some 24, none, .mov, [.t 1]⟩ ::
 ⟨some 25, none, .faddr 3, [.t 7]⟩ ::
 ⟨some 26, none, .load false 1, [.t 25]⟩ ::
 ⟨some 27, none, .bin .sub, [.t 24, .t 26]⟩ ::
 ⟨some 28, none, .build [.int .i64 0, .int .i64 0, .int .i64 0] [(0, 1), (1, 1), (2, 1)], [.t 21, .t 23, .t 27]⟩ ::
 ⟨none, none, .store 3, [.t 4, .t 28]⟩ ::
 ⟨some 5, none, .mov, [.k (.d (.int .i64 0))]⟩ ::
 []) [4, 5])
 (.ret))))
theorem dec_zones_Place : Fun E0 F_zones_Place pc_zones_Place [.c 4 58 true 3, .t 5] 29 := fun_of_dec (fl := []) (by kernel_rfl)
-- platter/zones.Number (2)
abbrev F_zones_Number : Nat := 33
def pc_zones_Number : PC :=
 .seq (.reg [] (
 ⟨some 2, none, .box, [.t 0]⟩ ::
 ⟨some 3, none, .box, [.t 1]⟩ ::
 ⟨some 4, none, .zero [.int .i64 0], []⟩ ::
 ⟨some 5, none, .zero [.int .i64 0], []⟩ ::
 []) [2, 3, 4, 5])
 (.seq (.reg [] (
 ⟨some 10, none, .load true 9, [.t 2]⟩ ::
 ⟨some 11, none, .call 46, [.t 10]⟩ ::
 ⟨some 9, none, .mov, [.t 11]⟩ ::
 ⟨some 12, none, .extract 0, [.t 9]⟩ ::
 ⟨some 13, none, .extract 1, [.t 9]⟩ ::
 ⟨some 6, none, .zero [.int .i64 0, .int .i64 0, .list true [], .int .i64 0, .int .i64 0, .int .i64 0, .int .i64 0, .int .i64 0, .int .i64 0], []⟩ ::
 ⟨none, none, .store 9, [.t 6, .t 12]⟩ ::
 ⟨some 7, none, .mov, [.t 13]⟩ ::
 []) [3, 4, 5, 6, 7])
 (.seq (.seq (.reg [] (
 ⟨some 14, none, .mov, [.t 7]⟩ ::
 ⟨some 15, none, .bin .neq, [.t 14, .k (.d (.int .i64 0))]⟩ ::
 []) [3, 4, 5, 6, 7, 15])
 (.cond (.t 15)
 (.seq (.reg [] (
 ⟨some 16, none, .mov, [.t 7]⟩ ::
 ⟨none, none, .store 1, [.t 4, .k (.d (.int .i64 0))]⟩ ::
 ⟨none, none, .store 1, [.t 5, .t 16]⟩ ::
 []) [4, 5])
 (.ret))
 (.skip)))
 (.seq (.seq (.reg [] (
 ⟨some 17, none, .load true 9, [.t 6]⟩ ::
 ⟨some 18, none, .mkbnd 61, [.t 17]⟩ ::
 []) [3, 4, 5, 18])
 (.block 0
 (.rngF [] (.t 18) [19] [3, 4, 5] [3, 4, 5, 11, 10011, 900001, 901001, 5000003, 5000004, 5000005, 5000011, 5010011]
 (.reg [] (
 ⟨some 8, none, .zero [.int .i64 0, .int .i64 0, .int .i64 0, .int .i64 0, .int .i64 0], []⟩ ::
 ⟨none, none, .store 5, [.t 8, .t 19]⟩ ::
 []) [3, 4, 5, 8])
 [] [3, 4, 5, 11, 10011, 900001, 901001, 5000003, 5000004, 5000005, 5000011, 5010011]
 (.block 1
 (.seq (.reg [] (
 ⟨some 20, none, .faddr 0, [.t 8]⟩ ::
 ⟨some 21, none, .load false 1, [.t 20]⟩ ::
 ⟨some 22, none, .faddr 0, [.t 3]⟩ ::
 ⟨some 23, none, .load false 1, [.t 22]⟩ ::
 ⟨some 24, none, .bin .eql, [.t 21, .t 23]⟩ ::
 ⟨some 25, none, .mov, [.t 24]⟩ ::
 ⟨some 26, some (25, true), .faddr 1, [.t 8]⟩ ::
 ⟨some 27, some (25, true), .load false 1, [.t 26]⟩ ::
 ⟨some 28, some (25, true), .faddr 1, [.t 3]⟩ ::
 ⟨some 29, some (25, true), .load false 1, [.t 28]⟩ ::
 ⟨some 30, some (25, true), .bin .eql, [.t 27, .t 29]⟩ ::
 ⟨some 31, none, .pick, [.t 25, .t 30, .k (.d (.bool false))]⟩ ::
 ⟨some 32, none, .mov, [.t 31]⟩ ::
 ⟨some 33, some (32, true), .faddr 2, [.t 3]⟩ ::
 ⟨some 34, some (32, true), .load false 1, [.t 33]⟩ ::
 ⟨some 35, some (32, true), .faddr 2, [.t 8]⟩ ::
 ⟨some 36, some (32, true), .load false 1, [.t 35]⟩ ::
 ⟨some 37, some (32, true), .bin .sub, [.t 36, .k (.d (.int .i64 1))]⟩ ::
 ⟨some 38, some (32, true), .call 47, [.t 34, .k (.d (.int .i64 0)), .t 37]⟩ ::
 ⟨some 39, none, .pick, [.t 32, .t 38, .k (.d (.bool false))]⟩ ::
 []) [3, 4, 5, 8, 39])
 (.cond (.t 39)
 (.seq (.reg [] (
 ⟨some 40, none, .faddr 3, [.t 8]⟩ ::
 ⟨some 41, none, .load false 1, [.t 40]⟩ ::
 ⟨some 42, none, .faddr 2, [.t 3]⟩ ::
 ⟨some 43, none, .load false 1, [.t 42]⟩ ::
 ⟨some 44, none, .bin .add, [.t 41, .t 43]⟩ ::
 ⟨none, none, .store 1, [.t 4, .t 44]⟩ ::
 ⟨none, none, .store 1, [.t 5, .k (.d (.int .i64 0))]⟩ ::
 []) [4, 5])
 (.ret))
 (.skip)))))))
 (.seq (.reg [] (
 ⟨none, none, .store 1, [.t 4, .k (.d (.int .i64 0))]⟩ ::
 ⟨none, none, .store 1, [.t 5, .k (.d (.int .i64 1))]⟩ ::
 []) [4, 5])
 (.ret)))))
theorem dec_zones_Number : Fun E0 F_zones_Number pc_zones_Number [.c 4 3 false 1, .c 5 29 false 1] 45 := fun_of_dec (fl := []) (by kernel_rfl)
-- platter/zones.Check (1)
abbrev F_zones_Check : Nat := 34
def pc_zones_Check : PC :=
 .seq (.reg [] (
 ⟨some 1, none, .box, [.t 0]⟩ ::
 ⟨some 2, none, .mov, [.k (.d (.int .i64 0))]⟩ ::
 []) [1])
 (.seq (.reg [] (
 ⟨some 3, none, .mov, [.k (.fn 62 [])]⟩ ::
 []) [1, 3])
 (.seq (.block 0
 (.seq (.seq (.reg [] (
 ⟨some 7, none, .faddr 0, [.t 1]⟩ ::
 ⟨some 8, none, .load false 1, [.t 7]⟩ ::
 ⟨some 9, none, .call 47, [.t 8, .k (.d (.int .i64 1)), .k (.d (.int .i64 4))]⟩ ::
 ⟨some 10, none, .un .not, [.t 9]⟩ ::
 ⟨some 6, none, .mov, [.t 10]⟩ ::
 []) [1, 3, 6])
 (.cond (.t 6)
 (.skip)
 (.seq (.reg [] (
 ⟨some 11, none, .faddr 1, [.t 1]⟩ ::
 ⟨some 12, none, .load false 1, [.t 11]⟩ ::
 ⟨some 13, none, .call 47, [.t 12, .k (.d (.int .i64 1)), .k (.d (.int .i64 1000))]⟩ ::
 ⟨some 14, none, .un .not, [.t 13]⟩ ::
 ⟨some 6, none, .mov, [.t 14]⟩ ::
 []) [1, 3, 6])
 (.cond (.t 6)
 (.skip)
 (.reg [] (
 ⟨some 15, none, .faddr 2, [.t 1]⟩ ::
 ⟨some 16, none, .load false 1, [.t 15]⟩ ::
 ⟨some 17, none, .len false, [.t 16]⟩ ::
 ⟨some 18, none, .call 47, [.t 17, .k (.d (.int .i64 1)), .k (.d (.int .i64 4))]⟩ ::
 ⟨some 19, none, .un .not, [.t 18]⟩ ::
 ⟨some 6, none, .mov, [.t 19]⟩ ::
 []) [1, 3, 6])))))
 (.cond (.t 6)
 (.seq (.reg [] (
 ⟨some 2, none, .mov, [.k (.d (.int .i64 10))]⟩ ::
 []) [2])
 (.ret))
 (.seq (.seq (.reg [] (
 ⟨some 21, none, .faddr 3, [.t 1]⟩ ::
 ⟨some 22, none, .load false 1, [.t 21]⟩ ::
 ⟨some 23, none, .faddr 1, [.t 1]⟩ ::
 ⟨some 24, none, .load false 1, [.t 23]⟩ ::
 ⟨some 25, none, .bin .sub, [.t 24, .k (.d (.int .i64 1))]⟩ ::
 ⟨some 26, none, .call 47, [.t 22, .k (.d (.int .i64 0)), .t 25]⟩ ::
 ⟨some 27, none, .un .not, [.t 26]⟩ ::
 ⟨some 20, none, .mov, [.t 27]⟩ ::
 []) [1, 3, 20])
 (.cond (.t 20)
 (.skip)
 (.seq (.reg [] (
 ⟨some 28, none, .faddr 4, [.t 1]⟩ ::
 ⟨some 29, none, .load false 1, [.t 28]⟩ ::
 ⟨some 30, none, .faddr 1, [.t 1]⟩ ::
 ⟨some 31, none, .load false 1, [.t 30]⟩ ::
 ⟨some 32, none, .bin .sub, [.t 31, .k (.d (.int .i64 1))]⟩ ::
 ⟨some 33, none, .call 47, [.t 29, .k (.d (.int .i64 0)), .t 32]⟩ ::
 ⟨some 34, none, .un .not, [.t 33]⟩ ::
 ⟨some 20, none, .mov, [.t 34]⟩ ::
 []) [1, 3, 20])
 (.cond (.t 20)
 (.skip)
 (.seq (.reg [] (
 ⟨some 35, none, .mov, [.t 3]⟩ ::
 ⟨some 36, none, .faddr 5, [.t 1]⟩ ::
 ⟨some 37, none, .load true 2, [.t 36]⟩ ::
 ⟨some 38, none, .callv, [.t 35, .t 37]⟩ ::
 ⟨some 39, none, .un .not, [.t 38]⟩ ::
 ⟨some 20, none, .mov, [.t 39]⟩ ::
 []) [1, 3, 20])
 (.cond (.t 20)
 (.skip)
 (.reg [] (
 ⟨some 40, none, .mov, [.t 3]⟩ ::
 ⟨some 41, none, .faddr 7, [.t 1]⟩ ::
 ⟨some 42, none, .load true 2, [.t 41]⟩ ::
 ⟨some 43, none, .callv, [.t 40, .t 42]⟩ ::
 ⟨some 44, none, .un .not, [.t 43]⟩ ::
 ⟨some 20, none, .mov, [.t 44]⟩ ::
 []) [1, 20])))))))
 (.cond (.t 20)
 (.seq (.reg [] (
 ⟨some 2, none, .mov, [.k (.d (.int .i64 10))]⟩ ::
 []) [2])
 (.ret))
 (.skip))))))
 (.seq (.seq (.reg [] (
 ⟨some 45, none, .faddr 2, [.t 1]⟩ ::
 ⟨some 46, none, .load false 1, [.t 45]⟩ ::
 ⟨some 47, none, .len false, [.t 46]⟩ ::
 ⟨some 48, none, .mov, [.k (.d (.int .i64 0))]⟩ ::
 []) [1, 46, 47, 48])
 (.block 1
 (.loop [] [1, 46, 47, 48] [1, 900000, 901000]
 (.seq (.reg [] (
 ⟨some 49, none, .bin .lss, [.t 48, .t 47]⟩ ::
 []) [1, 46, 47, 48, 49])
 (.seq (.cond (.t 49)
 (.skip)
 (.exit 1))
 (.seq (.block 2
 (.seq (.reg [] (
 ⟨some 50, none, .iaddrS 2, [.t 46, .t 48]⟩ ::
 ⟨some 51, none, .load true 2, [.t 50]⟩ ::
 ⟨some 5, none, .zero [.int .i64 0, .int .i64 0], []⟩ ::
 ⟨none, none, .store 2, [.t 5, .t 51]⟩ ::
 []) [1, 5, 46, 47, 48])
 (.seq (.reg [] (
 ⟨some 52, none, .faddr 0, [.t 5]⟩ ::
 ⟨some 53, none, .load false 1, [.t 52]⟩ ::
 ⟨some 54, none, .call 47, [.t 53, .k (.d (.int .i64 1)), .k (.d (.int .i64 20))]⟩ ::
 ⟨some 55, none, .un .not, [.t 54]⟩ ::
 ⟨some 56, none, .mov, [.t 55]⟩ ::
 ⟨some 57, some (56, false), .faddr 1, [.t 5]⟩ ::
 ⟨some 58, some (56, false), .load false 1, [.t 57]⟩ ::
 ⟨some 59, some (56, false), .call 47, [.t 58, .k (.d (.int .i64 1)), .k (.d (.int .i64 16))]⟩ ::
 ⟨some 60, some (56, false), .un .not, [.t 59]⟩ ::
 ⟨some 61, none, .pick, [.t 56, .k (.d (.bool true)), .t 60]⟩ ::
 ⟨some 62, none, .mov, [.t 61]⟩ ::
 ⟨some 63, some (62, false), .faddr 1, [.t 1]⟩ ::
 ⟨some 64, some (62, false), .load false 1, [.t 63]⟩ ::
 ⟨some 65, some (62, false), .faddr 1, [.t 5]⟩ ::
 ⟨some 66, some (62, false), .load false 1, [.t 65]⟩ ::
 ⟨some 67, some (62, false), .bin .rem, [.t 64, .t 66]⟩ ::
 ⟨some 68, some (62, false), .bin .neq, [.t 67, .k (.d (.int .i64 0))]⟩ ::
 ⟨some 69, none, .pick, [.t 62, .k (.d (.bool true)), .t 68]⟩ ::
 []) [1, 46, 47, 48, 69])
 (.cond (.t 69)
 (.seq (.reg [] (
 ⟨some 2, none, .mov, [.k (.d (.int .i64 10))]⟩ ::
 []) [2])
 (.ret))
 (.skip)))))
 (.reg [] (
 ⟨some 70, none, .bin .add, [.t 48, .k (.d (.int .i64 1))]⟩ ::
 ⟨some 48, none, .mov, [.t 70]⟩ ::
 []) [1, 46, 47, 48])))))))
 (.seq (.reg [] (
 ⟨some 2, none, .mov, [.k (.d (.int .i64 0))]⟩ ::
 []) [2])
 (.ret)))))
theorem dec_zones_Check : Fun E0 F_zones_Check pc_zones_Check [.t 2] 71 := fun_of_dec (fl := []) (by kernel_rfl)
-- platter/platterref01.Check (1)
abbrev F_ref01_Check : Nat := 35
def pc_ref01_Check : PC :=
 .seq (.reg [] (
 ⟨some 1, none, .box, [.t 0]⟩ ::
 ⟨some 2, none, .mov, [.k (.d (.int .i64 0))]⟩ ::
 []) [1])
 (.seq (.seq (.reg [] (
 ⟨some 5, none, .faddr 0, [.t 1]⟩ ::
 ⟨some 6, none, .load false 1, [.t 5]⟩ ::
 ⟨some 7, none, .call 52, [.t 6, .k (.d (.int .i64 1)), .k (.d (.int .i64 4))]⟩ ::
 ⟨some 8, none, .un .not, [.t 7]⟩ ::
 ⟨some 9, none, .mov, [.t 8]⟩ ::
 ⟨some 10, some (9, false), .faddr 1, [.t 1]⟩ ::
 ⟨some 11, some (9, false), .load false 1, [.t 10]⟩ ::
 ⟨some 12, some (9, false), .call 52, [.t 11, .k (.d (.int .i64 1)), .k (.d (.int .i64 1000))]⟩ ::
 ⟨some 13, some (9, false), .un .not, [.t 12]⟩ ::
 ⟨some 14, none, .pick, [.t 9, .k (.d (.bool true)), .t 13]⟩ ::
 ⟨some 15, none, .mov, [.t 14]⟩ ::
 ⟨some 16, some (15, false), .faddr 2, [.t 1]⟩ ::
 ⟨some 17, some (15, false), .load false 1, [.t 16]⟩ ::
 ⟨some 18, some (15, false), .len false, [.t 17]⟩ ::
 ⟨some 19, some (15, false), .call 52, [.t 18, .k (.d (.int .i64 1)), .k (.d (.int .i64 4))]⟩ ::
 ⟨some 20, some (15, false), .un .not, [.t 19]⟩ ::
 ⟨some 21, none, .pick, [.t 15, .k (.d (.bool true)), .t 20]⟩ ::
 ⟨some 22, none, .mov, [.t 21]⟩ ::
 ⟨some 23, some (22, false), .faddr 3, [.t 1]⟩ ::
 ⟨some 24, some (22, false), .load false 1, [.t 23]⟩ ::
 ⟨some 25, some (22, false), .faddr 1, [.t 1]⟩ ::
 ⟨some 26, some (22, false), .load false 1, [.t 25]⟩ ::
 ⟨some 27, some (22, false), .bin .sub, [.t 26, .k (.d (.int .i64 1))]⟩ ::
 ⟨some 28, some (22, false), .call 52, [.t 24, .k (.d (.int .i64 0)), .t 27]⟩ ::
 ⟨some 29, some (22, false), .un .not, [.t 28]⟩ ::
 ⟨some 30, none, .pick, [.t 22, .k (.d (.bool true)), .t 29]⟩ ::
 ⟨some 31, none, .mov, [.t 30]⟩ ::
 ⟨some 32, some (31, false), .faddr 4, [.t 1]⟩ ::
 ⟨some 33, some (31, false), .load false 1, [.t 32]⟩ ::
 ⟨some 34, some (31, false), .faddr 1, [.t 1]⟩ ::
 ⟨some 35, some (31, false), .load false 1, [.t 34]⟩ ::
 ⟨some 36, some (31, false), .bin .sub, [.t 35, .k (.d (.int .i64 1))]⟩ ::
 ⟨some 37, some (31, false), .call 52, [.t 33, .k (.d (.int .i64 0)), .t 36]⟩ ::
 ⟨some 38, some (31, false), .un .not, [.t 37]⟩ ::
 ⟨some 39, none, .pick, [.t 31, .k (.d (.bool true)), .t 38]⟩ ::
 []) [1, 39])
 (.cond (.t 39)
 (.seq (.reg [] (
 ⟨some 2, none, .mov, [.k (.d (.int .i64 10))]⟩ ::
 []) [2])
 (.ret))
 (.skip)))
 (.seq (.seq (.reg [] (
 ⟨some 3, none, .mov, [.k (.d (.int .i64 0))]⟩ ::
 []) [1, 3])
 (.block 0
 (.loop [] [1, 3] [1, 900000, 901000]
 (.seq (.seq (.reg [] (
 ⟨some 40, none, .mov, [.t 3]⟩ ::
 ⟨some 41, none, .faddr 2, [.t 1]⟩ ::
 ⟨some 42, none, .load false 1, [.t 41]⟩ ::
 ⟨some 43, none, .len false, [.t 42]⟩ ::
 ⟨some 44, none, .bin .lss, [.t 40, .t 43]⟩ ::
 []) [1, 3, 44])
 (.cond (.t 44)
 (.skip)
 (.exit 0)))
 (.seq (.block 1
 (.seq (.reg [] (
 ⟨some 47, none, .faddr 2, [.t 1]⟩ ::
 ⟨some 48, none, .load false 1, [.t 47]⟩ ::
 ⟨some 49, none, .mov, [.t 3]⟩ ::
 ⟨some 50, none, .iaddrS 2, [.t 48, .t 49]⟩ ::
 ⟨some 51, none, .load true 2, [.t 50]⟩ ::
 ⟨some 4, none, .zero [.int .i64 0, .int .i64 0], []⟩ ::
 ⟨none, none, .store 2, [.t 4, .t 51]⟩ ::
 []) [1, 3, 4])
 (.seq (.reg [] (
 ⟨some 52, none, .faddr 0, [.t 4]⟩ ::
 ⟨some 53, none, .load false 1, [.t 52]⟩ ::
 ⟨some 54, none, .call 52, [.t 53, .k (.d (.int .i64 1)), .k (.d (.int .i64 20))]⟩ ::
 ⟨some 55, none, .un .not, [.t 54]⟩ ::
 ⟨some 56, none, .mov, [.t 55]⟩ ::
 ⟨some 57, some (56, false), .faddr 1, [.t 4]⟩ ::
 ⟨some 58, some (56, false), .load false 1, [.t 57]⟩ ::
 ⟨some 59, some (56, false), .call 52, [.t 58, .k (.d (.int .i64 1)), .k (.d (.int .i64 16))]⟩ ::
 ⟨some 60, some (56, false), .un .not, [.t 59]⟩ ::
 ⟨some 61, none, .pick, [.t 56, .k (.d (.bool true)), .t 60]⟩ ::
 ⟨some 62, none, .mov, [.t 61]⟩ ::
 ⟨some 63, some (62, false), .faddr 1, [.t 1]⟩ ::
 ⟨some 64, some (62, false), .load false 1, [.t 63]⟩ ::
 ⟨some 65, some (62, false), .faddr 1, [.t 4]⟩ ::
 ⟨some 66, some (62, false), .load false 1, [.t 65]⟩ ::
 ⟨some 67, some (62, false), .bin .rem, [.t 64, .t 66]⟩ ::
 ⟨some 68, some (62, false), .bin .neq, [.t 67, .k (.d (.int .i64 0))]⟩ ::
 ⟨some 69, none, .pick, [.t 62, .k (.d (.bool true)), .t 68]⟩ ::
 []) [1, 3, 69])
 (.cond (.t 69)
 (.seq (.reg [] (
 ⟨some 2, none, .mov, [.k (.d (.int .i64 10))]⟩ ::
 []) [2])
 (.ret))
 (.skip)))))
 (.reg [] (
 ⟨some 45, none, .mov, [.t 3]⟩ ::
 ⟨some 46, none, .bin .add, [.t 45, .k (.d (.int .i64 1))]⟩ ::
 ⟨some 3, none, .mov, [.t 46]⟩ ::
 []) [1, 3]))))))
 (.seq (.seq (.reg [] (
 ⟨some 70, none, .faddr 5, [.t 1]⟩ ::
 ⟨some 71, none, .faddr 0, [.t 70]⟩ ::
 ⟨some 72, none, .load false 1, [.t 71]⟩ ::
 ⟨some 73, none, .bin .lss, [.t 72, .k (.d (.int .i64 0))]⟩ ::
 ⟨some 74, none, .mov, [.t 73]⟩ ::
 ⟨some 75, some (74, false), .faddr 5, [.t 1]⟩ ::
 ⟨some 76, some (74, false), .faddr 0, [.t 75]⟩ ::
 ⟨some 77, some (74, false), .load false 1, [.t 76]⟩ ::
 ⟨some 78, some (74, false), .faddr 5, [.t 1]⟩ ::
 ⟨some 79, some (74, false), .faddr 1, [.t 78]⟩ ::
 ⟨some 80, some (74, false), .load false 1, [.t 79]⟩ ::
 ⟨some 81, some (74, false), .bin .gtr, [.t 77, .t 80]⟩ ::
 ⟨some 82, none, .pick, [.t 74, .k (.d (.bool true)), .t 81]⟩ ::
 ⟨some 83, none, .mov, [.t 82]⟩ ::
 ⟨some 84, some (83, false), .faddr 5, [.t 1]⟩ ::
 ⟨some 85, some (83, false), .faddr 1, [.t 84]⟩ ::
 ⟨some 86, some (83, false), .load false 1, [.t 85]⟩ ::
 ⟨some 87, some (83, false), .bin .gtr, [.t 86, .k (.d (.int .i64 2000))]⟩ ::
 ⟨some 88, none, .pick, [.t 83, .k (.d (.bool true)), .t 87]⟩ ::
 ⟨some 89, none, .mov, [.t 88]⟩ ::
 ⟨some 90, some (89, false), .faddr 7, [.t 1]⟩ ::
 ⟨some 91, some (89, false), .faddr 0, [.t 90]⟩ ::
 ⟨some 92, some (89, false), .load false 1, [.t 91]⟩ ::
 ⟨some 93, some (89, false), .bin .lss, [.t 92, .k (.d (.int .i64 0))]⟩ ::
 ⟨some 94, none, .pick, [.t 89, .k (.d (.bool true)), .t 93]⟩ ::
 ⟨some 95, none, .mov, [.t 94]⟩ ::
 ⟨some 96, some (95, false), .faddr 7, [.t 1]⟩ ::
 ⟨some 97, some (95, false), .faddr 0, [.t 96]⟩ ::
 ⟨some 98, some (95, false), .load false 1, [.t 97]⟩ ::
 ⟨some 99, some (95, false), .faddr 7, [.t 1]⟩ ::
 ⟨some 100, some (95, false), .faddr 1, [.t 99]⟩ ::
 ⟨some 101, some (95, false), .load false 1, [.t 100]⟩ ::
 ⟨some 102, some (95, false), .bin .gtr, [.t 98, .t 101]⟩ ::
 ⟨some 103, none, .pick, [.t 95, .k (.d (.bool true)), .t 102]⟩ ::
 ⟨some 104, none, .mov, [.t 103]⟩ ::
 ⟨some 105, some (104, false), .faddr 7, [.t 1]⟩ ::
 ⟨some 106, some (104, false), .faddr 1, [.t 105]⟩ ::
 ⟨some 107, some (104, false), .load false 1, [.t 106]⟩ ::
 ⟨some 108, some (104, false), .bin .gtr, [.t 107, .k (.d (.int .i64 2000))]⟩ ::
 ⟨some 109, none, .pick, [.t 104, .k (.d (.bool true)), .t 108]⟩ ::
 []) [109])
 (.cond (.t 109)
 (.seq (.reg [] (
 ⟨some 2, none, .mov, [.k (.d (.int .i64 10))]⟩ ::
 []) [2])
 (.ret))
 (.skip)))
 (.seq (.reg [] (
 ⟨some 2, none, .mov, [.k (.d (.int .i64 0))]⟩ ::
 []) [2])
 (.ret)))))
theorem dec_ref01_Check : Fun E0 F_ref01_Check pc_ref01_Check [.t 2] 110 := fun_of_dec (fl := []) (by kernel_rfl)
-- platter/zones.Size (1)
abbrev F_zones_Size : Nat := 36
def pc_zones_Size : PC :=
 .seq (.reg [] (
 ⟨some 1, none, .box, [.t 0]⟩ ::
 ⟨some 2, none, .mov, [.k (.d (.int .i64 0))]⟩ ::
 ⟨some 3, none, .mov, [.k (.d (.int .i64 0))]⟩ ::
 []) [1])
 (.seq (.reg [] (
 ⟨some 7, none, .load true 9, [.t 1]⟩ ::
 ⟨some 8, none, .call 46, [.t 7]⟩ ::
 ⟨some 6, none, .mov, [.t 8]⟩ ::
 ⟨some 9, none, .extract 0, [.t 6]⟩ ::
 ⟨some 10, none, .extract 1, [.t 6]⟩ ::
 ⟨some 4, none, .zero [.int .i64 0, .int .i64 0, .list true [], .int .i64 0, .int .i64 0, .int .i64 0, .int .i64 0, .int .i64 0, .int .i64 0], []⟩ ::
 ⟨none, none, .store 9, [.t 4, .t 9]⟩ ::
 ⟨some 5, none, .mov, [.t 10]⟩ ::
 []) [4, 5])
 (.seq (.seq (.reg [] (
 ⟨some 11, none, .mov, [.t 5]⟩ ::
 ⟨some 12, none, .bin .neq, [.t 11, .k (.d (.int .i64 0))]⟩ ::
 []) [4, 5, 12])
 (.cond (.t 12)
 (.seq (.reg [] (
 ⟨some 13, none, .mov, [.t 5]⟩ ::
 ⟨some 2, none, .mov, [.k (.d (.int .i64 0))]⟩ ::
 ⟨some 3, none, .mov, [.t 13]⟩ ::
 []) [2, 3])
 (.ret))
 (.skip)))
 (.seq (.reg [] (
 ⟨some 14, none, .load true 9, [.t 4]⟩ ::
 ⟨some 15, none, .call 49, [.t 14]⟩ ::
 ⟨some 2, none, .mov, [.t 15]⟩ ::
 ⟨some 3, none, .mov, [.k (.d (.int .i64 0))]⟩ ::
 []) [2, 3])
 (.ret))))
theorem dec_zones_Size : Fun E0 F_zones_Size pc_zones_Size [.t 2, .t 3] 16 := fun_of_dec (fl := []) (by kernel_rfl)
-- platter/platterref01.Size (1)
abbrev F_ref01_Size : Nat := 37
def pc_ref01_Size : PC :=
 .seq (.reg [] (
 ⟨some 1, none, .box, [.t 0]⟩ ::
 ⟨some 2, none, .mov, [.k (.d (.int .i64 0))]⟩ ::
 ⟨some 3, none, .mov, [.k (.d (.int .i64 0))]⟩ ::
 []) [1])
 (.seq (.seq (.reg [] (
 ⟨some 4, none, .load true 9, [.t 1]⟩ ::
 ⟨some 5, none, .call 35, [.t 4]⟩ ::
 ⟨some 6, none, .bin .neq, [.t 5, .k (.d (.int .i64 0))]⟩ ::
 []) [1, 6])
 (.cond (.t 6)
 (.seq (.reg [] (
 ⟨some 2, none, .mov, [.k (.d (.int .i64 0))]⟩ ::
 ⟨some 3, none, .mov, [.k (.d (.int .i64 10))]⟩ ::
 []) [2, 3])
 (.ret))
 (.skip)))
 (.seq (.reg [] (
 ⟨some 7, none, .load true 9, [.t 1]⟩ ::
 ⟨some 8, none, .call 27, [.t 7]⟩ ::
 ⟨some 2, none, .mov, [.t 8]⟩ ::
 ⟨some 3, none, .mov, [.k (.d (.int .i64 0))]⟩ ::
 []) [2, 3])
 (.ret)))
theorem dec_ref01_Size : Fun E0 F_ref01_Size pc_ref01_Size [.t 2, .t 3] 9 := fun_of_dec (fl := []) (by kernel_rfl)
-- platter/platterref01.Number (2)
abbrev F_ref01_Number : Nat := 38
def pc_ref01_Number : PC :=
 .seq (.reg [] (
 ⟨some 2, none, .box, [.t 0]⟩ ::
 ⟨some 3, none, .box, [.t 1]⟩ ::
 ⟨some 4, none, .mov, [.k (.d (.int .i64 0))]⟩ ::
 ⟨some 5, none, .mov, [.k (.d (.int .i64 0))]⟩ ::
 []) [2, 3])
 (.seq (.seq (.reg [] (
 ⟨some 8, none, .load true 9, [.t 2]⟩ ::
 ⟨some 9, none, .call 35, [.t 8]⟩ ::
 ⟨some 10, none, .bin .neq, [.t 9, .k (.d (.int .i64 0))]⟩ ::
 []) [2, 3, 10])
 (.cond (.t 10)
 (.seq (.reg [] (
 ⟨some 4, none, .mov, [.k (.d (.int .i64 0))]⟩ ::
 ⟨some 5, none, .mov, [.k (.d (.int .i64 10))]⟩ ::
 []) [4, 5])
 (.ret))
 (.skip)))
 (.seq (.reg [] (
 ⟨some 11, none, .load true 9, [.t 2]⟩ ::
 ⟨some 12, none, .call 55, [.t 11]⟩ ::
 ⟨some 6, none, .mov, [.t 12]⟩ ::
 []) [3, 6])
 (.seq (.seq (.reg [] (
 ⟨some 7, none, .mov, [.k (.d (.int .i64 0))]⟩ ::
 []) [3, 6, 7])
 (.block 0
 (.loop [] [3, 6, 7] [3, 12, 10012, 900001, 901001]
 (.seq (.seq (.reg [] (
 ⟨some 13, none, .mov, [.t 7]⟩ ::
 ⟨some 14, none, .mov, [.t 6]⟩ ::
 ⟨some 15, none, .len false, [.t 14]⟩ ::
 ⟨some 16, none, .bin .lss, [.t 13, .t 15]⟩ ::
 []) [3, 6, 7, 16])
 (.cond (.t 16)
 (.skip)
 (.exit 0)))
 (.seq (.block 1
 (.seq (.draw [] (
 (⟨some 19, none, .mov, [.t 6]⟩, []) ::
 (⟨some 20, none, .mov, [.t 7]⟩, []) ::
 (⟨some 21, none, .iaddrS 3, [.t 19, .t 20]⟩, []) ::
 (⟨some 22, none, .load true 3, [.t 21]⟩, []) ::
 (⟨some 23, none, .load true 3, [.t 3]⟩, []) ::
 (⟨some 24, none, .eqv false (true, [some .i64, some .i64, some .i64]), [.t 22, .t 23]⟩, []) ::
 []) [3, 6, 7, 24])
 (.cond (.t 24)
 (.seq (.reg [] (
 ⟨some 25, none, .mov, [.t 7]⟩ ::
 ⟨some 4, none, .mov, [.t 25]⟩ ::
 ⟨some 5, none, .mov, [.k (.d (.int .i64 0))]⟩ ::
 []) [4, 5])
 (.ret))
 (.skip))))
 (.reg [] (
 ⟨some 17, none, .mov, [.t 7]⟩ ::
 ⟨some 18, none, .bin .add, [.t 17, .k (.d (.int .i64 1))]⟩ ::
 ⟨some 7, none, .mov, [.t 18]⟩ ::
 []) [3, 6, 7]))))))
 (.seq (.reg [] (
 ⟨some 4, none, .mov, [.k (.d (.int .i64 0))]⟩ ::
 ⟨some 5, none, .mov, [.k (.d (.int .i64 1))]⟩ ::
 []) [4, 5])
 (.ret)))))
theorem dec_ref01_Number : Fun E0 F_ref01_Number pc_ref01_Number [.t 4, .t 5] 26 := fun_of_dec (fl := []) (by kernel_rfl)
-- platter/platterref01.Place (2)
abbrev F_ref01_Place : Nat := 39
def pc_ref01_Place : PC :=
 .seq (.reg [] (
 ⟨some 2, none, .box, [.t 0]⟩ ::
 ⟨some 4, none, .zero [.int .i64 0, .int .i64 0, .int .i64 0], []⟩ ::
 ⟨some 5, none, .mov, [.k (.d (.int .i64 0))]⟩ ::
 []) [1, 2, 4])
 (.seq (.seq (.reg [] (
 ⟨some 7, none, .load true 9, [.t 2]⟩ ::
 ⟨some 8, none, .mov, [.t 1]⟩ ::
 ⟨some 9, none, .call 63, [.t 7, .t 8]⟩ ::
 ⟨some 6, none, .mov, [.t 9]⟩ ::
 []) [1, 2, 4, 6])
 (.seq (.reg [] (
 ⟨some 10, none, .mov, [.t 6]⟩ ::
 ⟨some 11, none, .bin .neq, [.t 10, .k (.d (.int .i64 0))]⟩ ::
 []) [1, 2, 4, 6, 11])
 (.cond (.t 11)
 (.seq (.reg [] (
 ⟨some 12, none, .build [.int .i64 0, .int .i64 0, .int .i64 0] [], []⟩ ::
 ⟨some 13, none, .mov, [.t 6]⟩ ::
 ⟨none, none, .store 3, [.t 4, .t 12]⟩ ::
 ⟨some 5, none, .mov, [.t 13]⟩ ::
 []) [4, 5])
 (.ret))
 (.skip))))
 (.seq (.reg [] (
 ⟨some 14, none, .load true 9, [.t 2]⟩ ::
 ⟨some 15, none, .call 55, [.t 14]⟩ ::
 ⟨some 16, none, .mov, [.t 1]⟩ ::
 ⟨some 17, none, .iaddrS 3, [.t 15, .t 16]⟩ ::
 ⟨some 18, none, .load true 3, [.t 17]⟩ ::
 ⟨none, none, .store 3, [.t 4, .t 18]⟩ ::
 ⟨some 5, none, .mov, [.k (.d (.int .i64 0))]⟩ ::
 []) [4, 5])
 (.ret)))
theorem dec_ref01_Place : Fun E0 F_ref01_Place pc_ref01_Place [.c 4 58 true 3, .t 5] 19 := fun_of_dec (fl := []) (by kernel_rfl)
-- platter/zones.Angle (2)
abbrev F_zones_Angle : Nat := 40
def pc_zones_Angle : PC :=
 .seq (.reg [] (
 ⟨some 2, none, .box, [.t 0]⟩ ::
 ⟨some 4, none, .mov, [.k (.d (.int .i64 0))]⟩ ::
 ⟨some 5, none, .mov, [.k (.d (.int .i64 0))]⟩ ::
 ⟨some 6, none, .mov, [.k (.d (.int .i64 0))]⟩ ::
 []) [1, 2])
 (.seq (.reg [] (
 ⟨some 10, none, .load true 9, [.t 2]⟩ ::
 ⟨some 11, none, .mov, [.t 1]⟩ ::
 ⟨some 12, none, .call 60, [.t 10, .t 11]⟩ ::
 ⟨some 9, none, .mov, [.t 12]⟩ ::
 ⟨some 13, none, .extract 0, [.t 9]⟩ ::
 ⟨some 14, none, .extract 1, [.t 9]⟩ ::
 ⟨some 15, none, .extract 2, [.t 9]⟩ ::
 ⟨some 7, none, .zero [.int .i64 0, .int .i64 0, .list true [], .int .i64 0, .int .i64 0, .int .i64 0, .int .i64 0, .int .i64 0, .int .i64 0], []⟩ ::
 ⟨some 8, none, .zero [.int .i64 0, .int .i64 0, .int .i64 0, .int .i64 0, .int .i64 0], []⟩ ::
 ⟨none, none, .store 9, [.t 7, .t 13]⟩ ::
 ⟨none, none, .store 5, [.t 8, .t 14]⟩ ::
 ⟨some 6, none, .mov, [.t 15]⟩ ::
 []) [1, 6, 7, 8])
 (.seq (.seq (.reg [] (
 ⟨some 16, none, .mov, [.t 6]⟩ ::
 ⟨some 17, none, .bin .neq, [.t 16, .k (.d (.int .i64 0))]⟩ ::
 []) [1, 6, 7, 8, 17])
 (.cond (.t 17)
 (.seq (.reg [] (
 ⟨some 18, none, .mov, [.t 6]⟩ ::
 ⟨some 4, none, .mov, [.k (.d (.int .i64 0))]⟩ ::
 ⟨some 5, none, .mov, [.k (.d (.int .i64 0))]⟩ ::
 ⟨some 6, none, .mov, [.t 18]⟩ ::
 []) [4, 5, 6])
 (.ret))
 (.skip)))
 (.seq (.reg [] (
 ⟨some 19, none, .faddr 0, [.t 7]⟩ ::
 ⟨some 20, none, .faddr 1, [.t 19]⟩ ::
 ⟨some 21, none, .load false 1, [.t 20]⟩ ::
 ⟨some 22, none, .faddr 2, [.t 8]⟩ ::
 ⟨some 23, none, .load false 1, [.t 22]⟩ ::
 ⟨some 24, none, .bin .quo, [.t 21, .t 23]⟩ ::
 ⟨some 5, none, .mov, [.t 24]⟩ ::
 []) [1, 5, 7, 8])
 (.seq (.reg [] (
 ⟨some 25, none, .faddr 4, [.t 8]⟩ ::
 ⟨some 26, none, .load false 1, [.t 25]⟩ ::
 ⟨some 27, none, .mov, [.t 1]⟩ ::
 ⟨some 28, none, .faddr 3, [.t 8]⟩ ::
 ⟨some 29, none, .load false 1, [.t 28]⟩ ::
 ⟨some 30, none, .bin .sub, [.t 27, .t 29]⟩ ::
 ⟨some 31, none, .mov, [.t 5]⟩ ::
 ⟨some 32, none, .bin .mul, [.t 30, .t 31]⟩ ::
 ⟨some 33, none, .bin .add, [.t 26, .t 32]⟩ ::
 ⟨some 34, none, .faddr 0, [.t 7]⟩ ::
 ⟨some 35, none, .faddr 1, [.t 34]⟩ ::
 ⟨some 36, none, .load false 1, [.t 35]⟩ ::
 ⟨some 37, none, .bin .rem, [.t 33, .t 36]⟩ ::
 ⟨some 38, none, .mov, [.t 5]⟩ ::
 ⟨some 4, none, .mov, [.t 37]⟩ ::
 ⟨some 5, none, .mov, [.t 38]⟩ ::
 ⟨some 6, none, .mov, [.k (.d (.int .i64 0))]⟩ ::
 []) [4, 5, 6])
 (.ret)))))
theorem dec_zones_Angle : Fun E0 F_zones_Angle pc_zones_Angle [.t 4, .t 5, .t 6] 39 := fun_of_dec (fl := []) (by kernel_rfl)
-- platter/platterref01.Angle (2)
abbrev F_ref01_Angle : Nat := 41
def pc_ref01_Angle : PC :=
 .seq (.reg [] (
 ⟨some 2, none, .box, [.t 0]⟩ ::
 ⟨some 4, none, .mov, [.k (.d (.int .i64 0))]⟩ ::
 ⟨some 5, none, .mov, [.k (.d (.int .i64 0))]⟩ ::
 ⟨some 6, none, .mov, [.k (.d (.int .i64 0))]⟩ ::
 []) [1, 2])
 (.seq (.seq (.reg [] (
 ⟨some 9, none, .load true 9, [.t 2]⟩ ::
 ⟨some 10, none, .mov, [.t 1]⟩ ::
 ⟨some 11, none, .call 63, [.t 9, .t 10]⟩ ::
 ⟨some 7, none, .mov, [.t 11]⟩ ::
 []) [1, 2, 7])
 (.seq (.reg [] (
 ⟨some 12, none, .mov, [.t 7]⟩ ::
 ⟨some 13, none, .bin .neq, [.t 12, .k (.d (.int .i64 0))]⟩ ::
 []) [1, 2, 7, 13])
 (.cond (.t 13)
 (.seq (.reg [] (
 ⟨some 14, none, .mov, [.t 7]⟩ ::
 ⟨some 4, none, .mov, [.k (.d (.int .i64 0))]⟩ ::
 ⟨some 5, none, .mov, [.k (.d (.int .i64 0))]⟩ ::
 ⟨some 6, none, .mov, [.t 14]⟩ ::
 []) [4, 5, 6])
 (.ret))
 (.skip))))
 (.seq (.reg [] (
 ⟨some 15, none, .load true 9, [.t 2]⟩ ::
 ⟨some 16, none, .call 55, [.t 15]⟩ ::
 ⟨some 17, none, .mov, [.t 1]⟩ ::
 ⟨some 18, none, .iaddrS 3, [.t 16, .t 17]⟩ ::
 ⟨some 19, none, .load true 3, [.t 18]⟩ ::
 ⟨some 8, none, .zero [.int .i64 0, .int .i64 0, .int .i64 0], []⟩ ::
 ⟨none, none, .store 3, [.t 8, .t 19]⟩ ::
 []) [2, 8])
 (.seq (.draw [] (
 (⟨some 20, none, .load true 9, [.t 2]⟩, []) ::
 (⟨some 21, none, .load true 3, [.t 8]⟩, []) ::
 (⟨some 22, none, .call 64, [.t 20, .t 21]⟩, []) ::
 (⟨some 23, none, .faddr 1, [.t 2]⟩, []) ::
 (⟨some 24, none, .load false 1, [.t 23]⟩, [2]) ::
 (⟨some 25, none, .load true 9, [.t 2]⟩, [2]) ::
 (⟨some 26, none, .faddr 0, [.t 8]⟩, []) ::
 (⟨some 27, none, .load false 1, [.t 26]⟩, [2]) ::
 (⟨some 28, none, .call 56, [.t 25, .t 27]⟩, [4]) ::
 (⟨some 29, none, .bin .quo, [.t 24, .t 28]⟩, []) ::
 (⟨some 4, none, .mov, [.t 22]⟩, []) ::
 (⟨some 5, none, .mov, [.t 29]⟩, []) ::
 (⟨some 6, none, .mov, [.k (.d (.int .i64 0))]⟩, []) ::
 []) [4, 5, 6])
 (.ret))))
theorem dec_ref01_Angle : Fun E0 F_ref01_Angle pc_ref01_Angle [.t 4, .t 5, .t 6] 30 := fun_of_dec (fl := []) (by kernel_rfl)
-- platter/zones.Wait (3)
abbrev F_zones_Wait : Nat := 42
def pc_zones_Wait : PC :=
 .seq (.reg [] (
 ⟨some 3, none, .box, [.t 0]⟩ ::
 ⟨some 6, none, .mov, [.k (.d (.int .i64 0))]⟩ ::
 ⟨some 7, none, .mov, [.k (.d (.int .i64 0))]⟩ ::
 []) [1, 2, 3])
 (.seq (.reg [] (
 ⟨some 12, none, .load true 9, [.t 3]⟩ ::
 ⟨some 13, none, .mov, [.t 1]⟩ ::
 ⟨some 14, none, .call 40, [.t 12, .t 13]⟩ ::
 ⟨some 11, none, .mov, [.t 14]⟩ ::
 ⟨some 15, none, .extract 0, [.t 11]⟩ ::
 ⟨some 16, none, .extract 1, [.t 11]⟩ ::
 ⟨some 17, none, .extract 2, [.t 11]⟩ ::
 ⟨some 8, none, .mov, [.t 15]⟩ ::
 ⟨some 9, none, .mov, [.t 16]⟩ ::
 ⟨some 10, none, .mov, [.t 17]⟩ ::
 []) [2, 3, 8, 10])
 (.seq (.seq (.reg [] (
 ⟨some 18, none, .mov, [.t 10]⟩ ::
 ⟨some 19, none, .bin .neq, [.t 18, .k (.d (.int .i64 0))]⟩ ::
 []) [2, 3, 8, 10, 19])
 (.cond (.t 19)
 (.seq (.reg [] (
 ⟨some 20, none, .mov, [.t 10]⟩ ::
 ⟨some 6, none, .mov, [.k (.d (.int .i64 0))]⟩ ::
 ⟨some 7, none, .mov, [.t 20]⟩ ::
 []) [6, 7])
 (.ret))
 (.skip)))
 (.seq (.seq (.reg [] (
 ⟨some 21, none, .mov, [.t 2]⟩ ::
 ⟨some 22, none, .call 47, [.t 21, .k (.d (.int .i64 0)), .k (.d (.int .i64 1000000))]⟩ ::
 ⟨some 23, none, .un .not, [.t 22]⟩ ::
 []) [2, 3, 8, 23])
 (.cond (.t 23)
 (.seq (.reg [] (
 ⟨some 6, none, .mov, [.k (.d (.int .i64 0))]⟩ ::
 ⟨some 7, none, .mov, [.k (.d (.int .i64 1))]⟩ ::
 []) [6, 7])
 (.ret))
 (.skip)))
 (.seq (.draw [] (
 (⟨some 24, none, .mov, [.t 8]⟩, []) ::
 (⟨some 25, none, .mov, [.t 2]⟩, []) ::
 (⟨some 26, none, .faddr 1, [.t 3]⟩, []) ::
 (⟨some 27, none, .load false 1, [.t 26]⟩, []) ::
 (⟨some 28, none, .bin .rem, [.t 25, .t 27]⟩, []) ::
 (⟨some 29, none, .bin .sub, [.t 24, .t 28]⟩, []) ::
 (⟨some 30, none, .faddr 1, [.t 3]⟩, []) ::
 (⟨some 31, none, .load false 1, [.t 30]⟩, []) ::
 (⟨some 32, none, .bin .add, [.t 29, .t 31]⟩, []) ::
 (⟨some 33, none, .faddr 1, [.t 3]⟩, []) ::
 (⟨some 34, none, .load false 1, [.t 33]⟩, []) ::
 (⟨some 35, none, .bin .rem, [.t 32, .t 34]⟩, []) ::
 (⟨some 6, none, .mov, [.t 35]⟩, []) ::
 (⟨some 7, none, .mov, [.k (.d (.int .i64 0))]⟩, []) ::
 []) [6, 7])
 (.ret)))))
theorem dec_zones_Wait : Fun E0 F_zones_Wait pc_zones_Wait [.t 6, .t 7] 36 := fun_of_dec (fl := []) (by kernel_rfl)
-- platter/platterref01.Wait (3)
abbrev F_ref01_Wait : Nat := 43
def pc_ref01_Wait : PC :=
 .seq (.reg [] (
 ⟨some 3, none, .box, [.t 0]⟩ ::
 ⟨some 6, none, .mov, [.k (.d (.int .i64 0))]⟩ ::
 ⟨some 7, none, .mov, [.k (.d (.int .i64 0))]⟩ ::
 []) [1, 2, 3])
 (.seq (.seq (.reg [] (
 ⟨some 9, none, .load true 9, [.t 3]⟩ ::
 ⟨some 10, none, .mov, [.t 1]⟩ ::
 ⟨some 11, none, .call 63, [.t 9, .t 10]⟩ ::
 ⟨some 8, none, .mov, [.t 11]⟩ ::
 []) [1, 2, 3, 8])
 (.seq (.reg [] (
 ⟨some 12, none, .mov, [.t 8]⟩ ::
 ⟨some 13, none, .bin .neq, [.t 12, .k (.d (.int .i64 0))]⟩ ::
 []) [1, 2, 3, 8, 13])
 (.cond (.t 13)
 (.seq (.reg [] (
 ⟨some 14, none, .mov, [.t 8]⟩ ::
 ⟨some 6, none, .mov, [.k (.d (.int .i64 0))]⟩ ::
 ⟨some 7, none, .mov, [.t 14]⟩ ::
 []) [6, 7])
 (.ret))
 (.skip))))
 (.seq (.seq (.reg [] (
 ⟨some 15, none, .mov, [.t 2]⟩ ::
 ⟨some 16, none, .call 52, [.t 15, .k (.d (.int .i64 0)), .k (.d (.int .i64 1000000))]⟩ ::
 ⟨some 17, none, .un .not, [.t 16]⟩ ::
 []) [1, 2, 3, 17])
 (.cond (.t 17)
 (.seq (.reg [] (
 ⟨some 6, none, .mov, [.k (.d (.int .i64 0))]⟩ ::
 ⟨some 7, none, .mov, [.k (.d (.int .i64 1))]⟩ ::
 []) [6, 7])
 (.ret))
 (.skip)))
 (.seq (.draw [] (
 (⟨some 18, none, .load true 9, [.t 3]⟩, []) ::
 (⟨some 19, none, .mov, [.t 2]⟩, []) ::
 (⟨some 20, none, .load true 9, [.t 3]⟩, []) ::
 (⟨some 21, none, .load true 9, [.t 3]⟩, []) ::
 (⟨some 22, none, .call 55, [.t 21]⟩, [0, 2]) ::
 (⟨some 23, none, .mov, [.t 1]⟩, []) ::
 (⟨some 24, none, .iaddrS 3, [.t 22, .t 23]⟩, []) ::
 (⟨some 25, none, .load true 3, [.t 24]⟩, []) ::
 (⟨some 26, none, .call 64, [.t 20, .t 25]⟩, [0]) ::
 (⟨some 27, none, .call 57, [.t 18, .t 19, .t 26]⟩, []) ::
 (⟨some 6, none, .mov, [.t 27]⟩, []) ::
 (⟨some 7, none, .mov, [.k (.d (.int .i64 0))]⟩, []) ::
 []) [6, 7])
 (.ret))))
theorem dec_ref01_Wait : Fun E0 F_ref01_Wait pc_ref01_Wait [.t 6, .t 7] 28 := fun_of_dec (fl := []) (by kernel_rfl)
-- platter/platterlaw01.Example (0)
abbrev F_law01_Example : Nat := 44
def pc_law01_Example : PC :=
 .seq (.reg [] (
 ⟨some 0, none, .zero [.int .i64 0, .int .i64 0, .list true [], .int .i64 0, .int .i64 0, .int .i64 0, .int .i64 0, .int .i64 0, .int .i64 0], []⟩ ::
 []) [0])
 (.seq (.reg [] (
 ⟨some 1, none, .build [.int .i64 0, .int .i64 0] [(0, 1), (1, 1)], [.k (.d (.int .i64 2)), .k (.d (.int .i64 6))]⟩ ::
 ⟨some 2, none, .build [.int .i64 0, .int .i64 0] [(0, 1), (1, 1)], [.k (.d (.int .i64 1)), .k (.d (.int .i64 5))]⟩ ::
 ⟨some 3, none, .mkrow 2 (.agg [.int .i64 0, .int .i64 0]) 2 [0, 1], [.t 1, .t 2]⟩ ::
 ⟨some 4, none, .call 45, [.k (.d (.int .i64 4)), .k (.d (.int .i64 12))]⟩ ::
 ⟨some 5, none, .call 45, [.k (.d (.int .i64 20)), .k (.d (.int .i64 30))]⟩ ::
 ⟨some 6, none, .build [.int .i64 0, .int .i64 0, .list true [], .int .i64 0, .int .i64 0, .int .i64 0, .int .i64 0, .int .i64 0, .int .i64 0] [(0, 1), (1, 1), (2, 1), (3, 1), (4, 1), (5, 2), (7, 2)], [.k (.d (.int .i64 2)), .k (.d (.int .i64 60)), .t 3, .k (.d (.int .i64 10)), .k (.d (.int .i64 25)), .t 4, .t 5]⟩ ::
 ⟨none, none, .store 9, [.t 0, .t 6]⟩ ::
 []) [0])
 (.ret))
theorem dec_law01_Example : Fun E0 F_law01_Example pc_law01_Example [.c 0 26 true 9] 7 := fun_of_dec (fl := []) (by kernel_rfl)
-- platter/platterlaw01.span (2)
abbrev F_law01_span : Nat := 45
def pc_law01_span : PC :=
 .seq (.reg [] (
 ⟨some 4, none, .zero [.int .i64 0, .int .i64 0], []⟩ ::
 []) [0, 1, 4])
 (.seq (.reg [] (
 ⟨some 5, none, .mov, [.t 0]⟩ ::
 ⟨some 6, none, .mov, [.t 1]⟩ ::
 ⟨some 7, none, .build [.int .i64 0, .int .i64 0] [(0, 1), (1, 1)], [.t 5, .t 6]⟩ ::
 ⟨none, none, .store 2, [.t 4, .t 7]⟩ ::
 []) [4])
 (.ret))
theorem dec_law01_span : Fun E0 F_law01_span pc_law01_span [.c 4 24 true 2] 8 := fun_of_dec (fl := []) (by kernel_rfl)
-- platter/zones.open (1)
abbrev F_zones_open : Nat := 46
def pc_zones_open : PC :=
 .seq (.reg [] (
 ⟨some 1, none, .box, [.t 0]⟩ ::
 ⟨some 2, none, .zero [.int .i64 0, .int .i64 0, .list true [], .int .i64 0, .int .i64 0, .int .i64 0, .int .i64 0, .int .i64 0, .int .i64 0], []⟩ ::
 ⟨some 3, none, .mov, [.k (.d (.int .i64 0))]⟩ ::
 []) [1, 2])
 (.seq (.draw [] (
 (⟨some 4, none, .load true 9, [.t 1]⟩, []) ::
 (⟨some 5, none, .build [.int .i64 0, .int .i64 0, .list true [], .int .i64 0, .int .i64 0, .int .i64 0, .int .i64 0, .int .i64 0, .int .i64 0] [(0, 9)], [.t 4]⟩, []) ::
 (⟨some 6, none, .load true 9, [.t 1]⟩, []) ::
 (⟨some 7, none, .call 34, [.t 6]⟩, [0]) ::
 (⟨none, none, .store 9, [.t 2, .t 5]⟩, []) ::
 (⟨some 3, none, .mov, [.t 7]⟩, []) ::
 []) [2, 3])
 (.ret))
theorem dec_zones_open : Fun E0 F_zones_open pc_zones_open [.c 2 70 true 9, .t 3] 8 := fun_of_dec (fl := []) (by kernel_rfl)
-- platter/zones.in (3)
abbrev F_zones_in : Nat := 47
def pc_zones_in : PC :=
 .seq (.reg [] (
 ⟨some 6, none, .mov, [.k (.d (.bool false))]⟩ ::
 []) [0, 1, 2])
 (.seq (.reg [] (
 ⟨some 7, none, .mov, [.t 1]⟩ ::
 ⟨some 8, none, .mov, [.t 0]⟩ ::
 ⟨some 9, none, .bin .leq, [.t 7, .t 8]⟩ ::
 ⟨some 10, none, .mov, [.t 9]⟩ ::
 ⟨some 11, some (10, true), .mov, [.t 0]⟩ ::
 ⟨some 12, some (10, true), .mov, [.t 2]⟩ ::
 ⟨some 13, some (10, true), .bin .leq, [.t 11, .t 12]⟩ ::
 ⟨some 14, none, .pick, [.t 10, .t 13, .k (.d (.bool false))]⟩ ::
 ⟨some 6, none, .mov, [.t 14]⟩ ::
 []) [6])
 (.ret))
theorem dec_zones_in : Fun E0 F_zones_in pc_zones_in [.t 6] 15 := fun_of_dec (fl := []) (by kernel_rfl)
-- (platter/zones.disk).run (3)
abbrev F_zones_disk_run : Nat := 48
def pc_zones_disk_run : PC :=
 .seq (.reg [] (
 ⟨some 3, none, .box, [.t 0]⟩ ::
 ⟨some 4, none, .box, [.t 1]⟩ ::
 ⟨some 5, none, .box, [.t 2]⟩ ::
 ⟨some 6, none, .zero [.int .i64 0], []⟩ ::
 ⟨some 7, none, .zero [.int .i64 0, .int .i64 0], []⟩ ::
 []) [3, 4, 5, 6, 7])
 (.seq (.seq (.reg [] (
 ⟨some 11, none, .load true 9, [.t 3]⟩ ::
 ⟨some 12, none, .mkbnd 61, [.t 11]⟩ ::
 []) [3, 4, 5, 6, 7, 12])
 (.block 0
 (.rngF [] (.t 12) [13] [3, 4, 5, 6, 7] [3, 4, 5, 6, 7, 900000, 900001, 900002, 901000, 901001, 901002, 5000003, 5000004, 5000005, 5000006, 5000007]
 (.reg [] (
 ⟨some 8, none, .zero [.int .i64 0, .int .i64 0, .int .i64 0, .int .i64 0, .int .i64 0], []⟩ ::
 ⟨none, none, .store 5, [.t 8, .t 13]⟩ ::
 []) [3, 4, 5, 6, 7, 8])
 [] [3, 4, 5, 6, 7, 900000, 900001, 900002, 901000, 901001, 901002, 5000003, 5000004, 5000005, 5000006, 5000007]
 (.block 1
 (.seq (.draw [] (
 (⟨some 14, none, .load false 1, [.t 4]⟩, []) ::
 (⟨some 15, none, .faddr 3, [.t 8]⟩, []) ::
 (⟨some 16, none, .load false 1, [.t 15]⟩, []) ::
 (⟨some 17, none, .minmax true, [.t 14, .t 16]⟩, []) ::
 (⟨some 18, none, .load false 1, [.t 4]⟩, []) ::
 (⟨some 19, none, .load false 1, [.t 5]⟩, []) ::
 (⟨some 20, none, .bin .add, [.t 18, .t 19]⟩, []) ::
 (⟨some 21, none, .faddr 3, [.t 8]⟩, []) ::
 (⟨some 22, none, .load false 1, [.t 21]⟩, []) ::
 (⟨some 23, none, .faddr 2, [.t 8]⟩, []) ::
 (⟨some 24, none, .load false 1, [.t 23]⟩, []) ::
 (⟨some 25, none, .bin .add, [.t 22, .t 24]⟩, []) ::
 (⟨some 26, none, .minmax false, [.t 20, .t 25]⟩, []) ::
 (⟨some 27, none, .bin .sub, [.t 26, .k (.d (.int .i64 1))]⟩, []) ::
 (⟨some 9, none, .mov, [.t 17]⟩, []) ::
 (⟨some 10, none, .mov, [.t 27]⟩, []) ::
 []) [3, 4, 5, 6, 7, 8, 9, 10])
 (.seq (.seq (.reg [] (
 ⟨some 28, none, .mov, [.t 9]⟩ ::
 ⟨some 29, none, .mov, [.t 10]⟩ ::
 ⟨some 30, none, .bin .gtr, [.t 28, .t 29]⟩ ::
 []) [3, 4, 5, 6, 7, 8, 9, 10, 30])
 (.cond (.t 30)
 (.exit 1)
 (.skip)))
 (.seq (.draw [] (
 (⟨some 31, none, .load false 1, [.t 6]⟩, []) ::
 (⟨some 32, none, .mov, [.t 10]⟩, []) ::
 (⟨some 33, none, .mov, [.t 9]⟩, []) ::
 (⟨some 34, none, .bin .sub, [.t 32, .t 33]⟩, []) ::
 (⟨some 35, none, .bin .add, [.t 34, .k (.d (.int .i64 1))]⟩, []) ::
 (⟨some 36, none, .faddr 0, [.t 3]⟩, []) ::
 (⟨some 37, none, .faddr 1, [.t 36]⟩, []) ::
 (⟨some 38, none, .load false 1, [.t 37]⟩, []) ::
 (⟨some 39, none, .faddr 2, [.t 8]⟩, []) ::
 (⟨some 40, none, .load false 1, [.t 39]⟩, []) ::
 (⟨some 41, none, .bin .quo, [.t 38, .t 40]⟩, []) ::
 (⟨some 42, none, .bin .mul, [.t 35, .t 41]⟩, []) ::
 (⟨some 43, none, .bin .add, [.t 31, .t 42]⟩, []) ::
 (⟨none, none, .store 1, [.t 6, .t 43]⟩, []) ::
 []) [3, 4, 5, 7, 8, 10])
 (.block 2
 (.seq (.reg [] (
 ⟨some 49, none, .mov, [.t 10]⟩ ::
 ⟨some 50, none, .load false 1, [.t 4]⟩ ::
 ⟨some 51, none, .load false 1, [.t 5]⟩ ::
 ⟨some 52, none, .bin .add, [.t 50, .t 51]⟩ ::
 ⟨some 53, none, .bin .sub, [.t 52, .k (.d (.int .i64 1))]⟩ ::
 ⟨some 54, none, .bin .eql, [.t 49, .t 53]⟩ ::
 ⟨some 48, none, .mov, [.t 54]⟩ ::
 []) [3, 7, 8, 48])
 (.cond (.t 48)
 (.skip)
 (.seq (.reg [] (
 ⟨some 56, none, .faddr 1, [.t 8]⟩ ::
 ⟨some 57, none, .load false 1, [.t 56]⟩ ::
 ⟨some 58, none, .faddr 0, [.t 3]⟩ ::
 ⟨some 59, none, .faddr 0, [.t 58]⟩ ::
 ⟨some 60, none, .load false 1, [.t 59]⟩ ::
 ⟨some 61, none, .bin .sub, [.t 60, .k (.d (.int .i64 1))]⟩ ::
 ⟨some 62, none, .bin .eql, [.t 57, .t 61]⟩ ::
 ⟨some 55, none, .mov, [.t 62]⟩ ::
 []) [7, 55])
 (.cond (.t 55)
 (.reg [] (
 ⟨some 63, none, .iaddrA 2 1, [.t 7, .k (.d (.int .i64 1))]⟩ ::
 ⟨some 64, none, .load false 1, [.t 63]⟩ ::
 ⟨some 65, none, .bin .add, [.t 64, .k (.d (.int .i64 1))]⟩ ::
 ⟨some 66, none, .iaddrA 2 1, [.t 7, .k (.d (.int .i64 1))]⟩ ::
 ⟨none, none, .store 1, [.t 66, .t 65]⟩ ::
 []) [])
 (.reg [] (
 ⟨some 44, none, .iaddrA 2 1, [.t 7, .k (.d (.int .i64 0))]⟩ ::
 ⟨some 45, none, .load false 1, [.t 44]⟩ ::
 ⟨some 46, none, .bin .add, [.t 45, .k (.d (.int .i64 1))]⟩ ::
 ⟨some 47, none, .iaddrA 2 1, [.t 7, .k (.d (.int .i64 0))]⟩ ::
 ⟨none, none, .store 1, [.t 47, .t 46]⟩ ::
 []) [])))))))))))))
 (.seq (.draw [] (
 (⟨some 67, none, .load false 1, [.t 6]⟩, []) ::
 (⟨some 68, none, .load true 2, [.t 7]⟩, []) ::
 (⟨none, none, .store 1, [.t 6, .t 67]⟩, [1]) ::
 (⟨none, none, .store 2, [.t 7, .t 68]⟩, []) ::
 []) [6, 7])
 (.ret)))
theorem dec_zones_disk_run : Fun E0 F_zones_disk_run pc_zones_disk_run [.c 6 3 false 1, .c 7 74 true 2] 69 := fun_of_dec (fl := []) (by kernel_rfl)
-- (platter/zones.disk).size (1)
abbrev F_zones_disk_size : Nat := 49
def pc_zones_disk_size : PC :=
 .seq (.reg [] (
 ⟨some 1, none, .box, [.t 0]⟩ ::
 ⟨some 2, none, .zero [.int .i64 0], []⟩ ::
 []) [1, 2])
 (.seq (.seq (.reg [] (
 ⟨some 4, none, .load true 9, [.t 1]⟩ ::
 ⟨some 5, none, .mkbnd 61, [.t 4]⟩ ::
 []) [2, 5])
 (.block 0
 (.rngF [] (.t 5) [6] [2] [2, 5000002]
 (.reg [] (
 ⟨some 3, none, .zero [.int .i64 0, .int .i64 0, .int .i64 0, .int .i64 0, .int .i64 0], []⟩ ::
 ⟨none, none, .store 5, [.t 3, .t 6]⟩ ::
 []) [2, 3])
 [] [2, 5000002]
 (.block 1
 (.reg [] (
 ⟨some 7, none, .load false 1, [.t 2]⟩ ::
 ⟨some 8, none, .faddr 2, [.t 3]⟩ ::
 ⟨some 9, none, .load false 1, [.t 8]⟩ ::
 ⟨some 10, none, .bin .add, [.t 7, .t 9]⟩ ::
 ⟨none, none, .store 1, [.t 2, .t 10]⟩ ::
 []) [])))))
 (.seq (.reg [] (
 ⟨some 11, none, .load false 1, [.t 2]⟩ ::
 ⟨none, none, .store 1, [.t 2, .t 11]⟩ ::
 []) [2])
 (.ret)))
theorem dec_zones_disk_size : Fun E0 F_zones_disk_size pc_zones_disk_size [.c 2 3 false 1] 12 := fun_of_dec (fl := []) (by kernel_rfl)
-- (platter/zones.disk).changes (1)
abbrev F_zones_disk_changes : Nat := 50
def pc_zones_disk_changes : PC :=
 .seq (.reg [] (
 ⟨some 1, none, .box, [.t 0]⟩ ::
 ⟨some 2, none, .zero [.int .i64 0, .int .i64 0, .int .i64 0, .int .i64 0, .int .i64 0, .int .i64 0], []⟩ ::
 []) [1, 2])
 (.seq (.reg [] (
 ⟨some 3, none, .faddr 0, [.t 1]⟩ ::
 ⟨some 4, none, .faddr 5, [.t 3]⟩ ::
 ⟨some 5, none, .load true 2, [.t 4]⟩ ::
 ⟨some 6, none, .faddr 0, [.t 1]⟩ ::
 ⟨some 7, none, .faddr 3, [.t 6]⟩ ::
 ⟨some 8, none, .load false 1, [.t 7]⟩ ::
 ⟨some 9, none, .build [.int .i64 0, .int .i64 0, .int .i64 0] [(0, 2), (2, 1)], [.t 5, .t 8]⟩ ::
 ⟨some 10, none, .faddr 0, [.t 1]⟩ ::
 ⟨some 11, none, .faddr 7, [.t 10]⟩ ::
 ⟨some 12, none, .load true 2, [.t 11]⟩ ::
 ⟨some 13, none, .faddr 0, [.t 1]⟩ ::
 ⟨some 14, none, .faddr 4, [.t 13]⟩ ::
 ⟨some 15, none, .load false 1, [.t 14]⟩ ::
 ⟨some 16, none, .build [.int .i64 0, .int .i64 0, .int .i64 0] [(0, 2), (2, 1)], [.t 12, .t 15]⟩ ::
 ⟨some 17, none, .build [.int .i64 0, .int .i64 0, .int .i64 0, .int .i64 0, .int .i64 0, .int .i64 0] [(0, 3), (3, 3)], [.t 9, .t 16]⟩ ::
 ⟨none, none, .store 6, [.t 2, .t 17]⟩ ::
 []) [2])
 (.ret))
theorem dec_zones_disk_changes : Fun E0 F_zones_disk_changes pc_zones_disk_changes [.c 2 80 true 6] 18 := fun_of_dec (fl := []) (by kernel_rfl)
-- (platter/zones.disk).gap (3)
abbrev F_zones_disk_gap : Nat := 51
def pc_zones_disk_gap : PC :=
 .seq (.reg [] (
 ⟨some 3, none, .box, [.t 0]⟩ ::
 ⟨some 6, none, .mov, [.k (.d (.int .i64 0))]⟩ ::
 ⟨some 7, none, .mov, [.k (.d (.int .i64 0))]⟩ ::
 []) [1, 2, 3, 7])
 (.seq (.block 0
 (.loop [] [1, 2, 3, 7] [3, 900000, 900001, 900002, 901000, 901001, 901002]
 (.seq (.seq (.reg [] (
 ⟨some 8, none, .mov, [.t 1]⟩ ::
 ⟨some 9, none, .mov, [.t 7]⟩ ::
 ⟨some 10, none, .faddr 0, [.t 3]⟩ ::
 ⟨some 11, none, .faddr 1, [.t 10]⟩ ::
 ⟨some 12, none, .load false 1, [.t 11]⟩ ::
 ⟨some 13, none, .bin .mul, [.t 9, .t 12]⟩ ::
 ⟨some 14, none, .bin .add, [.t 8, .t 13]⟩ ::
 ⟨some 15, none, .mov, [.t 2]⟩ ::
 ⟨some 16, none, .bin .lss, [.t 14, .t 15]⟩ ::
 []) [1, 2, 3, 7, 16])
 (.cond (.t 16)
 (.skip)
 (.exit 0)))
 (.block 1
 (.reg [] (
 ⟨some 17, none, .mov, [.t 7]⟩ ::
 ⟨some 18, none, .bin .add, [.t 17, .k (.d (.int .i64 1))]⟩ ::
 ⟨some 7, none, .mov, [.t 18]⟩ ::
 []) [1, 2, 3, 7])))))
 (.seq (.reg [] (
 ⟨some 19, none, .mov, [.t 1]⟩ ::
 ⟨some 20, none, .mov, [.t 7]⟩ ::
 ⟨some 21, none, .faddr 0, [.t 3]⟩ ::
 ⟨some 22, none, .faddr 1, [.t 21]⟩ ::
 ⟨some 23, none, .load false 1, [.t 22]⟩ ::
 ⟨some 24, none, .bin .mul, [.t 20, .t 23]⟩ ::
 ⟨some 25, none, .bin .add, [.t 19, .t 24]⟩ ::
 ⟨some 26, none, .mov, [.t 7]⟩ ::
 ⟨some 6, none, .mov, [.t 25]⟩ ::
 ⟨some 7, none, .mov, [.t 26]⟩ ::
 []) [6, 7])
 (.ret)))
theorem dec_zones_disk_gap : Fun E0 F_zones_disk_gap pc_zones_disk_gap [.t 6, .t 7] 27 := fun_of_dec (fl := []) (by kernel_rfl)
-- platter/platterref01.within (3)
abbrev F_ref01_within : Nat := 52
def pc_ref01_within : PC :=
 .seq (.reg [] (
 ⟨some 6, none, .mov, [.k (.d (.bool false))]⟩ ::
 []) [0, 1, 2])
 (.seq (.reg [] (
 ⟨some 7, none, .mov, [.t 0]⟩ ::
 ⟨some 8, none, .mov, [.t 1]⟩ ::
 ⟨some 9, none, .bin .geq, [.t 7, .t 8]⟩ ::
 ⟨some 10, none, .mov, [.t 9]⟩ ::
 ⟨some 11, some (10, true), .mov, [.t 0]⟩ ::
 ⟨some 12, some (10, true), .mov, [.t 2]⟩ ::
 ⟨some 13, some (10, true), .bin .leq, [.t 11, .t 12]⟩ ::
 ⟨some 14, none, .pick, [.t 10, .t 13, .k (.d (.bool false))]⟩ ::
 ⟨some 6, none, .mov, [.t 14]⟩ ::
 []) [6])
 (.ret))
theorem dec_ref01_within : Fun E0 F_ref01_within pc_ref01_within [.t 6] 15 := fun_of_dec (fl := []) (by kernel_rfl)
-- platter/platterref01.Cylinders (1)
abbrev F_ref01_Cylinders : Nat := 53
def pc_ref01_Cylinders : PC :=
 .seq (.reg [] (
 ⟨some 1, none, .box, [.t 0]⟩ ::
 ⟨some 2, none, .mov, [.k (.d (.int .i64 0))]⟩ ::
 []) [1])
 (.seq (.reg [] (
 ⟨some 3, none, .mov, [.k (.d (.int .i64 0))]⟩ ::
 []) [1, 3])
 (.seq (.seq (.reg [] (
 ⟨some 4, none, .mov, [.k (.d (.int .i64 0))]⟩ ::
 []) [1, 3, 4])
 (.block 0
 (.loop [] [1, 3, 4] [1, 900000, 901000]
 (.seq (.seq (.reg [] (
 ⟨some 5, none, .mov, [.t 4]⟩ ::
 ⟨some 6, none, .faddr 2, [.t 1]⟩ ::
 ⟨some 7, none, .load false 1, [.t 6]⟩ ::
 ⟨some 8, none, .len false, [.t 7]⟩ ::
 ⟨some 9, none, .bin .lss, [.t 5, .t 8]⟩ ::
 []) [1, 3, 4, 9])
 (.cond (.t 9)
 (.skip)
 (.exit 0)))
 (.seq (.block 1
 (.reg [] (
 ⟨some 12, none, .mov, [.t 3]⟩ ::
 ⟨some 13, none, .faddr 2, [.t 1]⟩ ::
 ⟨some 14, none, .load false 1, [.t 13]⟩ ::
 ⟨some 15, none, .mov, [.t 4]⟩ ::
 ⟨some 16, none, .iaddrS 2, [.t 14, .t 15]⟩ ::
 ⟨some 17, none, .faddr 0, [.t 16]⟩ ::
 ⟨some 18, none, .load false 1, [.t 17]⟩ ::
 ⟨some 19, none, .bin .add, [.t 12, .t 18]⟩ ::
 ⟨some 3, none, .mov, [.t 19]⟩ ::
 []) [1, 3, 4]))
 (.reg [] (
 ⟨some 10, none, .mov, [.t 4]⟩ ::
 ⟨some 11, none, .bin .add, [.t 10, .k (.d (.int .i64 1))]⟩ ::
 ⟨some 4, none, .mov, [.t 11]⟩ ::
 []) [1, 3, 4]))))))
 (.seq (.reg [] (
 ⟨some 20, none, .mov, [.t 3]⟩ ::
 ⟨some 2, none, .mov, [.t 20]⟩ ::
 []) [2])
 (.ret))))
theorem dec_ref01_Cylinders : Fun E0 F_ref01_Cylinders pc_ref01_Cylinders [.t 2] 21 := fun_of_dec (fl := []) (by kernel_rfl)
-- (platter/zones.disk).span (3)
abbrev F_zones_disk_span : Nat := 54
def pc_zones_disk_span : PC :=
 .seq (.reg [] (
 ⟨some 3, none, .box, [.t 0]⟩ ::
 ⟨some 6, none, .zero [.int .i64 0, .int .i64 0], []⟩ ::
 ⟨some 7, none, .mov, [.k (.d (.int .i64 0))]⟩ ::
 []) [1, 2, 3, 6, 7])
 (.seq (.reg [] (
 ⟨some 17, none, .load true 9, [.t 3]⟩ ::
 ⟨some 18, none, .mov, [.t 1]⟩ ::
 ⟨some 19, none, .mov, [.t 2]⟩ ::
 ⟨some 20, none, .call 48, [.t 17, .t 18, .t 19]⟩ ::
 ⟨some 16, none, .mov, [.t 20]⟩ ::
 ⟨some 21, none, .extract 0, [.t 16]⟩ ::
 ⟨some 22, none, .extract 1, [.t 16]⟩ ::
 ⟨some 9, none, .zero [.int .i64 0, .int .i64 0], []⟩ ::
 ⟨some 8, none, .mov, [.t 21]⟩ ::
 ⟨none, none, .store 2, [.t 9, .t 22]⟩ ::
 []) [3, 6, 7, 8, 9])
 (.seq (.reg [] (
 ⟨some 23, none, .mov, [.t 8]⟩ ::
 ⟨some 24, none, .mov, [.t 8]⟩ ::
 ⟨some 25, none, .build [.int .i64 0, .int .i64 0] [(0, 1), (1, 1)], [.t 23, .t 24]⟩ ::
 ⟨none, none, .store 2, [.t 6, .t 25]⟩ ::
 []) [3, 6, 7, 9])
 (.seq (.seq (.reg [] (
 ⟨some 26, none, .load true 9, [.t 3]⟩ ::
 ⟨some 27, none, .call 50, [.t 26]⟩ ::
 ⟨some 28, none, .mov, [.k (.d (.int .i64 0))]⟩ ::
 []) [3, 6, 7, 9, 27, 28])
 (.block 0
 (.loop [] [3, 6, 7, 9, 27, 28] [3, 6, 9, 20, 27, 10020, 10027, 900000, 901000]
 (.seq (.reg [] (
 ⟨some 29, none, .bin .lss, [.t 28, .k (.d (.int .i64 2))]⟩ ::
 []) [3, 6, 7, 9, 27, 28, 29])
 (.seq (.cond (.t 29)
 (.skip)
 (.exit 0))
 (.seq (.block 1
 (.seq (.reg [] (
 ⟨some 30, none, .mov, [.t 28]⟩ ::
 ⟨some 31, none, .index 2 3 true, [.t 27, .t 28]⟩ ::
 ⟨some 11, none, .zero [.int .i64 0, .int .i64 0, .int .i64 0], []⟩ ::
 ⟨some 10, none, .mov, [.t 30]⟩ ::
 ⟨none, none, .store 3, [.t 11, .t 31]⟩ ::
 []) [3, 6, 7, 9, 10, 11, 27, 28])
 (.seq (.reg [] (
 ⟨some 33, none, .load true 9, [.t 3]⟩ ::
 ⟨some 34, none, .faddr 2, [.t 11]⟩ ::
 ⟨some 35, none, .load false 1, [.t 34]⟩ ::
 ⟨some 36, none, .faddr 0, [.t 11]⟩ ::
 ⟨some 37, none, .faddr 0, [.t 36]⟩ ::
 ⟨some 38, none, .load false 1, [.t 37]⟩ ::
 ⟨some 39, none, .call 51, [.t 33, .t 35, .t 38]⟩ ::
 ⟨some 32, none, .mov, [.t 39]⟩ ::
 ⟨some 40, none, .extract 0, [.t 32]⟩ ::
 ⟨some 41, none, .extract 1, [.t 32]⟩ ::
 ⟨some 12, none, .mov, [.t 40]⟩ ::
 ⟨some 13, none, .mov, [.t 41]⟩ ::
 []) [3, 6, 7, 9, 10, 11, 12, 27, 28])
 (.seq (.reg [] (
 ⟨some 43, none, .load true 9, [.t 3]⟩ ::
 ⟨some 44, none, .faddr 2, [.t 11]⟩ ::
 ⟨some 45, none, .load false 1, [.t 44]⟩ ::
 ⟨some 46, none, .faddr 0, [.t 11]⟩ ::
 ⟨some 47, none, .faddr 1, [.t 46]⟩ ::
 ⟨some 48, none, .load false 1, [.t 47]⟩ ::
 ⟨some 49, none, .call 51, [.t 43, .t 45, .t 48]⟩ ::
 ⟨some 42, none, .mov, [.t 49]⟩ ::
 ⟨some 50, none, .extract 0, [.t 42]⟩ ::
 ⟨some 51, none, .extract 1, [.t 42]⟩ ::
 ⟨some 14, none, .mov, [.t 50]⟩ ::
 ⟨some 15, none, .mov, [.t 51]⟩ ::
 []) [3, 6, 7, 9, 10, 12, 14, 15, 27, 28])
 (.seq (.draw [] (
 (⟨some 52, none, .faddr 0, [.t 6]⟩, []) ::
 (⟨some 53, none, .load false 1, [.t 52]⟩, []) ::
 (⟨some 54, none, .mov, [.t 12]⟩, []) ::
 (⟨some 55, none, .mov, [.t 10]⟩, []) ::
 (⟨some 56, none, .iaddrA 2 1, [.t 9, .t 55]⟩, []) ::
 (⟨some 57, none, .load false 1, [.t 56]⟩, []) ::
 (⟨some 58, none, .bin .mul, [.t 54, .t 57]⟩, []) ::
 (⟨some 59, none, .bin .add, [.t 53, .t 58]⟩, []) ::
 (⟨some 60, none, .faddr 0, [.t 6]⟩, []) ::
 (⟨none, none, .store 1, [.t 60, .t 59]⟩, []) ::
 []) [3, 6, 7, 9, 10, 14, 15, 27, 28])
 (.seq (.draw [] (
 (⟨some 61, none, .faddr 1, [.t 6]⟩, []) ::
 (⟨some 62, none, .load false 1, [.t 61]⟩, []) ::
 (⟨some 63, none, .mov, [.t 14]⟩, []) ::
 (⟨some 64, none, .mov, [.t 10]⟩, []) ::
 (⟨some 65, none, .iaddrA 2 1, [.t 9, .t 64]⟩, []) ::
 (⟨some 66, none, .load false 1, [.t 65]⟩, []) ::
 (⟨some 67, none, .bin .mul, [.t 63, .t 66]⟩, []) ::
 (⟨some 68, none, .bin .add, [.t 62, .t 67]⟩, []) ::
 (⟨some 69, none, .faddr 1, [.t 6]⟩, []) ::
 (⟨none, none, .store 1, [.t 69, .t 68]⟩, []) ::
 []) [3, 6, 7, 9, 10, 15, 27, 28])
 (.reg [] (
 ⟨some 70, none, .mov, [.t 7]⟩ ::
 ⟨some 71, none, .mov, [.t 15]⟩ ::
 ⟨some 72, none, .mov, [.t 10]⟩ ::
 ⟨some 73, none, .iaddrA 2 1, [.t 9, .t 72]⟩ ::
 ⟨some 74, none, .load false 1, [.t 73]⟩ ::
 ⟨some 75, none, .bin .mul, [.t 71, .t 74]⟩ ::
 ⟨some 76, none, .bin .add, [.t 70, .t 75]⟩ ::
 ⟨some 7, none, .mov, [.t 76]⟩ ::
 []) [3, 6, 7, 9, 27, 28])))))))
 (.reg [] (
 ⟨some 77, none, .bin .add, [.t 28, .k (.d (.int .i64 1))]⟩ ::
 ⟨some 28, none, .mov, [.t 77]⟩ ::
 []) [3, 6, 7, 9, 27, 28])))))))
 (.seq (.reg [] (
 ⟨some 78, none, .load true 2, [.t 6]⟩ ::
 ⟨some 79, none, .mov, [.t 7]⟩ ::
 ⟨none, none, .store 2, [.t 6, .t 78]⟩ ::
 ⟨some 7, none, .mov, [.t 79]⟩ ::
 []) [6, 7])
 (.ret)))))
theorem dec_zones_disk_span : Fun E0 F_zones_disk_span pc_zones_disk_span [.c 6 24 true 2, .t 7] 80 := fun_of_dec (fl := []) (by kernel_rfl)
-- platter/platterref01.Places (1)
abbrev F_ref01_Places : Nat := 55
def pc_ref01_Places : PC :=
 .seq (.reg [] (
 ⟨some 1, none, .box, [.t 0]⟩ ::
 ⟨some 2, none, .mov, [.k (.d (.list true []))]⟩ ::
 []) [1])
 (.seq (.reg [] (
 ⟨some 3, none, .mov, [.k (.d (.list true []))]⟩ ::
 []) [1, 3])
 (.seq (.seq (.reg [] (
 ⟨some 4, none, .mov, [.k (.d (.int .i64 0))]⟩ ::
 []) [1, 3, 4])
 (.block 0
 (.loop [.own 3 32 58 3] [1, 3, 4] [1, 32, 900000, 901000]
 (.seq (.seq (.reg [] (
 ⟨some 7, none, .mov, [.t 4]⟩ ::
 ⟨some 8, none, .load true 9, [.t 1]⟩ ::
 ⟨some 9, none, .call 53, [.t 8]⟩ ::
 ⟨some 10, none, .bin .lss, [.t 7, .t 9]⟩ ::
 []) [1, 3, 4, 10])
 (.cond (.t 10)
 (.skip)
 (.exit 0)))
 (.seq (.block 1
 (.seq (.reg [] (
 ⟨some 5, none, .mov, [.k (.d (.int .i64 0))]⟩ ::
 []) [1, 3, 4, 5])
 (.block 2
 (.loop [.own 3 32 58 3] [1, 3, 4, 5] [1, 32, 900000, 901000]
 (.seq (.seq (.reg [] (
 ⟨some 13, none, .mov, [.t 5]⟩ ::
 ⟨some 14, none, .faddr 0, [.t 1]⟩ ::
 ⟨some 15, none, .load false 1, [.t 14]⟩ ::
 ⟨some 16, none, .bin .lss, [.t 13, .t 15]⟩ ::
 []) [1, 3, 4, 5, 16])
 (.cond (.t 16)
 (.skip)
 (.exit 2)))
 (.seq (.block 3
 (.seq (.reg [] (
 ⟨some 6, none, .mov, [.k (.d (.int .i64 0))]⟩ ::
 []) [1, 3, 4, 5, 6])
 (.block 4
 (.loop [.own 3 32 58 3] [1, 3, 4, 5, 6] [1, 32, 900000, 901000]
 (.seq (.seq (.reg [] (
 ⟨some 19, none, .mov, [.t 6]⟩ ::
 ⟨some 20, none, .load true 9, [.t 1]⟩ ::
 ⟨some 21, none, .mov, [.t 4]⟩ ::
 ⟨some 22, none, .call 56, [.t 20, .t 21]⟩ ::
 ⟨some 23, none, .bin .lss, [.t 19, .t 22]⟩ ::
 []) [1, 3, 4, 5, 6, 23])
 (.cond (.t 23)
 (.skip)
 (.exit 4)))
 (.seq (.block 5
 (.reg [] (
 ⟨some 26, none, .mov, [.t 3]⟩ ::
 ⟨some 27, none, .mov, [.t 4]⟩ ::
 ⟨some 28, none, .mov, [.t 5]⟩ ::
 ⟨some 29, none, .mov, [.t 6]⟩ ::
 ⟨some 30, none, .build [.int .i64 0, .int .i64 0, .int .i64 0] [(0, 1), (1, 1), (2, 1)], [.t 27, .t 28, .t 29]⟩ ::
 ⟨some 31, none, .mkrow 3 (.agg [.int .i64 0, .int .i64 0, .int .i64 0]) 1 [0], [.t 30]⟩ ::
 ⟨some 32, none, .app 58 3 none true, [.t 26, .t 31]⟩ ::
 ⟨some 3, none, .mov, [.t 32]⟩ ::
 []) [1, 3, 4, 5, 6]))
 (.reg [] (
 ⟨some 24, none, .mov, [.t 6]⟩ ::
 ⟨some 25, none, .bin .add, [.t 24, .k (.d (.int .i64 1))]⟩ ::
 ⟨some 6, none, .mov, [.t 25]⟩ ::
 []) [1, 3, 4, 5, 6])))))))
 (.reg [] (
 ⟨some 17, none, .mov, [.t 5]⟩ ::
 ⟨some 18, none, .bin .add, [.t 17, .k (.d (.int .i64 1))]⟩ ::
 ⟨some 5, none, .mov, [.t 18]⟩ ::
 []) [1, 3, 4, 5])))))))
 (.reg [] (
 ⟨some 11, none, .mov, [.t 4]⟩ ::
 ⟨some 12, none, .bin .add, [.t 11, .k (.d (.int .i64 1))]⟩ ::
 ⟨some 4, none, .mov, [.t 12]⟩ ::
 []) [1, 3, 4]))))))
 (.seq (.reg [] (
 ⟨some 33, none, .mov, [.t 3]⟩ ::
 ⟨some 2, none, .mov, [.t 33]⟩ ::
 []) [2])
 (.ret))))
theorem dec_ref01_Places : Fun E0 F_ref01_Places pc_ref01_Places [.t 2] 34 := fun_of_dec (fl := []) (by kernel_rfl)
-- platter/platterref01.Sectors (2)
abbrev F_ref01_Sectors : Nat := 56
def pc_ref01_Sectors : PC :=
 .seq (.reg [] (
 ⟨some 2, none, .box, [.t 0]⟩ ::
 ⟨some 4, none, .mov, [.k (.d (.int .i64 0))]⟩ ::
 []) [1, 2])
 (.seq (.draw [] (
 (⟨some 5, none, .faddr 2, [.t 2]⟩, []) ::
 (⟨some 6, none, .load false 1, [.t 5]⟩, []) ::
 (⟨some 7, none, .load true 9, [.t 2]⟩, []) ::
 (⟨some 8, none, .mov, [.t 1]⟩, []) ::
 (⟨some 9, none, .call 65, [.t 7, .t 8]⟩, [1]) ::
 (⟨some 10, none, .iaddrS 2, [.t 6, .t 9]⟩, []) ::
 (⟨some 11, none, .faddr 1, [.t 10]⟩, []) ::
 (⟨some 12, none, .load false 1, [.t 11]⟩, []) ::
 (⟨some 4, none, .mov, [.t 12]⟩, []) ::
 []) [4])
 (.ret))
theorem dec_ref01_Sectors : Fun E0 F_ref01_Sectors pc_ref01_Sectors [.t 4] 13 := fun_of_dec (fl := []) (by kernel_rfl)
-- platter/platterref01.After (3)
abbrev F_ref01_After : Nat := 57
def pc_ref01_After : PC :=
 .seq (.reg [] (
 ⟨some 3, none, .box, [.t 0]⟩ ::
 ⟨some 6, none, .mov, [.k (.d (.int .i64 0))]⟩ ::
 []) [1, 2, 3])
 (.seq (.draw [] (
 (⟨some 7, none, .mov, [.t 2]⟩, []) ::
 (⟨some 8, none, .mov, [.t 1]⟩, []) ::
 (⟨some 9, none, .bin .sub, [.t 7, .t 8]⟩, []) ::
 (⟨some 10, none, .faddr 1, [.t 3]⟩, []) ::
 (⟨some 11, none, .load false 1, [.t 10]⟩, []) ::
 (⟨some 12, none, .bin .rem, [.t 9, .t 11]⟩, []) ::
 (⟨some 13, none, .faddr 1, [.t 3]⟩, []) ::
 (⟨some 14, none, .load false 1, [.t 13]⟩, []) ::
 (⟨some 15, none, .bin .add, [.t 12, .t 14]⟩, []) ::
 (⟨some 16, none, .faddr 1, [.t 3]⟩, []) ::
 (⟨some 17, none, .load false 1, [.t 16]⟩, []) ::
 (⟨some 18, none, .bin .rem, [.t 15, .t 17]⟩, []) ::
 (⟨some 6, none, .mov, [.t 18]⟩, []) ::
 []) [6])
 (.ret))
theorem dec_ref01_After : Fun E0 F_ref01_After pc_ref01_After [.t 6] 19 := fun_of_dec (fl := []) (by kernel_rfl)
-- platter/platterref01.run (3)
abbrev F_ref01_run : Nat := 58
def pc_ref01_run : PC :=
 .seq (.reg [] (
 ⟨some 3, none, .box, [.t 0]⟩ ::
 ⟨some 6, none, .zero [.int .i64 0, .int .i64 0], []⟩ ::
 []) [1, 2, 3, 6])
 (.seq (.reg [] (
 ⟨some 13, none, .load true 9, [.t 3]⟩ ::
 ⟨some 14, none, .mov, [.t 1]⟩ ::
 ⟨some 15, none, .mov, [.t 2]⟩ ::
 ⟨some 16, none, .call 21, [.t 13, .t 14, .t 15]⟩ ::
 ⟨some 7, none, .mov, [.t 16]⟩ ::
 []) [1, 2, 3, 6, 7])
 (.seq (.reg [] (
 ⟨some 8, none, .mov, [.k (.d (.list true []))]⟩ ::
 ⟨some 9, none, .mov, [.k (.d (.list true []))]⟩ ::
 []) [1, 2, 3, 6, 7, 8, 9])
 (.seq (.seq (.reg [] (
 ⟨some 10, none, .mov, [.k (.d (.int .i64 0))]⟩ ::
 []) [1, 2, 3, 6, 7, 8, 9, 10])
 (.block 0
 (.loop [.own 8 36 3 1, .own 9 41 3 1] [1, 2, 3, 6, 7, 8, 9, 10] [3, 6, 16, 36, 41, 46, 51, 10016, 10046, 10051, 900000, 900001, 900002, 901000, 901001, 901002]
 (.seq (.seq (.reg [] (
 ⟨some 17, none, .mov, [.t 10]⟩ ::
 ⟨some 18, none, .mov, [.t 7]⟩ ::
 ⟨some 19, none, .len false, [.t 18]⟩ ::
 ⟨some 20, none, .bin .lss, [.t 17, .t 19]⟩ ::
 []) [1, 2, 3, 6, 7, 8, 9, 10, 20])
 (.cond (.t 20)
 (.skip)
 (.exit 0)))
 (.seq (.block 1
 (.seq (.draw [] (
 (⟨some 24, none, .load true 9, [.t 3]⟩, []) ::
 (⟨some 25, none, .mov, [.t 7]⟩, []) ::
 (⟨some 26, none, .mov, [.t 10]⟩, []) ::
 (⟨some 27, none, .iaddrS 1, [.t 25, .t 26]⟩, []) ::
 (⟨some 28, none, .load false 1, [.t 27]⟩, []) ::
 (⟨some 29, none, .call 22, [.t 24, .t 28]⟩, []) ::
 (⟨some 23, none, .mov, [.t 29]⟩, []) ::
 (⟨some 30, none, .extract 0, [.t 23]⟩, []) ::
 (⟨some 31, none, .extract 1, [.t 23]⟩, []) ::
 (⟨some 11, none, .zero [.int .i64 0, .int .i64 0], []⟩, [0, 3, 4, 5]) ::
 (⟨none, none, .store 2, [.t 11, .t 30]⟩, []) ::
 (⟨some 12, none, .mov, [.t 31]⟩, []) ::
 []) [1, 2, 3, 6, 7, 8, 9, 10, 11])
 (.draw [] (
 (⟨some 32, none, .mov, [.t 8]⟩, []) ::
 (⟨some 33, none, .faddr 0, [.t 11]⟩, []) ::
 (⟨some 34, none, .load false 1, [.t 33]⟩, []) ::
 (⟨some 35, none, .mkrow 1 (.int .i64 0) 1 [0], [.t 34]⟩, []) ::
 (⟨some 36, none, .app 3 1 none true, [.t 32, .t 35]⟩, []) ::
 (⟨some 37, none, .mov, [.t 9]⟩, []) ::
 (⟨some 38, none, .faddr 1, [.t 11]⟩, []) ::
 (⟨some 39, none, .load false 1, [.t 38]⟩, [4]) ::
 (⟨some 40, none, .mkrow 1 (.int .i64 0) 1 [0], [.t 39]⟩, []) ::
 (⟨some 41, none, .app 3 1 none true, [.t 37, .t 40]⟩, []) ::
 (⟨some 8, none, .mov, [.t 36]⟩, []) ::
 (⟨some 9, none, .mov, [.t 41]⟩, []) ::
 []) [1, 2, 3, 6, 7, 8, 9, 10])))
 (.reg [] (
 ⟨some 21, none, .mov, [.t 10]⟩ ::
 ⟨some 22, none, .bin .add, [.t 21, .k (.d (.int .i64 1))]⟩ ::
 ⟨some 10, none, .mov, [.t 22]⟩ ::
 []) [1, 2, 3, 6, 7, 8, 9, 10]))))))
 (.seq (.draw [.freeze 8, .freeze 9] (
 (⟨some 42, none, .load true 9, [.t 3]⟩, []) ::
 (⟨some 43, none, .mov, [.t 1]⟩, []) ::
 (⟨some 44, none, .mov, [.t 2]⟩, []) ::
 (⟨some 45, none, .mov, [.t 8]⟩, []) ::
 (⟨some 46, none, .call 23, [.t 42, .t 43, .t 44, .t 45]⟩, []) ::
 (⟨some 47, none, .load true 9, [.t 3]⟩, [4]) ::
 (⟨some 48, none, .mov, [.t 1]⟩, []) ::
 (⟨some 49, none, .mov, [.t 2]⟩, []) ::
 (⟨some 50, none, .mov, [.t 9]⟩, []) ::
 (⟨some 51, none, .call 23, [.t 47, .t 48, .t 49, .t 50]⟩, []) ::
 (⟨some 52, none, .build [.int .i64 0, .int .i64 0] [(0, 1), (1, 1)], [.t 46, .t 51]⟩, []) ::
 (⟨none, none, .store 2, [.t 6, .t 52]⟩, []) ::
 []) [6])
 (.ret)))))
theorem dec_ref01_run : Fun E0 F_ref01_run pc_ref01_run [.c 6 24 true 2] 53 := fun_of_dec (fl := [36, 41]) (by kernel_rfl)
-- platter/platterref01.Turns (3)
abbrev F_ref01_Turns : Nat := 59
def pc_ref01_Turns : PC :=
 .seq (.reg [] (
 ⟨some 3, none, .box, [.t 0]⟩ ::
 ⟨some 6, none, .mov, [.k (.d (.int .i64 0))]⟩ ::
 []) [1, 2, 3])
 (.seq (.reg [] (
 ⟨some 12, none, .load true 9, [.t 3]⟩ ::
 ⟨some 13, none, .mov, [.t 1]⟩ ::
 ⟨some 14, none, .mov, [.t 2]⟩ ::
 ⟨some 15, none, .call 21, [.t 12, .t 13, .t 14]⟩ ::
 ⟨some 7, none, .mov, [.t 15]⟩ ::
 []) [3, 7])
 (.seq (.reg [] (
 ⟨some 8, none, .mov, [.k (.d (.int .i64 0))]⟩ ::
 []) [3, 7, 8])
 (.seq (.seq (.reg [] (
 ⟨some 9, none, .mov, [.k (.d (.int .i64 0))]⟩ ::
 []) [3, 7, 8, 9])
 (.block 0
 (.loop [] [3, 7, 8, 9] [3, 15, 10015, 900000, 901000]
 (.seq (.seq (.reg [] (
 ⟨some 16, none, .mov, [.t 9]⟩ ::
 ⟨some 17, none, .mov, [.t 7]⟩ ::
 ⟨some 18, none, .len false, [.t 17]⟩ ::
 ⟨some 19, none, .bin .lss, [.t 16, .t 18]⟩ ::
 []) [3, 7, 8, 9, 19])
 (.cond (.t 19)
 (.skip)
 (.exit 0)))
 (.seq (.block 1
 (.seq (.reg [] (
 ⟨some 22, none, .mov, [.t 7]⟩ ::
 ⟨some 23, none, .mov, [.t 9]⟩ ::
 ⟨some 24, none, .iaddrS 1, [.t 22, .t 23]⟩ ::
 ⟨some 25, none, .load false 1, [.t 24]⟩ ::
 ⟨some 26, none, .bin .gtr, [.t 25, .k (.d (.int .i64 0))]⟩ ::
 []) [3, 7, 8, 9, 26])
 (.cond (.t 26)
 (.seq (.draw [] (
 (⟨some 28, none, .load true 9, [.t 3]⟩, []) ::
 (⟨some 29, none, .mov, [.t 7]⟩, []) ::
 (⟨some 30, none, .mov, [.t 9]⟩, []) ::
 (⟨some 31, none, .iaddrS 1, [.t 29, .t 30]⟩, []) ::
 (⟨some 32, none, .load false 1, [.t 31]⟩, []) ::
 (⟨some 33, none, .call 22, [.t 28, .t 32]⟩, []) ::
 (⟨some 27, none, .mov, [.t 33]⟩, []) ::
 (⟨some 34, none, .extract 0, [.t 27]⟩, []) ::
 (⟨some 35, none, .extract 1, [.t 27]⟩, []) ::
 (⟨some 10, none, .zero [.int .i64 0, .int .i64 0], []⟩, [0, 3, 4, 5]) ::
 (⟨none, none, .store 2, [.t 10, .t 34]⟩, []) ::
 (⟨some 11, none, .mov, [.t 35]⟩, []) ::
 []) [3, 7, 8, 9, 10, 11])
 (.draw [] (
 (⟨some 36, none, .mov, [.t 8]⟩, []) ::
 (⟨some 37, none, .load true 9, [.t 3]⟩, []) ::
 (⟨some 38, none, .mov, [.t 7]⟩, []) ::
 (⟨some 39, none, .mov, [.t 9]⟩, []) ::
 (⟨some 40, none, .iaddrS 1, [.t 38, .t 39]⟩, []) ::
 (⟨some 41, none, .load false 1, [.t 40]⟩, []) ::
 (⟨some 42, none, .faddr 1, [.t 10]⟩, []) ::
 (⟨some 43, none, .load false 1, [.t 42]⟩, []) ::
 (⟨some 44, none, .call 24, [.t 37, .t 41, .t 43]⟩, []) ::
 (⟨some 45, none, .mov, [.t 11]⟩, []) ::
 (⟨some 46, none, .bin .sub, [.t 44, .t 45]⟩, []) ::
 (⟨some 47, none, .faddr 1, [.t 3]⟩, []) ::
 (⟨some 48, none, .load false 1, [.t 47]⟩, [8]) ::
 (⟨some 49, none, .bin .quo, [.t 46, .t 48]⟩, []) ::
 (⟨some 50, none, .bin .add, [.t 36, .t 49]⟩, []) ::
 (⟨some 8, none, .mov, [.t 50]⟩, []) ::
 []) [3, 7, 8, 9]))
 (.skip))))
 (.reg [] (
 ⟨some 20, none, .mov, [.t 9]⟩ ::
 ⟨some 21, none, .bin .add, [.t 20, .k (.d (.int .i64 1))]⟩ ::
 ⟨some 9, none, .mov, [.t 21]⟩ ::
 []) [3, 7, 8, 9]))))))
 (.seq (.reg [] (
 ⟨some 51, none, .mov, [.t 8]⟩ ::
 ⟨some 6, none, .mov, [.t 51]⟩ ::
 []) [6])
 (.ret)))))
theorem dec_ref01_Turns : Fun E0 F_ref01_Turns pc_ref01_Turns [.t 6] 52 := fun_of_dec (fl := []) (by kernel_rfl)
-- platter/zones.find (2)
abbrev F_zones_find : Nat := 60
def pc_zones_find : PC :=
 .seq (.reg [] (
 ⟨some 2, none, .box, [.t 0]⟩ ::
 ⟨some 3, none, .box, [.t 1]⟩ ::
 ⟨some 4, none, .zero [.int .i64 0, .int .i64 0, .list true [], .int .i64 0, .int .i64 0, .int .i64 0, .int .i64 0, .int .i64 0, .int .i64 0], []⟩ ::
 ⟨some 5, none, .zero [.int .i64 0, .int .i64 0, .int .i64 0, .int .i64 0, .int .i64 0], []⟩ ::
 ⟨some 6, none, .zero [.int .i64 0], []⟩ ::
 []) [2, 3, 4, 5, 6])
 (.seq (.reg [] (
 ⟨some 11, none, .load true 9, [.t 2]⟩ ::
 ⟨some 12, none, .call 46, [.t 11]⟩ ::
 ⟨some 10, none, .mov, [.t 12]⟩ ::
 ⟨some 13, none, .extract 0, [.t 10]⟩ ::
 ⟨some 14, none, .extract 1, [.t 10]⟩ ::
 ⟨some 7, none, .zero [.int .i64 0, .int .i64 0, .list true [], .int .i64 0, .int .i64 0, .int .i64 0, .int .i64 0, .int .i64 0, .int .i64 0], []⟩ ::
 ⟨none, none, .store 9, [.t 7, .t 13]⟩ ::
 ⟨some 8, none, .mov, [.t 14]⟩ ::
 []) [3, 4, 5, 6, 7, 8])
 (.seq (.seq (.reg [] (
 ⟨some 15, none, .mov, [.t 8]⟩ ::
 ⟨some 16, none, .bin .neq, [.t 15, .k (.d (.int .i64 0))]⟩ ::
 []) [3, 4, 5, 6, 7, 8, 16])
 (.cond (.t 16)
 (.seq (.reg [] (
 ⟨some 17, none, .load true 9, [.t 7]⟩ ::
 ⟨some 18, none, .build [.int .i64 0, .int .i64 0, .int .i64 0, .int .i64 0, .int .i64 0] [], []⟩ ::
 ⟨some 19, none, .mov, [.t 8]⟩ ::
 ⟨none, none, .store 9, [.t 4, .t 17]⟩ ::
 ⟨none, none, .store 5, [.t 5, .t 18]⟩ ::
 ⟨none, none, .store 1, [.t 6, .t 19]⟩ ::
 []) [4, 5, 6])
 (.ret))
 (.skip)))
 (.seq (.seq (.reg [] (
 ⟨some 20, none, .load true 9, [.t 7]⟩ ::
 ⟨some 21, none, .mkbnd 61, [.t 20]⟩ ::
 []) [3, 4, 5, 6, 7, 21])
 (.block 0
 (.rngF [] (.t 21) [22] [3, 4, 5, 6, 7] [3, 4, 5, 6, 7, 12, 10012, 900001, 901001, 5000003, 5000004, 5000005, 5000006, 5000007, 5000012, 5010012]
 (.reg [] (
 ⟨some 9, none, .zero [.int .i64 0, .int .i64 0, .int .i64 0, .int .i64 0, .int .i64 0], []⟩ ::
 ⟨none, none, .store 5, [.t 9, .t 22]⟩ ::
 []) [3, 4, 5, 6, 7, 9])
 [] [3, 4, 5, 6, 7, 12, 10012, 900001, 901001, 5000003, 5000004, 5000005, 5000006, 5000007, 5000012, 5010012]
 (.block 1
 (.seq (.reg [] (
 ⟨some 23, none, .load false 1, [.t 3]⟩ ::
 ⟨some 24, none, .faddr 3, [.t 9]⟩ ::
 ⟨some 25, none, .load false 1, [.t 24]⟩ ::
 ⟨some 26, none, .faddr 3, [.t 9]⟩ ::
 ⟨some 27, none, .load false 1, [.t 26]⟩ ::
 ⟨some 28, none, .faddr 2, [.t 9]⟩ ::
 ⟨some 29, none, .load false 1, [.t 28]⟩ ::
 ⟨some 30, none, .bin .add, [.t 27, .t 29]⟩ ::
 ⟨some 31, none, .bin .sub, [.t 30, .k (.d (.int .i64 1))]⟩ ::
 ⟨some 32, none, .call 47, [.t 23, .t 25, .t 31]⟩ ::
 []) [4, 5, 6, 7, 9, 32])
 (.cond (.t 32)
 (.seq (.draw [] (
 (⟨some 33, none, .load true 9, [.t 7]⟩, []) ::
 (⟨some 34, none, .load true 5, [.t 9]⟩, []) ::
 (⟨none, none, .store 9, [.t 4, .t 33]⟩, [1]) ::
 (⟨none, none, .store 5, [.t 5, .t 34]⟩, []) ::
 (⟨none, none, .store 1, [.t 6, .k (.d (.int .i64 0))]⟩, []) ::
 []) [4, 5, 6])
 (.ret))
 (.skip)))))))
 (.seq (.reg [] (
 ⟨some 35, none, .load true 9, [.t 7]⟩ ::
 ⟨some 36, none, .build [.int .i64 0, .int .i64 0, .int .i64 0, .int .i64 0, .int .i64 0] [], []⟩ ::
 ⟨none, none, .store 9, [.t 4, .t 35]⟩ ::
 ⟨none, none, .store 5, [.t 5, .t 36]⟩ ::
 ⟨none, none, .store 1, [.t 6, .k (.d (.int .i64 1))]⟩ ::
 []) [4, 5, 6])
 (.ret)))))
theorem dec_zones_find : Fun E0 F_zones_find pc_zones_find [.c 4 70 true 9, .c 5 92 true 5, .c 6 29 false 1] 37 := fun_of_dec (fl := []) (by kernel_rfl)
-- (platter/zones.disk).tracks (2)
abbrev F_zones_disk_tracks : Nat := 61
def pc_zones_disk_tracks : PC :=
 .seq (.reg [] (
 ⟨some 2, none, .box, [.t 0]⟩ ::
 []) [1, 2])
 (.seq (.reg [] (
 ⟨some 4, none, .zero [.int .i64 0, .int .i64 0, .int .i64 0, .int .i64 0, .int .i64 0], []⟩ ::
 []) [1, 2, 4])
 (.seq (.reg [] (
 ⟨some 7, none, .faddr 0, [.t 2]⟩ ::
 ⟨some 8, none, .faddr 2, [.t 7]⟩ ::
 ⟨some 9, none, .load false 1, [.t 8]⟩ ::
 ⟨some 10, none, .len false, [.t 9]⟩ ::
 ⟨some 11, none, .mov, [.k (.d (.int .i64 0))]⟩ ::
 []) [1, 2, 4, 9, 10, 11])
 (.block 0
 (.loop [] [1, 2, 4, 9, 10, 11] [2, 4, 900000, 900001, 901000, 901001]
 (.seq (.reg [] (
 ⟨some 12, none, .bin .lss, [.t 11, .t 10]⟩ ::
 []) [1, 2, 4, 9, 10, 11, 12])
 (.seq (.cond (.t 12)
 (.skip)
 (.exit 0))
 (.seq (.block 1
 (.seq (.reg [] (
 ⟨some 13, none, .iaddrS 2, [.t 9, .t 11]⟩ ::
 ⟨some 14, none, .load true 2, [.t 13]⟩ ::
 ⟨some 6, none, .zero [.int .i64 0, .int .i64 0], []⟩ ::
 ⟨none, none, .store 2, [.t 6, .t 14]⟩ ::
 []) [1, 2, 4, 6, 9, 10, 11])
 (.seq (.reg [] (
 ⟨some 15, none, .faddr 0, [.t 6]⟩ ::
 ⟨some 16, none, .load false 1, [.t 15]⟩ ::
 ⟨some 17, none, .mov, [.k (.d (.int .i64 0))]⟩ ::
 []) [1, 2, 4, 6, 9, 10, 11, 16, 17])
 (.block 2
 (.loop [] [1, 2, 4, 6, 9, 10, 11, 16, 17] [2, 4, 6, 900000, 900001, 901000, 901001]
 (.seq (.reg [] (
 ⟨some 18, none, .bin .lss, [.t 17, .t 16]⟩ ::
 []) [1, 2, 4, 6, 9, 10, 11, 16, 17, 18])
 (.seq (.cond (.t 18)
 (.skip)
 (.exit 2))
 (.seq (.block 3
 (.seq (.seq (.reg [] (
 ⟨some 19, none, .faddr 0, [.t 2]⟩ ::
 ⟨some 20, none, .faddr 0, [.t 19]⟩ ::
 ⟨some 21, none, .load false 1, [.t 20]⟩ ::
 ⟨some 22, none, .mov, [.k (.d (.int .i64 0))]⟩ ::
 []) [1, 2, 4, 6, 9, 10, 11, 16, 17, 21, 22])
 (.block 4
 (.loop [] [1, 2, 4, 6, 9, 10, 11, 16, 17, 21, 22] [2, 4, 6, 900000, 900001, 901000, 901001]
 (.seq (.reg [] (
 ⟨some 23, none, .bin .lss, [.t 22, .t 21]⟩ ::
 []) [1, 2, 4, 6, 9, 10, 11, 16, 17, 21, 22, 23])
 (.seq (.cond (.t 23)
 (.skip)
 (.exit 4))
 (.seq (.block 5
 (.seq (.reg [] (
 ⟨some 24, none, .mov, [.t 22]⟩ ::
 ⟨some 25, none, .faddr 1, [.t 4]⟩ ::
 ⟨none, none, .store 1, [.t 25, .t 24]⟩ ::
 []) [1, 2, 4, 6, 9, 10, 11, 16, 17, 21, 22])
 (.seq (.reg [] (
 ⟨some 26, none, .faddr 1, [.t 6]⟩ ::
 ⟨some 27, none, .load false 1, [.t 26]⟩ ::
 ⟨some 28, none, .faddr 2, [.t 4]⟩ ::
 ⟨none, none, .store 1, [.t 28, .t 27]⟩ ::
 []) [1, 2, 4, 6, 9, 10, 11, 16, 17, 21, 22])
 (.seq (.seq (.yld [] (
 ⟨some 29, none, .mov, [.t 1]⟩ ::
 ⟨some 30, none, .load true 5, [.t 4]⟩ ::
 []) (some 31) (.t 29) [.t 30] (
 ⟨some 32, none, .un .not, [.t 31]⟩ ::
 []) [1, 2, 4, 6, 9, 10, 11, 16, 17, 21, 22, 32])
 (.cond (.t 32)
 (.ret)
 (.skip)))
 (.seq (.reg [] (
 ⟨some 33, none, .faddr 3, [.t 4]⟩ ::
 ⟨some 34, none, .load false 1, [.t 33]⟩ ::
 ⟨some 35, none, .faddr 1, [.t 6]⟩ ::
 ⟨some 36, none, .load false 1, [.t 35]⟩ ::
 ⟨some 37, none, .bin .add, [.t 34, .t 36]⟩ ::
 ⟨some 38, none, .faddr 3, [.t 4]⟩ ::
 ⟨none, none, .store 1, [.t 38, .t 37]⟩ ::
 []) [1, 2, 4, 6, 9, 10, 11, 16, 17, 21, 22])
 (.draw [] (
 (⟨some 39, none, .faddr 4, [.t 4]⟩, []) ::
 (⟨some 40, none, .load false 1, [.t 39]⟩, []) ::
 (⟨some 41, none, .load true 9, [.t 2]⟩, []) ::
 (⟨some 42, none, .faddr 1, [.t 4]⟩, []) ::
 (⟨some 43, none, .load false 1, [.t 42]⟩, []) ::
 (⟨some 44, none, .faddr 0, [.t 2]⟩, []) ::
 (⟨some 45, none, .faddr 0, [.t 44]⟩, []) ::
 (⟨some 46, none, .load false 1, [.t 45]⟩, []) ::
 (⟨some 47, none, .bin .sub, [.t 46, .k (.d (.int .i64 1))]⟩, []) ::
 (⟨some 48, none, .bin .eql, [.t 43, .t 47]⟩, []) ::
 (⟨some 49, none, .call 66, [.t 41, .t 48]⟩, [1]) ::
 (⟨some 50, none, .bin .add, [.t 40, .t 49]⟩, []) ::
 (⟨some 51, none, .faddr 0, [.t 2]⟩, []) ::
 (⟨some 52, none, .faddr 1, [.t 51]⟩, []) ::
 (⟨some 53, none, .load false 1, [.t 52]⟩, [10]) ::
 (⟨some 54, none, .bin .rem, [.t 50, .t 53]⟩, []) ::
 (⟨some 55, none, .faddr 4, [.t 4]⟩, []) ::
 (⟨none, none, .store 1, [.t 55, .t 54]⟩, []) ::
 []) [1, 2, 4, 6, 9, 10, 11, 16, 17, 21, 22]))))))
 (.reg [] (
 ⟨some 56, none, .bin .add, [.t 22, .k (.d (.int .i64 1))]⟩ ::
 ⟨some 22, none, .mov, [.t 56]⟩ ::
 []) [1, 2, 4, 6, 9, 10, 11, 16, 17, 21, 22])))))))
 (.reg [] (
 ⟨some 57, none, .faddr 0, [.t 4]⟩ ::
 ⟨some 58, none, .load false 1, [.t 57]⟩ ::
 ⟨some 59, none, .bin .add, [.t 58, .k (.d (.int .i64 1))]⟩ ::
 ⟨some 60, none, .faddr 0, [.t 4]⟩ ::
 ⟨none, none, .store 1, [.t 60, .t 59]⟩ ::
 []) [1, 2, 4, 6, 9, 10, 11, 16, 17])))
 (.reg [] (
 ⟨some 61, none, .bin .add, [.t 17, .k (.d (.int .i64 1))]⟩ ::
 ⟨some 17, none, .mov, [.t 61]⟩ ::
 []) [1, 2, 4, 6, 9, 10, 11, 16, 17])))))))))
 (.reg [] (
 ⟨some 62, none, .bin .add, [.t 11, .k (.d (.int .i64 1))]⟩ ::
 ⟨some 11, none, .mov, [.t 62]⟩ ::
 []) [1, 2, 4, 9, 10, 11]))))))))
theorem dec_zones_disk_tracks : Fun E0 F_zones_disk_tracks pc_zones_disk_tracks [] 63 := fun_of_dec (fl := [1000031, 1000049]) (by kernel_rfl)
theorem body_zones_disk_tracks : hasBody E0.P F_zones_disk_tracks = true := by kernel_rfl
-- platter/zones.Check$1 (1)
abbrev F_zones_Check_1 : Nat := 62
def pc_zones_Check_1 : PC :=
 .seq (.reg [] (
 ⟨some 1, none, .box, [.t 0]⟩ ::
 ⟨some 2, none, .mov, [.k (.d (.bool false))]⟩ ::
 []) [1])
 (.seq (.reg [] (
 ⟨some 3, none, .faddr 0, [.t 1]⟩ ::
 ⟨some 4, none, .load false 1, [.t 3]⟩ ::
 ⟨some 5, none, .bin .leq, [.k (.d (.int .i64 0)), .t 4]⟩ ::
 ⟨some 6, none, .mov, [.t 5]⟩ ::
 ⟨some 7, some (6, true), .faddr 0, [.t 1]⟩ ::
 ⟨some 8, some (6, true), .load false 1, [.t 7]⟩ ::
 ⟨some 9, some (6, true), .faddr 1, [.t 1]⟩ ::
 ⟨some 10, some (6, true), .load false 1, [.t 9]⟩ ::
 ⟨some 11, some (6, true), .bin .leq, [.t 8, .t 10]⟩ ::
 ⟨some 12, none, .pick, [.t 6, .t 11, .k (.d (.bool false))]⟩ ::
 ⟨some 13, none, .mov, [.t 12]⟩ ::
 ⟨some 14, some (13, true), .faddr 1, [.t 1]⟩ ::
 ⟨some 15, some (13, true), .load false 1, [.t 14]⟩ ::
 ⟨some 16, some (13, true), .bin .leq, [.t 15, .k (.d (.int .i64 2000))]⟩ ::
 ⟨some 17, none, .pick, [.t 13, .t 16, .k (.d (.bool false))]⟩ ::
 ⟨some 2, none, .mov, [.t 17]⟩ ::
 []) [2])
 (.ret))
theorem dec_zones_Check_1 : Fun E0 F_zones_Check_1 pc_zones_Check_1 [.t 2] 18 := fun_of_dec (fl := []) (by kernel_rfl)
-- platter/platterref01.checkSector (2)
abbrev F_ref01_checkSector : Nat := 63
def pc_ref01_checkSector : PC :=
 .seq (.reg [] (
 ⟨some 2, none, .box, [.t 0]⟩ ::
 ⟨some 4, none, .mov, [.k (.d (.int .i64 0))]⟩ ::
 []) [1, 2])
 (.seq (.seq (.reg [] (
 ⟨some 5, none, .load true 9, [.t 2]⟩ ::
 ⟨some 6, none, .call 35, [.t 5]⟩ ::
 ⟨some 7, none, .bin .neq, [.t 6, .k (.d (.int .i64 0))]⟩ ::
 []) [1, 2, 7])
 (.cond (.t 7)
 (.seq (.reg [] (
 ⟨some 4, none, .mov, [.k (.d (.int .i64 10))]⟩ ::
 []) [4])
 (.ret))
 (.skip)))
 (.seq (.seq (.reg [] (
 ⟨some 8, none, .load true 9, [.t 2]⟩ ::
 ⟨some 9, none, .mov, [.t 1]⟩ ::
 ⟨some 10, none, .call 31, [.t 8, .t 9]⟩ ::
 ⟨some 11, none, .un .not, [.t 10]⟩ ::
 []) [11])
 (.cond (.t 11)
 (.seq (.reg [] (
 ⟨some 4, none, .mov, [.k (.d (.int .i64 1))]⟩ ::
 []) [4])
 (.ret))
 (.skip)))
 (.seq (.reg [] (
 ⟨some 4, none, .mov, [.k (.d (.int .i64 0))]⟩ ::
 []) [4])
 (.ret))))
theorem dec_ref01_checkSector : Fun E0 F_ref01_checkSector pc_ref01_checkSector [.t 4] 12 := fun_of_dec (fl := []) (by kernel_rfl)
-- platter/platterref01.begins (2)
abbrev F_ref01_begins : Nat := 64
def pc_ref01_begins : PC :=
 .seq (.reg [] (
 ⟨some 2, none, .box, [.t 0]⟩ ::
 ⟨some 3, none, .box, [.t 1]⟩ ::
 ⟨some 4, none, .mov, [.k (.d (.int .i64 0))]⟩ ::
 []) [2, 3])
 (.seq (.draw [] (
 (⟨some 5, none, .load true 9, [.t 2]⟩, []) ::
 (⟨some 6, none, .faddr 0, [.t 3]⟩, []) ::
 (⟨some 7, none, .load false 1, [.t 6]⟩, []) ::
 (⟨some 8, none, .faddr 1, [.t 3]⟩, []) ::
 (⟨some 9, none, .load false 1, [.t 8]⟩, []) ::
 (⟨some 10, none, .call 67, [.t 5, .t 7, .t 9]⟩, []) ::
 (⟨some 11, none, .faddr 2, [.t 3]⟩, []) ::
 (⟨some 12, none, .load false 1, [.t 11]⟩, [5]) ::
 (⟨some 13, none, .faddr 1, [.t 2]⟩, []) ::
 (⟨some 14, none, .load false 1, [.t 13]⟩, [5]) ::
 (⟨some 15, none, .load true 9, [.t 2]⟩, [5]) ::
 (⟨some 16, none, .faddr 0, [.t 3]⟩, []) ::
 (⟨some 17, none, .load false 1, [.t 16]⟩, [5]) ::
 (⟨some 18, none, .call 56, [.t 15, .t 17]⟩, [7, 9]) ::
 (⟨some 19, none, .bin .quo, [.t 14, .t 18]⟩, []) ::
 (⟨some 20, none, .bin .mul, [.t 12, .t 19]⟩, []) ::
 (⟨some 21, none, .bin .add, [.t 10, .t 20]⟩, []) ::
 (⟨some 22, none, .faddr 1, [.t 2]⟩, []) ::
 (⟨some 23, none, .load false 1, [.t 22]⟩, [5, 13]) ::
 (⟨some 24, none, .bin .rem, [.t 21, .t 23]⟩, []) ::
 (⟨some 4, none, .mov, [.t 24]⟩, []) ::
 []) [4])
 (.ret))
theorem dec_ref01_begins : Fun E0 F_ref01_begins pc_ref01_begins [.t 4] 25 := fun_of_dec (fl := []) (by kernel_rfl)
-- platter/platterref01.ZoneOf (2)
abbrev F_ref01_ZoneOf : Nat := 65
def pc_ref01_ZoneOf : PC :=
 .seq (.reg [] (
 ⟨some 2, none, .box, [.t 0]⟩ ::
 ⟨some 4, none, .mov, [.k (.d (.int .i64 0))]⟩ ::
 []) [1, 2])
 (.seq (.seq (.reg [] (
 ⟨some 5, none, .mov, [.k (.d (.int .i64 0))]⟩ ::
 []) [1, 2, 5])
 (.block 0
 (.loop [] [1, 2, 5] [2, 900000, 900001, 901000, 901001]
 (.seq (.seq (.reg [] (
 ⟨some 6, none, .mov, [.t 5]⟩ ::
 ⟨some 7, none, .faddr 2, [.t 2]⟩ ::
 ⟨some 8, none, .load false 1, [.t 7]⟩ ::
 ⟨some 9, none, .len false, [.t 8]⟩ ::
 ⟨some 10, none, .bin .lss, [.t 6, .t 9]⟩ ::
 []) [1, 2, 5, 10])
 (.cond (.t 10)
 (.skip)
 (.exit 0)))
 (.seq (.block 1
 (.seq (.seq (.reg [] (
 ⟨some 13, none, .mov, [.t 1]⟩ ::
 ⟨some 14, none, .faddr 2, [.t 2]⟩ ::
 ⟨some 15, none, .load false 1, [.t 14]⟩ ::
 ⟨some 16, none, .mov, [.t 5]⟩ ::
 ⟨some 17, none, .iaddrS 2, [.t 15, .t 16]⟩ ::
 ⟨some 18, none, .faddr 0, [.t 17]⟩ ::
 ⟨some 19, none, .load false 1, [.t 18]⟩ ::
 ⟨some 20, none, .bin .lss, [.t 13, .t 19]⟩ ::
 []) [1, 2, 5, 20])
 (.cond (.t 20)
 (.seq (.reg [] (
 ⟨some 21, none, .mov, [.t 5]⟩ ::
 ⟨some 4, none, .mov, [.t 21]⟩ ::
 []) [4])
 (.ret))
 (.skip)))
 (.reg [] (
 ⟨some 22, none, .mov, [.t 1]⟩ ::
 ⟨some 23, none, .faddr 2, [.t 2]⟩ ::
 ⟨some 24, none, .load false 1, [.t 23]⟩ ::
 ⟨some 25, none, .mov, [.t 5]⟩ ::
 ⟨some 26, none, .iaddrS 2, [.t 24, .t 25]⟩ ::
 ⟨some 27, none, .faddr 0, [.t 26]⟩ ::
 ⟨some 28, none, .load false 1, [.t 27]⟩ ::
 ⟨some 29, none, .bin .sub, [.t 22, .t 28]⟩ ::
 ⟨some 1, none, .mov, [.t 29]⟩ ::
 []) [1, 2, 5])))
 (.reg [] (
 ⟨some 11, none, .mov, [.t 5]⟩ ::
 ⟨some 12, none, .bin .add, [.t 11, .k (.d (.int .i64 1))]⟩ ::
 ⟨some 5, none, .mov, [.t 12]⟩ ::
 []) [1, 2, 5]))))))
 (.seq (.reg [] (
 ⟨some 4, none, .mov, [.k (.d (.int .i64 (-1)))]⟩ ::
 []) [4])
 (.ret)))
theorem dec_ref01_ZoneOf : Fun E0 F_ref01_ZoneOf pc_ref01_ZoneOf [.t 4] 30 := fun_of_dec (fl := []) (by kernel_rfl)
-- (platter/zones.disk).skew (2)
abbrev F_zones_disk_skew : Nat := 66
def pc_zones_disk_skew : PC :=
 .seq (.reg [] (
 ⟨some 2, none, .box, [.t 0]⟩ ::
 ⟨some 4, none, .mov, [.k (.d (.int .i64 0))]⟩ ::
 []) [1, 2])
 (.seq (.seq (.reg [] (
 ⟨some 5, none, .mov, [.t 1]⟩ ::
 []) [2, 5])
 (.cond (.t 5)
 (.seq (.reg [] (
 ⟨some 6, none, .faddr 0, [.t 2]⟩ ::
 ⟨some 7, none, .faddr 4, [.t 6]⟩ ::
 ⟨some 8, none, .load false 1, [.t 7]⟩ ::
 ⟨some 4, none, .mov, [.t 8]⟩ ::
 []) [4])
 (.ret))
 (.skip)))
 (.seq (.reg [] (
 ⟨some 9, none, .faddr 0, [.t 2]⟩ ::
 ⟨some 10, none, .faddr 3, [.t 9]⟩ ::
 ⟨some 11, none, .load false 1, [.t 10]⟩ ::
 ⟨some 4, none, .mov, [.t 11]⟩ ::
 []) [4])
 (.ret)))
theorem dec_zones_disk_skew : Fun E0 F_zones_disk_skew pc_zones_disk_skew [.t 4] 12 := fun_of_dec (fl := []) (by kernel_rfl)
-- platter/platterref01.offset (3)
abbrev F_ref01_offset : Nat := 67
def pc_ref01_offset : PC :=
 .seq (.reg [] (
 ⟨some 3, none, .box, [.t 0]⟩ ::
 ⟨some 6, none, .mov, [.k (.d (.int .i64 0))]⟩ ::
 []) [1, 2, 3])
 (.seq (.reg [] (
 ⟨some 7, none, .mov, [.t 1]⟩ ::
 ⟨some 8, none, .faddr 4, [.t 3]⟩ ::
 ⟨some 9, none, .load false 1, [.t 8]⟩ ::
 ⟨some 10, none, .bin .mul, [.t 7, .t 9]⟩ ::
 ⟨some 11, none, .mov, [.t 1]⟩ ::
 ⟨some 12, none, .faddr 0, [.t 3]⟩ ::
 ⟨some 13, none, .load false 1, [.t 12]⟩ ::
 ⟨some 14, none, .bin .sub, [.t 13, .k (.d (.int .i64 1))]⟩ ::
 ⟨some 15, none, .bin .mul, [.t 11, .t 14]⟩ ::
 ⟨some 16, none, .mov, [.t 2]⟩ ::
 ⟨some 17, none, .bin .add, [.t 15, .t 16]⟩ ::
 ⟨some 18, none, .faddr 3, [.t 3]⟩ ::
 ⟨some 19, none, .load false 1, [.t 18]⟩ ::
 ⟨some 20, none, .bin .mul, [.t 17, .t 19]⟩ ::
 ⟨some 21, none, .bin .add, [.t 10, .t 20]⟩ ::
 ⟨some 22, none, .faddr 1, [.t 3]⟩ ::
 ⟨some 23, none, .load false 1, [.t 22]⟩ ::
 ⟨some 24, none, .bin .rem, [.t 21, .t 23]⟩ ::
 ⟨some 6, none, .mov, [.t 24]⟩ ::
 []) [6])
 (.ret))
theorem dec_ref01_offset : Fun E0 F_ref01_offset pc_ref01_offset [.t 6] 25 := fun_of_dec (fl := []) (by kernel_rfl)
end Go.Pw
