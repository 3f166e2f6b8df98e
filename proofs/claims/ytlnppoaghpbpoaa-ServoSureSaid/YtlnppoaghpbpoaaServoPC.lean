/- A part of the proof. -/
import Derived.Test.YtlnppoaghpbpoaaPwVC
import Derived.Test.YtlnppoaghpbpoaaProg
import Derived.KernelRfl
set_option linter.all false
open Go Go.Pw Go.Proofs
namespace Go.Pw
set_option maxRecDepth 100000
noncomputable def E0 : Env := ⟨Try.prog, fun _ => none⟩
theorem mixed : E0.P.follows .mixedOrders = true := by kernel_rfl
abbrev T_int : Nat := 3
abbrev F_gosem_cut_init : Nat := 2
-- platter/platterlaw02.ServoSure (3)
abbrev F_law02_ServoSure : Nat := 3
def pc_law02_ServoSure : PC :=
  .seq (.reg [] (
    ⟨some 3, none, .box, [.t 0]⟩ ::
    ⟨some 5, none, .box, [.t 2]⟩ ::
    ⟨some 6, none, .mov, [.k (.d (.bool false))]⟩ ::
    []) [1, 3, 5])
  (.seq (.seq (.reg [] (
    ⟨some 12, none, .load true 6, [.t 3]⟩ ::
    ⟨some 13, none, .mov, [.t 1]⟩ ::
    ⟨some 14, none, .call 13, [.t 12, .t 13]⟩ ::
    ⟨some 15, none, .un .not, [.t 14]⟩ ::
    ⟨some 16, none, .mov, [.t 15]⟩ ::
    ⟨some 17, some (16, false), .load true 6, [.t 3]⟩ ::
    ⟨some 18, some (16, false), .mov, [.t 1]⟩ ::
    ⟨some 19, some (16, false), .faddr 0, [.t 5]⟩ ::
    ⟨some 20, some (16, false), .load true 2, [.t 19]⟩ ::
    ⟨some 21, some (16, false), .call 14, [.t 17, .t 18, .t 20]⟩ ::
    ⟨some 22, some (16, false), .un .not, [.t 21]⟩ ::
    ⟨some 23, none, .pick, [.t 16, .k (.d (.bool true)), .t 22]⟩ ::
    ⟨some 24, none, .mov, [.t 23]⟩ ::
    ⟨some 25, some (24, false), .faddr 2, [.t 5]⟩ ::
    ⟨some 26, some (24, false), .faddr 0, [.t 25]⟩ ::
    ⟨some 27, some (24, false), .load false 1, [.t 26]⟩ ::
    ⟨some 28, some (24, false), .bin .lss, [.t 27, .k (.d (.int .i64 0))]⟩ ::
    ⟨some 29, none, .pick, [.t 24, .k (.d (.bool true)), .t 28]⟩ ::
    ⟨some 30, none, .mov, [.t 29]⟩ ::
    ⟨some 31, some (30, false), .faddr 2, [.t 5]⟩ ::
    ⟨some 32, some (30, false), .faddr 0, [.t 31]⟩ ::
    ⟨some 33, some (30, false), .load false 1, [.t 32]⟩ ::
    ⟨some 34, some (30, false), .faddr 0, [.t 3]⟩ ::
    ⟨some 35, some (30, false), .load false 1, [.t 34]⟩ ::
    ⟨some 36, some (30, false), .bin .geq, [.t 33, .t 35]⟩ ::
    ⟨some 37, none, .pick, [.t 30, .k (.d (.bool true)), .t 36]⟩ ::
    ⟨some 38, none, .mov, [.t 37]⟩ ::
    ⟨some 39, some (38, false), .faddr 2, [.t 5]⟩ ::
    ⟨some 40, some (38, false), .faddr 1, [.t 39]⟩ ::
    ⟨some 41, some (38, false), .load false 1, [.t 40]⟩ ::
    ⟨some 42, some (38, false), .bin .lss, [.t 41, .k (.d (.int .i64 0))]⟩ ::
    ⟨some 43, none, .pick, [.t 38, .k (.d (.bool true)), .t 42]⟩ ::
    ⟨some 44, none, .mov, [.t 43]⟩ ::
    ⟨some 45, some (44, false), .faddr 2, [.t 5]⟩ ::
    ⟨some 46, some (44, false), .faddr 1, [.t 45]⟩ ::
    ⟨some 47, some (44, false), .load false 1, [.t 46]⟩ ::
    ⟨some 48, some (44, false), .bin .gtr, [.t 47, .k (.d (.int .i64 16))]⟩ ::
    ⟨some 49, none, .pick, [.t 44, .k (.d (.bool true)), .t 48]⟩ ::
    []) [1, 3, 5, 49])
  (.cond (.t 49)
    (.seq (.reg [] (
      ⟨some 50, none, .call 15, []⟩ ::
      ⟨some 6, none, .mov, [.t 50]⟩ ::
      []) [6])
    (.ret))
    (.skip)))
  (.seq (.reg [] (
    ⟨some 52, none, .load true 6, [.t 3]⟩ ::
    ⟨some 53, none, .mov, [.t 1]⟩ ::
    ⟨some 54, none, .faddr 2, [.t 5]⟩ ::
    ⟨some 55, none, .faddr 0, [.t 54]⟩ ::
    ⟨some 56, none, .load false 1, [.t 55]⟩ ::
    ⟨some 57, none, .faddr 2, [.t 5]⟩ ::
    ⟨some 58, none, .faddr 1, [.t 57]⟩ ::
    ⟨some 59, none, .load false 1, [.t 58]⟩ ::
    ⟨some 60, none, .call 16, [.t 52, .t 53, .t 56, .t 59]⟩ ::
    ⟨some 51, none, .mov, [.t 60]⟩ ::
    ⟨some 61, none, .extract 0, [.t 51]⟩ ::
    ⟨some 62, none, .extract 1, [.t 51]⟩ ::
    ⟨some 7, none, .mov, [.t 61]⟩ ::
    ⟨some 8, none, .mov, [.t 62]⟩ ::
    []) [1, 3, 5, 7, 8])
  (.seq (.seq (.reg [] (
    ⟨some 63, none, .mov, [.t 8]⟩ ::
    ⟨some 64, none, .bin .neq, [.t 63, .k (.d (.int .i64 0))]⟩ ::
    ⟨some 65, none, .mov, [.t 64]⟩ ::
    ⟨some 66, some (65, false), .mov, [.t 7]⟩ ::
    ⟨some 67, some (65, false), .bin .lss, [.t 66, .k (.d (.int .i64 0))]⟩ ::
    ⟨some 68, none, .pick, [.t 65, .k (.d (.bool true)), .t 67]⟩ ::
    ⟨some 69, none, .mov, [.t 68]⟩ ::
    ⟨some 70, some (69, false), .mov, [.t 7]⟩ ::
    ⟨some 71, some (69, false), .bin .gtr, [.t 70, .k (.d (.int .i64 24))]⟩ ::
    ⟨some 72, none, .pick, [.t 69, .k (.d (.bool true)), .t 71]⟩ ::
    []) [1, 3, 5, 7, 72])
  (.cond (.t 72)
    (.seq (.reg [] (
      ⟨some 6, none, .mov, [.k (.d (.bool false))]⟩ ::
      []) [6])
    (.ret))
    (.skip)))
  (.seq (.reg [] (
    ⟨some 73, none, .faddr 0, [.t 5]⟩ ::
    ⟨some 74, none, .faddr 0, [.t 73]⟩ ::
    ⟨some 75, none, .load false 1, [.t 74]⟩ ::
    ⟨some 76, none, .faddr 0, [.t 5]⟩ ::
    ⟨some 77, none, .faddr 0, [.t 76]⟩ ::
    ⟨some 78, none, .load false 1, [.t 77]⟩ ::
    ⟨some 79, none, .len false, [.t 78]⟩ ::
    ⟨some 80, none, .bin .sub, [.t 79, .k (.d (.int .i64 1))]⟩ ::
    ⟨some 81, none, .iaddrS 1, [.t 75, .t 80]⟩ ::
    ⟨some 82, none, .load false 1, [.t 81]⟩ ::
    ⟨some 9, none, .mov, [.t 82]⟩ ::
    []) [1, 3, 5, 7, 9])
  (.seq (.seq (.reg [] (
    ⟨some 10, none, .mov, [.k (.d (.int .i64 0))]⟩ ::
    []) [1, 3, 5, 7, 9, 10])
  (.block 0
    (.loop [] [1, 3, 5, 7, 9, 10] [3, 5, 60, 10060, 900000, 900001, 900002, 901000, 901001, 901002]
      (.seq (.seq (.reg [] (
        ⟨some 83, none, .mov, [.t 10]⟩ ::
        ⟨some 84, none, .mov, [.t 7]⟩ ::
        ⟨some 85, none, .bin .lss, [.t 83, .t 84]⟩ ::
        ⟨some 86, none, .mov, [.t 85]⟩ ::
        ⟨some 87, some (86, true), .mov, [.t 10]⟩ ::
        ⟨some 88, some (86, true), .faddr 0, [.t 5]⟩ ::
        ⟨some 89, some (86, true), .faddr 1, [.t 88]⟩ ::
        ⟨some 90, some (86, true), .load false 1, [.t 89]⟩ ::
        ⟨some 91, some (86, true), .len false, [.t 90]⟩ ::
        ⟨some 92, some (86, true), .bin .leq, [.t 87, .t 91]⟩ ::
        ⟨some 93, none, .pick, [.t 86, .t 92, .k (.d (.bool false))]⟩ ::
        []) [1, 3, 5, 7, 9, 10, 93])
      (.cond (.t 93)
        (.skip)
        (.exit 0)))
      (.seq (.block 1
        (.seq (.seq (.reg [] (
          ⟨some 96, none, .mov, [.t 10]⟩ ::
          ⟨some 97, none, .bin .gtr, [.t 96, .k (.d (.int .i64 0))]⟩ ::
          []) [1, 3, 5, 7, 9, 10, 97])
        (.cond (.t 97)
          (.reg [] (
            ⟨some 98, none, .faddr 0, [.t 5]⟩ ::
            ⟨some 99, none, .faddr 1, [.t 98]⟩ ::
            ⟨some 100, none, .load false 1, [.t 99]⟩ ::
            ⟨some 101, none, .mov, [.t 10]⟩ ::
            ⟨some 102, none, .bin .sub, [.t 101, .k (.d (.int .i64 1))]⟩ ::
            ⟨some 103, none, .iaddrS 1, [.t 100, .t 102]⟩ ::
            ⟨some 104, none, .load false 1, [.t 103]⟩ ::
            ⟨some 9, none, .mov, [.t 104]⟩ ::
            []) [1, 3, 5, 7, 9, 10])
          (.skip)))
        (.seq (.reg [] (
          ⟨some 105, none, .mov, [.t 9]⟩ ::
          ⟨some 106, none, .load true 6, [.t 3]⟩ ::
          ⟨some 107, none, .faddr 2, [.t 5]⟩ ::
          ⟨some 108, none, .faddr 0, [.t 107]⟩ ::
          ⟨some 109, none, .load false 1, [.t 108]⟩ ::
          ⟨some 110, none, .mov, [.t 1]⟩ ::
          ⟨some 111, none, .len false, [.t 110]⟩ ::
          ⟨some 112, none, .bin .sub, [.t 111, .k (.d (.int .i64 1))]⟩ ::
          ⟨some 113, none, .mov, [.t 10]⟩ ::
          ⟨some 114, none, .bin .add, [.t 112, .t 113]⟩ ::
          ⟨some 115, none, .call 17, [.t 106, .t 109, .t 114]⟩ ::
          ⟨some 116, none, .bin .sub, [.t 105, .t 115]⟩ ::
          ⟨some 11, none, .mov, [.t 116]⟩ ::
          []) [1, 3, 5, 7, 9, 10, 11])
        (.seq (.reg [] (
          ⟨some 117, none, .mov, [.t 11]⟩ ::
          ⟨some 118, none, .faddr 2, [.t 5]⟩ ::
          ⟨some 119, none, .faddr 1, [.t 118]⟩ ::
          ⟨some 120, none, .load false 1, [.t 119]⟩ ::
          ⟨some 121, none, .bin .gtr, [.t 117, .t 120]⟩ ::
          ⟨some 122, none, .mov, [.t 121]⟩ ::
          ⟨some 123, some (122, false), .mov, [.t 11]⟩ ::
          ⟨some 124, some (122, false), .un .neg, [.t 123]⟩ ::
          ⟨some 125, some (122, false), .faddr 2, [.t 5]⟩ ::
          ⟨some 126, some (122, false), .faddr 1, [.t 125]⟩ ::
          ⟨some 127, some (122, false), .load false 1, [.t 126]⟩ ::
          ⟨some 128, some (122, false), .bin .gtr, [.t 124, .t 127]⟩ ::
          ⟨some 129, none, .pick, [.t 122, .k (.d (.bool true)), .t 128]⟩ ::
          []) [1, 3, 5, 7, 9, 10, 129])
        (.cond (.t 129)
          (.seq (.reg [] (
            ⟨some 6, none, .mov, [.k (.d (.bool false))]⟩ ::
            []) [6])
          (.ret))
          (.skip))))))
      (.reg [] (
        ⟨some 94, none, .mov, [.t 10]⟩ ::
        ⟨some 95, none, .bin .add, [.t 94, .k (.d (.int .i64 1))]⟩ ::
        ⟨some 10, none, .mov, [.t 95]⟩ ::
        []) [1, 3, 5, 7, 9, 10]))))))
  (.seq (.reg [] (
    ⟨some 130, none, .call 15, []⟩ ::
    ⟨some 6, none, .mov, [.t 130]⟩ ::
    []) [6])
  (.ret)))))))
theorem dec_law02_ServoSure : Fun E0 F_law02_ServoSure pc_law02_ServoSure [.t 6] 131 := fun_of_dec (fl := []) (by kernel_rfl)
abbrev F_law02_ServoMore : Nat := 4
-- platter/platterlaw02.ServoFound (3)
abbrev F_law02_ServoFound : Nat := 5
def pc_law02_ServoFound : PC :=
  .seq (.reg [] (
    ⟨some 3, none, .box, [.t 0]⟩ ::
    ⟨some 6, none, .mov, [.k (.d (.bool false))]⟩ ::
    []) [1, 2, 3])
  (.seq (.seq (.reg [] (
    ⟨some 13, none, .load true 6, [.t 3]⟩ ::
    ⟨some 14, none, .mov, [.t 1]⟩ ::
    ⟨some 15, none, .call 13, [.t 13, .t 14]⟩ ::
    ⟨some 16, none, .un .not, [.t 15]⟩ ::
    ⟨some 17, none, .mov, [.t 16]⟩ ::
    ⟨some 18, some (17, false), .mov, [.t 2]⟩ ::
    ⟨some 19, some (17, false), .len false, [.t 18]⟩ ::
    ⟨some 20, some (17, false), .bin .gtr, [.t 19, .k (.d (.int .i64 40))]⟩ ::
    ⟨some 21, none, .pick, [.t 17, .k (.d (.bool true)), .t 20]⟩ ::
    ⟨some 22, none, .mov, [.t 21]⟩ ::
    ⟨some 23, some (22, false), .load true 6, [.t 3]⟩ ::
    ⟨some 24, some (22, false), .mov, [.t 1]⟩ ::
    ⟨some 25, some (22, false), .mov, [.t 2]⟩ ::
    ⟨some 26, some (22, false), .call 22, [.t 23, .t 24, .t 25]⟩ ::
    ⟨some 27, some (22, false), .un .not, [.t 26]⟩ ::
    ⟨some 28, none, .pick, [.t 22, .k (.d (.bool true)), .t 27]⟩ ::
    ⟨some 29, none, .mov, [.t 28]⟩ ::
    ⟨some 30, some (29, false), .mov, [.t 1]⟩ ::
    ⟨some 31, some (29, false), .len false, [.t 30]⟩ ::
    ⟨some 32, some (29, false), .faddr 4, [.t 3]⟩ ::
    ⟨some 33, some (29, false), .load false 1, [.t 32]⟩ ::
    ⟨some 34, some (29, false), .bin .leq, [.t 31, .t 33]⟩ ::
    ⟨some 35, none, .pick, [.t 29, .k (.d (.bool true)), .t 34]⟩ ::
    []) [1, 2, 3, 35])
  (.cond (.t 35)
    (.seq (.reg [] (
      ⟨some 36, none, .call 15, []⟩ ::
      ⟨some 6, none, .mov, [.t 36]⟩ ::
      []) [6])
    (.ret))
    (.skip)))
  (.seq (.seq (.reg [] (
    ⟨some 37, none, .mov, [.t 1]⟩ ::
    ⟨some 38, none, .len false, [.t 37]⟩ ::
    ⟨some 39, none, .bin .sub, [.t 38, .k (.d (.int .i64 1))]⟩ ::
    ⟨some 40, none, .faddr 4, [.t 3]⟩ ::
    ⟨some 41, none, .load false 1, [.t 40]⟩ ::
    ⟨some 42, none, .bin .sub, [.t 39, .t 41]⟩ ::
    ⟨some 7, none, .mov, [.t 42]⟩ ::
    []) [1, 2, 3, 7])
  (.block 0
    (.loop [] [1, 2, 3, 7] [3, 900000, 900001, 900002, 901000, 901001, 901002]
      (.seq (.seq (.reg [] (
        ⟨some 43, none, .mov, [.t 7]⟩ ::
        ⟨some 44, none, .mov, [.t 1]⟩ ::
        ⟨some 45, none, .len false, [.t 44]⟩ ::
        ⟨some 46, none, .bin .lss, [.t 43, .t 45]⟩ ::
        []) [1, 2, 3, 7, 46])
      (.cond (.t 46)
        (.skip)
        (.exit 0)))
      (.seq (.block 1
        (.seq (.draw [] (
          (⟨some 49, none, .mov, [.t 1]⟩, []) ::
          (⟨some 50, none, .mov, [.t 7]⟩, []) ::
          (⟨some 51, none, .iaddrS 2, [.t 49, .t 50]⟩, []) ::
          (⟨some 52, none, .faddr 0, [.t 51]⟩, []) ::
          (⟨some 53, none, .load false 1, [.t 52]⟩, []) ::
          (⟨some 54, none, .bin .eql, [.t 53, .k (.d (.int .i64 (-1)))]⟩, []) ::
          (⟨some 55, none, .mov, [.t 54]⟩, []) ::
          (⟨some 56, some (55, false), .load true 6, [.t 3]⟩, []) ::
          (⟨some 57, some (55, false), .mov, [.t 1]⟩, []) ::
          (⟨some 58, some (55, false), .mov, [.t 7]⟩, []) ::
          (⟨some 59, some (55, false), .iaddrS 2, [.t 57, .t 58]⟩, []) ::
          (⟨some 60, some (55, false), .load true 2, [.t 59]⟩, []) ::
          (⟨some 61, some (55, false), .mov, [.t 7]⟩, []) ::
          (⟨some 62, some (55, false), .mov, [.t 2]⟩, []) ::
          (⟨some 63, some (55, false), .mov, [.t 7]⟩, []) ::
          (⟨some 64, some (55, false), .iaddrS 1, [.t 62, .t 63]⟩, []) ::
          (⟨some 65, some (55, false), .load false 1, [.t 64]⟩, []) ::
          (⟨some 66, some (55, false), .call 23, [.t 56, .t 60, .t 61, .t 65]⟩, []) ::
          (⟨some 67, some (55, false), .un .not, [.t 66]⟩, []) ::
          (⟨some 68, none, .pick, [.t 55, .k (.d (.bool true)), .t 67]⟩, []) ::
          []) [1, 2, 3, 7, 68])
        (.cond (.t 68)
          (.seq (.reg [] (
            ⟨some 69, none, .call 15, []⟩ ::
            ⟨some 6, none, .mov, [.t 69]⟩ ::
            []) [6])
          (.ret))
          (.skip))))
      (.reg [] (
        ⟨some 47, none, .mov, [.t 7]⟩ ::
        ⟨some 48, none, .bin .add, [.t 47, .k (.d (.int .i64 1))]⟩ ::
        ⟨some 7, none, .mov, [.t 48]⟩ ::
        []) [1, 2, 3, 7]))))))
  (.seq (.reg [] (
    ⟨some 71, none, .load true 6, [.t 3]⟩ ::
    ⟨some 72, none, .mov, [.t 1]⟩ ::
    ⟨some 73, none, .call 18, [.t 71, .t 72]⟩ ::
    ⟨some 70, none, .mov, [.t 73]⟩ ::
    ⟨some 74, none, .extract 0, [.t 70]⟩ ::
    ⟨some 75, none, .extract 1, [.t 70]⟩ ::
    ⟨some 8, none, .mov, [.t 74]⟩ ::
    ⟨some 9, none, .mov, [.t 75]⟩ ::
    []) [2, 3, 8, 9])
  (.seq (.seq (.reg [] (
    ⟨some 76, none, .mov, [.t 9]⟩ ::
    ⟨some 77, none, .bin .neq, [.t 76, .k (.d (.int .i64 0))]⟩ ::
    []) [2, 3, 8, 9, 77])
  (.cond (.t 77)
    (.seq (.reg [] (
      ⟨some 78, none, .mov, [.t 9]⟩ ::
      ⟨some 79, none, .bin .eql, [.t 78, .k (.d (.int .i64 3))]⟩ ::
      ⟨some 80, none, .mov, [.t 79]⟩ ::
      ⟨some 81, some (80, true), .call 15, []⟩ ::
      ⟨some 82, none, .pick, [.t 80, .t 81, .k (.d (.bool false))]⟩ ::
      ⟨some 6, none, .mov, [.t 82]⟩ ::
      []) [6])
    (.ret))
    (.skip)))
  (.seq (.reg [] (
    ⟨some 83, none, .faddr 3, [.t 3]⟩ ::
    ⟨some 84, none, .load false 1, [.t 83]⟩ ::
    ⟨some 85, none, .bin .mul, [.k (.d (.int .i64 2)), .t 84]⟩ ::
    ⟨some 86, none, .faddr 2, [.t 3]⟩ ::
    ⟨some 87, none, .load false 1, [.t 86]⟩ ::
    ⟨some 88, none, .bin .mul, [.k (.d (.int .i64 2)), .t 87]⟩ ::
    ⟨some 89, none, .faddr 4, [.t 3]⟩ ::
    ⟨some 90, none, .load false 1, [.t 89]⟩ ::
    ⟨some 91, none, .bin .mul, [.t 88, .t 90]⟩ ::
    ⟨some 92, none, .bin .add, [.t 85, .t 91]⟩ ::
    ⟨some 10, none, .mov, [.t 92]⟩ ::
    []) [2, 8, 10])
  (.seq (.reg [] (
    ⟨some 93, none, .mov, [.t 2]⟩ ::
    ⟨some 94, none, .mov, [.t 2]⟩ ::
    ⟨some 95, none, .len false, [.t 94]⟩ ::
    ⟨some 96, none, .bin .sub, [.t 95, .k (.d (.int .i64 1))]⟩ ::
    ⟨some 97, none, .iaddrS 1, [.t 93, .t 96]⟩ ::
    ⟨some 98, none, .load false 1, [.t 97]⟩ ::
    ⟨some 11, none, .mov, [.t 98]⟩ ::
    []) [8, 10, 11])
  (.seq (.seq (.reg [] (
    ⟨some 12, none, .mov, [.k (.d (.int .i64 0))]⟩ ::
    []) [8, 10, 11, 12])
  (.block 2
    (.loop [] [8, 10, 11, 12] [73, 10073, 901002]
      (.seq (.seq (.reg [] (
        ⟨some 99, none, .mov, [.t 12]⟩ ::
        ⟨some 100, none, .mov, [.t 8]⟩ ::
        ⟨some 101, none, .len false, [.t 100]⟩ ::
        ⟨some 102, none, .bin .lss, [.t 99, .t 101]⟩ ::
        []) [8, 10, 11, 12, 102])
      (.cond (.t 102)
        (.skip)
        (.exit 2)))
      (.seq (.block 3
        (.seq (.reg [] (
          ⟨some 105, none, .mov, [.t 8]⟩ ::
          ⟨some 106, none, .mov, [.t 12]⟩ ::
          ⟨some 107, none, .iaddrS 2, [.t 105, .t 106]⟩ ::
          ⟨some 108, none, .faddr 0, [.t 107]⟩ ::
          ⟨some 109, none, .load false 1, [.t 108]⟩ ::
          ⟨some 110, none, .mov, [.t 11]⟩ ::
          ⟨some 111, none, .mov, [.t 10]⟩ ::
          ⟨some 112, none, .bin .sub, [.t 110, .t 111]⟩ ::
          ⟨some 113, none, .bin .lss, [.t 109, .t 112]⟩ ::
          ⟨some 114, none, .mov, [.t 113]⟩ ::
          ⟨some 115, some (114, false), .mov, [.t 8]⟩ ::
          ⟨some 116, some (114, false), .mov, [.t 12]⟩ ::
          ⟨some 117, some (114, false), .iaddrS 2, [.t 115, .t 116]⟩ ::
          ⟨some 118, some (114, false), .faddr 1, [.t 117]⟩ ::
          ⟨some 119, some (114, false), .load false 1, [.t 118]⟩ ::
          ⟨some 120, some (114, false), .mov, [.t 11]⟩ ::
          ⟨some 121, some (114, false), .mov, [.t 10]⟩ ::
          ⟨some 122, some (114, false), .bin .add, [.t 120, .t 121]⟩ ::
          ⟨some 123, some (114, false), .bin .gtr, [.t 119, .t 122]⟩ ::
          ⟨some 124, none, .pick, [.t 114, .k (.d (.bool true)), .t 123]⟩ ::
          []) [8, 10, 11, 12, 124])
        (.cond (.t 124)
          (.seq (.reg [] (
            ⟨some 6, none, .mov, [.k (.d (.bool false))]⟩ ::
            []) [6])
          (.ret))
          (.skip))))
      (.reg [] (
        ⟨some 103, none, .mov, [.t 12]⟩ ::
        ⟨some 104, none, .bin .add, [.t 103, .k (.d (.int .i64 1))]⟩ ::
        ⟨some 12, none, .mov, [.t 104]⟩ ::
        []) [8, 10, 11, 12]))))))
  (.seq (.reg [] (
    ⟨some 125, none, .mov, [.t 8]⟩ ::
    ⟨some 126, none, .len false, [.t 125]⟩ ::
    ⟨some 127, none, .bin .gtr, [.t 126, .k (.d (.int .i64 0))]⟩ ::
    ⟨some 128, none, .mov, [.t 127]⟩ ::
    ⟨some 129, some (128, true), .call 15, []⟩ ::
    ⟨some 130, none, .pick, [.t 128, .t 129, .k (.d (.bool false))]⟩ ::
    ⟨some 6, none, .mov, [.t 130]⟩ ::
    []) [6])
  (.ret)))))))))
theorem dec_law02_ServoFound : Fun E0 F_law02_ServoFound pc_law02_ServoFound [.t 6] 131 := fun_of_dec (fl := []) (by kernel_rfl)
-- platter/platterlaw02.ServoOneBit (2)
abbrev F_law02_ServoOneBit : Nat := 6
def pc_law02_ServoOneBit : PC :=
  .seq (.reg [] (
    ⟨some 4, none, .mov, [.k (.d (.bool false))]⟩ ::
    []) [0, 1])
  (.seq (.seq (.reg [] (
    ⟨some 15, none, .mov, [.t 0]⟩ ::
    ⟨some 16, none, .bin .lss, [.t 15, .k (.d (.int .i64 0))]⟩ ::
    ⟨some 17, none, .mov, [.t 16]⟩ ::
    ⟨some 18, some (17, false), .mov, [.t 0]⟩ ::
    ⟨some 19, some (17, false), .bin .geq, [.t 18, .k (.d (.int .i64 127))]⟩ ::
    ⟨some 20, none, .pick, [.t 17, .k (.d (.bool true)), .t 19]⟩ ::
    ⟨some 21, none, .mov, [.t 20]⟩ ::
    ⟨some 22, some (21, false), .mov, [.t 1]⟩ ::
    ⟨some 23, some (21, false), .bin .lss, [.t 22, .k (.d (.int .i64 0))]⟩ ::
    ⟨some 24, none, .pick, [.t 21, .k (.d (.bool true)), .t 23]⟩ ::
    []) [0, 1, 24])
  (.cond (.t 24)
    (.seq (.reg [] (
      ⟨some 25, none, .call 15, []⟩ ::
      ⟨some 4, none, .mov, [.t 25]⟩ ::
      []) [4])
    (.ret))
    (.skip)))
  (.seq (.reg [] (
    ⟨some 27, none, .mov, [.t 0]⟩ ::
    ⟨some 28, none, .call 24, [.t 27]⟩ ::
    ⟨some 26, none, .mov, [.t 28]⟩ ::
    ⟨some 29, none, .extract 0, [.t 26]⟩ ::
    ⟨some 30, none, .extract 1, [.t 26]⟩ ::
    ⟨some 5, none, .mov, [.t 29]⟩ ::
    ⟨some 6, none, .mov, [.t 30]⟩ ::
    []) [0, 1, 5, 6])
  (.seq (.reg [] (
    ⟨some 32, none, .mov, [.t 0]⟩ ::
    ⟨some 33, none, .bin .add, [.t 32, .k (.d (.int .i64 1))]⟩ ::
    ⟨some 34, none, .call 24, [.t 33]⟩ ::
    ⟨some 31, none, .mov, [.t 34]⟩ ::
    ⟨some 35, none, .extract 0, [.t 31]⟩ ::
    ⟨some 36, none, .extract 1, [.t 31]⟩ ::
    ⟨some 7, none, .mov, [.t 35]⟩ ::
    ⟨some 8, none, .mov, [.t 36]⟩ ::
    []) [0, 1, 5, 6, 7, 8])
  (.seq (.seq (.reg [] (
    ⟨some 37, none, .mov, [.t 6]⟩ ::
    ⟨some 38, none, .bin .neq, [.t 37, .k (.d (.int .i64 0))]⟩ ::
    ⟨some 39, none, .mov, [.t 38]⟩ ::
    ⟨some 40, some (39, false), .mov, [.t 8]⟩ ::
    ⟨some 41, some (39, false), .bin .neq, [.t 40, .k (.d (.int .i64 0))]⟩ ::
    ⟨some 42, none, .pick, [.t 39, .k (.d (.bool true)), .t 41]⟩ ::
    ⟨some 43, none, .mov, [.t 42]⟩ ::
    ⟨some 44, some (43, false), .mov, [.t 5]⟩ ::
    ⟨some 45, some (43, false), .bin .lss, [.t 44, .k (.d (.int .i64 0))]⟩ ::
    ⟨some 46, none, .pick, [.t 43, .k (.d (.bool true)), .t 45]⟩ ::
    ⟨some 47, none, .mov, [.t 46]⟩ ::
    ⟨some 48, some (47, false), .mov, [.t 5]⟩ ::
    ⟨some 49, some (47, false), .bin .geq, [.t 48, .k (.d (.int .i64 128))]⟩ ::
    ⟨some 50, none, .pick, [.t 47, .k (.d (.bool true)), .t 49]⟩ ::
    ⟨some 51, none, .mov, [.t 50]⟩ ::
    ⟨some 52, some (51, false), .mov, [.t 7]⟩ ::
    ⟨some 53, some (51, false), .bin .lss, [.t 52, .k (.d (.int .i64 0))]⟩ ::
    ⟨some 54, none, .pick, [.t 51, .k (.d (.bool true)), .t 53]⟩ ::
    ⟨some 55, none, .mov, [.t 54]⟩ ::
    ⟨some 56, some (55, false), .mov, [.t 7]⟩ ::
    ⟨some 57, some (55, false), .bin .geq, [.t 56, .k (.d (.int .i64 128))]⟩ ::
    ⟨some 58, none, .pick, [.t 55, .k (.d (.bool true)), .t 57]⟩ ::
    []) [0, 1, 5, 7, 58])
  (.cond (.t 58)
    (.seq (.reg [] (
      ⟨some 4, none, .mov, [.k (.d (.bool false))]⟩ ::
      []) [4])
    (.ret))
    (.skip)))
  (.seq (.reg [] (
    ⟨some 9, none, .mov, [.k (.d (.int .i64 0))]⟩ ::
    []) [0, 1, 5, 7, 9])
  (.seq (.seq (.reg [] (
    ⟨some 10, none, .mov, [.k (.d (.int .i64 0))]⟩ ::
    []) [0, 1, 5, 7, 9, 10])
  (.block 0
    (.loop [] [0, 1, 5, 7, 9, 10] [28, 34, 10028, 10034, 900000, 900001, 901000, 901001]
      (.seq (.seq (.reg [] (
        ⟨some 59, none, .mov, [.t 10]⟩ ::
        ⟨some 60, none, .bin .lss, [.t 59, .k (.d (.int .i64 7))]⟩ ::
        []) [0, 1, 5, 7, 9, 10, 60])
      (.cond (.t 60)
        (.skip)
        (.exit 0)))
      (.seq (.block 1
        (.reg [] (
          ⟨some 63, none, .mov, [.t 9]⟩ ::
          ⟨some 64, none, .mov, [.t 5]⟩ ::
          ⟨some 65, none, .mov, [.t 7]⟩ ::
          ⟨some 66, none, .bin .xor, [.t 64, .t 65]⟩ ::
          ⟨some 67, none, .mov, [.t 10]⟩ ::
          ⟨some 68, none, .conv .u64, [.t 67]⟩ ::
          ⟨some 69, none, .bin .shr, [.t 66, .t 68]⟩ ::
          ⟨some 70, none, .bin .and, [.t 69, .k (.d (.int .i64 1))]⟩ ::
          ⟨some 71, none, .bin .add, [.t 63, .t 70]⟩ ::
          ⟨some 9, none, .mov, [.t 71]⟩ ::
          []) [0, 1, 5, 7, 9, 10]))
      (.reg [] (
        ⟨some 61, none, .mov, [.t 10]⟩ ::
        ⟨some 62, none, .bin .add, [.t 61, .k (.d (.int .i64 1))]⟩ ::
        ⟨some 10, none, .mov, [.t 62]⟩ ::
        []) [0, 1, 5, 7, 9, 10]))))))
  (.seq (.reg [] (
    ⟨some 73, none, .mov, [.t 5]⟩ ::
    ⟨some 74, none, .mov, [.t 1]⟩ ::
    ⟨some 75, none, .bin .and, [.t 73, .t 74]⟩ ::
    ⟨some 76, none, .mov, [.t 7]⟩ ::
    ⟨some 77, none, .mov, [.t 1]⟩ ::
    ⟨some 78, none, .bin .andNot, [.t 76, .t 77]⟩ ::
    ⟨some 79, none, .bin .or, [.t 75, .t 78]⟩ ::
    ⟨some 80, none, .call 25, [.t 79]⟩ ::
    ⟨some 72, none, .mov, [.t 80]⟩ ::
    ⟨some 81, none, .extract 0, [.t 72]⟩ ::
    ⟨some 82, none, .extract 1, [.t 72]⟩ ::
    ⟨some 11, none, .mov, [.t 81]⟩ ::
    ⟨some 12, none, .mov, [.t 82]⟩ ::
    []) [0, 5, 9, 11, 12])
  (.seq (.reg [] (
    ⟨some 84, none, .mov, [.t 5]⟩ ::
    ⟨some 85, none, .call 25, [.t 84]⟩ ::
    ⟨some 83, none, .mov, [.t 85]⟩ ::
    ⟨some 86, none, .extract 0, [.t 83]⟩ ::
    ⟨some 87, none, .extract 1, [.t 83]⟩ ::
    ⟨some 13, none, .mov, [.t 86]⟩ ::
    ⟨some 14, none, .mov, [.t 87]⟩ ::
    []) [0, 9, 11, 12, 13, 14])
  (.seq (.reg [] (
    ⟨some 88, none, .mov, [.t 12]⟩ ::
    ⟨some 89, none, .bin .eql, [.t 88, .k (.d (.int .i64 0))]⟩ ::
    ⟨some 90, none, .mov, [.t 89]⟩ ::
    ⟨some 91, some (90, true), .mov, [.t 14]⟩ ::
    ⟨some 92, some (90, true), .bin .eql, [.t 91, .k (.d (.int .i64 0))]⟩ ::
    ⟨some 93, none, .pick, [.t 90, .t 92, .k (.d (.bool false))]⟩ ::
    ⟨some 94, none, .mov, [.t 93]⟩ ::
    ⟨some 95, some (94, true), .mov, [.t 9]⟩ ::
    ⟨some 96, some (94, true), .bin .eql, [.t 95, .k (.d (.int .i64 1))]⟩ ::
    ⟨some 97, none, .pick, [.t 94, .t 96, .k (.d (.bool false))]⟩ ::
    ⟨some 98, none, .mov, [.t 97]⟩ ::
    ⟨some 99, some (98, true), .mov, [.t 11]⟩ ::
    ⟨some 100, some (98, true), .mov, [.t 0]⟩ ::
    ⟨some 101, some (98, true), .bin .eql, [.t 99, .t 100]⟩ ::
    ⟨some 102, some (98, true), .mov, [.t 101]⟩ ::
    ⟨some 103, some (102, false), .mov, [.t 11]⟩ ::
    ⟨some 104, some (102, false), .mov, [.t 0]⟩ ::
    ⟨some 105, some (102, false), .bin .add, [.t 104, .k (.d (.int .i64 1))]⟩ ::
    ⟨some 106, some (102, false), .bin .eql, [.t 103, .t 105]⟩ ::
    ⟨some 107, some (98, true), .pick, [.t 102, .k (.d (.bool true)), .t 106]⟩ ::
    ⟨some 108, none, .pick, [.t 98, .t 107, .k (.d (.bool false))]⟩ ::
    ⟨some 109, none, .mov, [.t 108]⟩ ::
    ⟨some 110, some (109, true), .mov, [.t 13]⟩ ::
    ⟨some 111, some (109, true), .mov, [.t 0]⟩ ::
    ⟨some 112, some (109, true), .bin .eql, [.t 110, .t 111]⟩ ::
    ⟨some 113, none, .pick, [.t 109, .t 112, .k (.d (.bool false))]⟩ ::
    ⟨some 114, none, .mov, [.t 113]⟩ ::
    ⟨some 115, some (114, true), .call 15, []⟩ ::
    ⟨some 116, none, .pick, [.t 114, .t 115, .k (.d (.bool false))]⟩ ::
    ⟨some 4, none, .mov, [.t 116]⟩ ::
    []) [4])
  (.ret))))))))))
theorem dec_law02_ServoOneBit : Fun E0 F_law02_ServoOneBit pc_law02_ServoOneBit [.t 4] 117 := fun_of_dec (fl := []) (by kernel_rfl)
-- platter/platterlaw02.ServoGrays (2)
abbrev F_law02_ServoGrays : Nat := 7
def pc_law02_ServoGrays : PC :=
  .seq (.reg [] (
    ⟨some 4, none, .mov, [.k (.d (.bool false))]⟩ ::
    []) [0, 1])
  (.seq (.reg [] (
    ⟨some 14, none, .mov, [.t 0]⟩ ::
    ⟨some 15, none, .call 24, [.t 14]⟩ ::
    ⟨some 13, none, .mov, [.t 15]⟩ ::
    ⟨some 16, none, .extract 0, [.t 13]⟩ ::
    ⟨some 17, none, .extract 1, [.t 13]⟩ ::
    ⟨some 5, none, .mov, [.t 16]⟩ ::
    ⟨some 6, none, .mov, [.t 17]⟩ ::
    []) [0, 1, 5, 6])
  (.seq (.reg [] (
    ⟨some 19, none, .mov, [.t 0]⟩ ::
    ⟨some 20, none, .call 26, [.t 19]⟩ ::
    ⟨some 18, none, .mov, [.t 20]⟩ ::
    ⟨some 21, none, .extract 0, [.t 18]⟩ ::
    ⟨some 22, none, .extract 1, [.t 18]⟩ ::
    ⟨some 7, none, .mov, [.t 21]⟩ ::
    ⟨some 8, none, .mov, [.t 22]⟩ ::
    []) [1, 5, 6, 7, 8])
  (.seq (.reg [] (
    ⟨some 24, none, .mov, [.t 1]⟩ ::
    ⟨some 25, none, .call 25, [.t 24]⟩ ::
    ⟨some 23, none, .mov, [.t 25]⟩ ::
    ⟨some 26, none, .extract 0, [.t 23]⟩ ::
    ⟨some 27, none, .extract 1, [.t 23]⟩ ::
    ⟨some 9, none, .mov, [.t 26]⟩ ::
    ⟨some 10, none, .mov, [.t 27]⟩ ::
    []) [1, 5, 6, 7, 8, 9, 10])
  (.seq (.reg [] (
    ⟨some 29, none, .mov, [.t 1]⟩ ::
    ⟨some 30, none, .call 27, [.t 29]⟩ ::
    ⟨some 28, none, .mov, [.t 30]⟩ ::
    ⟨some 31, none, .extract 0, [.t 28]⟩ ::
    ⟨some 32, none, .extract 1, [.t 28]⟩ ::
    ⟨some 11, none, .mov, [.t 31]⟩ ::
    ⟨some 12, none, .mov, [.t 32]⟩ ::
    []) [5, 6, 7, 8, 9, 10, 11, 12])
  (.seq (.reg [] (
    ⟨some 33, none, .mov, [.t 5]⟩ ::
    ⟨some 34, none, .mov, [.t 7]⟩ ::
    ⟨some 35, none, .bin .eql, [.t 33, .t 34]⟩ ::
    ⟨some 36, none, .mov, [.t 35]⟩ ::
    ⟨some 37, some (36, true), .mov, [.t 6]⟩ ::
    ⟨some 38, some (36, true), .mov, [.t 8]⟩ ::
    ⟨some 39, some (36, true), .bin .eql, [.t 37, .t 38]⟩ ::
    ⟨some 40, none, .pick, [.t 36, .t 39, .k (.d (.bool false))]⟩ ::
    ⟨some 41, none, .mov, [.t 40]⟩ ::
    ⟨some 42, some (41, true), .mov, [.t 9]⟩ ::
    ⟨some 43, some (41, true), .mov, [.t 11]⟩ ::
    ⟨some 44, some (41, true), .bin .eql, [.t 42, .t 43]⟩ ::
    ⟨some 45, none, .pick, [.t 41, .t 44, .k (.d (.bool false))]⟩ ::
    ⟨some 46, none, .mov, [.t 45]⟩ ::
    ⟨some 47, some (46, true), .mov, [.t 10]⟩ ::
    ⟨some 48, some (46, true), .mov, [.t 12]⟩ ::
    ⟨some 49, some (46, true), .bin .eql, [.t 47, .t 48]⟩ ::
    ⟨some 50, none, .pick, [.t 46, .t 49, .k (.d (.bool false))]⟩ ::
    ⟨some 51, none, .mov, [.t 50]⟩ ::
    ⟨some 52, some (51, true), .call 15, []⟩ ::
    ⟨some 53, none, .pick, [.t 51, .t 52, .k (.d (.bool false))]⟩ ::
    ⟨some 4, none, .mov, [.t 53]⟩ ::
    []) [4])
  (.ret))))))
theorem dec_law02_ServoGrays : Fun E0 F_law02_ServoGrays pc_law02_ServoGrays [.t 4] 54 := fun_of_dec (fl := []) (by kernel_rfl)
abbrev F_law02_ServoWheres : Nat := 8
abbrev F_law02_ServoEnds : Nat := 9
abbrev F_law02_ServoTraces : Nat := 10
abbrev F_law02_ServoGates : Nat := 11
abbrev F_law02_ServoTrue : Nat := 12
-- platter/platterlaw02.valid (2)
abbrev F_law02_valid : Nat := 13
def pc_law02_valid : PC :=
  .seq (.reg [] (
    ⟨some 2, none, .box, [.t 0]⟩ ::
    ⟨some 4, none, .mov, [.k (.d (.bool false))]⟩ ::
    []) [1, 2])
  (.seq (.reg [] (
    ⟨some 5, none, .load true 6, [.t 2]⟩ ::
    ⟨some 6, none, .mov, [.t 1]⟩ ::
    ⟨some 7, none, .call 28, [.t 5, .t 6]⟩ ::
    ⟨some 8, none, .un .not, [.t 7]⟩ ::
    ⟨some 9, none, .mov, [.t 8]⟩ ::
    ⟨some 10, some (9, true), .load true 6, [.t 2]⟩ ::
    ⟨some 11, some (9, true), .mov, [.t 1]⟩ ::
    ⟨some 12, some (9, true), .call 31, [.t 10, .t 11]⟩ ::
    ⟨some 13, some (9, true), .bin .eql, [.t 12, .k (.d (.int .i64 0))]⟩ ::
    ⟨some 14, none, .pick, [.t 9, .t 13, .k (.d (.bool false))]⟩ ::
    ⟨some 4, none, .mov, [.t 14]⟩ ::
    []) [4])
  (.ret))
theorem dec_law02_valid : Fun E0 F_law02_valid pc_law02_valid [.t 4] 15 := fun_of_dec (fl := []) (by kernel_rfl)
-- platter/platterlaw02.possible (3)
abbrev F_law02_possible : Nat := 14
def pc_law02_possible : PC :=
  .seq (.reg [] (
    ⟨some 3, none, .box, [.t 0]⟩ ::
    ⟨some 5, none, .box, [.t 2]⟩ ::
    ⟨some 6, none, .mov, [.k (.d (.bool false))]⟩ ::
    []) [1, 3, 5])
  (.seq (.seq (.draw [] (
    (⟨some 9, none, .faddr 0, [.t 5]⟩, []) ::
    (⟨some 10, none, .load false 1, [.t 9]⟩, []) ::
    (⟨some 11, none, .len false, [.t 10]⟩, []) ::
    (⟨some 12, none, .bin .gtr, [.t 11, .k (.d (.int .i64 40))]⟩, []) ::
    (⟨some 13, none, .mov, [.t 12]⟩, []) ::
    (⟨some 14, some (13, false), .faddr 1, [.t 5]⟩, []) ::
    (⟨some 15, some (13, false), .load false 1, [.t 14]⟩, []) ::
    (⟨some 16, some (13, false), .len false, [.t 15]⟩, []) ::
    (⟨some 17, some (13, false), .bin .gtr, [.t 16, .k (.d (.int .i64 12))]⟩, []) ::
    (⟨some 18, none, .pick, [.t 13, .k (.d (.bool true)), .t 17]⟩, []) ::
    (⟨some 19, none, .mov, [.t 18]⟩, []) ::
    (⟨some 20, some (19, false), .load true 6, [.t 3]⟩, []) ::
    (⟨some 21, some (19, false), .mov, [.t 1]⟩, []) ::
    (⟨some 22, some (19, false), .faddr 0, [.t 5]⟩, []) ::
    (⟨some 23, some (19, false), .load false 1, [.t 22]⟩, []) ::
    (⟨some 24, some (19, false), .call 22, [.t 20, .t 21, .t 23]⟩, []) ::
    (⟨some 25, some (19, false), .un .not, [.t 24]⟩, []) ::
    (⟨some 26, none, .pick, [.t 19, .k (.d (.bool true)), .t 25]⟩, []) ::
    (⟨some 27, none, .mov, [.t 26]⟩, []) ::
    (⟨some 28, some (27, false), .load true 6, [.t 3]⟩, []) ::
    (⟨some 29, some (27, false), .mov, [.t 1]⟩, []) ::
    (⟨some 30, some (27, false), .faddr 0, [.t 5]⟩, []) ::
    (⟨some 31, some (27, false), .load false 1, [.t 30]⟩, []) ::
    (⟨some 32, some (27, false), .call 40, [.t 28, .t 29, .t 31]⟩, []) ::
    (⟨some 33, some (27, false), .faddr 4, [.t 3]⟩, []) ::
    (⟨some 34, some (27, false), .load false 1, [.t 33]⟩, [23]) ::
    (⟨some 35, some (27, false), .bin .gtr, [.t 32, .t 34]⟩, []) ::
    (⟨some 36, none, .pick, [.t 27, .k (.d (.bool true)), .t 35]⟩, []) ::
    (⟨some 37, none, .mov, [.t 36]⟩, []) ::
    (⟨some 38, some (37, false), .faddr 0, [.t 5]⟩, []) ::
    (⟨some 39, some (37, false), .load false 1, [.t 38]⟩, []) ::
    (⟨some 40, some (37, false), .len false, [.t 39]⟩, []) ::
    (⟨some 41, some (37, false), .bin .eql, [.t 40, .k (.d (.int .i64 0))]⟩, []) ::
    (⟨some 42, none, .pick, [.t 37, .k (.d (.bool true)), .t 41]⟩, []) ::
    []) [3, 5, 42])
  (.cond (.t 42)
    (.seq (.reg [] (
      ⟨some 6, none, .mov, [.k (.d (.bool false))]⟩ ::
      []) [6])
    (.ret))
    (.skip)))
  (.seq (.reg [] (
    ⟨some 43, none, .faddr 0, [.t 5]⟩ ::
    ⟨some 44, none, .load false 1, [.t 43]⟩ ::
    ⟨some 45, none, .faddr 0, [.t 5]⟩ ::
    ⟨some 46, none, .load false 1, [.t 45]⟩ ::
    ⟨some 47, none, .len false, [.t 46]⟩ ::
    ⟨some 48, none, .bin .sub, [.t 47, .k (.d (.int .i64 1))]⟩ ::
    ⟨some 49, none, .iaddrS 1, [.t 44, .t 48]⟩ ::
    ⟨some 50, none, .load false 1, [.t 49]⟩ ::
    ⟨some 7, none, .mov, [.t 50]⟩ ::
    []) [3, 5, 7])
  (.seq (.seq (.reg [] (
    ⟨some 8, none, .mov, [.k (.d (.int .i64 0))]⟩ ::
    []) [3, 5, 7, 8])
  (.block 0
    (.loop [] [3, 5, 7, 8] [3, 5, 900000, 900002, 901000, 901002]
      (.seq (.seq (.reg [] (
        ⟨some 51, none, .mov, [.t 8]⟩ ::
        ⟨some 52, none, .faddr 1, [.t 5]⟩ ::
        ⟨some 53, none, .load false 1, [.t 52]⟩ ::
        ⟨some 54, none, .len false, [.t 53]⟩ ::
        ⟨some 55, none, .bin .lss, [.t 51, .t 54]⟩ ::
        []) [3, 5, 7, 8, 55])
      (.cond (.t 55)
        (.skip)
        (.exit 0)))
      (.seq (.block 1
        (.seq (.seq (.draw [] (
          (⟨some 58, none, .faddr 1, [.t 5]⟩, []) ::
          (⟨some 59, none, .load false 1, [.t 58]⟩, []) ::
          (⟨some 60, none, .mov, [.t 8]⟩, []) ::
          (⟨some 61, none, .iaddrS 1, [.t 59, .t 60]⟩, []) ::
          (⟨some 62, none, .load false 1, [.t 61]⟩, []) ::
          (⟨some 63, none, .bin .lss, [.t 62, .k (.d (.int .i64 0))]⟩, []) ::
          (⟨some 64, none, .mov, [.t 63]⟩, []) ::
          (⟨some 65, some (64, false), .faddr 1, [.t 5]⟩, []) ::
          (⟨some 66, some (64, false), .load false 1, [.t 65]⟩, []) ::
          (⟨some 67, some (64, false), .mov, [.t 8]⟩, []) ::
          (⟨some 68, some (64, false), .iaddrS 1, [.t 66, .t 67]⟩, []) ::
          (⟨some 69, some (64, false), .load false 1, [.t 68]⟩, []) ::
          (⟨some 70, some (64, false), .load true 6, [.t 3]⟩, []) ::
          (⟨some 71, some (64, false), .call 37, [.t 70]⟩, [8, 10, 11]) ::
          (⟨some 72, some (64, false), .bin .gtr, [.t 69, .t 71]⟩, []) ::
          (⟨some 73, none, .pick, [.t 64, .k (.d (.bool true)), .t 72]⟩, []) ::
          (⟨some 74, none, .mov, [.t 73]⟩, []) ::
          (⟨some 75, some (74, false), .faddr 1, [.t 5]⟩, []) ::
          (⟨some 76, some (74, false), .load false 1, [.t 75]⟩, []) ::
          (⟨some 77, some (74, false), .mov, [.t 8]⟩, []) ::
          (⟨some 78, some (74, false), .iaddrS 1, [.t 76, .t 77]⟩, []) ::
          (⟨some 79, some (74, false), .load false 1, [.t 78]⟩, []) ::
          (⟨some 80, some (74, false), .mov, [.t 7]⟩, []) ::
          (⟨some 81, some (74, false), .bin .sub, [.t 79, .t 80]⟩, []) ::
          (⟨some 82, some (74, false), .faddr 2, [.t 3]⟩, []) ::
          (⟨some 83, some (74, false), .load false 1, [.t 82]⟩, []) ::
          (⟨some 84, some (74, false), .bin .gtr, [.t 81, .t 83]⟩, []) ::
          (⟨some 85, none, .pick, [.t 74, .k (.d (.bool true)), .t 84]⟩, []) ::
          (⟨some 86, none, .mov, [.t 85]⟩, []) ::
          (⟨some 87, some (86, false), .mov, [.t 7]⟩, []) ::
          (⟨some 88, some (86, false), .faddr 1, [.t 5]⟩, []) ::
          (⟨some 89, some (86, false), .load false 1, [.t 88]⟩, []) ::
          (⟨some 90, some (86, false), .mov, [.t 8]⟩, []) ::
          (⟨some 91, some (86, false), .iaddrS 1, [.t 89, .t 90]⟩, []) ::
          (⟨some 92, some (86, false), .load false 1, [.t 91]⟩, []) ::
          (⟨some 93, some (86, false), .bin .sub, [.t 87, .t 92]⟩, []) ::
          (⟨some 94, some (86, false), .faddr 2, [.t 3]⟩, []) ::
          (⟨some 95, some (86, false), .load false 1, [.t 94]⟩, []) ::
          (⟨some 96, some (86, false), .bin .gtr, [.t 93, .t 95]⟩, []) ::
          (⟨some 97, none, .pick, [.t 86, .k (.d (.bool true)), .t 96]⟩, []) ::
          []) [3, 5, 8, 97])
        (.cond (.t 97)
          (.seq (.reg [] (
            ⟨some 6, none, .mov, [.k (.d (.bool false))]⟩ ::
            []) [6])
          (.ret))
          (.skip)))
        (.reg [] (
          ⟨some 98, none, .faddr 1, [.t 5]⟩ ::
          ⟨some 99, none, .load false 1, [.t 98]⟩ ::
          ⟨some 100, none, .mov, [.t 8]⟩ ::
          ⟨some 101, none, .iaddrS 1, [.t 99, .t 100]⟩ ::
          ⟨some 102, none, .load false 1, [.t 101]⟩ ::
          ⟨some 7, none, .mov, [.t 102]⟩ ::
          []) [3, 5, 7, 8])))
      (.reg [] (
        ⟨some 56, none, .mov, [.t 8]⟩ ::
        ⟨some 57, none, .bin .add, [.t 56, .k (.d (.int .i64 1))]⟩ ::
        ⟨some 8, none, .mov, [.t 57]⟩ ::
        []) [3, 5, 7, 8]))))))
  (.seq (.reg [] (
    ⟨some 6, none, .mov, [.k (.d (.bool true))]⟩ ::
    []) [6])
  (.ret)))))
theorem dec_law02_possible : Fun E0 F_law02_possible pc_law02_possible [.t 6] 103 := fun_of_dec (fl := []) (by kernel_rfl)
-- platter/platterlaw02.works (0)
abbrev F_law02_works : Nat := 15
def pc_law02_works : PC :=
  .seq (.reg [] (
    ⟨some 0, none, .mov, [.k (.d (.bool false))]⟩ ::
    []) [])
  (.seq (.reg [] (
    ⟨some 10, none, .call 45, []⟩ ::
    ⟨some 9, none, .mov, [.t 10]⟩ ::
    ⟨some 11, none, .extract 0, [.t 9]⟩ ::
    ⟨some 12, none, .extract 1, [.t 9]⟩ ::
    ⟨some 1, none, .zero [.int .i64 0, .int .i64 0, .int .i64 0, .int .i64 0, .int .i64 0, .list true []], []⟩ ::
    ⟨none, none, .store 6, [.t 1, .t 11]⟩ ::
    ⟨some 2, none, .mov, [.t 12]⟩ ::
    []) [1, 2])
  (.seq (.reg [] (
    ⟨some 14, none, .load true 6, [.t 1]⟩ ::
    ⟨some 15, none, .mov, [.t 2]⟩ ::
    ⟨some 16, none, .call 18, [.t 14, .t 15]⟩ ::
    ⟨some 13, none, .mov, [.t 16]⟩ ::
    ⟨some 17, none, .extract 0, [.t 13]⟩ ::
    ⟨some 18, none, .extract 1, [.t 13]⟩ ::
    ⟨some 3, none, .mov, [.t 17]⟩ ::
    ⟨some 4, none, .mov, [.t 18]⟩ ::
    []) [1, 2, 3, 4])
  (.seq (.reg [] (
    ⟨some 20, none, .load true 6, [.t 1]⟩ ::
    ⟨some 21, none, .mov, [.t 2]⟩ ::
    ⟨some 22, none, .call 16, [.t 20, .t 21, .k (.d (.int .i64 2)), .k (.d (.int .i64 5))]⟩ ::
    ⟨some 19, none, .mov, [.t 22]⟩ ::
    ⟨some 23, none, .extract 0, [.t 19]⟩ ::
    ⟨some 24, none, .extract 1, [.t 19]⟩ ::
    ⟨some 5, none, .mov, [.t 23]⟩ ::
    ⟨some 6, none, .mov, [.t 24]⟩ ::
    []) [3, 4, 5, 6])
  (.seq (.reg [] (
    ⟨some 26, none, .call 25, [.k (.d (.int .i64 3))]⟩ ::
    ⟨some 25, none, .mov, [.t 26]⟩ ::
    ⟨some 27, none, .extract 0, [.t 25]⟩ ::
    ⟨some 28, none, .extract 1, [.t 25]⟩ ::
    ⟨some 7, none, .mov, [.t 27]⟩ ::
    ⟨some 8, none, .mov, [.t 28]⟩ ::
    []) [3, 4, 5, 6, 7, 8])
  (.seq (.reg [] (
    ⟨some 29, none, .mov, [.t 4]⟩ ::
    ⟨some 30, none, .bin .eql, [.t 29, .k (.d (.int .i64 0))]⟩ ::
    ⟨some 31, none, .mov, [.t 30]⟩ ::
    ⟨some 32, some (31, true), .mov, [.t 6]⟩ ::
    ⟨some 33, some (31, true), .bin .eql, [.t 32, .k (.d (.int .i64 0))]⟩ ::
    ⟨some 34, none, .pick, [.t 31, .t 33, .k (.d (.bool false))]⟩ ::
    ⟨some 35, none, .mov, [.t 34]⟩ ::
    ⟨some 36, some (35, true), .mov, [.t 8]⟩ ::
    ⟨some 37, some (35, true), .bin .eql, [.t 36, .k (.d (.int .i64 0))]⟩ ::
    ⟨some 38, none, .pick, [.t 35, .t 37, .k (.d (.bool false))]⟩ ::
    ⟨some 39, none, .mov, [.t 38]⟩ ::
    ⟨some 40, some (39, true), .mov, [.t 5]⟩ ::
    ⟨some 41, some (39, true), .bin .eql, [.t 40, .k (.d (.int .i64 2))]⟩ ::
    ⟨some 42, none, .pick, [.t 39, .t 41, .k (.d (.bool false))]⟩ ::
    ⟨some 43, none, .mov, [.t 42]⟩ ::
    ⟨some 44, some (43, true), .mov, [.t 7]⟩ ::
    ⟨some 45, some (43, true), .bin .eql, [.t 44, .k (.d (.int .i64 2))]⟩ ::
    ⟨some 46, none, .pick, [.t 43, .t 45, .k (.d (.bool false))]⟩ ::
    ⟨some 47, none, .mov, [.t 46]⟩ ::
    ⟨some 48, some (47, true), .mov, [.t 3]⟩ ::
    ⟨some 49, some (47, true), .build [.int .i64 0, .int .i64 0] [(0, 1), (1, 1)], [.k (.d (.int .i64 6)), .k (.d (.int .i64 8))]⟩ ::
    ⟨some 50, some (47, true), .mkrow 2 (.agg [.int .i64 0, .int .i64 0]) 1 [0], [.t 49]⟩ ::
    ⟨some 51, some (47, true), .call 20, [.t 48, .t 50]⟩ ::
    ⟨some 52, none, .pick, [.t 47, .t 51, .k (.d (.bool false))]⟩ ::
    ⟨some 0, none, .mov, [.t 52]⟩ ::
    []) [0])
  (.ret))))))
theorem dec_law02_works : Fun E0 F_law02_works pc_law02_works [.t 0] 53 := fun_of_dec (fl := []) (by kernel_rfl)
-- platter/servo.Gate (4)
abbrev F_servo_Gate : Nat := 16
def pc_servo_Gate : PC :=
  .seq (.reg [] (
    ⟨some 4, none, .box, [.t 0]⟩ ::
    ⟨some 8, none, .mov, [.k (.d (.int .i64 0))]⟩ ::
    ⟨some 9, none, .mov, [.k (.d (.int .i64 0))]⟩ ::
    []) [1, 2, 3, 4])
  (.seq (.draw [] (
    (⟨some 16, none, .load true 6, [.t 4]⟩, []) ::
    (⟨some 17, none, .mov, [.t 1]⟩, []) ::
    (⟨some 18, none, .mov, [.t 2]⟩, []) ::
    (⟨some 19, none, .faddr 0, [.t 4]⟩, []) ::
    (⟨some 20, none, .load false 1, [.t 19]⟩, []) ::
    (⟨some 21, none, .bin .sub, [.t 20, .k (.d (.int .i64 1))]⟩, []) ::
    (⟨some 22, none, .call 47, [.t 18, .k (.d (.int .i64 0)), .t 21]⟩, [0]) ::
    (⟨some 23, none, .mov, [.t 22]⟩, []) ::
    (⟨some 24, some (23, true), .mov, [.t 3]⟩, []) ::
    (⟨some 25, some (23, true), .call 47, [.t 24, .k (.d (.int .i64 0)), .k (.d (.int .i64 16))]⟩, [0]) ::
    (⟨some 26, none, .pick, [.t 23, .t 25, .k (.d (.bool false))]⟩, []) ::
    (⟨some 27, none, .call 46, [.t 16, .t 17, .t 26]⟩, []) ::
    (⟨some 15, none, .mov, [.t 27]⟩, []) ::
    (⟨some 28, none, .extract 0, [.t 15]⟩, []) ::
    (⟨some 29, none, .extract 1, [.t 15]⟩, []) ::
    (⟨some 10, none, .mov, [.t 28]⟩, []) ::
    (⟨some 11, none, .mov, [.t 29]⟩, []) ::
    []) [1, 2, 3, 10, 11])
  (.seq (.seq (.reg [] (
    ⟨some 30, none, .mov, [.t 11]⟩ ::
    ⟨some 31, none, .bin .neq, [.t 30, .k (.d (.int .i64 0))]⟩ ::
    []) [1, 2, 3, 10, 11, 31])
  (.cond (.t 31)
    (.seq (.reg [] (
      ⟨some 32, none, .mov, [.t 11]⟩ ::
      ⟨some 8, none, .mov, [.k (.d (.int .i64 0))]⟩ ::
      ⟨some 9, none, .mov, [.t 32]⟩ ::
      []) [8, 9])
    (.ret))
    (.skip)))
  (.seq (.seq (.reg [] (
    ⟨some 33, none, .mov, [.k (.d (.int .i64 0))]⟩ ::
    []) [1, 2, 3, 10, 33])
  (.block 0
    (.loop [] [1, 2, 3, 10, 33] [27, 10027, 900001, 900002, 900003, 901001, 901002, 901003]
      (.seq (.reg [] (
        ⟨some 34, none, .bin .lss, [.t 33, .k (.d (.int .i64 24))]⟩ ::
        []) [1, 2, 3, 10, 33, 34])
      (.seq (.cond (.t 34)
        (.skip)
        (.exit 0))
      (.seq (.block 1
        (.seq (.reg [] (
          ⟨some 35, none, .mov, [.t 33]⟩ ::
          ⟨some 12, none, .mov, [.t 35]⟩ ::
          []) [1, 2, 3, 10, 12, 33])
        (.seq (.reg [] (
          ⟨some 36, none, .mov, [.t 10]⟩ ::
          ⟨some 37, none, .mov, [.t 2]⟩ ::
          ⟨some 38, none, .mov, [.t 1]⟩ ::
          ⟨some 39, none, .len false, [.t 38]⟩ ::
          ⟨some 40, none, .bin .sub, [.t 39, .k (.d (.int .i64 1))]⟩ ::
          ⟨some 41, none, .mov, [.t 12]⟩ ::
          ⟨some 42, none, .bin .add, [.t 40, .t 41]⟩ ::
          ⟨some 43, none, .minmax true, [.k (.d (.int .i64 0)), .t 42]⟩ ::
          ⟨some 44, none, .call 48, [.t 36, .t 37, .t 43]⟩ ::
          ⟨some 13, none, .mov, [.t 44]⟩ ::
          []) [1, 2, 3, 10, 12, 13, 33])
        (.seq (.reg [] (
          ⟨some 45, none, .mov, [.t 10]⟩ ::
          ⟨some 46, none, .mov, [.t 12]⟩ ::
          ⟨some 47, none, .call 49, [.t 45, .t 46]⟩ ::
          ⟨some 14, none, .mov, [.t 47]⟩ ::
          []) [1, 2, 3, 10, 12, 13, 14, 33])
        (.seq (.reg [] (
          ⟨some 48, none, .mov, [.t 14]⟩ ::
          ⟨some 49, none, .iaddrS 2, [.t 48, .k (.d (.int .i64 0))]⟩ ::
          ⟨some 50, none, .faddr 0, [.t 49]⟩ ::
          ⟨some 51, none, .load false 1, [.t 50]⟩ ::
          ⟨some 52, none, .mov, [.t 13]⟩ ::
          ⟨some 53, none, .mov, [.t 3]⟩ ::
          ⟨some 54, none, .bin .sub, [.t 52, .t 53]⟩ ::
          ⟨some 55, none, .bin .lss, [.t 51, .t 54]⟩ ::
          ⟨some 56, none, .mov, [.t 55]⟩ ::
          ⟨some 57, some (56, false), .mov, [.t 14]⟩ ::
          ⟨some 58, some (56, false), .mov, [.t 14]⟩ ::
          ⟨some 59, some (56, false), .len false, [.t 58]⟩ ::
          ⟨some 60, some (56, false), .bin .sub, [.t 59, .k (.d (.int .i64 1))]⟩ ::
          ⟨some 61, some (56, false), .iaddrS 2, [.t 57, .t 60]⟩ ::
          ⟨some 62, some (56, false), .faddr 1, [.t 61]⟩ ::
          ⟨some 63, some (56, false), .load false 1, [.t 62]⟩ ::
          ⟨some 64, some (56, false), .mov, [.t 13]⟩ ::
          ⟨some 65, some (56, false), .mov, [.t 3]⟩ ::
          ⟨some 66, some (56, false), .bin .add, [.t 64, .t 65]⟩ ::
          ⟨some 67, some (56, false), .bin .gtr, [.t 63, .t 66]⟩ ::
          ⟨some 68, none, .pick, [.t 56, .k (.d (.bool true)), .t 67]⟩ ::
          []) [1, 2, 3, 10, 12, 33, 68])
        (.cond (.t 68)
          (.seq (.reg [] (
            ⟨some 69, none, .mov, [.t 12]⟩ ::
            ⟨some 8, none, .mov, [.t 69]⟩ ::
            ⟨some 9, none, .mov, [.k (.d (.int .i64 0))]⟩ ::
            []) [8, 9])
          (.ret))
          (.skip)))))))
      (.reg [] (
        ⟨some 70, none, .bin .add, [.t 33, .k (.d (.int .i64 1))]⟩ ::
        ⟨some 33, none, .mov, [.t 70]⟩ ::
        []) [1, 2, 3, 10, 33])))))))
  (.seq (.reg [] (
    ⟨some 8, none, .mov, [.k (.d (.int .i64 24))]⟩ ::
    ⟨some 9, none, .mov, [.k (.d (.int .i64 0))]⟩ ::
    []) [8, 9])
  (.ret)))))
theorem dec_servo_Gate : Fun E0 F_servo_Gate pc_servo_Gate [.t 8, .t 9] 71 := fun_of_dec (fl := []) (by kernel_rfl)
-- platter/platterref02.Center (3)
abbrev F_ref02_Center : Nat := 17
def pc_ref02_Center : PC :=
  .seq (.reg [] (
    ⟨some 3, none, .box, [.t 0]⟩ ::
    ⟨some 6, none, .mov, [.k (.d (.int .i64 0))]⟩ ::
    []) [1, 2, 3])
  (.seq (.draw [] (
    (⟨some 7, none, .mov, [.t 1]⟩, []) ::
    (⟨some 8, none, .faddr 1, [.t 3]⟩, []) ::
    (⟨some 9, none, .load false 1, [.t 8]⟩, []) ::
    (⟨some 10, none, .bin .mul, [.t 7, .t 9]⟩, []) ::
    (⟨some 11, none, .faddr 5, [.t 3]⟩, []) ::
    (⟨some 12, none, .load false 1, [.t 11]⟩, []) ::
    (⟨some 13, none, .mov, [.t 2]⟩, []) ::
    (⟨some 14, none, .minmax true, [.k (.d (.int .i64 0)), .t 13]⟩, []) ::
    (⟨some 15, none, .faddr 5, [.t 3]⟩, []) ::
    (⟨some 16, none, .load false 1, [.t 15]⟩, []) ::
    (⟨some 17, none, .len false, [.t 16]⟩, []) ::
    (⟨some 18, none, .bin .rem, [.t 14, .t 17]⟩, []) ::
    (⟨some 19, none, .iaddrS 1, [.t 12, .t 18]⟩, []) ::
    (⟨some 20, none, .load false 1, [.t 19]⟩, []) ::
    (⟨some 21, none, .bin .add, [.t 10, .t 20]⟩, []) ::
    (⟨some 6, none, .mov, [.t 21]⟩, []) ::
    []) [6])
  (.ret))
theorem dec_ref02_Center : Fun E0 F_ref02_Center pc_ref02_Center [.t 6] 22 := fun_of_dec (fl := []) (by kernel_rfl)
-- platter/servo.Where (2)
abbrev F_servo_Where : Nat := 18
def pc_servo_Where : PC :=
  .seq (.reg [] (
    ⟨some 2, none, .box, [.t 0]⟩ ::
    ⟨some 4, none, .mov, [.k (.d (.list true []))]⟩ ::
    ⟨some 5, none, .mov, [.k (.d (.int .i64 0))]⟩ ::
    []) [1, 2])
  (.seq (.reg [] (
    ⟨some 6, none, .load true 6, [.t 2]⟩ ::
    ⟨some 7, none, .mov, [.t 1]⟩ ::
    ⟨some 8, none, .call 19, [.t 6, .t 7, .k (.d (.int .i64 0))]⟩ ::
    ⟨some 9, none, .extract 0, [.t 8]⟩ ::
    ⟨some 10, none, .extract 1, [.t 8]⟩ ::
    ⟨some 4, none, .mov, [.t 9]⟩ ::
    ⟨some 5, none, .mov, [.t 10]⟩ ::
    []) [4, 5])
  (.ret))
theorem dec_servo_Where : Fun E0 F_servo_Where pc_servo_Where [.t 4, .t 5] 11 := fun_of_dec (fl := []) (by kernel_rfl)
-- platter/servo.Ahead (3)
abbrev F_servo_Ahead : Nat := 19
def pc_servo_Ahead : PC :=
  .seq (.reg [] (
    ⟨some 3, none, .box, [.t 0]⟩ ::
    ⟨some 6, none, .mov, [.k (.d (.list true []))]⟩ ::
    ⟨some 7, none, .mov, [.k (.d (.int .i64 0))]⟩ ::
    []) [1, 2, 3])
  (.seq (.draw [] (
    (⟨some 11, none, .load true 6, [.t 3]⟩, []) ::
    (⟨some 12, none, .mov, [.t 1]⟩, []) ::
    (⟨some 13, none, .mov, [.t 2]⟩, []) ::
    (⟨some 14, none, .call 47, [.t 13, .k (.d (.int .i64 0)), .k (.d (.int .i64 24))]⟩, [0]) ::
    (⟨some 15, none, .call 46, [.t 11, .t 12, .t 14]⟩, []) ::
    (⟨some 10, none, .mov, [.t 15]⟩, []) ::
    (⟨some 16, none, .extract 0, [.t 10]⟩, []) ::
    (⟨some 17, none, .extract 1, [.t 10]⟩, []) ::
    (⟨some 8, none, .mov, [.t 16]⟩, []) ::
    (⟨some 9, none, .mov, [.t 17]⟩, []) ::
    []) [2, 8, 9])
  (.seq (.seq (.reg [] (
    ⟨some 18, none, .mov, [.t 9]⟩ ::
    ⟨some 19, none, .bin .neq, [.t 18, .k (.d (.int .i64 0))]⟩ ::
    []) [2, 8, 9, 19])
  (.cond (.t 19)
    (.seq (.reg [] (
      ⟨some 20, none, .mov, [.t 9]⟩ ::
      ⟨some 6, none, .mov, [.k (.d (.list true []))]⟩ ::
      ⟨some 7, none, .mov, [.t 20]⟩ ::
      []) [6, 7])
    (.ret))
    (.skip)))
  (.seq (.reg [] (
    ⟨some 21, none, .mov, [.t 8]⟩ ::
    ⟨some 22, none, .mov, [.t 2]⟩ ::
    ⟨some 23, none, .call 49, [.t 21, .t 22]⟩ ::
    ⟨some 6, none, .mov, [.t 23]⟩ ::
    ⟨some 7, none, .mov, [.k (.d (.int .i64 0))]⟩ ::
    []) [6, 7])
  (.ret))))
theorem dec_servo_Ahead : Fun E0 F_servo_Ahead pc_servo_Ahead [.t 6, .t 7] 24 := fun_of_dec (fl := []) (by kernel_rfl)
-- platter/platterlaw02.sameSpans (2)
abbrev F_law02_sameSpans : Nat := 20
def pc_law02_sameSpans : PC :=
  .seq (.reg [] (
    ⟨some 4, none, .mov, [.k (.d (.bool false))]⟩ ::
    []) [0, 1])
  (.seq (.seq (.reg [] (
    ⟨some 6, none, .mov, [.t 0]⟩ ::
    ⟨some 7, none, .len false, [.t 6]⟩ ::
    ⟨some 8, none, .mov, [.t 1]⟩ ::
    ⟨some 9, none, .len false, [.t 8]⟩ ::
    ⟨some 10, none, .bin .neq, [.t 7, .t 9]⟩ ::
    []) [0, 1, 10])
  (.cond (.t 10)
    (.seq (.reg [] (
      ⟨some 4, none, .mov, [.k (.d (.bool false))]⟩ ::
      []) [4])
    (.ret))
    (.skip)))
  (.seq (.seq (.reg [] (
    ⟨some 5, none, .mov, [.k (.d (.int .i64 0))]⟩ ::
    []) [0, 1, 5])
  (.block 0
    (.loop [] [0, 1, 5] [900000, 900001, 901000, 901001]
      (.seq (.seq (.reg [] (
        ⟨some 11, none, .mov, [.t 5]⟩ ::
        ⟨some 12, none, .mov, [.t 0]⟩ ::
        ⟨some 13, none, .len false, [.t 12]⟩ ::
        ⟨some 14, none, .bin .lss, [.t 11, .t 13]⟩ ::
        []) [0, 1, 5, 14])
      (.cond (.t 14)
        (.skip)
        (.exit 0)))
      (.seq (.block 1
        (.seq (.draw [] (
          (⟨some 17, none, .mov, [.t 0]⟩, []) ::
          (⟨some 18, none, .mov, [.t 5]⟩, []) ::
          (⟨some 19, none, .iaddrS 2, [.t 17, .t 18]⟩, []) ::
          (⟨some 20, none, .load true 2, [.t 19]⟩, []) ::
          (⟨some 21, none, .mov, [.t 1]⟩, []) ::
          (⟨some 22, none, .mov, [.t 5]⟩, []) ::
          (⟨some 23, none, .iaddrS 2, [.t 21, .t 22]⟩, []) ::
          (⟨some 24, none, .load true 2, [.t 23]⟩, []) ::
          (⟨some 25, none, .eqv true (true, [some .i64, some .i64]), [.t 20, .t 24]⟩, []) ::
          []) [0, 1, 5, 25])
        (.cond (.t 25)
          (.seq (.reg [] (
            ⟨some 4, none, .mov, [.k (.d (.bool false))]⟩ ::
            []) [4])
          (.ret))
          (.skip))))
      (.reg [] (
        ⟨some 15, none, .mov, [.t 5]⟩ ::
        ⟨some 16, none, .bin .add, [.t 15, .k (.d (.int .i64 1))]⟩ ::
        ⟨some 5, none, .mov, [.t 16]⟩ ::
        []) [0, 1, 5]))))))
  (.seq (.reg [] (
    ⟨some 4, none, .mov, [.k (.d (.bool true))]⟩ ::
    []) [4])
  (.ret))))
theorem dec_law02_sameSpans : Fun E0 F_law02_sameSpans pc_law02_sameSpans [.t 4] 26 := fun_of_dec (fl := []) (by kernel_rfl)
abbrev F_law02_within : Nat := 21
-- platter/platterref02.IsPath (3)
abbrev F_ref02_IsPath : Nat := 22
def pc_ref02_IsPath : PC :=
  .seq (.reg [] (
    ⟨some 3, none, .box, [.t 0]⟩ ::
    ⟨some 6, none, .mov, [.k (.d (.bool false))]⟩ ::
    []) [1, 2, 3])
  (.seq (.seq (.reg [] (
    ⟨some 7, none, .mov, [.k (.d (.int .i64 0))]⟩ ::
    []) [1, 2, 3, 7])
  (.block 0
    (.loop [] [1, 2, 3, 7] [3, 900000, 900001, 900002, 901000, 901001, 901002]
      (.seq (.seq (.reg [] (
        ⟨some 8, none, .mov, [.t 7]⟩ ::
        ⟨some 9, none, .mov, [.t 2]⟩ ::
        ⟨some 10, none, .len false, [.t 9]⟩ ::
        ⟨some 11, none, .bin .lss, [.t 8, .t 10]⟩ ::
        []) [1, 2, 3, 7, 11])
      (.cond (.t 11)
        (.skip)
        (.exit 0)))
      (.seq (.block 1
        (.seq (.draw [] (
          (⟨some 14, none, .mov, [.t 2]⟩, []) ::
          (⟨some 15, none, .mov, [.t 7]⟩, []) ::
          (⟨some 16, none, .iaddrS 1, [.t 14, .t 15]⟩, []) ::
          (⟨some 17, none, .load false 1, [.t 16]⟩, []) ::
          (⟨some 18, none, .load true 6, [.t 3]⟩, []) ::
          (⟨some 19, none, .call 37, [.t 18]⟩, [2, 3]) ::
          (⟨some 20, none, .call 50, [.t 17, .k (.d (.int .i64 0)), .t 19]⟩, []) ::
          (⟨some 21, none, .un .not, [.t 20]⟩, []) ::
          (⟨some 22, none, .mov, [.t 21]⟩, []) ::
          (⟨some 23, some (22, false), .mov, [.t 7]⟩, []) ::
          (⟨some 24, some (22, false), .bin .gtr, [.t 23, .k (.d (.int .i64 0))]⟩, []) ::
          (⟨some 25, some (22, false), .mov, [.t 24]⟩, []) ::
          (⟨some 26, some (25, true), .mov, [.t 2]⟩, []) ::
          (⟨some 27, some (25, true), .mov, [.t 7]⟩, []) ::
          (⟨some 28, some (25, true), .iaddrS 1, [.t 26, .t 27]⟩, []) ::
          (⟨some 29, some (25, true), .load false 1, [.t 28]⟩, []) ::
          (⟨some 30, some (25, true), .mov, [.t 2]⟩, []) ::
          (⟨some 31, some (25, true), .mov, [.t 7]⟩, []) ::
          (⟨some 32, some (25, true), .bin .sub, [.t 31, .k (.d (.int .i64 1))]⟩, []) ::
          (⟨some 33, some (25, true), .iaddrS 1, [.t 30, .t 32]⟩, []) ::
          (⟨some 34, some (25, true), .load false 1, [.t 33]⟩, []) ::
          (⟨some 35, some (25, true), .bin .sub, [.t 29, .t 34]⟩, []) ::
          (⟨some 36, some (25, true), .call 51, [.t 35]⟩, []) ::
          (⟨some 37, some (25, true), .faddr 2, [.t 3]⟩, []) ::
          (⟨some 38, some (25, true), .load false 1, [.t 37]⟩, [22]) ::
          (⟨some 39, some (25, true), .bin .gtr, [.t 36, .t 38]⟩, []) ::
          (⟨some 40, some (22, false), .pick, [.t 25, .t 39, .k (.d (.bool false))]⟩, []) ::
          (⟨some 41, none, .pick, [.t 22, .k (.d (.bool true)), .t 40]⟩, []) ::
          []) [1, 2, 3, 7, 41])
        (.cond (.t 41)
          (.seq (.reg [] (
            ⟨some 6, none, .mov, [.k (.d (.bool false))]⟩ ::
            []) [6])
          (.ret))
          (.skip))))
      (.reg [] (
        ⟨some 12, none, .mov, [.t 7]⟩ ::
        ⟨some 13, none, .bin .add, [.t 12, .k (.d (.int .i64 1))]⟩ ::
        ⟨some 7, none, .mov, [.t 13]⟩ ::
        []) [1, 2, 3, 7]))))))
  (.seq (.reg [] (
    ⟨some 42, none, .mov, [.t 2]⟩ ::
    ⟨some 43, none, .len false, [.t 42]⟩ ::
    ⟨some 44, none, .mov, [.t 1]⟩ ::
    ⟨some 45, none, .len false, [.t 44]⟩ ::
    ⟨some 46, none, .bin .eql, [.t 43, .t 45]⟩ ::
    ⟨some 6, none, .mov, [.t 46]⟩ ::
    []) [6])
  (.ret)))
theorem dec_ref02_IsPath : Fun E0 F_ref02_IsPath pc_ref02_IsPath [.t 6] 47 := fun_of_dec (fl := []) (by kernel_rfl)
-- platter/platterref02.Agrees (4)
abbrev F_ref02_Agrees : Nat := 23
def pc_ref02_Agrees : PC :=
  .seq (.reg [] (
    ⟨some 4, none, .box, [.t 0]⟩ ::
    ⟨some 5, none, .box, [.t 1]⟩ ::
    ⟨some 8, none, .mov, [.k (.d (.bool false))]⟩ ::
    []) [2, 3, 4, 5])
  (.seq (.seq (.reg [] (
    ⟨some 12, none, .faddr 0, [.t 5]⟩ ::
    ⟨some 13, none, .load false 1, [.t 12]⟩ ::
    ⟨some 14, none, .bin .eql, [.t 13, .k (.d (.int .i64 (-1)))]⟩ ::
    []) [2, 3, 4, 5, 14])
  (.cond (.t 14)
    (.seq (.reg [] (
      ⟨some 8, none, .mov, [.k (.d (.bool true))]⟩ ::
      []) [8])
    (.ret))
    (.skip)))
  (.seq (.reg [] (
    ⟨some 16, none, .faddr 0, [.t 5]⟩ ::
    ⟨some 17, none, .load false 1, [.t 16]⟩ ::
    ⟨some 18, none, .call 27, [.t 17]⟩ ::
    ⟨some 15, none, .mov, [.t 18]⟩ ::
    ⟨some 19, none, .extract 0, [.t 15]⟩ ::
    ⟨some 20, none, .extract 1, [.t 15]⟩ ::
    ⟨some 9, none, .mov, [.t 19]⟩ ::
    ⟨some 10, none, .mov, [.t 20]⟩ ::
    []) [2, 3, 4, 5, 9])
  (.seq (.reg [] (
    ⟨some 21, none, .mov, [.t 3]⟩ ::
    ⟨some 22, none, .load true 6, [.t 4]⟩ ::
    ⟨some 23, none, .mov, [.t 9]⟩ ::
    ⟨some 24, none, .mov, [.t 2]⟩ ::
    ⟨some 25, none, .call 17, [.t 22, .t 23, .t 24]⟩ ::
    ⟨some 26, none, .bin .sub, [.t 21, .t 25]⟩ ::
    ⟨some 11, none, .mov, [.t 26]⟩ ::
    []) [4, 5, 9, 11])
  (.seq (.draw [] (
    (⟨some 27, none, .mov, [.t 9]⟩, []) ::
    (⟨some 28, none, .faddr 0, [.t 4]⟩, []) ::
    (⟨some 29, none, .load false 1, [.t 28]⟩, []) ::
    (⟨some 30, none, .bin .lss, [.t 27, .t 29]⟩, []) ::
    (⟨some 31, none, .mov, [.t 30]⟩, []) ::
    (⟨some 32, some (31, true), .mov, [.t 11]⟩, []) ::
    (⟨some 33, some (31, true), .call 51, [.t 32]⟩, []) ::
    (⟨some 34, some (31, true), .bin .mul, [.k (.d (.int .i64 2)), .t 33]⟩, []) ::
    (⟨some 35, some (31, true), .faddr 1, [.t 4]⟩, []) ::
    (⟨some 36, some (31, true), .load false 1, [.t 35]⟩, [6]) ::
    (⟨some 37, some (31, true), .bin .leq, [.t 34, .t 36]⟩, []) ::
    (⟨some 38, none, .pick, [.t 31, .t 37, .k (.d (.bool false))]⟩, []) ::
    (⟨some 39, none, .mov, [.t 38]⟩, []) ::
    (⟨some 40, some (39, true), .faddr 1, [.t 5]⟩, []) ::
    (⟨some 41, some (39, true), .load false 1, [.t 40]⟩, []) ::
    (⟨some 42, some (39, true), .mov, [.t 11]⟩, []) ::
    (⟨some 43, some (39, true), .bin .sub, [.t 41, .t 42]⟩, []) ::
    (⟨some 44, some (39, true), .call 51, [.t 43]⟩, []) ::
    (⟨some 45, some (39, true), .faddr 3, [.t 4]⟩, []) ::
    (⟨some 46, some (39, true), .load false 1, [.t 45]⟩, [17]) ::
    (⟨some 47, some (39, true), .bin .leq, [.t 44, .t 46]⟩, []) ::
    (⟨some 48, none, .pick, [.t 39, .t 47, .k (.d (.bool false))]⟩, []) ::
    (⟨some 8, none, .mov, [.t 48]⟩, []) ::
    []) [8])
  (.ret)))))
theorem dec_ref02_Agrees : Fun E0 F_ref02_Agrees pc_ref02_Agrees [.t 8] 49 := fun_of_dec (fl := []) (by kernel_rfl)
-- platter/servo.Gray (1)
abbrev F_servo_Gray : Nat := 24
def pc_servo_Gray : PC :=
  .seq (.reg [] (
    ⟨some 2, none, .mov, [.k (.d (.int .i64 0))]⟩ ::
    ⟨some 3, none, .mov, [.k (.d (.int .i64 0))]⟩ ::
    []) [0])
  (.seq (.seq (.reg [] (
    ⟨some 4, none, .mov, [.t 0]⟩ ::
    ⟨some 5, none, .call 47, [.t 4, .k (.d (.int .i64 0)), .k (.d (.int .i64 127))]⟩ ::
    ⟨some 6, none, .un .not, [.t 5]⟩ ::
    []) [0, 6])
  (.cond (.t 6)
    (.seq (.reg [] (
      ⟨some 2, none, .mov, [.k (.d (.int .i64 0))]⟩ ::
      ⟨some 3, none, .mov, [.k (.d (.int .i64 1))]⟩ ::
      []) [2, 3])
    (.ret))
    (.skip)))
  (.seq (.reg [] (
    ⟨some 7, none, .mov, [.t 0]⟩ ::
    ⟨some 8, none, .call 52, [.t 7]⟩ ::
    ⟨some 2, none, .mov, [.t 8]⟩ ::
    ⟨some 3, none, .mov, [.k (.d (.int .i64 0))]⟩ ::
    []) [2, 3])
  (.ret)))
theorem dec_servo_Gray : Fun E0 F_servo_Gray pc_servo_Gray [.t 2, .t 3] 9 := fun_of_dec (fl := []) (by kernel_rfl)
-- platter/servo.Track (1)
abbrev F_servo_Track : Nat := 25
def pc_servo_Track : PC :=
  .seq (.reg [] (
    ⟨some 2, none, .mov, [.k (.d (.int .i64 0))]⟩ ::
    ⟨some 3, none, .mov, [.k (.d (.int .i64 0))]⟩ ::
    []) [0])
  (.seq (.seq (.reg [] (
    ⟨some 4, none, .mov, [.t 0]⟩ ::
    ⟨some 5, none, .call 47, [.t 4, .k (.d (.int .i64 0)), .k (.d (.int .i64 127))]⟩ ::
    ⟨some 6, none, .un .not, [.t 5]⟩ ::
    []) [0, 6])
  (.cond (.t 6)
    (.seq (.reg [] (
      ⟨some 2, none, .mov, [.k (.d (.int .i64 0))]⟩ ::
      ⟨some 3, none, .mov, [.k (.d (.int .i64 1))]⟩ ::
      []) [2, 3])
    (.ret))
    (.skip)))
  (.seq (.reg [] (
    ⟨some 7, none, .mov, [.t 0]⟩ ::
    ⟨some 8, none, .call 53, [.t 7]⟩ ::
    ⟨some 2, none, .mov, [.t 8]⟩ ::
    ⟨some 3, none, .mov, [.k (.d (.int .i64 0))]⟩ ::
    []) [2, 3])
  (.ret)))
theorem dec_servo_Track : Fun E0 F_servo_Track pc_servo_Track [.t 2, .t 3] 9 := fun_of_dec (fl := []) (by kernel_rfl)
-- platter/platterref02.Gray (1)
abbrev F_ref02_Gray : Nat := 26
def pc_ref02_Gray : PC :=
  .seq (.reg [] (
    ⟨some 2, none, .mov, [.k (.d (.int .i64 0))]⟩ ::
    ⟨some 3, none, .mov, [.k (.d (.int .i64 0))]⟩ ::
    []) [0])
  (.seq (.seq (.reg [] (
    ⟨some 4, none, .mov, [.t 0]⟩ ::
    ⟨some 5, none, .call 50, [.t 4, .k (.d (.int .i64 0)), .k (.d (.int .i64 127))]⟩ ::
    ⟨some 6, none, .un .not, [.t 5]⟩ ::
    []) [0, 6])
  (.cond (.t 6)
    (.seq (.reg [] (
      ⟨some 2, none, .mov, [.k (.d (.int .i64 0))]⟩ ::
      ⟨some 3, none, .mov, [.k (.d (.int .i64 1))]⟩ ::
      []) [2, 3])
    (.ret))
    (.skip)))
  (.seq (.reg [] (
    ⟨some 7, none, .mov, [.t 0]⟩ ::
    ⟨some 8, none, .call 54, [.t 7]⟩ ::
    ⟨some 2, none, .mov, [.t 8]⟩ ::
    ⟨some 3, none, .mov, [.k (.d (.int .i64 0))]⟩ ::
    []) [2, 3])
  (.ret)))
theorem dec_ref02_Gray : Fun E0 F_ref02_Gray pc_ref02_Gray [.t 2, .t 3] 9 := fun_of_dec (fl := []) (by kernel_rfl)
-- platter/platterref02.Track (1)
abbrev F_ref02_Track : Nat := 27
def pc_ref02_Track : PC :=
  .seq (.reg [] (
    ⟨some 2, none, .mov, [.k (.d (.int .i64 0))]⟩ ::
    ⟨some 3, none, .mov, [.k (.d (.int .i64 0))]⟩ ::
    []) [0])
  (.seq (.seq (.reg [] (
    ⟨some 4, none, .mov, [.k (.d (.int .i64 0))]⟩ ::
    []) [0, 4])
  (.block 0
    (.loop [] [0, 4] [900000, 901000]
      (.seq (.seq (.reg [] (
        ⟨some 5, none, .mov, [.t 4]⟩ ::
        ⟨some 6, none, .bin .lss, [.t 5, .k (.d (.int .i64 128))]⟩ ::
        []) [0, 4, 6])
      (.cond (.t 6)
        (.skip)
        (.exit 0)))
      (.seq (.block 1
        (.seq (.reg [] (
          ⟨some 9, none, .mov, [.t 4]⟩ ::
          ⟨some 10, none, .call 54, [.t 9]⟩ ::
          ⟨some 11, none, .mov, [.t 0]⟩ ::
          ⟨some 12, none, .bin .eql, [.t 10, .t 11]⟩ ::
          []) [0, 4, 12])
        (.cond (.t 12)
          (.seq (.reg [] (
            ⟨some 13, none, .mov, [.t 4]⟩ ::
            ⟨some 2, none, .mov, [.t 13]⟩ ::
            ⟨some 3, none, .mov, [.k (.d (.int .i64 0))]⟩ ::
            []) [2, 3])
          (.ret))
          (.skip))))
      (.reg [] (
        ⟨some 7, none, .mov, [.t 4]⟩ ::
        ⟨some 8, none, .bin .add, [.t 7, .k (.d (.int .i64 1))]⟩ ::
        ⟨some 4, none, .mov, [.t 8]⟩ ::
        []) [0, 4]))))))
  (.seq (.reg [] (
    ⟨some 2, none, .mov, [.k (.d (.int .i64 0))]⟩ ::
    ⟨some 3, none, .mov, [.k (.d (.int .i64 1))]⟩ ::
    []) [2, 3])
  (.ret)))
theorem dec_ref02_Track : Fun E0 F_ref02_Track pc_ref02_Track [.t 2, .t 3] 14 := fun_of_dec (fl := []) (by kernel_rfl)
-- platter/platterlaw02.Far (2)
abbrev F_law02_Far : Nat := 28
def pc_law02_Far : PC :=
  .seq (.reg [] (
    ⟨some 2, none, .box, [.t 0]⟩ ::
    ⟨some 4, none, .mov, [.k (.d (.bool false))]⟩ ::
    []) [1, 2])
  (.seq (.seq (.reg [] (
    ⟨some 5, none, .faddr 5, [.t 2]⟩ ::
    ⟨some 6, none, .load false 1, [.t 5]⟩ ::
    ⟨some 7, none, .len false, [.t 6]⟩ ::
    ⟨some 8, none, .bin .gtr, [.t 7, .k (.d (.int .i64 40))]⟩ ::
    ⟨some 9, none, .mov, [.t 8]⟩ ::
    ⟨some 10, some (9, false), .mov, [.t 1]⟩ ::
    ⟨some 11, some (9, false), .len false, [.t 10]⟩ ::
    ⟨some 12, some (9, false), .bin .gtr, [.t 11, .k (.d (.int .i64 40))]⟩ ::
    ⟨some 13, none, .pick, [.t 9, .k (.d (.bool true)), .t 12]⟩ ::
    ⟨some 14, none, .mov, [.t 13]⟩ ::
    ⟨some 15, some (14, false), .mov, [.t 1]⟩ ::
    ⟨some 16, some (14, false), .len false, [.t 15]⟩ ::
    ⟨some 17, some (14, false), .bin .gtr, [.t 16, .k (.d (.int .i64 8))]⟩ ::
    ⟨some 18, some (14, false), .mov, [.t 17]⟩ ::
    ⟨some 19, some (18, true), .mov, [.t 1]⟩ ::
    ⟨some 20, some (18, true), .len false, [.t 19]⟩ ::
    ⟨some 21, some (18, true), .bin .leq, [.t 20, .k (.d (.int .i64 24))]⟩ ::
    ⟨some 22, some (14, false), .pick, [.t 18, .t 21, .k (.d (.bool false))]⟩ ::
    ⟨some 23, none, .pick, [.t 14, .k (.d (.bool true)), .t 22]⟩ ::
    []) [2, 23])
  (.cond (.t 23)
    (.seq (.reg [] (
      ⟨some 4, none, .mov, [.k (.d (.bool true))]⟩ ::
      []) [4])
    (.ret))
    (.skip)))
  (.seq (.reg [] (
    ⟨some 24, none, .load true 6, [.t 2]⟩ ::
    ⟨some 25, none, .call 55, [.t 24]⟩ ::
    ⟨some 26, none, .mov, [.t 25]⟩ ::
    ⟨some 27, some (26, true), .faddr 0, [.t 2]⟩ ::
    ⟨some 28, some (26, true), .load false 1, [.t 27]⟩ ::
    ⟨some 29, some (26, true), .bin .gtr, [.t 28, .k (.d (.int .i64 8))]⟩ ::
    ⟨some 30, some (26, true), .mov, [.t 29]⟩ ::
    ⟨some 31, some (30, false), .faddr 1, [.t 2]⟩ ::
    ⟨some 32, some (30, false), .load false 1, [.t 31]⟩ ::
    ⟨some 33, some (30, false), .bin .gtr, [.t 32, .k (.d (.int .i64 6))]⟩ ::
    ⟨some 34, some (26, true), .pick, [.t 30, .k (.d (.bool true)), .t 33]⟩ ::
    ⟨some 35, none, .pick, [.t 26, .t 34, .k (.d (.bool false))]⟩ ::
    ⟨some 4, none, .mov, [.t 35]⟩ ::
    []) [4])
  (.ret)))
theorem dec_law02_Far : Fun E0 F_law02_Far pc_law02_Far [.t 4] 36 := fun_of_dec (fl := []) (by kernel_rfl)
abbrev F_ref02_Copy : Nat := 29
-- platter/servo.Check (2)
abbrev F_servo_Check : Nat := 30
def pc_servo_Check : PC :=
  .seq (.reg [] (
    ⟨some 2, none, .box, [.t 0]⟩ ::
    ⟨some 4, none, .mov, [.k (.d (.int .i64 0))]⟩ ::
    []) [1, 2])
  (.seq (.seq (.reg [] (
    ⟨some 6, none, .load true 6, [.t 2]⟩ ::
    ⟨some 7, none, .call 56, [.t 6]⟩ ::
    ⟨some 8, none, .un .not, [.t 7]⟩ ::
    []) [1, 8])
  (.cond (.t 8)
    (.seq (.reg [] (
      ⟨some 4, none, .mov, [.k (.d (.int .i64 20))]⟩ ::
      []) [4])
    (.ret))
    (.skip)))
  (.seq (.reg [] (
    ⟨some 5, none, .zero [.nilfn], []⟩ ::
    ⟨none, none, .store 1, [.t 5, .k (.fn 57 [])]⟩ ::
    []) [1, 5])
  (.seq (.seq (.reg [.frzP 5] (
    ⟨some 9, none, .mov, [.t 1]⟩ ::
    ⟨some 10, none, .len false, [.t 9]⟩ ::
    ⟨some 11, none, .bin .gtr, [.t 10, .k (.d (.int .i64 24))]⟩ ::
    ⟨some 12, none, .mov, [.t 11]⟩ ::
    ⟨some 13, some (12, false), .mov, [.t 1]⟩ ::
    ⟨some 14, some (12, false), .mkfn 59, [.t 5]⟩ ::
    ⟨some 15, some (12, false), .call 58, [.t 13, .t 14]⟩ ::
    ⟨some 16, none, .pick, [.t 12, .k (.d (.bool true)), .t 15]⟩ ::
    []) [16])
  (.cond (.t 16)
    (.seq (.reg [] (
      ⟨some 4, none, .mov, [.k (.d (.int .i64 21))]⟩ ::
      []) [4])
    (.ret))
    (.skip)))
  (.seq (.reg [] (
    ⟨some 4, none, .mov, [.k (.d (.int .i64 0))]⟩ ::
    []) [4])
  (.ret)))))
theorem dec_servo_Check : Fun E0 F_servo_Check pc_servo_Check [.t 4] 17 := fun_of_dec (fl := []) (by kernel_rfl)
-- platter/platterref02.Check (2)
abbrev F_ref02_Check : Nat := 31
def pc_ref02_Check : PC :=
  .seq (.reg [] (
    ⟨some 2, none, .box, [.t 0]⟩ ::
    ⟨some 4, none, .mov, [.k (.d (.int .i64 0))]⟩ ::
    []) [1, 2])
  (.seq (.seq (.reg [] (
    ⟨some 6, none, .load true 6, [.t 2]⟩ ::
    ⟨some 7, none, .call 55, [.t 6]⟩ ::
    ⟨some 8, none, .un .not, [.t 7]⟩ ::
    []) [1, 8])
  (.cond (.t 8)
    (.seq (.reg [] (
      ⟨some 4, none, .mov, [.k (.d (.int .i64 20))]⟩ ::
      []) [4])
    (.ret))
    (.skip)))
  (.seq (.seq (.reg [] (
    ⟨some 9, none, .mov, [.t 1]⟩ ::
    ⟨some 10, none, .len false, [.t 9]⟩ ::
    ⟨some 11, none, .bin .gtr, [.t 10, .k (.d (.int .i64 24))]⟩ ::
    []) [1, 11])
  (.cond (.t 11)
    (.seq (.reg [] (
      ⟨some 4, none, .mov, [.k (.d (.int .i64 21))]⟩ ::
      []) [4])
    (.ret))
    (.skip)))
  (.seq (.seq (.reg [] (
    ⟨some 5, none, .mov, [.k (.d (.int .i64 0))]⟩ ::
    []) [1, 5])
  (.block 0
    (.loop [] [1, 5] [900001, 901001]
      (.seq (.seq (.reg [] (
        ⟨some 12, none, .mov, [.t 5]⟩ ::
        ⟨some 13, none, .mov, [.t 1]⟩ ::
        ⟨some 14, none, .len false, [.t 13]⟩ ::
        ⟨some 15, none, .bin .lss, [.t 12, .t 14]⟩ ::
        []) [1, 5, 15])
      (.cond (.t 15)
        (.skip)
        (.exit 0)))
      (.seq (.block 1
        (.seq (.reg [] (
          ⟨some 18, none, .mov, [.t 1]⟩ ::
          ⟨some 19, none, .mov, [.t 5]⟩ ::
          ⟨some 20, none, .iaddrS 2, [.t 18, .t 19]⟩ ::
          ⟨some 21, none, .faddr 0, [.t 20]⟩ ::
          ⟨some 22, none, .load false 1, [.t 21]⟩ ::
          ⟨some 23, none, .call 50, [.t 22, .k (.d (.int .i64 (-1))), .k (.d (.int .i64 127))]⟩ ::
          ⟨some 24, none, .un .not, [.t 23]⟩ ::
          ⟨some 25, none, .mov, [.t 24]⟩ ::
          ⟨some 26, some (25, false), .mov, [.t 1]⟩ ::
          ⟨some 27, some (25, false), .mov, [.t 5]⟩ ::
          ⟨some 28, some (25, false), .iaddrS 2, [.t 26, .t 27]⟩ ::
          ⟨some 29, some (25, false), .faddr 1, [.t 28]⟩ ::
          ⟨some 30, some (25, false), .load false 1, [.t 29]⟩ ::
          ⟨some 31, some (25, false), .call 50, [.t 30, .k (.d (.int .i64 (-100))), .k (.d (.int .i64 100))]⟩ ::
          ⟨some 32, some (25, false), .un .not, [.t 31]⟩ ::
          ⟨some 33, none, .pick, [.t 25, .k (.d (.bool true)), .t 32]⟩ ::
          []) [1, 5, 33])
        (.cond (.t 33)
          (.seq (.reg [] (
            ⟨some 4, none, .mov, [.k (.d (.int .i64 21))]⟩ ::
            []) [4])
          (.ret))
          (.skip))))
      (.reg [] (
        ⟨some 16, none, .mov, [.t 5]⟩ ::
        ⟨some 17, none, .bin .add, [.t 16, .k (.d (.int .i64 1))]⟩ ::
        ⟨some 5, none, .mov, [.t 17]⟩ ::
        []) [1, 5]))))))
  (.seq (.reg [] (
    ⟨some 4, none, .mov, [.k (.d (.int .i64 0))]⟩ ::
    []) [4])
  (.ret)))))
theorem dec_ref02_Check : Fun E0 F_ref02_Check pc_ref02_Check [.t 4] 34 := fun_of_dec (fl := []) (by kernel_rfl)
abbrev F_ref02_Where : Nat := 32
abbrev F_ref02_Ahead : Nat := 33
-- platter/servo.Fewest (2)
abbrev F_servo_Fewest : Nat := 34
def pc_servo_Fewest : PC :=
  .seq (.reg [] (
    ⟨some 2, none, .box, [.t 0]⟩ ::
    ⟨some 4, none, .mov, [.k (.d (.int .i64 0))]⟩ ::
    ⟨some 5, none, .mov, [.k (.d (.int .i64 0))]⟩ ::
    []) [1, 2])
  (.seq (.reg [] (
    ⟨some 9, none, .load true 6, [.t 2]⟩ ::
    ⟨some 10, none, .mov, [.t 1]⟩ ::
    ⟨some 11, none, .call 63, [.t 9, .t 10]⟩ ::
    ⟨some 8, none, .mov, [.t 11]⟩ ::
    ⟨some 12, none, .extract 0, [.t 8]⟩ ::
    ⟨some 13, none, .extract 1, [.t 8]⟩ ::
    ⟨some 6, none, .mov, [.t 12]⟩ ::
    ⟨some 7, none, .mov, [.t 13]⟩ ::
    []) [6, 7])
  (.seq (.seq (.reg [] (
    ⟨some 14, none, .mov, [.t 7]⟩ ::
    ⟨some 15, none, .bin .neq, [.t 14, .k (.d (.int .i64 0))]⟩ ::
    []) [6, 7, 15])
  (.cond (.t 15)
    (.seq (.reg [] (
      ⟨some 16, none, .mov, [.t 7]⟩ ::
      ⟨some 4, none, .mov, [.k (.d (.int .i64 0))]⟩ ::
      ⟨some 5, none, .mov, [.t 16]⟩ ::
      []) [4, 5])
    (.ret))
    (.skip)))
  (.seq (.reg [] (
    ⟨some 17, none, .mov, [.t 6]⟩ ::
    ⟨some 18, none, .call 65, [.t 17]⟩ ::
    ⟨some 19, none, .call 64, [.t 18]⟩ ::
    ⟨some 4, none, .mov, [.t 19]⟩ ::
    ⟨some 5, none, .mov, [.k (.d (.int .i64 0))]⟩ ::
    []) [4, 5])
  (.ret))))
theorem dec_servo_Fewest : Fun E0 F_servo_Fewest pc_servo_Fewest [.t 4, .t 5] 20 := fun_of_dec (fl := []) (by kernel_rfl)
abbrev F_ref02_Fewest : Nat := 35
-- platter/platterlaw02.sameInts (2)
abbrev F_law02_sameInts : Nat := 36
def pc_law02_sameInts : PC :=
  .seq (.reg [] (
    ⟨some 4, none, .mov, [.k (.d (.bool false))]⟩ ::
    []) [0, 1])
  (.seq (.seq (.reg [] (
    ⟨some 6, none, .mov, [.t 0]⟩ ::
    ⟨some 7, none, .len false, [.t 6]⟩ ::
    ⟨some 8, none, .mov, [.t 1]⟩ ::
    ⟨some 9, none, .len false, [.t 8]⟩ ::
    ⟨some 10, none, .bin .neq, [.t 7, .t 9]⟩ ::
    []) [0, 1, 10])
  (.cond (.t 10)
    (.seq (.reg [] (
      ⟨some 4, none, .mov, [.k (.d (.bool false))]⟩ ::
      []) [4])
    (.ret))
    (.skip)))
  (.seq (.seq (.reg [] (
    ⟨some 5, none, .mov, [.k (.d (.int .i64 0))]⟩ ::
    []) [0, 1, 5])
  (.block 0
    (.loop [] [0, 1, 5] [900000, 900001, 901000, 901001]
      (.seq (.seq (.reg [] (
        ⟨some 11, none, .mov, [.t 5]⟩ ::
        ⟨some 12, none, .mov, [.t 0]⟩ ::
        ⟨some 13, none, .len false, [.t 12]⟩ ::
        ⟨some 14, none, .bin .lss, [.t 11, .t 13]⟩ ::
        []) [0, 1, 5, 14])
      (.cond (.t 14)
        (.skip)
        (.exit 0)))
      (.seq (.block 1
        (.seq (.draw [] (
          (⟨some 17, none, .mov, [.t 0]⟩, []) ::
          (⟨some 18, none, .mov, [.t 5]⟩, []) ::
          (⟨some 19, none, .iaddrS 1, [.t 17, .t 18]⟩, []) ::
          (⟨some 20, none, .load false 1, [.t 19]⟩, []) ::
          (⟨some 21, none, .mov, [.t 1]⟩, []) ::
          (⟨some 22, none, .mov, [.t 5]⟩, []) ::
          (⟨some 23, none, .iaddrS 1, [.t 21, .t 22]⟩, []) ::
          (⟨some 24, none, .load false 1, [.t 23]⟩, []) ::
          (⟨some 25, none, .bin .neq, [.t 20, .t 24]⟩, []) ::
          []) [0, 1, 5, 25])
        (.cond (.t 25)
          (.seq (.reg [] (
            ⟨some 4, none, .mov, [.k (.d (.bool false))]⟩ ::
            []) [4])
          (.ret))
          (.skip))))
      (.reg [] (
        ⟨some 15, none, .mov, [.t 5]⟩ ::
        ⟨some 16, none, .bin .add, [.t 15, .k (.d (.int .i64 1))]⟩ ::
        ⟨some 5, none, .mov, [.t 16]⟩ ::
        []) [0, 1, 5]))))))
  (.seq (.reg [] (
    ⟨some 4, none, .mov, [.k (.d (.bool true))]⟩ ::
    []) [4])
  (.ret))))
theorem dec_law02_sameInts : Fun E0 F_law02_sameInts pc_law02_sameInts [.t 4] 26 := fun_of_dec (fl := []) (by kernel_rfl)
-- platter/platterref02.Last (1)
abbrev F_ref02_Last : Nat := 37
def pc_ref02_Last : PC :=
  .seq (.reg [] (
    ⟨some 1, none, .box, [.t 0]⟩ ::
    ⟨some 2, none, .mov, [.k (.d (.int .i64 0))]⟩ ::
    []) [1])
  (.seq (.reg [] (
    ⟨some 3, none, .faddr 1, [.t 1]⟩ ::
    ⟨some 4, none, .load false 1, [.t 3]⟩ ::
    ⟨some 5, none, .faddr 0, [.t 1]⟩ ::
    ⟨some 6, none, .load false 1, [.t 5]⟩ ::
    ⟨some 7, none, .bin .sub, [.t 6, .k (.d (.int .i64 1))]⟩ ::
    ⟨some 8, none, .bin .mul, [.t 4, .t 7]⟩ ::
    ⟨some 2, none, .mov, [.t 8]⟩ ::
    []) [2])
  (.ret))
theorem dec_ref02_Last : Fun E0 F_ref02_Last pc_ref02_Last [.t 2] 9 := fun_of_dec (fl := []) (by kernel_rfl)
abbrev F_servo_Trace : Nat := 38
-- platter/platterlaw02.in (2)
abbrev F_law02_in : Nat := 39
def pc_law02_in : PC :=
  .seq (.reg [] (
    ⟨some 4, none, .mov, [.k (.d (.bool false))]⟩ ::
    []) [0, 1])
  (.seq (.seq (.reg [] (
    ⟨some 5, none, .mov, [.k (.d (.int .i64 0))]⟩ ::
    []) [0, 1, 5])
  (.block 0
    (.loop [] [0, 1, 5] [900000, 900001, 901000, 901001]
      (.seq (.seq (.reg [] (
        ⟨some 6, none, .mov, [.t 5]⟩ ::
        ⟨some 7, none, .mov, [.t 0]⟩ ::
        ⟨some 8, none, .len false, [.t 7]⟩ ::
        ⟨some 9, none, .bin .lss, [.t 6, .t 8]⟩ ::
        []) [0, 1, 5, 9])
      (.cond (.t 9)
        (.skip)
        (.exit 0)))
      (.seq (.block 1
        (.seq (.reg [] (
          ⟨some 12, none, .mov, [.t 1]⟩ ::
          ⟨some 13, none, .mov, [.t 0]⟩ ::
          ⟨some 14, none, .mov, [.t 5]⟩ ::
          ⟨some 15, none, .iaddrS 2, [.t 13, .t 14]⟩ ::
          ⟨some 16, none, .faddr 0, [.t 15]⟩ ::
          ⟨some 17, none, .load false 1, [.t 16]⟩ ::
          ⟨some 18, none, .bin .geq, [.t 12, .t 17]⟩ ::
          ⟨some 19, none, .mov, [.t 18]⟩ ::
          ⟨some 20, some (19, true), .mov, [.t 1]⟩ ::
          ⟨some 21, some (19, true), .mov, [.t 0]⟩ ::
          ⟨some 22, some (19, true), .mov, [.t 5]⟩ ::
          ⟨some 23, some (19, true), .iaddrS 2, [.t 21, .t 22]⟩ ::
          ⟨some 24, some (19, true), .faddr 1, [.t 23]⟩ ::
          ⟨some 25, some (19, true), .load false 1, [.t 24]⟩ ::
          ⟨some 26, some (19, true), .bin .leq, [.t 20, .t 25]⟩ ::
          ⟨some 27, none, .pick, [.t 19, .t 26, .k (.d (.bool false))]⟩ ::
          []) [0, 1, 5, 27])
        (.cond (.t 27)
          (.seq (.reg [] (
            ⟨some 4, none, .mov, [.k (.d (.bool true))]⟩ ::
            []) [4])
          (.ret))
          (.skip))))
      (.reg [] (
        ⟨some 10, none, .mov, [.t 5]⟩ ::
        ⟨some 11, none, .bin .add, [.t 10, .k (.d (.int .i64 1))]⟩ ::
        ⟨some 5, none, .mov, [.t 11]⟩ ::
        []) [0, 1, 5]))))))
  (.seq (.reg [] (
    ⟨some 4, none, .mov, [.k (.d (.bool false))]⟩ ::
    []) [4])
  (.ret)))
theorem dec_law02_in : Fun E0 F_law02_in pc_law02_in [.t 4] 28 := fun_of_dec (fl := []) (by kernel_rfl)
-- platter/platterref02.Misread (3)
abbrev F_ref02_Misread : Nat := 40
def pc_ref02_Misread : PC :=
  .seq (.reg [] (
    ⟨some 3, none, .box, [.t 0]⟩ ::
    ⟨some 6, none, .mov, [.k (.d (.int .i64 0))]⟩ ::
    []) [1, 2, 3])
  (.seq (.reg [] (
    ⟨some 7, none, .mov, [.k (.d (.int .i64 0))]⟩ ::
    []) [1, 2, 3, 7])
  (.seq (.seq (.reg [] (
    ⟨some 8, none, .mov, [.k (.d (.int .i64 0))]⟩ ::
    []) [1, 2, 3, 7, 8])
  (.block 0
    (.loop [] [1, 2, 3, 7, 8] [3, 900000, 900001, 900002, 901000, 901001, 901002]
      (.seq (.seq (.reg [] (
        ⟨some 9, none, .mov, [.t 8]⟩ ::
        ⟨some 10, none, .mov, [.t 2]⟩ ::
        ⟨some 11, none, .len false, [.t 10]⟩ ::
        ⟨some 12, none, .bin .lss, [.t 9, .t 11]⟩ ::
        []) [1, 2, 3, 7, 8, 12])
      (.cond (.t 12)
        (.skip)
        (.exit 0)))
      (.seq (.block 1
        (.seq (.draw [] (
          (⟨some 15, none, .load true 6, [.t 3]⟩, []) ::
          (⟨some 16, none, .mov, [.t 1]⟩, []) ::
          (⟨some 17, none, .mov, [.t 8]⟩, []) ::
          (⟨some 18, none, .iaddrS 2, [.t 16, .t 17]⟩, []) ::
          (⟨some 19, none, .load true 2, [.t 18]⟩, []) ::
          (⟨some 20, none, .mov, [.t 8]⟩, []) ::
          (⟨some 21, none, .mov, [.t 2]⟩, []) ::
          (⟨some 22, none, .mov, [.t 8]⟩, []) ::
          (⟨some 23, none, .iaddrS 1, [.t 21, .t 22]⟩, []) ::
          (⟨some 24, none, .load false 1, [.t 23]⟩, []) ::
          (⟨some 25, none, .call 23, [.t 15, .t 19, .t 20, .t 24]⟩, []) ::
          (⟨some 26, none, .un .not, [.t 25]⟩, []) ::
          []) [1, 2, 3, 7, 8, 26])
        (.cond (.t 26)
          (.reg [] (
            ⟨some 27, none, .mov, [.t 7]⟩ ::
            ⟨some 28, none, .bin .add, [.t 27, .k (.d (.int .i64 1))]⟩ ::
            ⟨some 7, none, .mov, [.t 28]⟩ ::
            []) [1, 2, 3, 7, 8])
          (.skip))))
      (.reg [] (
        ⟨some 13, none, .mov, [.t 8]⟩ ::
        ⟨some 14, none, .bin .add, [.t 13, .k (.d (.int .i64 1))]⟩ ::
        ⟨some 8, none, .mov, [.t 14]⟩ ::
        []) [1, 2, 3, 7, 8]))))))
  (.seq (.reg [] (
    ⟨some 29, none, .mov, [.t 7]⟩ ::
    ⟨some 6, none, .mov, [.t 29]⟩ ::
    []) [6])
  (.ret))))
theorem dec_ref02_Misread : Fun E0 F_ref02_Misread pc_ref02_Misread [.t 6] 30 := fun_of_dec (fl := []) (by kernel_rfl)
abbrev F_ref02_CheckTrace : Nat := 41
abbrev F_ref02_Gate : Nat := 42
abbrev F_servo_Blame : Nat := 43
abbrev F_ref02_Blame : Nat := 44
-- platter/platterlaw02.Example (0)
abbrev F_law02_Example : Nat := 45
def pc_law02_Example : PC :=
  .seq (.reg [] (
    ⟨some 0, none, .zero [.int .i64 0, .int .i64 0, .int .i64 0, .int .i64 0, .int .i64 0, .list true []], []⟩ ::
    ⟨some 1, none, .mov, [.k (.d (.list true []))]⟩ ::
    []) [0])
  (.seq (.reg [] (
    ⟨some 2, none, .mkrow 1 (.int .i64 0) 2 [0, 1], [.k (.d (.int .i64 0)), .k (.d (.int .i64 1))]⟩ ::
    ⟨some 3, none, .build [.int .i64 0, .int .i64 0, .int .i64 0, .int .i64 0, .int .i64 0, .list true []] [(0, 1), (1, 1), (2, 1), (3, 1), (5, 1)], [.k (.d (.int .i64 4)), .k (.d (.int .i64 4)), .k (.d (.int .i64 2)), .k (.d (.int .i64 1)), .t 2]⟩ ::
    ⟨some 4, none, .build [.int .i64 0, .int .i64 0] [(0, 1)], [.k (.d (.int .i64 1))]⟩ ::
    ⟨some 5, none, .build [.int .i64 0, .int .i64 0] [(0, 1), (1, 1)], [.k (.d (.int .i64 1)), .k (.d (.int .i64 1))]⟩ ::
    ⟨some 6, none, .build [.int .i64 0, .int .i64 0] [(0, 1), (1, 1)], [.k (.d (.int .i64 3)), .k (.d (.int .i64 (-1)))]⟩ ::
    ⟨some 7, none, .mkrowO 46 2 (.agg [.int .i64 0, .int .i64 0]) 3 [0, 1, 2], [.t 4, .t 5, .t 6]⟩ ::
    ⟨none, none, .store 6, [.t 0, .t 3]⟩ ::
    ⟨some 1, none, .mov, [.t 7]⟩ ::
    []) [0, 1])
  (.ret))
theorem dec_law02_Example : Fun E0 F_law02_Example pc_law02_Example [.c 0 24 true 6, .t 1] 8 := fun_of_dec (fl := []) (by kernel_rfl)
-- platter/servo.known (3)
abbrev F_servo_known : Nat := 46
def pc_servo_known : PC :=
  .seq (.reg [] (
    ⟨some 3, none, .box, [.t 0]⟩ ::
    ⟨some 6, none, .mov, [.k (.d (.nilptr))]⟩ ::
    ⟨some 7, none, .mov, [.k (.d (.int .i64 0))]⟩ ::
    []) [1, 2, 3])
  (.seq (.reg [] (
    ⟨some 11, none, .load true 6, [.t 3]⟩ ::
    ⟨some 12, none, .mov, [.t 1]⟩ ::
    ⟨some 13, none, .call 63, [.t 11, .t 12]⟩ ::
    ⟨some 10, none, .mov, [.t 13]⟩ ::
    ⟨some 14, none, .extract 0, [.t 10]⟩ ::
    ⟨some 15, none, .extract 1, [.t 10]⟩ ::
    ⟨some 8, none, .mov, [.t 14]⟩ ::
    ⟨some 9, none, .mov, [.t 15]⟩ ::
    []) [2, 8, 9])
  (.seq (.block 0
    (.seq (.reg [] (
      ⟨some 17, none, .mov, [.t 9]⟩ ::
      ⟨some 18, none, .bin .neq, [.t 17, .k (.d (.int .i64 0))]⟩ ::
      ⟨some 16, none, .mov, [.t 18]⟩ ::
      []) [2, 8, 9, 16])
    (.cond (.t 16)
      (.seq (.reg [] (
        ⟨some 19, none, .mov, [.t 9]⟩ ::
        ⟨some 6, none, .mov, [.k (.d (.nilptr))]⟩ ::
        ⟨some 7, none, .mov, [.t 19]⟩ ::
        []) [6, 7])
      (.ret))
      (.seq (.reg [] (
        ⟨some 21, none, .mov, [.t 2]⟩ ::
        ⟨some 22, none, .un .not, [.t 21]⟩ ::
        ⟨some 20, none, .mov, [.t 22]⟩ ::
        []) [8, 20])
      (.cond (.t 20)
        (.seq (.reg [] (
          ⟨some 6, none, .mov, [.k (.d (.nilptr))]⟩ ::
          ⟨some 7, none, .mov, [.k (.d (.int .i64 1))]⟩ ::
          []) [6, 7])
        (.ret))
        (.seq (.draw [] (
          (⟨some 24, none, .mov, [.t 8]⟩, []) ::
          (⟨some 25, none, .call 65, [.t 24]⟩, []) ::
          (⟨some 26, none, .call 64, [.t 25]⟩, []) ::
          (⟨some 27, none, .mov, [.t 8]⟩, []) ::
          (⟨some 28, none, .nilck, [.t 27]⟩, []) ::
          (⟨some 29, none, .faddr 0, [.t 28]⟩, []) ::
          (⟨some 30, none, .faddr 4, [.t 29]⟩, []) ::
          (⟨some 31, none, .load false 1, [.t 30]⟩, [1, 2]) ::
          (⟨some 32, none, .bin .gtr, [.t 26, .t 31]⟩, []) ::
          (⟨some 23, none, .mov, [.t 32]⟩, []) ::
          []) [8, 23])
        (.cond (.t 23)
          (.seq (.reg [] (
            ⟨some 6, none, .mov, [.k (.d (.nilptr))]⟩ ::
            ⟨some 7, none, .mov, [.k (.d (.int .i64 3))]⟩ ::
            []) [6, 7])
          (.ret))
          (.skip))))))))
  (.seq (.reg [] (
    ⟨some 33, none, .mov, [.t 8]⟩ ::
    ⟨some 6, none, .mov, [.t 33]⟩ ::
    ⟨some 7, none, .mov, [.k (.d (.int .i64 0))]⟩ ::
    []) [6, 7])
  (.ret))))
theorem dec_servo_known : Fun E0 F_servo_known pc_servo_known [.t 6, .t 7] 34 := fun_of_dec (fl := []) (by kernel_rfl)
-- platter/servo.within (3)
abbrev F_servo_within : Nat := 47
def pc_servo_within : PC :=
  .seq (.reg [] (
    ⟨some 6, none, .mov, [.k (.d (.bool false))]⟩ ::
    []) [0, 1, 2])
  (.seq (.reg [] (
    ⟨some 7, none, .mov, [.t 1]⟩ ::
    ⟨some 8, none, .mov, [.t 0]⟩ ::
    ⟨some 9, none, .bin .leq, [.t 7, .t 8]⟩ ::
    ⟨some 10, none, .mov, [.t 9]⟩ ::
    ⟨some 11, some (10, true), .mov, [.t 0]⟩ ::
    ⟨some 12, some (10, true), .mov, [.t 2]⟩ ::
    ⟨some 13, some (10, true), .bin .leq, [.t 11, .t 12]⟩ ::
    ⟨some 14, none, .pick, [.t 10, .t 13, .k (.d (.bool false))]⟩ ::
    ⟨some 6, none, .mov, [.t 14]⟩ ::
    []) [6])
  (.ret))
theorem dec_servo_within : Fun E0 F_servo_within pc_servo_within [.t 6] 15 := fun_of_dec (fl := []) (by kernel_rfl)
-- (*platter/servo.head).lies (3)
abbrev F_servo_head_lies : Nat := 48
def pc_servo_head_lies : PC :=
  .seq (.reg [] (
    ⟨some 6, none, .mov, [.k (.d (.int .i64 0))]⟩ ::
    []) [0, 1, 2])
  (.seq (.draw [] (
    (⟨some 7, none, .mov, [.t 1]⟩, []) ::
    (⟨some 8, none, .mov, [.t 0]⟩, []) ::
    (⟨some 9, none, .nilck, [.t 8]⟩, []) ::
    (⟨some 10, none, .faddr 0, [.t 9]⟩, []) ::
    (⟨some 11, none, .faddr 1, [.t 10]⟩, []) ::
    (⟨some 12, none, .load false 1, [.t 11]⟩, []) ::
    (⟨some 13, none, .bin .mul, [.t 7, .t 12]⟩, []) ::
    (⟨some 14, none, .mov, [.t 0]⟩, []) ::
    (⟨some 15, none, .nilck, [.t 14]⟩, []) ::
    (⟨some 16, none, .faddr 0, [.t 15]⟩, []) ::
    (⟨some 17, none, .faddr 5, [.t 16]⟩, []) ::
    (⟨some 18, none, .load false 1, [.t 17]⟩, []) ::
    (⟨some 19, none, .mov, [.t 2]⟩, []) ::
    (⟨some 20, none, .mov, [.t 0]⟩, []) ::
    (⟨some 21, none, .nilck, [.t 20]⟩, []) ::
    (⟨some 22, none, .faddr 0, [.t 21]⟩, []) ::
    (⟨some 23, none, .faddr 5, [.t 22]⟩, []) ::
    (⟨some 24, none, .load false 1, [.t 23]⟩, []) ::
    (⟨some 25, none, .len false, [.t 24]⟩, []) ::
    (⟨some 26, none, .bin .rem, [.t 19, .t 25]⟩, []) ::
    (⟨some 27, none, .iaddrS 1, [.t 18, .t 26]⟩, []) ::
    (⟨some 28, none, .load false 1, [.t 27]⟩, []) ::
    (⟨some 29, none, .bin .add, [.t 13, .t 28]⟩, []) ::
    (⟨some 6, none, .mov, [.t 29]⟩, []) ::
    []) [6])
  (.ret))
theorem dec_servo_head_lies : Fun E0 F_servo_head_lies pc_servo_head_lies [.t 6] 30 := fun_of_dec (fl := []) (by kernel_rfl)
-- (*platter/servo.head).later (2)
abbrev F_servo_head_later : Nat := 49
def pc_servo_head_later : PC :=
  .seq (.reg [] (
    ⟨some 4, none, .mov, [.k (.d (.list true []))]⟩ ::
    []) [0, 1])
  (.seq (.reg [] (
    ⟨some 5, none, .mov, [.k (.d (.list true []))]⟩ ::
    []) [0, 1, 5])
  (.seq (.seq (.reg [] (
    ⟨some 9, none, .mov, [.t 0]⟩ ::
    ⟨some 10, none, .call 71, [.t 9]⟩ ::
    ⟨some 11, none, .len false, [.t 10]⟩ ::
    ⟨some 12, none, .mov, [.k (.d (.int .i64 0))]⟩ ::
    []) [0, 1, 5, 10, 11, 12])
  (.block 0
    (.loop [.own 5 74 54 2] [0, 1, 5, 10, 11, 12] [10, 74, 10010, 900000, 900001, 901000, 901001]
      (.seq (.reg [] (
        ⟨some 13, none, .bin .lss, [.t 12, .t 11]⟩ ::
        []) [0, 1, 5, 10, 11, 12, 13])
      (.seq (.cond (.t 13)
        (.skip)
        (.exit 0))
      (.seq (.block 1
        (.seq (.reg [] (
          ⟨some 14, none, .iaddrS 2, [.t 10, .t 12]⟩ ::
          ⟨some 15, none, .load true 2, [.t 14]⟩ ::
          ⟨some 7, none, .zero [.int .i64 0, .int .i64 0], []⟩ ::
          ⟨none, none, .store 2, [.t 7, .t 15]⟩ ::
          []) [0, 1, 5, 7, 10, 11, 12])
        (.seq (.draw [] (
          (⟨some 16, none, .faddr 0, [.t 7]⟩, []) ::
          (⟨some 17, none, .load false 1, [.t 16]⟩, []) ::
          (⟨some 18, none, .mov, [.t 1]⟩, []) ::
          (⟨some 19, none, .mov, [.t 0]⟩, []) ::
          (⟨some 20, none, .nilck, [.t 19]⟩, []) ::
          (⟨some 21, none, .faddr 0, [.t 20]⟩, []) ::
          (⟨some 22, none, .faddr 2, [.t 21]⟩, []) ::
          (⟨some 23, none, .load false 1, [.t 22]⟩, []) ::
          (⟨some 24, none, .bin .mul, [.t 18, .t 23]⟩, []) ::
          (⟨some 25, none, .bin .sub, [.t 17, .t 24]⟩, []) ::
          (⟨some 26, none, .minmax true, [.k (.d (.int .i64 0)), .t 25]⟩, []) ::
          (⟨some 27, none, .mov, [.t 0]⟩, []) ::
          (⟨some 28, none, .nilck, [.t 27]⟩, []) ::
          (⟨some 29, none, .faddr 7, [.t 28]⟩, []) ::
          (⟨some 30, none, .load false 1, [.t 29]⟩, []) ::
          (⟨some 31, none, .faddr 1, [.t 7]⟩, []) ::
          (⟨some 32, none, .load false 1, [.t 31]⟩, []) ::
          (⟨some 33, none, .mov, [.t 1]⟩, []) ::
          (⟨some 34, none, .mov, [.t 0]⟩, []) ::
          (⟨some 35, none, .nilck, [.t 34]⟩, []) ::
          (⟨some 36, none, .faddr 0, [.t 35]⟩, []) ::
          (⟨some 37, none, .faddr 2, [.t 36]⟩, []) ::
          (⟨some 38, none, .load false 1, [.t 37]⟩, []) ::
          (⟨some 39, none, .bin .mul, [.t 33, .t 38]⟩, []) ::
          (⟨some 40, none, .bin .add, [.t 32, .t 39]⟩, []) ::
          (⟨some 41, none, .minmax false, [.t 30, .t 40]⟩, []) ::
          (⟨some 42, none, .build [.int .i64 0, .int .i64 0] [(0, 1), (1, 1)], [.t 26, .t 41]⟩, []) ::
          (⟨none, none, .store 2, [.t 7, .t 42]⟩, []) ::
          []) [0, 1, 5, 7, 10, 11, 12])
        (.seq (.reg [] (
          ⟨some 43, none, .mov, [.t 5]⟩ ::
          ⟨some 44, none, .len false, [.t 43]⟩ ::
          ⟨some 45, none, .bin .sub, [.t 44, .k (.d (.int .i64 1))]⟩ ::
          ⟨some 8, none, .mov, [.t 45]⟩ ::
          []) [0, 1, 5, 7, 8, 10, 11, 12])
        (.seq (.draw [] (
          (⟨some 46, none, .mov, [.t 8]⟩, []) ::
          (⟨some 47, none, .bin .geq, [.t 46, .k (.d (.int .i64 0))]⟩, []) ::
          (⟨some 48, none, .mov, [.t 47]⟩, []) ::
          (⟨some 49, some (48, true), .mov, [.t 5]⟩, []) ::
          (⟨some 50, some (48, true), .mov, [.t 8]⟩, []) ::
          (⟨some 51, some (48, true), .iaddrS 2, [.t 49, .t 50]⟩, []) ::
          (⟨some 52, some (48, true), .faddr 1, [.t 51]⟩, []) ::
          (⟨some 53, some (48, true), .load false 1, [.t 52]⟩, []) ::
          (⟨some 54, some (48, true), .faddr 0, [.t 7]⟩, []) ::
          (⟨some 55, some (48, true), .load false 1, [.t 54]⟩, []) ::
          (⟨some 56, some (48, true), .bin .sub, [.t 55, .k (.d (.int .i64 1))]⟩, []) ::
          (⟨some 57, some (48, true), .bin .geq, [.t 53, .t 56]⟩, []) ::
          (⟨some 58, none, .pick, [.t 48, .t 57, .k (.d (.bool false))]⟩, []) ::
          []) [0, 1, 5, 7, 8, 10, 11, 12, 58])
        (.cond (.t 58)
          (.draw [] (
            (⟨some 59, none, .mov, [.t 5]⟩, []) ::
            (⟨some 60, none, .mov, [.t 8]⟩, []) ::
            (⟨some 61, none, .mov, [.t 5]⟩, []) ::
            (⟨some 62, none, .mov, [.t 8]⟩, []) ::
            (⟨some 63, none, .iaddrS 2, [.t 61, .t 62]⟩, []) ::
            (⟨some 64, none, .faddr 1, [.t 63]⟩, []) ::
            (⟨some 65, none, .load false 1, [.t 64]⟩, []) ::
            (⟨some 66, none, .faddr 1, [.t 7]⟩, []) ::
            (⟨some 67, none, .load false 1, [.t 66]⟩, []) ::
            (⟨some 68, none, .minmax true, [.t 65, .t 67]⟩, []) ::
            (⟨some 69, none, .iaddrS 2, [.t 59, .t 60]⟩, []) ::
            (⟨some 70, none, .faddr 1, [.t 69]⟩, []) ::
            (⟨none, none, .store 1, [.t 70, .t 68]⟩, []) ::
            []) [0, 1, 5, 10, 11, 12])
          (.reg [] (
            ⟨some 71, none, .mov, [.t 5]⟩ ::
            ⟨some 72, none, .load true 2, [.t 7]⟩ ::
            ⟨some 73, none, .mkrow 2 (.agg [.int .i64 0, .int .i64 0]) 1 [0], [.t 72]⟩ ::
            ⟨some 74, none, .app 54 2 none true, [.t 71, .t 73]⟩ ::
            ⟨some 5, none, .mov, [.t 74]⟩ ::
            []) [0, 1, 5, 10, 11, 12])))))))
      (.reg [] (
        ⟨some 75, none, .bin .add, [.t 12, .k (.d (.int .i64 1))]⟩ ::
        ⟨some 12, none, .mov, [.t 75]⟩ ::
        []) [0, 1, 5, 10, 11, 12])))))))
  (.seq (.reg [] (
    ⟨some 76, none, .mov, [.t 5]⟩ ::
    ⟨some 4, none, .mov, [.t 76]⟩ ::
    []) [4])
  (.ret))))
theorem dec_servo_head_later : Fun E0 F_servo_head_later pc_servo_head_later [.t 4] 77 := fun_of_dec (fl := []) (by kernel_rfl)
-- platter/platterref02.within (3)
abbrev F_ref02_within : Nat := 50
def pc_ref02_within : PC :=
  .seq (.reg [] (
    ⟨some 6, none, .mov, [.k (.d (.bool false))]⟩ ::
    []) [0, 1, 2])
  (.seq (.reg [] (
    ⟨some 7, none, .mov, [.t 0]⟩ ::
    ⟨some 8, none, .mov, [.t 1]⟩ ::
    ⟨some 9, none, .bin .geq, [.t 7, .t 8]⟩ ::
    ⟨some 10, none, .mov, [.t 9]⟩ ::
    ⟨some 11, some (10, true), .mov, [.t 0]⟩ ::
    ⟨some 12, some (10, true), .mov, [.t 2]⟩ ::
    ⟨some 13, some (10, true), .bin .leq, [.t 11, .t 12]⟩ ::
    ⟨some 14, none, .pick, [.t 10, .t 13, .k (.d (.bool false))]⟩ ::
    ⟨some 6, none, .mov, [.t 14]⟩ ::
    []) [6])
  (.ret))
theorem dec_ref02_within : Fun E0 F_ref02_within pc_ref02_within [.t 6] 15 := fun_of_dec (fl := []) (by kernel_rfl)
-- platter/platterref02.abs (1)
abbrev F_ref02_abs : Nat := 51
def pc_ref02_abs : PC :=
  .seq (.reg [] (
    ⟨some 2, none, .mov, [.k (.d (.int .i64 0))]⟩ ::
    []) [0])
  (.seq (.reg [] (
    ⟨some 3, none, .mov, [.t 0]⟩ ::
    ⟨some 4, none, .mov, [.t 0]⟩ ::
    ⟨some 5, none, .un .neg, [.t 4]⟩ ::
    ⟨some 6, none, .minmax true, [.t 3, .t 5]⟩ ::
    ⟨some 2, none, .mov, [.t 6]⟩ ::
    []) [2])
  (.ret))
theorem dec_ref02_abs : Fun E0 F_ref02_abs pc_ref02_abs [.t 2] 7 := fun_of_dec (fl := []) (by kernel_rfl)
-- platter/servo.gray (1)
abbrev F_servo_gray : Nat := 52
def pc_servo_gray : PC :=
  .seq (.reg [] (
    ⟨some 2, none, .mov, [.k (.d (.int .i64 0))]⟩ ::
    []) [0])
  (.seq (.reg [] (
    ⟨some 3, none, .mov, [.t 0]⟩ ::
    ⟨some 4, none, .mov, [.t 0]⟩ ::
    ⟨some 5, none, .bin .shr, [.t 4, .k (.d (.int .u64 1))]⟩ ::
    ⟨some 6, none, .bin .xor, [.t 3, .t 5]⟩ ::
    ⟨some 2, none, .mov, [.t 6]⟩ ::
    []) [2])
  (.ret))
theorem dec_servo_gray : Fun E0 F_servo_gray pc_servo_gray [.t 2] 7 := fun_of_dec (fl := []) (by kernel_rfl)
-- platter/servo.track (1)
abbrev F_servo_track : Nat := 53
def pc_servo_track : PC :=
  .seq (.reg [] (
    ⟨some 2, none, .mov, [.k (.d (.int .i64 0))]⟩ ::
    []) [0, 2])
  (.seq (.block 0
    (.loop [] [0, 2] [900000, 901000]
      (.seq (.seq (.reg [] (
        ⟨some 3, none, .mov, [.t 0]⟩ ::
        ⟨some 4, none, .bin .gtr, [.t 3, .k (.d (.int .i64 0))]⟩ ::
        []) [0, 2, 4])
      (.cond (.t 4)
        (.skip)
        (.exit 0)))
      (.seq (.block 1
        (.reg [] (
          ⟨some 7, none, .mov, [.t 2]⟩ ::
          ⟨some 8, none, .mov, [.t 0]⟩ ::
          ⟨some 9, none, .bin .xor, [.t 7, .t 8]⟩ ::
          ⟨some 2, none, .mov, [.t 9]⟩ ::
          []) [0, 2]))
      (.reg [] (
        ⟨some 5, none, .mov, [.t 0]⟩ ::
        ⟨some 6, none, .bin .shr, [.t 5, .k (.d (.int .u64 1))]⟩ ::
        ⟨some 0, none, .mov, [.t 6]⟩ ::
        []) [0, 2])))))
  (.seq (.reg [] (
    ⟨some 10, none, .mov, [.t 2]⟩ ::
    ⟨some 2, none, .mov, [.t 10]⟩ ::
    []) [2])
  (.ret)))
theorem dec_servo_track : Fun E0 F_servo_track pc_servo_track [.t 2] 11 := fun_of_dec (fl := []) (by kernel_rfl)
-- platter/platterref02.Code (1)
abbrev F_ref02_Code : Nat := 54
def pc_ref02_Code : PC :=
  .seq (.reg [] (
    ⟨some 2, none, .mov, [.k (.d (.int .i64 0))]⟩ ::
    []) [0])
  (.seq (.reg [] (
    ⟨some 3, none, .mov, [.t 0]⟩ ::
    ⟨some 4, none, .mov, [.t 0]⟩ ::
    ⟨some 5, none, .bin .quo, [.t 4, .k (.d (.int .i64 2))]⟩ ::
    ⟨some 6, none, .bin .xor, [.t 3, .t 5]⟩ ::
    ⟨some 2, none, .mov, [.t 6]⟩ ::
    []) [2])
  (.ret))
theorem dec_ref02_Code : Fun E0 F_ref02_Code pc_ref02_Code [.t 2] 7 := fun_of_dec (fl := []) (by kernel_rfl)
-- platter/platterref02.IsServo (1)
abbrev F_ref02_IsServo : Nat := 55
def pc_ref02_IsServo : PC :=
  .seq (.reg [] (
    ⟨some 1, none, .box, [.t 0]⟩ ::
    ⟨some 2, none, .mov, [.k (.d (.bool false))]⟩ ::
    []) [1])
  (.seq (.seq (.reg [] (
    ⟨some 3, none, .mov, [.k (.d (.int .i64 0))]⟩ ::
    []) [1, 3])
  (.block 0
    (.loop [] [1, 3] [1, 900000, 901000]
      (.seq (.seq (.reg [] (
        ⟨some 4, none, .mov, [.t 3]⟩ ::
        ⟨some 5, none, .faddr 5, [.t 1]⟩ ::
        ⟨some 6, none, .load false 1, [.t 5]⟩ ::
        ⟨some 7, none, .len false, [.t 6]⟩ ::
        ⟨some 8, none, .bin .lss, [.t 4, .t 7]⟩ ::
        []) [1, 3, 8])
      (.cond (.t 8)
        (.skip)
        (.exit 0)))
      (.seq (.block 1
        (.seq (.reg [] (
          ⟨some 11, none, .faddr 5, [.t 1]⟩ ::
          ⟨some 12, none, .load false 1, [.t 11]⟩ ::
          ⟨some 13, none, .mov, [.t 3]⟩ ::
          ⟨some 14, none, .iaddrS 1, [.t 12, .t 13]⟩ ::
          ⟨some 15, none, .load false 1, [.t 14]⟩ ::
          ⟨some 16, none, .call 50, [.t 15, .k (.d (.int .i64 (-16))), .k (.d (.int .i64 16))]⟩ ::
          ⟨some 17, none, .un .not, [.t 16]⟩ ::
          []) [1, 3, 17])
        (.cond (.t 17)
          (.seq (.reg [] (
            ⟨some 2, none, .mov, [.k (.d (.bool false))]⟩ ::
            []) [2])
          (.ret))
          (.skip))))
      (.reg [] (
        ⟨some 9, none, .mov, [.t 3]⟩ ::
        ⟨some 10, none, .bin .add, [.t 9, .k (.d (.int .i64 1))]⟩ ::
        ⟨some 3, none, .mov, [.t 10]⟩ ::
        []) [1, 3]))))))
  (.seq (.reg [] (
    ⟨some 18, none, .faddr 0, [.t 1]⟩ ::
    ⟨some 19, none, .load false 1, [.t 18]⟩ ::
    ⟨some 20, none, .call 50, [.t 19, .k (.d (.int .i64 1)), .k (.d (.int .i64 64))]⟩ ::
    ⟨some 21, none, .mov, [.t 20]⟩ ::
    ⟨some 22, some (21, true), .faddr 1, [.t 1]⟩ ::
    ⟨some 23, some (21, true), .load false 1, [.t 22]⟩ ::
    ⟨some 24, some (21, true), .call 50, [.t 23, .k (.d (.int .i64 1)), .k (.d (.int .i64 16))]⟩ ::
    ⟨some 25, none, .pick, [.t 21, .t 24, .k (.d (.bool false))]⟩ ::
    ⟨some 26, none, .mov, [.t 25]⟩ ::
    ⟨some 27, some (26, true), .faddr 2, [.t 1]⟩ ::
    ⟨some 28, some (26, true), .load false 1, [.t 27]⟩ ::
    ⟨some 29, some (26, true), .call 50, [.t 28, .k (.d (.int .i64 0)), .k (.d (.int .i64 64))]⟩ ::
    ⟨some 30, none, .pick, [.t 26, .t 29, .k (.d (.bool false))]⟩ ::
    ⟨some 31, none, .mov, [.t 30]⟩ ::
    ⟨some 32, some (31, true), .faddr 3, [.t 1]⟩ ::
    ⟨some 33, some (31, true), .load false 1, [.t 32]⟩ ::
    ⟨some 34, some (31, true), .call 50, [.t 33, .k (.d (.int .i64 0)), .k (.d (.int .i64 16))]⟩ ::
    ⟨some 35, none, .pick, [.t 31, .t 34, .k (.d (.bool false))]⟩ ::
    ⟨some 36, none, .mov, [.t 35]⟩ ::
    ⟨some 37, some (36, true), .faddr 4, [.t 1]⟩ ::
    ⟨some 38, some (36, true), .load false 1, [.t 37]⟩ ::
    ⟨some 39, some (36, true), .call 50, [.t 38, .k (.d (.int .i64 0)), .k (.d (.int .i64 3))]⟩ ::
    ⟨some 40, none, .pick, [.t 36, .t 39, .k (.d (.bool false))]⟩ ::
    ⟨some 41, none, .mov, [.t 40]⟩ ::
    ⟨some 42, some (41, true), .faddr 5, [.t 1]⟩ ::
    ⟨some 43, some (41, true), .load false 1, [.t 42]⟩ ::
    ⟨some 44, some (41, true), .len false, [.t 43]⟩ ::
    ⟨some 45, some (41, true), .call 50, [.t 44, .k (.d (.int .i64 1)), .k (.d (.int .i64 16))]⟩ ::
    ⟨some 46, none, .pick, [.t 41, .t 45, .k (.d (.bool false))]⟩ ::
    ⟨some 2, none, .mov, [.t 46]⟩ ::
    []) [2])
  (.ret)))
theorem dec_ref02_IsServo : Fun E0 F_ref02_IsServo pc_ref02_IsServo [.t 2] 47 := fun_of_dec (fl := []) (by kernel_rfl)
-- platter/servo.isServo (1)
abbrev F_servo_isServo : Nat := 56
def pc_servo_isServo : PC :=
  .seq (.reg [] (
    ⟨some 1, none, .box, [.t 0]⟩ ::
    ⟨some 2, none, .mov, [.k (.d (.bool false))]⟩ ::
    []) [1])
  (.seq (.reg [] (
    ⟨some 3, none, .mov, [.k (.fn 72 [])]⟩ ::
    []) [1, 3])
  (.seq (.seq (.reg [] (
    ⟨some 6, none, .faddr 5, [.t 1]⟩ ::
    ⟨some 7, none, .load false 1, [.t 6]⟩ ::
    ⟨some 8, none, .len false, [.t 7]⟩ ::
    ⟨some 9, none, .mov, [.k (.d (.int .i64 0))]⟩ ::
    []) [1, 3, 7, 8, 9])
  (.block 0
    (.loop [] [1, 3, 7, 8, 9] [1, 900000, 901000]
      (.seq (.reg [] (
        ⟨some 10, none, .bin .lss, [.t 9, .t 8]⟩ ::
        []) [1, 3, 7, 8, 9, 10])
      (.seq (.cond (.t 10)
        (.skip)
        (.exit 0))
      (.seq (.block 1
        (.seq (.reg [] (
          ⟨some 11, none, .iaddrS 1, [.t 7, .t 9]⟩ ::
          ⟨some 12, none, .load false 1, [.t 11]⟩ ::
          ⟨some 5, none, .mov, [.t 12]⟩ ::
          []) [1, 3, 5, 7, 8, 9])
        (.seq (.reg [] (
          ⟨some 13, none, .mov, [.t 3]⟩ ::
          ⟨some 14, none, .mov, [.t 5]⟩ ::
          ⟨some 15, none, .callv, [.t 13, .t 14]⟩ ::
          ⟨some 16, none, .un .not, [.t 15]⟩ ::
          []) [1, 3, 7, 8, 9, 16])
        (.cond (.t 16)
          (.seq (.reg [] (
            ⟨some 2, none, .mov, [.k (.d (.bool false))]⟩ ::
            []) [2])
          (.ret))
          (.skip)))))
      (.reg [] (
        ⟨some 17, none, .bin .add, [.t 9, .k (.d (.int .i64 1))]⟩ ::
        ⟨some 9, none, .mov, [.t 17]⟩ ::
        []) [1, 3, 7, 8, 9])))))))
  (.seq (.reg [] (
    ⟨some 18, none, .faddr 0, [.t 1]⟩ ::
    ⟨some 19, none, .load false 1, [.t 18]⟩ ::
    ⟨some 20, none, .call 47, [.t 19, .k (.d (.int .i64 1)), .k (.d (.int .i64 64))]⟩ ::
    ⟨some 21, none, .mov, [.t 20]⟩ ::
    ⟨some 22, some (21, true), .faddr 1, [.t 1]⟩ ::
    ⟨some 23, some (21, true), .load false 1, [.t 22]⟩ ::
    ⟨some 24, some (21, true), .call 47, [.t 23, .k (.d (.int .i64 1)), .k (.d (.int .i64 16))]⟩ ::
    ⟨some 25, none, .pick, [.t 21, .t 24, .k (.d (.bool false))]⟩ ::
    ⟨some 26, none, .mov, [.t 25]⟩ ::
    ⟨some 27, some (26, true), .faddr 2, [.t 1]⟩ ::
    ⟨some 28, some (26, true), .load false 1, [.t 27]⟩ ::
    ⟨some 29, some (26, true), .call 47, [.t 28, .k (.d (.int .i64 0)), .k (.d (.int .i64 64))]⟩ ::
    ⟨some 30, none, .pick, [.t 26, .t 29, .k (.d (.bool false))]⟩ ::
    ⟨some 31, none, .mov, [.t 30]⟩ ::
    ⟨some 32, some (31, true), .faddr 3, [.t 1]⟩ ::
    ⟨some 33, some (31, true), .load false 1, [.t 32]⟩ ::
    ⟨some 34, some (31, true), .call 47, [.t 33, .k (.d (.int .i64 0)), .k (.d (.int .i64 16))]⟩ ::
    ⟨some 35, none, .pick, [.t 31, .t 34, .k (.d (.bool false))]⟩ ::
    ⟨some 36, none, .mov, [.t 35]⟩ ::
    ⟨some 37, some (36, true), .faddr 4, [.t 1]⟩ ::
    ⟨some 38, some (36, true), .load false 1, [.t 37]⟩ ::
    ⟨some 39, some (36, true), .call 47, [.t 38, .k (.d (.int .i64 0)), .k (.d (.int .i64 3))]⟩ ::
    ⟨some 40, none, .pick, [.t 36, .t 39, .k (.d (.bool false))]⟩ ::
    ⟨some 41, none, .mov, [.t 40]⟩ ::
    ⟨some 42, some (41, true), .faddr 5, [.t 1]⟩ ::
    ⟨some 43, some (41, true), .load false 1, [.t 42]⟩ ::
    ⟨some 44, some (41, true), .len false, [.t 43]⟩ ::
    ⟨some 45, some (41, true), .call 47, [.t 44, .k (.d (.int .i64 1)), .k (.d (.int .i64 16))]⟩ ::
    ⟨some 46, none, .pick, [.t 41, .t 45, .k (.d (.bool false))]⟩ ::
    ⟨some 2, none, .mov, [.t 46]⟩ ::
    []) [2])
  (.ret))))
theorem dec_servo_isServo : Fun E0 F_servo_isServo pc_servo_isServo [.t 2] 47 := fun_of_dec (fl := []) (by kernel_rfl)
-- platter/servo.Check$1 (1)
abbrev F_servo_Check_1 : Nat := 57
def pc_servo_Check_1 : PC :=
  .seq (.reg [] (
    ⟨some 1, none, .box, [.t 0]⟩ ::
    ⟨some 2, none, .mov, [.k (.d (.bool false))]⟩ ::
    []) [1])
  (.seq (.reg [] (
    ⟨some 3, none, .faddr 0, [.t 1]⟩ ::
    ⟨some 4, none, .load false 1, [.t 3]⟩ ::
    ⟨some 5, none, .call 47, [.t 4, .k (.d (.int .i64 (-1))), .k (.d (.int .i64 127))]⟩ ::
    ⟨some 6, none, .mov, [.t 5]⟩ ::
    ⟨some 7, some (6, true), .faddr 1, [.t 1]⟩ ::
    ⟨some 8, some (6, true), .load false 1, [.t 7]⟩ ::
    ⟨some 9, some (6, true), .call 47, [.t 8, .k (.d (.int .i64 (-100))), .k (.d (.int .i64 100))]⟩ ::
    ⟨some 10, none, .pick, [.t 6, .t 9, .k (.d (.bool false))]⟩ ::
    ⟨some 2, none, .mov, [.t 10]⟩ ::
    []) [2])
  (.ret))
theorem dec_servo_Check_1 : Fun E0 F_servo_Check_1 pc_servo_Check_1 [.t 2] 11 := fun_of_dec (fl := []) (by kernel_rfl)
-- slices.ContainsFunc[[]platter/api.Wedge,platter/api.Wedge] (2)
abbrev F_slices_ContainsFunc_api_Wedge_api_Wedge : Nat := 58
def pc_slices_ContainsFunc_api_Wedge_api_Wedge : PC :=
  .seq (.reg [] (
    ⟨some 4, none, .mov, [.k (.d (.bool false))]⟩ ::
    []) [0, 1])
  (.seq (.reg [] (
    ⟨some 5, none, .mov, [.t 0]⟩ ::
    ⟨some 6, none, .mov, [.t 1]⟩ ::
    ⟨some 7, none, .call 73, [.t 5, .t 6]⟩ ::
    ⟨some 8, none, .bin .geq, [.t 7, .k (.d (.int .i64 0))]⟩ ::
    ⟨some 4, none, .mov, [.t 8]⟩ ::
    []) [4])
  (.ret))
theorem dec_slices_ContainsFunc_api_Wedge_api_Wedge : Fun E0 F_slices_ContainsFunc_api_Wedge_api_Wedge pc_slices_ContainsFunc_api_Wedge_api_Wedge [.t 4] 9 := fun_of_dec (fl := []) (by kernel_rfl)
-- platter/servo.Check$2 (1)
abbrev F_servo_Check_2 : Nat := 59
def pc_servo_Check_2 : PC :=
  .seq (.reg [] (
    ⟨some 2, none, .box, [.t 0]⟩ ::
    ⟨some 3, none, .mov, [.k (.d (.bool false))]⟩ ::
    []) [1, 2])
  (.seq (.reg [] (
    ⟨some 4, none, .load false 1, [.t 1]⟩ ::
    ⟨some 5, none, .load true 2, [.t 2]⟩ ::
    ⟨some 6, none, .callv, [.t 4, .t 5]⟩ ::
    ⟨some 7, none, .un .not, [.t 6]⟩ ::
    ⟨some 3, none, .mov, [.t 7]⟩ ::
    []) [3])
  (.ret))
theorem dec_servo_Check_2 : Fun E0 F_servo_Check_2 pc_servo_Check_2 [.t 3] 8 := fun_of_dec (fl := []) (by kernel_rfl)
abbrev F_ref02_known : Nat := 60
abbrev F_ref02_spans : Nat := 61
abbrev F_ref02_later : Nat := 62
-- platter/servo.open (2)
abbrev F_servo_open : Nat := 63
def pc_servo_open : PC :=
  .seq (.reg [] (
    ⟨some 2, none, .box, [.t 0]⟩ ::
    ⟨some 4, none, .mov, [.k (.d (.nilptr))]⟩ ::
    ⟨some 5, none, .mov, [.k (.d (.int .i64 0))]⟩ ::
    []) [1, 2])
  (.seq (.seq (.reg [] (
    ⟨some 7, none, .load true 6, [.t 2]⟩ ::
    ⟨some 8, none, .mov, [.t 1]⟩ ::
    ⟨some 9, none, .call 30, [.t 7, .t 8]⟩ ::
    ⟨some 6, none, .mov, [.t 9]⟩ ::
    []) [1, 2, 6])
  (.seq (.reg [] (
    ⟨some 10, none, .mov, [.t 6]⟩ ::
    ⟨some 11, none, .bin .neq, [.t 10, .k (.d (.int .i64 0))]⟩ ::
    []) [1, 2, 6, 11])
  (.cond (.t 11)
    (.seq (.reg [] (
      ⟨some 12, none, .mov, [.t 6]⟩ ::
      ⟨some 4, none, .mov, [.k (.d (.nilptr))]⟩ ::
      ⟨some 5, none, .mov, [.t 12]⟩ ::
      []) [4, 5])
    (.ret))
    (.skip))))
  (.seq (.reg [] (
    ⟨some 13, none, .load true 6, [.t 2]⟩ ::
    ⟨some 14, none, .mov, [.t 1]⟩ ::
    ⟨some 15, none, .faddr 1, [.t 2]⟩ ::
    ⟨some 16, none, .load false 1, [.t 15]⟩ ::
    ⟨some 17, none, .faddr 0, [.t 2]⟩ ::
    ⟨some 18, none, .load false 1, [.t 17]⟩ ::
    ⟨some 19, none, .bin .sub, [.t 18, .k (.d (.int .i64 1))]⟩ ::
    ⟨some 20, none, .bin .mul, [.t 16, .t 19]⟩ ::
    ⟨some 21, none, .build [.int .i64 0, .int .i64 0, .int .i64 0, .int .i64 0, .int .i64 0, .list true [], .list true [], .int .i64 0] [(0, 6), (6, 1), (7, 1)], [.t 13, .t 14, .t 20]⟩ ::
    ⟨some 22, none, .box, [.t 21]⟩ ::
    ⟨some 4, none, .mov, [.t 22]⟩ ::
    ⟨some 5, none, .mov, [.k (.d (.int .i64 0))]⟩ ::
    []) [4, 5])
  (.ret)))
theorem dec_servo_open : Fun E0 F_servo_open pc_servo_open [.t 4, .t 5] 23 := fun_of_dec (fl := []) (by kernel_rfl)
-- slices.Min[platter/servo.row,int] (1)
abbrev F_slices_Min_servo_row_int : Nat := 64
def pc_slices_Min_servo_row_int : PC :=
  .seq (.reg [] (
    ⟨some 2, none, .mov, [.k (.d (.int .i64 0))]⟩ ::
    []) [0])
  (.seq (.seq (.reg [] (
    ⟨some 5, none, .mov, [.t 0]⟩ ::
    ⟨some 6, none, .len false, [.t 5]⟩ ::
    ⟨some 7, none, .bin .lss, [.t 6, .k (.d (.int .i64 1))]⟩ ::
    []) [0, 7])
  (.cond (.t 7)
    (.dead)
    (.skip)))
  (.seq (.reg [] (
    ⟨some 9, none, .mov, [.t 0]⟩ ::
    ⟨some 10, none, .iaddrS 1, [.t 9, .k (.d (.int .i64 0))]⟩ ::
    ⟨some 11, none, .load false 1, [.t 10]⟩ ::
    ⟨some 3, none, .mov, [.t 11]⟩ ::
    []) [0, 3])
  (.seq (.seq (.reg [] (
    ⟨some 4, none, .mov, [.k (.d (.int .i64 1))]⟩ ::
    []) [0, 3, 4])
  (.block 0
    (.loop [] [0, 3, 4] [900000, 901000]
      (.seq (.seq (.reg [] (
        ⟨some 12, none, .mov, [.t 4]⟩ ::
        ⟨some 13, none, .mov, [.t 0]⟩ ::
        ⟨some 14, none, .len false, [.t 13]⟩ ::
        ⟨some 15, none, .bin .lss, [.t 12, .t 14]⟩ ::
        []) [0, 3, 4, 15])
      (.cond (.t 15)
        (.skip)
        (.exit 0)))
      (.seq (.block 1
        (.reg [] (
          ⟨some 18, none, .mov, [.t 3]⟩ ::
          ⟨some 19, none, .mov, [.t 0]⟩ ::
          ⟨some 20, none, .mov, [.t 4]⟩ ::
          ⟨some 21, none, .iaddrS 1, [.t 19, .t 20]⟩ ::
          ⟨some 22, none, .load false 1, [.t 21]⟩ ::
          ⟨some 23, none, .minmax false, [.t 18, .t 22]⟩ ::
          ⟨some 3, none, .mov, [.t 23]⟩ ::
          []) [0, 3, 4]))
      (.reg [] (
        ⟨some 16, none, .mov, [.t 4]⟩ ::
        ⟨some 17, none, .bin .add, [.t 16, .k (.d (.int .i64 1))]⟩ ::
        ⟨some 4, none, .mov, [.t 17]⟩ ::
        []) [0, 3, 4]))))))
  (.seq (.reg [] (
    ⟨some 24, none, .mov, [.t 3]⟩ ::
    ⟨some 2, none, .mov, [.t 24]⟩ ::
    []) [2])
  (.ret)))))
theorem dec_slices_Min_servo_row_int : Fun E0 F_slices_Min_servo_row_int pc_slices_Min_servo_row_int [.t 2] 25 := fun_of_dec (fl := []) (by kernel_rfl)
-- (*platter/servo.head).end (1)
abbrev F_servo_head_end : Nat := 65
def pc_servo_head_end : PC :=
  .seq (.reg [] (
    ⟨some 2, none, .mov, [.k (.d (.list true []))]⟩ ::
    []) [0])
  (.seq (.seq (.reg [] (
    ⟨some 4, none, .mov, [.t 0]⟩ ::
    ⟨some 5, none, .call 67, [.t 4]⟩ ::
    ⟨some 3, none, .mov, [.t 5]⟩ ::
    []) [0, 3])
  (.seq (.reg [] (
    ⟨some 6, none, .mov, [.t 3]⟩ ::
    ⟨some 7, none, .len false, [.t 6]⟩ ::
    ⟨some 8, none, .bin .gtr, [.t 7, .k (.d (.int .i64 0))]⟩ ::
    []) [0, 3, 8])
  (.cond (.t 8)
    (.seq (.reg [] (
      ⟨some 9, none, .mov, [.t 3]⟩ ::
      ⟨some 10, none, .mov, [.t 3]⟩ ::
      ⟨some 11, none, .len false, [.t 10]⟩ ::
      ⟨some 12, none, .bin .sub, [.t 11, .k (.d (.int .i64 1))]⟩ ::
      ⟨some 13, none, .iaddrS 1, [.t 9, .t 12]⟩ ::
      ⟨some 14, none, .load false 1, [.t 13]⟩ ::
      ⟨some 2, none, .mov, [.t 14]⟩ ::
      []) [2])
    (.ret))
    (.skip))))
  (.seq (.reg [] (
    ⟨some 15, none, .mov, [.t 0]⟩ ::
    ⟨some 16, none, .nilck, [.t 15]⟩ ::
    ⟨some 17, none, .faddr 7, [.t 16]⟩ ::
    ⟨some 18, none, .load false 1, [.t 17]⟩ ::
    ⟨some 19, none, .bin .add, [.t 18, .k (.d (.int .i64 1))]⟩ ::
    ⟨some 20, none, .mksl 3 1 (.int .i64 0) true, [.t 19, .t 19]⟩ ::
    ⟨some 2, none, .mov, [.t 20]⟩ ::
    []) [2])
  (.ret)))
theorem dec_servo_head_end : Fun E0 F_servo_head_end pc_servo_head_end [.t 2] 21 := fun_of_dec (fl := []) (by kernel_rfl)
abbrev F_ref02_fewest : Nat := 66
-- (*platter/servo.head).forth (1)
abbrev F_servo_head_forth : Nat := 67
def pc_servo_head_forth : PC :=
  .seq (.reg [] (
    ⟨some 2, none, .mov, [.k (.d (.list true []))]⟩ ::
    []) [0])
  (.seq (.reg [] (
    ⟨some 7, none, .mov, [.t 0]⟩ ::
    ⟨some 8, none, .nilck, [.t 7]⟩ ::
    ⟨some 9, none, .faddr 7, [.t 8]⟩ ::
    ⟨some 10, none, .load false 1, [.t 9]⟩ ::
    ⟨some 11, none, .bin .add, [.t 10, .k (.d (.int .i64 1))]⟩ ::
    ⟨some 12, none, .mksl 3 1 (.int .i64 0) true, [.t 11, .t 11]⟩ ::
    ⟨some 3, none, .mov, [.t 12]⟩ ::
    []) [0, 3])
  (.seq (.reg [] (
    ⟨some 4, none, .mov, [.k (.d (.list true []))]⟩ ::
    []) [0, 3, 4])
  (.seq (.seq (.reg [] (
    ⟨some 13, none, .mov, [.t 0]⟩ ::
    ⟨some 14, none, .nilck, [.t 13]⟩ ::
    ⟨some 15, none, .faddr 6, [.t 14]⟩ ::
    ⟨some 16, none, .load false 1, [.t 15]⟩ ::
    ⟨some 17, none, .len false, [.t 16]⟩ ::
    ⟨some 18, none, .mov, [.k (.d (.int .i64 0))]⟩ ::
    []) [0, 3, 4, 17, 18])
  (.block 0
    (.loop [.freeze 3, .own 4 47 90 1] [0, 3, 4, 17, 18] [47, 900000, 901000]
      (.seq (.reg [] (
        ⟨some 19, none, .bin .lss, [.t 18, .t 17]⟩ ::
        []) [0, 3, 4, 17, 18, 19])
      (.seq (.cond (.t 19)
        (.skip)
        (.exit 0))
      (.seq (.block 1
        (.seq (.reg [] (
          ⟨some 20, none, .mov, [.t 18]⟩ ::
          ⟨some 5, none, .mov, [.t 20]⟩ ::
          []) [0, 3, 4, 5, 17, 18])
        (.seq (.seq (.reg [] (
          ⟨some 21, none, .mov, [.t 5]⟩ ::
          ⟨some 22, none, .bin .gtr, [.t 21, .k (.d (.int .i64 0))]⟩ ::
          []) [0, 3, 4, 5, 17, 18, 22])
        (.cond (.t 22)
          (.reg [.freeze 3] (
            ⟨some 23, none, .mov, [.t 0]⟩ ::
            ⟨some 24, none, .mov, [.t 3]⟩ ::
            ⟨some 25, none, .call 75, [.t 23, .t 24]⟩ ::
            ⟨some 3, none, .mov, [.t 25]⟩ ::
            []) [0, 3, 4, 5, 17, 18])
          (.skip)))
        (.seq (.reg [.freeze 3] (
          ⟨some 26, none, .mov, [.t 3]⟩ ::
          ⟨some 27, none, .call 76, [.t 26]⟩ ::
          ⟨some 3, none, .mov, [.t 27]⟩ ::
          []) [0, 3, 4, 5, 17, 18])
        (.seq (.seq (.reg [] (
          ⟨some 28, none, .mov, [.t 3]⟩ ::
          ⟨some 29, none, .len false, [.t 28]⟩ ::
          ⟨some 30, none, .mov, [.k (.d (.int .i64 0))]⟩ ::
          []) [0, 3, 4, 5, 17, 18, 29, 30])
        (.block 2
          (.loop [.own 4 47 90 1] [0, 3, 4, 5, 17, 18, 29, 30] [12, 25, 27, 47, 10025, 10027, 900000, 901000]
            (.seq (.reg [] (
              ⟨some 31, none, .bin .lss, [.t 30, .t 29]⟩ ::
              []) [0, 3, 4, 5, 17, 18, 29, 30, 31])
            (.seq (.cond (.t 31)
              (.skip)
              (.exit 2))
            (.seq (.block 3
              (.seq (.reg [] (
                ⟨some 32, none, .mov, [.t 30]⟩ ::
                ⟨some 6, none, .mov, [.t 32]⟩ ::
                []) [0, 3, 4, 5, 6, 17, 18, 29, 30])
              (.draw [] (
                (⟨some 33, none, .mov, [.t 3]⟩, []) ::
                (⟨some 34, none, .mov, [.t 6]⟩, []) ::
                (⟨some 35, none, .iaddrS 1, [.t 33, .t 34]⟩, []) ::
                (⟨some 36, none, .load false 1, [.t 35]⟩, []) ::
                (⟨some 37, none, .mov, [.t 0]⟩, []) ::
                (⟨some 38, none, .mov, [.t 5]⟩, []) ::
                (⟨some 39, none, .mov, [.t 6]⟩, []) ::
                (⟨some 40, none, .call 70, [.t 37, .t 38, .t 39]⟩, [2, 3]) ::
                (⟨some 41, none, .bin .add, [.t 36, .t 40]⟩, []) ::
                (⟨some 42, none, .iaddrS 1, [.t 33, .t 34]⟩, []) ::
                (⟨none, none, .store 1, [.t 42, .t 41]⟩, []) ::
                []) [0, 3, 4, 5, 17, 18, 29, 30])))
            (.reg [] (
              ⟨some 43, none, .bin .add, [.t 30, .k (.d (.int .i64 1))]⟩ ::
              ⟨some 30, none, .mov, [.t 43]⟩ ::
              []) [0, 3, 4, 5, 17, 18, 29, 30])))))))
        (.reg [.freeze 3] (
          ⟨some 44, none, .mov, [.t 4]⟩ ::
          ⟨some 45, none, .mov, [.t 3]⟩ ::
          ⟨some 46, none, .mkrow 1 (.list true []) 1 [0], [.t 45]⟩ ::
          ⟨some 47, none, .app 90 1 none true, [.t 44, .t 46]⟩ ::
          ⟨some 4, none, .mov, [.t 47]⟩ ::
          []) [0, 3, 4, 17, 18]))))))
      (.reg [] (
        ⟨some 48, none, .bin .add, [.t 18, .k (.d (.int .i64 1))]⟩ ::
        ⟨some 18, none, .mov, [.t 48]⟩ ::
        []) [0, 3, 4, 17, 18])))))))
  (.seq (.reg [] (
    ⟨some 49, none, .mov, [.t 4]⟩ ::
    ⟨some 2, none, .mov, [.t 49]⟩ ::
    []) [2])
  (.ret)))))
theorem dec_servo_head_forth : Fun E0 F_servo_head_forth pc_servo_head_forth [.t 2] 50 := fun_of_dec (fl := []) (by kernel_rfl)
abbrev F_slices_Index_servo_row_int : Nat := 68
abbrev F_servo_head_back : Nat := 69
-- (*platter/servo.head).costs (3)
abbrev F_servo_head_costs : Nat := 70
def pc_servo_head_costs : PC :=
  .seq (.reg [] (
    ⟨some 6, none, .mov, [.k (.d (.int .i64 0))]⟩ ::
    []) [0, 1, 2])
  (.seq (.reg [] (
    ⟨some 10, none, .mov, [.t 0]⟩ ::
    ⟨some 11, none, .nilck, [.t 10]⟩ ::
    ⟨some 12, none, .faddr 6, [.t 11]⟩ ::
    ⟨some 13, none, .load false 1, [.t 12]⟩ ::
    ⟨some 14, none, .mov, [.t 1]⟩ ::
    ⟨some 15, none, .iaddrS 2, [.t 13, .t 14]⟩ ::
    ⟨some 16, none, .load true 2, [.t 15]⟩ ::
    ⟨some 7, none, .zero [.int .i64 0, .int .i64 0], []⟩ ::
    ⟨none, none, .store 2, [.t 7, .t 16]⟩ ::
    []) [0, 1, 2, 7])
  (.seq (.seq (.reg [] (
    ⟨some 17, none, .faddr 0, [.t 7]⟩ ::
    ⟨some 18, none, .load false 1, [.t 17]⟩ ::
    ⟨some 19, none, .bin .lss, [.t 18, .k (.d (.int .i64 0))]⟩ ::
    []) [0, 1, 2, 7, 19])
  (.cond (.t 19)
    (.seq (.reg [] (
      ⟨some 6, none, .mov, [.k (.d (.int .i64 0))]⟩ ::
      []) [6])
    (.ret))
    (.skip)))
  (.seq (.reg [] (
    ⟨some 20, none, .faddr 0, [.t 7]⟩ ::
    ⟨some 21, none, .load false 1, [.t 20]⟩ ::
    ⟨some 22, none, .call 53, [.t 21]⟩ ::
    ⟨some 8, none, .mov, [.t 22]⟩ ::
    []) [0, 1, 2, 7, 8])
  (.seq (.reg [] (
    ⟨some 23, none, .mov, [.t 2]⟩ ::
    ⟨some 24, none, .mov, [.t 0]⟩ ::
    ⟨some 25, none, .mov, [.t 8]⟩ ::
    ⟨some 26, none, .mov, [.t 1]⟩ ::
    ⟨some 27, none, .call 48, [.t 24, .t 25, .t 26]⟩ ::
    ⟨some 28, none, .bin .sub, [.t 23, .t 27]⟩ ::
    ⟨some 9, none, .mov, [.t 28]⟩ ::
    []) [0, 7, 8, 9])
  (.seq (.seq (.draw [] (
    (⟨some 29, none, .mov, [.t 8]⟩, []) ::
    (⟨some 30, none, .mov, [.t 0]⟩, []) ::
    (⟨some 31, none, .nilck, [.t 30]⟩, []) ::
    (⟨some 32, none, .faddr 0, [.t 31]⟩, []) ::
    (⟨some 33, none, .faddr 0, [.t 32]⟩, []) ::
    (⟨some 34, none, .load false 1, [.t 33]⟩, []) ::
    (⟨some 35, none, .bin .lss, [.t 29, .t 34]⟩, []) ::
    (⟨some 36, none, .mov, [.t 35]⟩, []) ::
    (⟨some 37, some (36, true), .mov, [.t 9]⟩, []) ::
    (⟨some 38, some (36, true), .mov, [.t 9]⟩, []) ::
    (⟨some 39, some (36, true), .un .neg, [.t 38]⟩, []) ::
    (⟨some 40, some (36, true), .minmax true, [.t 37, .t 39]⟩, []) ::
    (⟨some 41, some (36, true), .bin .mul, [.k (.d (.int .i64 2)), .t 40]⟩, []) ::
    (⟨some 42, some (36, true), .mov, [.t 0]⟩, []) ::
    (⟨some 43, some (36, true), .nilck, [.t 42]⟩, []) ::
    (⟨some 44, some (36, true), .faddr 0, [.t 43]⟩, []) ::
    (⟨some 45, some (36, true), .faddr 1, [.t 44]⟩, []) ::
    (⟨some 46, some (36, true), .load false 1, [.t 45]⟩, []) ::
    (⟨some 47, some (36, true), .bin .leq, [.t 41, .t 46]⟩, []) ::
    (⟨some 48, none, .pick, [.t 36, .t 47, .k (.d (.bool false))]⟩, []) ::
    (⟨some 49, none, .mov, [.t 48]⟩, []) ::
    (⟨some 50, some (49, true), .faddr 1, [.t 7]⟩, []) ::
    (⟨some 51, some (49, true), .load false 1, [.t 50]⟩, []) ::
    (⟨some 52, some (49, true), .mov, [.t 9]⟩, []) ::
    (⟨some 53, some (49, true), .bin .sub, [.t 51, .t 52]⟩, []) ::
    (⟨some 54, some (49, true), .mov, [.t 0]⟩, []) ::
    (⟨some 55, some (49, true), .nilck, [.t 54]⟩, []) ::
    (⟨some 56, some (49, true), .faddr 0, [.t 55]⟩, []) ::
    (⟨some 57, some (49, true), .faddr 3, [.t 56]⟩, []) ::
    (⟨some 58, some (49, true), .load false 1, [.t 57]⟩, []) ::
    (⟨some 59, some (49, true), .un .neg, [.t 58]⟩, []) ::
    (⟨some 60, some (49, true), .mov, [.t 0]⟩, []) ::
    (⟨some 61, some (49, true), .nilck, [.t 60]⟩, []) ::
    (⟨some 62, some (49, true), .faddr 0, [.t 61]⟩, []) ::
    (⟨some 63, some (49, true), .faddr 3, [.t 62]⟩, []) ::
    (⟨some 64, some (49, true), .load false 1, [.t 63]⟩, []) ::
    (⟨some 65, some (49, true), .call 47, [.t 53, .t 59, .t 64]⟩, []) ::
    (⟨some 66, none, .pick, [.t 49, .t 65, .k (.d (.bool false))]⟩, []) ::
    []) [66])
  (.cond (.t 66)
    (.seq (.reg [] (
      ⟨some 6, none, .mov, [.k (.d (.int .i64 0))]⟩ ::
      []) [6])
    (.ret))
    (.skip)))
  (.seq (.reg [] (
    ⟨some 6, none, .mov, [.k (.d (.int .i64 1))]⟩ ::
    []) [6])
  (.ret)))))))
theorem dec_servo_head_costs : Fun E0 F_servo_head_costs pc_servo_head_costs [.t 6] 67 := fun_of_dec (fl := []) (by kernel_rfl)
-- (*platter/servo.head).ends (1)
abbrev F_servo_head_ends : Nat := 71
def pc_servo_head_ends : PC :=
  .seq (.reg [] (
    ⟨some 2, none, .mov, [.k (.d (.list true []))]⟩ ::
    []) [0])
  (.seq (.reg [] (
    ⟨some 3, none, .mov, [.k (.d (.list true []))]⟩ ::
    []) [0, 3])
  (.seq (.seq (.reg [] (
    ⟨some 7, none, .mov, [.t 0]⟩ ::
    ⟨some 8, none, .call 65, [.t 7]⟩ ::
    ⟨some 9, none, .len false, [.t 8]⟩ ::
    ⟨some 10, none, .mov, [.k (.d (.int .i64 0))]⟩ ::
    []) [0, 3, 8, 9, 10])
  (.block 0
    (.loop [.own 3 47 54 2] [0, 3, 8, 9, 10] [8, 47, 10008, 900000, 901000]
      (.seq (.reg [] (
        ⟨some 11, none, .bin .lss, [.t 10, .t 9]⟩ ::
        []) [0, 3, 8, 9, 10, 11])
      (.seq (.cond (.t 11)
        (.skip)
        (.exit 0))
      (.seq (.block 1
        (.seq (.reg [] (
          ⟨some 12, none, .mov, [.t 10]⟩ ::
          ⟨some 13, none, .iaddrS 1, [.t 8, .t 10]⟩ ::
          ⟨some 14, none, .load false 1, [.t 13]⟩ ::
          ⟨some 4, none, .mov, [.t 12]⟩ ::
          ⟨some 5, none, .mov, [.t 14]⟩ ::
          []) [0, 3, 4, 5, 8, 9, 10])
        (.seq (.seq (.reg [] (
          ⟨some 15, none, .mov, [.t 5]⟩ ::
          ⟨some 16, none, .mov, [.t 0]⟩ ::
          ⟨some 17, none, .nilck, [.t 16]⟩ ::
          ⟨some 18, none, .faddr 0, [.t 17]⟩ ::
          ⟨some 19, none, .faddr 4, [.t 18]⟩ ::
          ⟨some 20, none, .load false 1, [.t 19]⟩ ::
          ⟨some 21, none, .bin .gtr, [.t 15, .t 20]⟩ ::
          []) [0, 3, 4, 8, 9, 10, 21])
        (.cond (.t 21)
          (.exit 1)
          (.skip)))
        (.seq (.reg [] (
          ⟨some 22, none, .mov, [.t 3]⟩ ::
          ⟨some 23, none, .len false, [.t 22]⟩ ::
          ⟨some 24, none, .bin .sub, [.t 23, .k (.d (.int .i64 1))]⟩ ::
          ⟨some 6, none, .mov, [.t 24]⟩ ::
          []) [0, 3, 4, 6, 8, 9, 10])
        (.seq (.reg [] (
          ⟨some 25, none, .mov, [.t 6]⟩ ::
          ⟨some 26, none, .bin .geq, [.t 25, .k (.d (.int .i64 0))]⟩ ::
          ⟨some 27, none, .mov, [.t 26]⟩ ::
          ⟨some 28, some (27, true), .mov, [.t 3]⟩ ::
          ⟨some 29, some (27, true), .mov, [.t 6]⟩ ::
          ⟨some 30, some (27, true), .iaddrS 2, [.t 28, .t 29]⟩ ::
          ⟨some 31, some (27, true), .faddr 1, [.t 30]⟩ ::
          ⟨some 32, some (27, true), .load false 1, [.t 31]⟩ ::
          ⟨some 33, some (27, true), .mov, [.t 4]⟩ ::
          ⟨some 34, some (27, true), .bin .sub, [.t 33, .k (.d (.int .i64 1))]⟩ ::
          ⟨some 35, some (27, true), .bin .eql, [.t 32, .t 34]⟩ ::
          ⟨some 36, none, .pick, [.t 27, .t 35, .k (.d (.bool false))]⟩ ::
          []) [0, 3, 4, 6, 8, 9, 10, 36])
        (.cond (.t 36)
          (.reg [] (
            ⟨some 37, none, .mov, [.t 3]⟩ ::
            ⟨some 38, none, .mov, [.t 6]⟩ ::
            ⟨some 39, none, .mov, [.t 4]⟩ ::
            ⟨some 40, none, .iaddrS 2, [.t 37, .t 38]⟩ ::
            ⟨some 41, none, .faddr 1, [.t 40]⟩ ::
            ⟨none, none, .store 1, [.t 41, .t 39]⟩ ::
            []) [0, 3, 8, 9, 10])
          (.reg [] (
            ⟨some 42, none, .mov, [.t 3]⟩ ::
            ⟨some 43, none, .mov, [.t 4]⟩ ::
            ⟨some 44, none, .mov, [.t 4]⟩ ::
            ⟨some 45, none, .build [.int .i64 0, .int .i64 0] [(0, 1), (1, 1)], [.t 43, .t 44]⟩ ::
            ⟨some 46, none, .mkrow 2 (.agg [.int .i64 0, .int .i64 0]) 1 [0], [.t 45]⟩ ::
            ⟨some 47, none, .app 54 2 none true, [.t 42, .t 46]⟩ ::
            ⟨some 3, none, .mov, [.t 47]⟩ ::
            []) [0, 3, 8, 9, 10])))))))
      (.reg [] (
        ⟨some 48, none, .bin .add, [.t 10, .k (.d (.int .i64 1))]⟩ ::
        ⟨some 10, none, .mov, [.t 48]⟩ ::
        []) [0, 3, 8, 9, 10])))))))
  (.seq (.reg [] (
    ⟨some 49, none, .mov, [.t 3]⟩ ::
    ⟨some 2, none, .mov, [.t 49]⟩ ::
    []) [2])
  (.ret))))
theorem dec_servo_head_ends : Fun E0 F_servo_head_ends pc_servo_head_ends [.t 2] 50 := fun_of_dec (fl := []) (by kernel_rfl)
-- platter/servo.isServo$1 (1)
abbrev F_servo_isServo_1 : Nat := 72
def pc_servo_isServo_1 : PC :=
  .seq (.reg [] (
    ⟨some 2, none, .mov, [.k (.d (.bool false))]⟩ ::
    []) [0])
  (.seq (.reg [] (
    ⟨some 3, none, .mov, [.t 0]⟩ ::
    ⟨some 4, none, .call 47, [.t 3, .k (.d (.int .i64 (-16))), .k (.d (.int .i64 16))]⟩ ::
    ⟨some 2, none, .mov, [.t 4]⟩ ::
    []) [2])
  (.ret))
theorem dec_servo_isServo_1 : Fun E0 F_servo_isServo_1 pc_servo_isServo_1 [.t 2] 5 := fun_of_dec (fl := []) (by kernel_rfl)
-- slices.IndexFunc[[]platter/api.Wedge,platter/api.Wedge] (2)
abbrev F_slices_IndexFunc_api_Wedge_api_Wedge : Nat := 73
def pc_slices_IndexFunc_api_Wedge_api_Wedge : PC :=
  .seq (.reg [] (
    ⟨some 4, none, .mov, [.k (.d (.int .i64 0))]⟩ ::
    []) [0, 1])
  (.seq (.seq (.reg [] (
    ⟨some 6, none, .mov, [.t 0]⟩ ::
    ⟨some 7, none, .len false, [.t 6]⟩ ::
    ⟨some 8, none, .mov, [.k (.d (.int .i64 0))]⟩ ::
    []) [0, 1, 7, 8])
  (.block 0
    (.loop [] [0, 1, 7, 8] [900000, 900001, 901000, 901001]
      (.seq (.reg [] (
        ⟨some 9, none, .bin .lss, [.t 8, .t 7]⟩ ::
        []) [0, 1, 7, 8, 9])
      (.seq (.cond (.t 9)
        (.skip)
        (.exit 0))
      (.seq (.block 1
        (.seq (.reg [] (
          ⟨some 10, none, .mov, [.t 8]⟩ ::
          ⟨some 5, none, .mov, [.t 10]⟩ ::
          []) [0, 1, 5, 7, 8])
        (.seq (.reg [] (
          ⟨some 11, none, .mov, [.t 1]⟩ ::
          ⟨some 12, none, .mov, [.t 0]⟩ ::
          ⟨some 13, none, .mov, [.t 5]⟩ ::
          ⟨some 14, none, .iaddrS 2, [.t 12, .t 13]⟩ ::
          ⟨some 15, none, .load true 2, [.t 14]⟩ ::
          ⟨some 16, none, .callv, [.t 11, .t 15]⟩ ::
          []) [0, 1, 5, 7, 8, 16])
        (.cond (.t 16)
          (.seq (.reg [] (
            ⟨some 17, none, .mov, [.t 5]⟩ ::
            ⟨some 4, none, .mov, [.t 17]⟩ ::
            []) [4])
          (.ret))
          (.skip)))))
      (.reg [] (
        ⟨some 18, none, .bin .add, [.t 8, .k (.d (.int .i64 1))]⟩ ::
        ⟨some 8, none, .mov, [.t 18]⟩ ::
        []) [0, 1, 7, 8])))))))
  (.seq (.reg [] (
    ⟨some 4, none, .mov, [.k (.d (.int .i64 (-1)))]⟩ ::
    []) [4])
  (.ret)))
theorem dec_slices_IndexFunc_api_Wedge_api_Wedge : Fun E0 F_slices_IndexFunc_api_Wedge_api_Wedge pc_slices_IndexFunc_api_Wedge_api_Wedge [.t 4] 19 := fun_of_dec (fl := []) (by kernel_rfl)
abbrev F_ref02_ends : Nat := 74
-- (*platter/servo.head).near (2)
abbrev F_servo_head_near : Nat := 75
def pc_servo_head_near : PC :=
  .seq (.reg [] (
    ⟨some 4, none, .mov, [.k (.d (.list true []))]⟩ ::
    []) [0, 1])
  (.seq (.reg [] (
    ⟨some 7, none, .mov, [.t 1]⟩ ::
    ⟨some 8, none, .len false, [.t 7]⟩ ::
    ⟨some 9, none, .mksl 3 1 (.int .i64 0) true, [.t 8, .t 8]⟩ ::
    ⟨some 5, none, .mov, [.t 9]⟩ ::
    []) [0, 1, 5])
  (.seq (.seq (.reg [] (
    ⟨some 10, none, .mov, [.t 5]⟩ ::
    ⟨some 11, none, .len false, [.t 10]⟩ ::
    ⟨some 12, none, .mov, [.k (.d (.int .i64 0))]⟩ ::
    []) [0, 1, 5, 11, 12])
  (.block 0
    (.loop [] [0, 1, 5, 11, 12] [9, 38, 10038, 900000, 900001, 901000, 901001]
      (.seq (.reg [] (
        ⟨some 13, none, .bin .lss, [.t 12, .t 11]⟩ ::
        []) [0, 1, 5, 11, 12, 13])
      (.seq (.cond (.t 13)
        (.skip)
        (.exit 0))
      (.seq (.block 1
        (.seq (.reg [] (
          ⟨some 14, none, .mov, [.t 12]⟩ ::
          ⟨some 6, none, .mov, [.t 14]⟩ ::
          []) [0, 1, 5, 6, 11, 12])
        (.draw [] (
          (⟨some 15, none, .mov, [.t 5]⟩, []) ::
          (⟨some 16, none, .mov, [.t 6]⟩, []) ::
          (⟨some 17, none, .mov, [.t 1]⟩, []) ::
          (⟨some 18, none, .mov, [.t 6]⟩, []) ::
          (⟨some 19, none, .mov, [.t 0]⟩, []) ::
          (⟨some 20, none, .nilck, [.t 19]⟩, []) ::
          (⟨some 21, none, .faddr 0, [.t 20]⟩, []) ::
          (⟨some 22, none, .faddr 2, [.t 21]⟩, []) ::
          (⟨some 23, none, .load false 1, [.t 22]⟩, []) ::
          (⟨some 24, none, .bin .sub, [.t 18, .t 23]⟩, []) ::
          (⟨some 25, none, .minmax true, [.k (.d (.int .i64 0)), .t 24]⟩, []) ::
          (⟨some 26, none, .mov, [.t 1]⟩, []) ::
          (⟨some 27, none, .len false, [.t 26]⟩, []) ::
          (⟨some 28, none, .mov, [.t 6]⟩, []) ::
          (⟨some 29, none, .mov, [.t 0]⟩, []) ::
          (⟨some 30, none, .nilck, [.t 29]⟩, []) ::
          (⟨some 31, none, .faddr 0, [.t 30]⟩, []) ::
          (⟨some 32, none, .faddr 2, [.t 31]⟩, []) ::
          (⟨some 33, none, .load false 1, [.t 32]⟩, []) ::
          (⟨some 34, none, .bin .add, [.t 28, .t 33]⟩, []) ::
          (⟨some 35, none, .bin .add, [.t 34, .k (.d (.int .i64 1))]⟩, []) ::
          (⟨some 36, none, .minmax false, [.t 27, .t 35]⟩, []) ::
          (⟨some 37, none, .slice 1 true true false, [.t 17, .t 25, .t 36]⟩, []) ::
          (⟨some 38, none, .call 64, [.t 37]⟩, []) ::
          (⟨some 39, none, .iaddrS 1, [.t 15, .t 16]⟩, []) ::
          (⟨none, none, .store 1, [.t 39, .t 38]⟩, []) ::
          []) [0, 1, 5, 11, 12])))
      (.reg [] (
        ⟨some 40, none, .bin .add, [.t 12, .k (.d (.int .i64 1))]⟩ ::
        ⟨some 12, none, .mov, [.t 40]⟩ ::
        []) [0, 1, 5, 11, 12])))))))
  (.seq (.reg [] (
    ⟨some 41, none, .mov, [.t 5]⟩ ::
    ⟨some 4, none, .mov, [.t 41]⟩ ::
    []) [4])
  (.ret))))
theorem dec_servo_head_near : Fun E0 F_servo_head_near pc_servo_head_near [.t 4] 42 := fun_of_dec (fl := []) (by kernel_rfl)
-- slices.Clone[platter/servo.row,int] (1)
abbrev F_slices_Clone_servo_row_int : Nat := 76
def pc_slices_Clone_servo_row_int : PC :=
  .seq (.reg [] (
    ⟨some 2, none, .mov, [.k (.d (.list true []))]⟩ ::
    []) [0])
  (.seq (.seq (.reg [] (
    ⟨some 3, none, .mov, [.t 0]⟩ ::
    ⟨some 4, none, .eqnil false, [.t 3, .k (.d (.list true []))]⟩ ::
    []) [0, 4])
  (.cond (.t 4)
    (.seq (.reg [] (
      ⟨some 2, none, .mov, [.k (.d (.list true []))]⟩ ::
      []) [2])
    (.ret))
    (.skip)))
  (.seq (.reg [] (
    ⟨some 5, none, .mkrow 1 (.int .i64 0) 0 [], []⟩ ::
    ⟨some 6, none, .mov, [.t 0]⟩ ::
    ⟨some 7, none, .app 3 1 none true, [.t 5, .t 6]⟩ ::
    ⟨some 2, none, .mov, [.t 7]⟩ ::
    []) [2])
  (.ret)))
theorem dec_slices_Clone_servo_row_int : Fun E0 F_slices_Clone_servo_row_int pc_slices_Clone_servo_row_int [.t 2] 8 := fun_of_dec (fl := []) (by kernel_rfl)
end Go.Pw
