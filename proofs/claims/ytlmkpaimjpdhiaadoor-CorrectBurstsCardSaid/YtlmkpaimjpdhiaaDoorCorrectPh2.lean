/- A part of the proof. -/
import Derived.Test.YtlmkpaimjpdhiaaDoorCorrectPC
set_option linter.all false
open Go Go.Pw Go.Proofs
namespace Go.Pw
set_option maxRecDepth 100000
def GH:PC :=
 .seq (.reg [] (
  ⟨some 3,none,.box,[.t 0]⟩ ::
  ⟨some 6,none,.mov,[.k (.d (.list true []))]⟩ ::
  ⟨some 7,none,.mov,[.k (.d (.int .i64 0))]⟩ ::
  []) [1,2,3])
 (.seq (.reg [] (
  ⟨some 18,none,.load true 3,[.t 3]⟩ ::
  ⟨some 19,none,.mov,[.t 1]⟩ ::
  ⟨some 20,none,.call 61,[.t 18,.t 19,.k (.fn 70 [])]⟩ ::
  ⟨some 17,none,.mov,[.t 20]⟩ ::
  ⟨some 21,none,.extract 0,[.t 17]⟩ ::
  ⟨some 22,none,.extract 1,[.t 17]⟩ ::
  ⟨some 8,none,.zero [.int .i64 0,.int .i64 0,.int .i64 0],[]⟩ ::
  ⟨none,none,.store 3,[.t 8,.t 21]⟩ ::
  ⟨some 9,none,.mov,[.t 22]⟩ ::
  []) [1,2,8,9])
 (.seq (.seq (.reg [] (
  ⟨some 23,none,.mov,[.t 9]⟩ ::
  ⟨some 24,none,.bin .neq,[.t 23,.k (.d (.int .i64 0))]⟩ ::
  []) [1,2,8,9,24])
 (.cond (.t 24)
  (.seq (.reg [] (
   ⟨some 25,none,.mov,[.t 9]⟩ ::
   ⟨some 6,none,.mov,[.k (.d (.list true []))]⟩ ::
   ⟨some 7,none,.mov,[.t 25]⟩ ::
   []) [6,7])
  (.ret))
  (.skip)))
 (.seq (.seq (.reg [] (
  ⟨some 26,none,.mov,[.t 2]⟩ ::
  ⟨some 27,none,.mov,[.t 1]⟩ ::
  ⟨some 28,none,.len false,[.t 27]⟩ ::
  ⟨some 29,none,.call 51,[.t 26,.t 28]⟩ ::
  ⟨some 30,none,.un .not,[.t 29]⟩ ::
  []) [1,2,8,30])
 (.cond (.t 30)
  (.seq (.reg [] (
   ⟨some 6,none,.mov,[.k (.d (.list true []))]⟩ ::
   ⟨some 7,none,.mov,[.k (.d (.int .i64 1))]⟩ ::
   []) [6,7])
  (.ret))
  (.skip)))
 (.seq (.reg [] (
  ⟨some 10,none,.mov,[.k (.d (.list true []))]⟩ ::
  []) [1,2,8,10])
 (.seq (.seq (.reg [] (
  ⟨some 31,none,.faddr 2,[.t 8]⟩ ::
  ⟨some 32,none,.load false 1,[.t 31]⟩ ::
  ⟨some 33,none,.mov,[.k (.d (.int .i64 0))]⟩ ::
  []) [1,2,8,10,32,33])
 (.block 0
  (.loop [.own 10 76 67 1] [1,2,8,10,32,33] [8,20,76,10020,900001,900002,901001,901002]
   (.seq (.reg [] (
    ⟨some 34,none,.bin .lss,[.t 33,.t 32]⟩ ::
    []) [1,2,8,10,32,33,34])
   (.seq (.cond (.t 34)
    (.skip)
    (.exit 0))
   (.seq (.block 1
    (.seq (.reg [] (
     ⟨some 35,none,.mov,[.t 33]⟩ ::
     ⟨some 11,none,.mov,[.t 35]⟩ ::
     []) [1,2,8,10,11,32,33])
    (.seq (.reg [] (
     ⟨some 12,none,.mov,[.k (.d (.list true []))]⟩ ::
     []) [1,2,8,10,11,12,32,33])
    (.seq (.seq (.reg [] (
     ⟨some 36,none,.mov,[.t 2]⟩ ::
     ⟨some 37,none,.len false,[.t 36]⟩ ::
     ⟨some 38,none,.mov,[.k (.d (.int .i64 0))]⟩ ::
     []) [1,2,8,10,11,12,32,33,36,37,38])
    (.block 2
     (.loop [.own 10 76 67 1,.own 12 54 3 1] [1,2,8,10,11,12,32,33,36,37,38] [8,20,54,76,10020,900001,900002,901001,901002]
      (.seq (.reg [] (
       ⟨some 39,none,.bin .lss,[.t 38,.t 37]⟩ ::
       []) [1,2,8,10,11,12,32,33,36,37,38,39])
      (.seq (.cond (.t 39)
       (.skip)
       (.exit 2))
      (.seq (.block 3
       (.seq (.reg [] (
        ⟨some 40,none,.iaddrS 1,[.t 36,.t 38]⟩ ::
        ⟨some 41,none,.load false 1,[.t 40]⟩ ::
        ⟨some 14,none,.mov,[.t 41]⟩ ::
        []) [1,2,8,10,11,12,14,32,33,36,37,38])
       (.seq (.reg [] (
        ⟨some 42,none,.mov,[.t 14]⟩ ::
        ⟨some 43,none,.faddr 2,[.t 8]⟩ ::
        ⟨some 44,none,.load false 1,[.t 43]⟩ ::
        ⟨some 45,none,.bin .rem,[.t 42,.t 44]⟩ ::
        ⟨some 46,none,.mov,[.t 11]⟩ ::
        ⟨some 47,none,.bin .eql,[.t 45,.t 46]⟩ ::
        []) [1,2,8,10,11,12,14,32,33,36,37,38,47])
       (.cond (.t 47)
        (.reg [] (
         ⟨some 48,none,.mov,[.t 12]⟩ ::
         ⟨some 49,none,.mov,[.t 14]⟩ ::
         ⟨some 50,none,.faddr 2,[.t 8]⟩ ::
         ⟨some 51,none,.load false 1,[.t 50]⟩ ::
         ⟨some 52,none,.bin .quo,[.t 49,.t 51]⟩ ::
         ⟨some 53,none,.mkrow 1 (.int .i64 0) 1 [0],[.t 52]⟩ ::
         ⟨some 54,none,.app 3 1 none true,[.t 48,.t 53]⟩ ::
         ⟨some 12,none,.mov,[.t 54]⟩ ::
         []) [1,2,8,10,11,12,32,33,36,37,38])
        (.skip)))))
      (.reg [] (
       ⟨some 55,none,.bin .add,[.t 38,.k (.d (.int .i64 1))]⟩ ::
       ⟨some 38,none,.mov,[.t 55]⟩ ::
       []) [1,2,8,10,11,12,32,33,36,37,38])))))))
    (.seq (.draw [.freeze 12] (
     (⟨some 57,none,.faddr 0,[.t 8]⟩,[]) ::
     (⟨some 58,none,.load true 2,[.t 57]⟩,[]) ::
     (⟨some 59,none,.load true 3,[.t 8]⟩,[]) ::
     (⟨some 60,none,.mov,[.t 1]⟩,[]) ::
     (⟨some 61,none,.mov,[.t 11]⟩,[]) ::
     (⟨some 62,none,.call 66,[.t 59,.t 60,.t 61]⟩,[1]) ::
     (⟨some 63,none,.mov,[.t 12]⟩,[]) ::
     (⟨some 64,none,.call 52,[.t 58,.t 62,.t 63]⟩,[]) ::
     (⟨some 56,none,.mov,[.t 64]⟩,[]) ::
     (⟨some 65,none,.extract 0,[.t 56]⟩,[]) ::
     (⟨some 66,none,.extract 1,[.t 56]⟩,[]) ::
     (⟨some 15,none,.mov,[.t 65]⟩,[]) ::
     (⟨some 16,none,.mov,[.t 66]⟩,[]) ::
     []) [1,2,8,10,15,16,32,33])
    (.seq (.seq (.reg [] (
     ⟨some 67,none,.mov,[.t 16]⟩ ::
     ⟨some 68,none,.un .not,[.t 67]⟩ ::
     []) [1,2,8,10,15,32,33,68])
    (.cond (.t 68)
     (.seq (.reg [] (
      ⟨some 6,none,.mov,[.k (.d (.list true []))]⟩ ::
      ⟨some 7,none,.mov,[.k (.d (.int .i64 52))]⟩ ::
      []) [6,7])
     (.ret))
     (.skip)))
    (.reg [] (
     ⟨some 69,none,.mov,[.t 10]⟩ ::
     ⟨some 70,none,.mov,[.t 15]⟩ ::
     ⟨some 71,none,.faddr 0,[.t 8]⟩ ::
     ⟨some 72,none,.load true 2,[.t 71]⟩ ::
     ⟨some 73,none,.call 65,[.t 72]⟩ ::
     ⟨some 74,none,.slice 1 false true false,[.t 70,.t 73]⟩ ::
     ⟨some 75,none,.mkrow 1 (.list true []) 1 [0],[.t 74]⟩ ::
     ⟨some 76,none,.app 67 1 none true,[.t 69,.t 75]⟩ ::
     ⟨some 10,none,.mov,[.t 76]⟩ ::
     []) [1,2,8,10,32,33])))))))
   (.reg [] (
    ⟨some 77,none,.bin .add,[.t 33,.k (.d (.int .i64 1))]⟩ ::
    ⟨some 33,none,.mov,[.t 77]⟩ ::
    []) [1,2,8,10,32,33])))))))
 (.seq (.reg [.freeze 10] (
  ⟨some 78,none,.load true 3,[.t 8]⟩ ::
  ⟨some 79,none,.mov,[.t 10]⟩ ::
  ⟨some 80,none,.call 67,[.t 78,.t 79]⟩ ::
  ⟨some 6,none,.mov,[.t 80]⟩ ::
  ⟨some 7,none,.mov,[.k (.d (.int .i64 0))]⟩ ::
  []) [6,7])
 (.ret)))))))
theorem J8:DR E0 EC GH [.t 6,.t 7] 81:=AP (fl:=[]) (by kernel_rfl)
def HV:PC :=
 .seq (.reg [] (
  ⟨some 3,none,.box,[.t 0]⟩ ::
  ⟨some 6,none,.mov,[.k (.d (.list true []))]⟩ ::
  ⟨some 7,none,.mov,[.k (.d (.int .i64 0))]⟩ ::
  []) [1,2,3])
 (.seq (.seq (.reg [] (
  ⟨some 16,none,.load true 3,[.t 3]⟩ ::
  ⟨some 17,none,.call 68,[.t 16]⟩ ::
  ⟨some 18,none,.bin .neq,[.t 17,.k (.d (.int .i64 0))]⟩ ::
  []) [1,2,3,18])
 (.cond (.t 18)
  (.seq (.reg [] (
   ⟨some 6,none,.mov,[.k (.d (.list true []))]⟩ ::
   ⟨some 7,none,.mov,[.k (.d (.int .i64 50))]⟩ ::
   []) [6,7])
  (.ret))
  (.skip)))
 (.seq (.seq (.reg [] (
  ⟨some 19,none,.mov,[.t 1]⟩ ::
  ⟨some 20,none,.faddr 2,[.t 3]⟩ ::
  ⟨some 21,none,.load false 1,[.t 20]⟩ ::
  ⟨some 22,none,.faddr 0,[.t 3]⟩ ::
  ⟨some 23,none,.faddr 0,[.t 22]⟩ ::
  ⟨some 24,none,.load false 1,[.t 23]⟩ ::
  ⟨some 25,none,.bin .mul,[.t 21,.t 24]⟩ ::
  ⟨some 26,none,.call 25,[.t 19,.t 25]⟩ ::
  ⟨some 27,none,.un .not,[.t 26]⟩ ::
  []) [1,2,3,27])
 (.cond (.t 27)
  (.seq (.reg [] (
   ⟨some 6,none,.mov,[.k (.d (.list true []))]⟩ ::
   ⟨some 7,none,.mov,[.k (.d (.int .i64 51))]⟩ ::
   []) [6,7])
  (.ret))
  (.skip)))
 (.seq (.seq (.reg [] (
  ⟨some 28,none,.mov,[.t 2]⟩ ::
  ⟨some 29,none,.mov,[.t 1]⟩ ::
  ⟨some 30,none,.len false,[.t 29]⟩ ::
  ⟨some 31,none,.call 55,[.t 28,.t 30]⟩ ::
  ⟨some 32,none,.un .not,[.t 31]⟩ ::
  []) [1,2,3,32])
 (.cond (.t 32)
  (.seq (.reg [] (
   ⟨some 6,none,.mov,[.k (.d (.list true []))]⟩ ::
   ⟨some 7,none,.mov,[.k (.d (.int .i64 1))]⟩ ::
   []) [6,7])
  (.ret))
  (.skip)))
 (.seq (.reg [] (
  ⟨some 33,none,.faddr 0,[.t 3]⟩ ::
  ⟨some 34,none,.faddr 0,[.t 33]⟩ ::
  ⟨some 35,none,.load false 1,[.t 34]⟩ ::
  ⟨some 36,none,.faddr 0,[.t 3]⟩ ::
  ⟨some 37,none,.faddr 1,[.t 36]⟩ ::
  ⟨some 38,none,.load false 1,[.t 37]⟩ ::
  ⟨some 39,none,.bin .sub,[.t 35,.t 38]⟩ ::
  ⟨some 8,none,.mov,[.t 39]⟩ ::
  []) [1,2,3,8])
 (.seq (.reg [] (
  ⟨some 40,none,.faddr 2,[.t 3]⟩ ::
  ⟨some 41,none,.load false 1,[.t 40]⟩ ::
  ⟨some 42,none,.mov,[.t 8]⟩ ::
  ⟨some 43,none,.bin .mul,[.t 41,.t 42]⟩ ::
  ⟨some 44,none,.mksl 3 1 (.int .i64 0) true,[.t 43,.t 43]⟩ ::
  ⟨some 9,none,.mov,[.t 44]⟩ ::
  []) [1,2,3,8,9])
 (.seq (.seq (.reg [] (
  ⟨some 10,none,.mov,[.k (.d (.int .i64 0))]⟩ ::
  []) [1,2,3,8,9,10])
 (.block 0
  (.loop [] [1,2,3,8,9,10] [3,44,10085,900000,900001,900002,901000,901001,901002]
   (.seq (.seq (.reg [] (
    ⟨some 45,none,.mov,[.t 10]⟩ ::
    ⟨some 46,none,.faddr 2,[.t 3]⟩ ::
    ⟨some 47,none,.load false 1,[.t 46]⟩ ::
    ⟨some 48,none,.bin .lss,[.t 45,.t 47]⟩ ::
    []) [1,2,3,8,9,10,48])
   (.cond (.t 48)
    (.skip)
    (.exit 0)))
   (.seq (.block 1
    (.seq (.reg [] (
     ⟨some 11,none,.mov,[.k (.d (.list true []))]⟩ ::
     []) [1,2,3,8,9,10,11])
    (.seq (.seq (.reg [] (
     ⟨some 12,none,.mov,[.k (.d (.int .i64 0))]⟩ ::
     []) [1,2,3,8,9,10,11,12])
    (.block 2
     (.loop [.own 11 75 3 1] [1,2,3,8,9,10,11,12] [3,44,75,10085,900000,900001,900002,901000,901001,901002]
      (.seq (.seq (.reg [] (
       ⟨some 51,none,.mov,[.t 12]⟩ ::
       ⟨some 52,none,.mov,[.t 2]⟩ ::
       ⟨some 53,none,.len false,[.t 52]⟩ ::
       ⟨some 54,none,.bin .lss,[.t 51,.t 53]⟩ ::
       []) [1,2,3,8,9,10,11,12,54])
      (.cond (.t 54)
       (.skip)
       (.exit 2)))
      (.seq (.block 3
       (.seq (.draw [] (
        (⟨some 57,none,.mov,[.t 2]⟩,[]) ::
        (⟨some 58,none,.mov,[.t 12]⟩,[]) ::
        (⟨some 59,none,.iaddrS 1,[.t 57,.t 58]⟩,[]) ::
        (⟨some 60,none,.load false 1,[.t 59]⟩,[]) ::
        (⟨some 61,none,.faddr 2,[.t 3]⟩,[]) ::
        (⟨some 62,none,.load false 1,[.t 61]⟩,[]) ::
        (⟨some 63,none,.bin .rem,[.t 60,.t 62]⟩,[]) ::
        (⟨some 64,none,.mov,[.t 10]⟩,[]) ::
        (⟨some 65,none,.bin .eql,[.t 63,.t 64]⟩,[]) ::
        []) [1,2,3,8,9,10,11,12,65])
       (.cond (.t 65)
        (.draw [] (
         (⟨some 66,none,.mov,[.t 11]⟩,[]) ::
         (⟨some 67,none,.mov,[.t 2]⟩,[]) ::
         (⟨some 68,none,.mov,[.t 12]⟩,[]) ::
         (⟨some 69,none,.iaddrS 1,[.t 67,.t 68]⟩,[]) ::
         (⟨some 70,none,.load false 1,[.t 69]⟩,[]) ::
         (⟨some 71,none,.faddr 2,[.t 3]⟩,[]) ::
         (⟨some 72,none,.load false 1,[.t 71]⟩,[]) ::
         (⟨some 73,none,.bin .quo,[.t 70,.t 72]⟩,[]) ::
         (⟨some 74,none,.mkrow 1 (.int .i64 0) 1 [0],[.t 73]⟩,[]) ::
         (⟨some 75,none,.app 3 1 none true,[.t 66,.t 74]⟩,[]) ::
         (⟨some 11,none,.mov,[.t 75]⟩,[]) ::
         []) [1,2,3,8,9,10,11,12])
        (.skip))))
      (.reg [] (
       ⟨some 55,none,.mov,[.t 12]⟩ ::
       ⟨some 56,none,.bin .add,[.t 55,.k (.d (.int .i64 1))]⟩ ::
       ⟨some 12,none,.mov,[.t 56]⟩ ::
       []) [1,2,3,8,9,10,11,12]))))))
    (.seq (.draw [.freeze 11] (
     (⟨some 77,none,.faddr 0,[.t 3]⟩,[]) ::
     (⟨some 78,none,.load true 2,[.t 77]⟩,[]) ::
     (⟨some 79,none,.mov,[.t 1]⟩,[]) ::
     (⟨some 80,none,.faddr 2,[.t 3]⟩,[]) ::
     (⟨some 81,none,.load false 1,[.t 80]⟩,[]) ::
     (⟨some 82,none,.mov,[.t 10]⟩,[]) ::
     (⟨some 83,none,.call 69,[.t 79,.t 81,.t 82]⟩,[1]) ::
     (⟨some 84,none,.mov,[.t 11]⟩,[]) ::
     (⟨some 85,none,.call 54,[.t 78,.t 83,.t 84]⟩,[]) ::
     (⟨some 76,none,.mov,[.t 85]⟩,[]) ::
     (⟨some 86,none,.extract 0,[.t 76]⟩,[]) ::
     (⟨some 87,none,.extract 1,[.t 76]⟩,[]) ::
     (⟨some 13,none,.mov,[.t 86]⟩,[]) ::
     (⟨some 14,none,.mov,[.t 87]⟩,[]) ::
     []) [1,2,3,8,9,10,13,14])
    (.seq (.seq (.reg [] (
     ⟨some 88,none,.mov,[.t 14]⟩ ::
     ⟨some 89,none,.un .not,[.t 88]⟩ ::
     []) [1,2,3,8,9,10,13,89])
    (.cond (.t 89)
     (.seq (.reg [] (
      ⟨some 6,none,.mov,[.k (.d (.list true []))]⟩ ::
      ⟨some 7,none,.mov,[.k (.d (.int .i64 52))]⟩ ::
      []) [6,7])
     (.ret))
     (.skip)))
    (.seq (.reg [] (
     ⟨some 15,none,.mov,[.k (.d (.int .i64 0))]⟩ ::
     []) [1,2,3,8,9,10,13,15])
    (.block 4
     (.loop [] [1,2,3,8,9,10,13,15] [3,44,85,10085,900000,900001,900002,901000,901001,901002]
      (.seq (.seq (.reg [] (
       ⟨some 90,none,.mov,[.t 15]⟩ ::
       ⟨some 91,none,.mov,[.t 8]⟩ ::
       ⟨some 92,none,.bin .lss,[.t 90,.t 91]⟩ ::
       []) [1,2,3,8,9,10,13,15,92])
      (.cond (.t 92)
       (.skip)
       (.exit 4)))
      (.seq (.block 5
       (.draw [] (
        (⟨some 95,none,.mov,[.t 9]⟩,[]) ::
        (⟨some 96,none,.mov,[.t 15]⟩,[]) ::
        (⟨some 97,none,.faddr 2,[.t 3]⟩,[]) ::
        (⟨some 98,none,.load false 1,[.t 97]⟩,[]) ::
        (⟨some 99,none,.bin .mul,[.t 96,.t 98]⟩,[]) ::
        (⟨some 100,none,.mov,[.t 10]⟩,[]) ::
        (⟨some 101,none,.bin .add,[.t 99,.t 100]⟩,[]) ::
        (⟨some 102,none,.mov,[.t 13]⟩,[]) ::
        (⟨some 103,none,.mov,[.t 15]⟩,[]) ::
        (⟨some 104,none,.iaddrS 1,[.t 102,.t 103]⟩,[]) ::
        (⟨some 105,none,.load false 1,[.t 104]⟩,[]) ::
        (⟨some 106,none,.iaddrS 1,[.t 95,.t 101]⟩,[]) ::
        (⟨none,none,.store 1,[.t 106,.t 105]⟩,[]) ::
        []) [1,2,3,8,9,10,13,15]))
      (.reg [] (
       ⟨some 93,none,.mov,[.t 15]⟩ ::
       ⟨some 94,none,.bin .add,[.t 93,.k (.d (.int .i64 1))]⟩ ::
       ⟨some 15,none,.mov,[.t 94]⟩ ::
       []) [1,2,3,8,9,10,13,15])))))))))))
   (.reg [] (
    ⟨some 49,none,.mov,[.t 10]⟩ ::
    ⟨some 50,none,.bin .add,[.t 49,.k (.d (.int .i64 1))]⟩ ::
    ⟨some 10,none,.mov,[.t 50]⟩ ::
    []) [1,2,3,8,9,10]))))))
 (.seq (.reg [] (
  ⟨some 107,none,.mov,[.t 9]⟩ ::
  ⟨some 6,none,.mov,[.t 107]⟩ ::
  ⟨some 7,none,.mov,[.k (.d (.int .i64 0))]⟩ ::
  []) [6,7])
 (.ret))))))))
theorem Lb:DR E0 Gh HV [.t 6,.t 7] 108:=AP (fl:=[75]) (by kernel_rfl)
end Go.Pw
