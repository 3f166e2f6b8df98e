/- A part of the proof. -/
import Derived.Test.YtibkjeolahobbaaGreatDoorPwVC
import Derived.Test.YtibkjeolahobbaaGreatDoorProg
import Derived.KernelRfl
set_option linter.all false
open Go Go.Pw Go.Proofs
namespace Go.Pw
set_option maxRecDepth 100000
def G0:Nat→Option (List D):=fun g=>if g=1 then some [.int .u8 1,.int .u8 2,.int .u8 4,.int .u8 8,.int .u8 3,.int .u8 6,.int .u8 12,.int .u8 11,.int .u8 5,.int .u8 10,.int .u8 7,.int .u8 14,.int .u8 15,.int .u8 13,.int .u8 9] else if g=0 then some [.int .i64 0,.int .i64 0,.int .i64 1,.int .i64 4,.int .i64 2,.int .i64 8,.int .i64 5,.int .i64 10,.int .i64 3,.int .i64 14,.int .i64 9,.int .i64 7,.int .i64 6,.int .i64 13,.int .i64 11,.int .i64 12] else none
noncomputable def E0:Ci:=⟨Tryz.prog,G0⟩
theorem Am:E0.P.follows .mixedOrders=true:=by kernel_rfl
abbrev R6:Nat:=3
abbrev aA:Nat:=2
abbrev Gb:Nat:=3
def F7:PC :=
 .seq (.reg [] (
 ⟨some 2,none,.box,[.t 0]⟩ ::
 ⟨some 3,none,.box,[.t 1]⟩ ::
 ⟨some 4,none,.mov,[.k (.d (.bool false))]⟩ ::
 []) [2,3])
 (.seq (.seq (.reg [] (
 ⟨some 18,none,.load true 12,[.t 2]⟩ ::
 ⟨some 19,none,.faddr 0,[.t 3]⟩ ::
 ⟨some 20,none,.load false 1,[.t 19]⟩ ::
 ⟨some 21,none,.call 9,[.t 18,.t 20]⟩ ::
 ⟨some 22,none,.un .not,[.t 21]⟩ ::
 ⟨some 23,none,.mov,[.t 22]⟩ ::
 ⟨some 24,some (23,false),.faddr 1,[.t 3]⟩ ::
 ⟨some 25,some (23,false),.load false 1,[.t 24]⟩ ::
 ⟨some 26,some (23,false),.len false,[.t 25]⟩ ::
 ⟨some 27,some (23,false),.bin .gtr,[.t 26,.k (.d (.int .i64 100))]⟩ ::
 ⟨some 28,none,.pick,[.t 23,.k (.d (.bool true)),.t 27]⟩ ::
 []) [2,3,28])
 (.cond (.t 28)
 (.seq (.reg [] (
 ⟨some 29,none,.call 10,[]⟩ ::
 ⟨some 4,none,.mov,[.t 29]⟩ ::
 []) [4])
 (.ret))
 (.skip)))
 (.seq (.reg [] (
 ⟨some 31,none,.load true 12,[.t 2]⟩ ::
 ⟨some 32,none,.faddr 0,[.t 3]⟩ ::
 ⟨some 33,none,.load false 1,[.t 32]⟩ ::
 ⟨some 34,none,.call 11,[.t 31,.t 33]⟩ ::
 ⟨some 30,none,.mov,[.t 34]⟩ ::
 ⟨some 35,none,.extract 0,[.t 30]⟩ ::
 ⟨some 36,none,.extract 1,[.t 30]⟩ ::
 ⟨some 5,none,.mov,[.t 35]⟩ ::
 ⟨some 6,none,.mov,[.t 36]⟩ ::
 []) [2,3,5,6])
 (.seq (.seq (.reg [] (
 ⟨some 37,none,.mov,[.t 6]⟩ ::
 ⟨some 38,none,.bin .neq,[.t 37,.k (.d (.int .i64 0))]⟩ ::
 ⟨some 39,none,.mov,[.t 38]⟩ ::
 ⟨some 40,some (39,false),.mov,[.t 5]⟩ ::
 ⟨some 41,some (39,false),.len false,[.t 40]⟩ ::
 ⟨some 42,some (39,false),.load true 12,[.t 2]⟩ ::
 ⟨some 43,some (39,false),.call 12,[.t 42]⟩ ::
 ⟨some 44,some (39,false),.bin .neq,[.t 41,.t 43]⟩ ::
 ⟨some 45,none,.pick,[.t 39,.k (.d (.bool true)),.t 44]⟩ ::
 []) [2,3,5,45])
 (.cond (.t 45)
 (.seq (.reg [] (
 ⟨some 4,none,.mov,[.k (.d (.bool false))]⟩ ::
 []) [4])
 (.ret))
 (.skip)))
 (.seq (.reg [] (
 ⟨some 46,none,.mov,[.t 5]⟩ ::
 ⟨some 47,none,.faddr 1,[.t 3]⟩ ::
 ⟨some 48,none,.load false 1,[.t 47]⟩ ::
 ⟨some 49,none,.call 13,[.t 46,.t 48]⟩ ::
 ⟨some 7,none,.mov,[.t 49]⟩ ::
 []) [2,3,5,7])
 (.seq (.reg [] (
 ⟨some 51,none,.load true 12,[.t 2]⟩ ::
 ⟨some 52,none,.mov,[.t 7]⟩ ::
 ⟨some 53,none,.call 14,[.t 51,.t 52]⟩ ::
 ⟨some 50,none,.mov,[.t 53]⟩ ::
 ⟨some 54,none,.extract 0,[.t 50]⟩ ::
 ⟨some 55,none,.extract 1,[.t 50]⟩ ::
 ⟨some 56,none,.extract 2,[.t 50]⟩ ::
 ⟨some 8,none,.mov,[.t 54]⟩ ::
 ⟨some 9,none,.mov,[.t 55]⟩ ::
 ⟨some 10,none,.mov,[.t 56]⟩ ::
 []) [2,3,5,7,8,9,10])
 (.seq (.seq (.reg [] (
 ⟨some 58,none,.load true 12,[.t 2]⟩ ::
 ⟨some 59,none,.mov,[.t 7]⟩ ::
 ⟨some 60,none,.call 15,[.t 58,.t 59]⟩ ::
 ⟨some 57,none,.mov,[.t 60]⟩ ::
 ⟨some 61,none,.extract 0,[.t 57]⟩ ::
 ⟨some 62,none,.extract 1,[.t 57]⟩ ::
 ⟨some 11,none,.mov,[.t 61]⟩ ::
 ⟨some 12,none,.mov,[.t 62]⟩ ::
 []) [2,3,5,7,8,9,10,11,12])
 (.seq (.reg [] (
 ⟨some 63,none,.mov,[.t 12]⟩ ::
 ⟨some 64,none,.un .not,[.t 63]⟩ ::
 ⟨some 65,none,.mov,[.t 64]⟩ ::
 ⟨some 66,some (65,false),.mov,[.t 11]⟩ ::
 ⟨some 67,some (65,false),.bin .neq,[.t 66,.k (.d (.int .i64 0))]⟩ ::
 ⟨some 68,none,.pick,[.t 65,.k (.d (.bool true)),.t 67]⟩ ::
 []) [2,3,5,7,8,9,10,12,68])
 (.cond (.t 68)
 (.seq (.reg [] (
 ⟨some 69,none,.mov,[.t 12]⟩ ::
 ⟨some 70,none,.mov,[.t 69]⟩ ::
 ⟨some 71,some (70,false),.mov,[.t 10]⟩ ::
 ⟨some 72,some (70,false),.bin .eql,[.t 71,.k (.d (.int .i64 3))]⟩ ::
 ⟨some 73,none,.pick,[.t 70,.k (.d (.bool true)),.t 72]⟩ ::
 ⟨some 74,none,.mov,[.t 73]⟩ ::
 ⟨some 75,some (74,true),.call 10,[]⟩ ::
 ⟨some 76,none,.pick,[.t 74,.t 75,.k (.d (.bool false))]⟩ ::
 ⟨some 4,none,.mov,[.t 76]⟩ ::
 []) [4])
 (.ret))
 (.skip))))
 (.seq (.seq (.reg [] (
 ⟨some 77,none,.mov,[.t 10]⟩ ::
 ⟨some 78,none,.bin .neq,[.t 77,.k (.d (.int .i64 0))]⟩ ::
 ⟨some 79,none,.mov,[.t 78]⟩ ::
 ⟨some 80,some (79,true),.mov,[.t 10]⟩ ::
 ⟨some 81,some (79,true),.bin .neq,[.t 80,.k (.d (.int .i64 52))]⟩ ::
 ⟨some 82,none,.pick,[.t 79,.t 81,.k (.d (.bool false))]⟩ ::
 ⟨some 83,none,.mov,[.t 82]⟩ ::
 ⟨some 84,some (83,false),.mov,[.t 9]⟩ ::
 ⟨some 85,some (83,false),.bin .neq,[.t 84,.k (.d (.int .i64 0))]⟩ ::
 ⟨some 86,none,.pick,[.t 83,.k (.d (.bool true)),.t 85]⟩ ::
 []) [2,3,5,7,8,10,86])
 (.cond (.t 86)
 (.seq (.reg [] (
 ⟨some 4,none,.mov,[.k (.d (.bool false))]⟩ ::
 []) [4])
 (.ret))
 (.skip)))
 (.seq (.reg [] (
 ⟨some 87,none,.load true 12,[.t 2]⟩ ::
 ⟨some 88,none,.mov,[.t 5]⟩ ::
 ⟨some 89,none,.mov,[.t 7]⟩ ::
 ⟨some 90,none,.call 16,[.t 87,.t 88,.t 89]⟩ ::
 ⟨some 13,none,.mov,[.t 90]⟩ ::
 []) [2,3,8,10,13])
 (.seq (.reg [] (
 ⟨some 14,none,.mov,[.k (.d (.int .i64 0))]⟩ ::
 []) [2,3,8,10,13,14])
 (.seq (.seq (.reg [] (
 ⟨some 15,none,.mov,[.k (.d (.int .i64 0))]⟩ ::
 []) [2,3,8,10,13,14,15])
 (.block 0
 (.loop [] [2,3,8,10,13,14,15] [2,3,53,90,10053,10090,900000,900001,901000,901001]
 (.seq (.seq (.reg [] (
 ⟨some 91,none,.mov,[.t 15]⟩ ::
 ⟨some 92,none,.mov,[.t 13]⟩ ::
 ⟨some 93,none,.len false,[.t 92]⟩ ::
 ⟨some 94,none,.bin .lss,[.t 91,.t 93]⟩ ::
 []) [2,3,8,10,13,14,15,94])
 (.cond (.t 94)
 (.skip)
 (.exit 0)))
 (.seq (.block 1
 (.reg [] (
 ⟨some 97,none,.mov,[.t 14]⟩ ::
 ⟨some 98,none,.mov,[.t 13]⟩ ::
 ⟨some 99,none,.mov,[.t 15]⟩ ::
 ⟨some 100,none,.iaddrS 1,[.t 98,.t 99]⟩ ::
 ⟨some 101,none,.load false 1,[.t 100]⟩ ::
 ⟨some 102,none,.minmax true,[.t 97,.t 101]⟩ ::
 ⟨some 14,none,.mov,[.t 102]⟩ ::
 []) [2,3,8,10,13,14,15]))
 (.reg [] (
 ⟨some 95,none,.mov,[.t 15]⟩ ::
 ⟨some 96,none,.bin .add,[.t 95,.k (.d (.int .i64 1))]⟩ ::
 ⟨some 15,none,.mov,[.t 96]⟩ ::
 []) [2,3,8,10,13,14,15]))))))
 (.seq (.seq (.reg [] (
 ⟨some 103,none,.mov,[.t 14]⟩ ::
 ⟨some 104,none,.faddr 6,[.t 2]⟩ ::
 ⟨some 105,none,.faddr 0,[.t 104]⟩ ::
 ⟨some 106,none,.faddr 1,[.t 105]⟩ ::
 ⟨some 107,none,.load false 1,[.t 106]⟩ ::
 ⟨some 108,none,.bin .quo,[.t 107,.k (.d (.int .i64 2))]⟩ ::
 ⟨some 109,none,.bin .leq,[.t 103,.t 108]⟩ ::
 []) [2,3,8,10,14,109])
 (.cond (.t 109)
 (.seq (.reg [] (
 ⟨some 110,none,.mov,[.t 10]⟩ ::
 ⟨some 111,none,.bin .eql,[.t 110,.k (.d (.int .i64 0))]⟩ ::
 ⟨some 112,none,.mov,[.t 111]⟩ ::
 ⟨some 113,some (112,true),.mov,[.t 8]⟩ ::
 ⟨some 114,some (112,true),.faddr 0,[.t 3]⟩ ::
 ⟨some 115,some (112,true),.load false 1,[.t 114]⟩ ::
 ⟨some 116,some (112,true),.call 17,[.t 113,.t 115]⟩ ::
 ⟨some 117,none,.pick,[.t 112,.t 116,.k (.d (.bool false))]⟩ ::
 ⟨some 118,none,.mov,[.t 117]⟩ ::
 ⟨some 119,some (118,true),.call 10,[]⟩ ::
 ⟨some 120,none,.pick,[.t 118,.t 119,.k (.d (.bool false))]⟩ ::
 ⟨some 4,none,.mov,[.t 120]⟩ ::
 []) [4])
 (.ret))
 (.skip)))
 (.seq (.reg [] (
 ⟨some 122,none,.faddr 6,[.t 2]⟩ ::
 ⟨some 123,none,.faddr 0,[.t 122]⟩ ::
 ⟨some 124,none,.load true 2,[.t 123]⟩ ::
 ⟨some 125,none,.mov,[.t 14]⟩ ::
 ⟨some 126,none,.faddr 6,[.t 2]⟩ ::
 ⟨some 127,none,.faddr 0,[.t 126]⟩ ::
 ⟨some 128,none,.faddr 0,[.t 127]⟩ ::
 ⟨some 129,none,.load false 1,[.t 128]⟩ ::
 ⟨some 130,none,.minmax false,[.t 125,.t 129]⟩ ::
 ⟨some 131,none,.call 18,[.t 124,.t 130]⟩ ::
 ⟨some 121,none,.mov,[.t 131]⟩ ::
 ⟨some 132,none,.extract 0,[.t 121]⟩ ::
 ⟨some 133,none,.extract 1,[.t 121]⟩ ::
 ⟨some 16,none,.mov,[.t 132]⟩ ::
 ⟨some 17,none,.mov,[.t 133]⟩ ::
 []) [3,8,10,16,17])
 (.seq (.seq (.reg [] (
 ⟨some 134,none,.mov,[.t 17]⟩ ::
 ⟨some 135,none,.bin .neq,[.t 134,.k (.d (.int .i64 0))]⟩ ::
 []) [3,8,10,16,135])
 (.cond (.t 135)
 (.seq (.reg [] (
 ⟨some 4,none,.mov,[.k (.d (.bool false))]⟩ ::
 []) [4])
 (.ret))
 (.skip)))
 (.seq (.reg [] (
 ⟨some 136,none,.mov,[.t 16]⟩ ::
 ⟨some 137,none,.mov,[.t 136]⟩ ::
 ⟨some 138,some (137,false),.mov,[.t 10]⟩ ::
 ⟨some 139,some (137,false),.bin .eql,[.t 138,.k (.d (.int .i64 52))]⟩ ::
 ⟨some 140,none,.pick,[.t 137,.k (.d (.bool true)),.t 139]⟩ ::
 ⟨some 141,none,.mov,[.t 140]⟩ ::
 ⟨some 142,some (141,false),.mov,[.t 8]⟩ ::
 ⟨some 143,some (141,false),.faddr 0,[.t 3]⟩ ::
 ⟨some 144,some (141,false),.load false 1,[.t 143]⟩ ::
 ⟨some 145,some (141,false),.call 17,[.t 142,.t 144]⟩ ::
 ⟨some 146,none,.pick,[.t 141,.k (.d (.bool true)),.t 145]⟩ ::
 ⟨some 147,none,.mov,[.t 146]⟩ ::
 ⟨some 148,some (147,true),.call 10,[]⟩ ::
 ⟨some 149,none,.pick,[.t 147,.t 148,.k (.d (.bool false))]⟩ ::
 ⟨some 4,none,.mov,[.t 149]⟩ ::
 []) [4])
 (.ret)))))))))))))))
theorem Ju:Ch E0 Gb F7 [.t 4] 150:=AM (fl:=[]) (by kernel_rfl)
abbrev VX:Nat:=4
abbrev XL:Nat:=5
abbrev TP:Nat:=6
abbrev VY:Nat:=7
abbrev VZ:Nat:=8
abbrev Ln:Nat:=9
def KK:PC :=
 .seq (.reg [] (
 ⟨some 2,none,.box,[.t 0]⟩ ::
 ⟨some 4,none,.mov,[.k (.d (.bool false))]⟩ ::
 []) [1,2])
 (.seq (.reg [] (
 ⟨some 5,none,.load true 12,[.t 2]⟩ ::
 ⟨some 6,none,.call 19,[.t 5]⟩ ::
 ⟨some 7,none,.un .not,[.t 6]⟩ ::
 ⟨some 8,none,.mov,[.t 7]⟩ ::
 ⟨some 9,some (8,true),.load true 12,[.t 2]⟩ ::
 ⟨some 10,some (8,true),.call 22,[.t 9]⟩ ::
 ⟨some 11,some (8,true),.bin .eql,[.t 10,.k (.d (.int .i64 0))]⟩ ::
 ⟨some 12,none,.pick,[.t 8,.t 11,.k (.d (.bool false))]⟩ ::
 ⟨some 13,none,.mov,[.t 12]⟩ ::
 ⟨some 14,some (13,true),.mov,[.t 1]⟩ ::
 ⟨some 15,some (13,true),.len false,[.t 14]⟩ ::
 ⟨some 16,some (13,true),.bin .leq,[.t 15,.k (.d (.int .i64 100))]⟩ ::
 ⟨some 17,none,.pick,[.t 13,.t 16,.k (.d (.bool false))]⟩ ::
 ⟨some 18,none,.mov,[.t 17]⟩ ::
 ⟨some 19,some (18,true),.mov,[.t 1]⟩ ::
 ⟨some 20,some (18,true),.faddr 6,[.t 2]⟩ ::
 ⟨some 21,some (18,true),.faddr 2,[.t 20]⟩ ::
 ⟨some 22,some (18,true),.load false 1,[.t 21]⟩ ::
 ⟨some 23,some (18,true),.faddr 6,[.t 2]⟩ ::
 ⟨some 24,some (18,true),.faddr 0,[.t 23]⟩ ::
 ⟨some 25,some (18,true),.faddr 0,[.t 24]⟩ ::
 ⟨some 26,some (18,true),.load false 1,[.t 25]⟩ ::
 ⟨some 27,some (18,true),.faddr 6,[.t 2]⟩ ::
 ⟨some 28,some (18,true),.faddr 0,[.t 27]⟩ ::
 ⟨some 29,some (18,true),.faddr 1,[.t 28]⟩ ::
 ⟨some 30,some (18,true),.load false 1,[.t 29]⟩ ::
 ⟨some 31,some (18,true),.bin .sub,[.t 26,.t 30]⟩ ::
 ⟨some 32,some (18,true),.bin .mul,[.t 22,.t 31]⟩ ::
 ⟨some 33,some (18,true),.call 37,[.t 19,.t 32]⟩ ::
 ⟨some 34,none,.pick,[.t 18,.t 33,.k (.d (.bool false))]⟩ ::
 ⟨some 4,none,.mov,[.t 34]⟩ ::
 []) [4])
 (.ret))
theorem Ox:Ch E0 Ln KK [.t 4] 35:=AM (fl:=[]) (by kernel_rfl)
abbrev Lm:Nat:=10
def KJ:PC :=
 .seq (.reg [] (
 ⟨some 0,none,.mov,[.k (.d (.bool false))]⟩ ::
 []) [])
 (.seq (.reg [] (
 ⟨some 11,none,.call 38,[]⟩ ::
 ⟨some 10,none,.mov,[.t 11]⟩ ::
 ⟨some 12,none,.extract 0,[.t 10]⟩ ::
 ⟨some 13,none,.extract 1,[.t 10]⟩ ::
 ⟨some 1,none,.zero [.int .i64 0,.int .i64 0,.int .i64 0,.int .i64 0,.list true [],.list true [],.int .i64 0,.int .i64 0,.int .i64 0,.list true [],.int .i64 0,.int .i64 0],[]⟩ ::
 ⟨none,none,.store 12,[.t 1,.t 12]⟩ ::
 ⟨some 2,none,.mov,[.t 13]⟩ ::
 []) [1,2])
 (.seq (.reg [] (
 ⟨some 15,none,.load true 12,[.t 1]⟩ ::
 ⟨some 16,none,.mkrow 1 (.int .i64 0) 1 [0],[.k (.d (.int .i64 1))]⟩ ::
 ⟨some 17,none,.call 11,[.t 15,.t 16]⟩ ::
 ⟨some 14,none,.mov,[.t 17]⟩ ::
 ⟨some 18,none,.extract 0,[.t 14]⟩ ::
 ⟨some 19,none,.extract 1,[.t 14]⟩ ::
 ⟨some 3,none,.mov,[.t 18]⟩ ::
 ⟨some 4,none,.mov,[.t 19]⟩ ::
 []) [1,2,3,4])
 (.seq (.reg [] (
 ⟨some 21,none,.load true 12,[.t 1]⟩ ::
 ⟨some 22,none,.mov,[.t 2]⟩ ::
 ⟨some 23,none,.call 14,[.t 21,.t 22]⟩ ::
 ⟨some 20,none,.mov,[.t 23]⟩ ::
 ⟨some 24,none,.extract 0,[.t 20]⟩ ::
 ⟨some 25,none,.extract 1,[.t 20]⟩ ::
 ⟨some 26,none,.extract 2,[.t 20]⟩ ::
 ⟨some 5,none,.mov,[.t 24]⟩ ::
 ⟨some 6,none,.mov,[.t 25]⟩ ::
 ⟨some 7,none,.mov,[.t 26]⟩ ::
 []) [1,2,3,4,5,6,7])
 (.seq (.reg [] (
 ⟨some 28,none,.load true 12,[.t 1]⟩ ::
 ⟨some 29,none,.call 31,[.t 28]⟩ ::
 ⟨some 27,none,.mov,[.t 29]⟩ ::
 ⟨some 30,none,.extract 0,[.t 27]⟩ ::
 ⟨some 31,none,.extract 1,[.t 27]⟩ ::
 ⟨some 8,none,.mov,[.t 30]⟩ ::
 ⟨some 9,none,.mov,[.t 31]⟩ ::
 []) [2,3,4,5,6,7,8,9])
 (.seq (.reg [] (
 ⟨some 32,none,.mov,[.t 4]⟩ ::
 ⟨some 33,none,.bin .eql,[.t 32,.k (.d (.int .i64 0))]⟩ ::
 ⟨some 34,none,.mov,[.t 33]⟩ ::
 ⟨some 35,some (34,true),.mov,[.t 7]⟩ ::
 ⟨some 36,some (34,true),.bin .eql,[.t 35,.k (.d (.int .i64 0))]⟩ ::
 ⟨some 37,none,.pick,[.t 34,.t 36,.k (.d (.bool false))]⟩ ::
 ⟨some 38,none,.mov,[.t 37]⟩ ::
 ⟨some 39,some (38,true),.mov,[.t 9]⟩ ::
 ⟨some 40,some (38,true),.bin .eql,[.t 39,.k (.d (.int .i64 0))]⟩ ::
 ⟨some 41,none,.pick,[.t 38,.t 40,.k (.d (.bool false))]⟩ ::
 ⟨some 42,none,.mov,[.t 41]⟩ ::
 ⟨some 43,some (42,true),.mov,[.t 3]⟩ ::
 ⟨some 44,some (42,true),.mov,[.t 2]⟩ ::
 ⟨some 45,some (42,true),.call 17,[.t 43,.t 44]⟩ ::
 ⟨some 46,none,.pick,[.t 42,.t 45,.k (.d (.bool false))]⟩ ::
 ⟨some 47,none,.mov,[.t 46]⟩ ::
 ⟨some 48,some (47,true),.mov,[.t 5]⟩ ::
 ⟨some 49,some (47,true),.len false,[.t 48]⟩ ::
 ⟨some 50,some (47,true),.bin .eql,[.t 49,.k (.d (.int .i64 1))]⟩ ::
 ⟨some 51,none,.pick,[.t 47,.t 50,.k (.d (.bool false))]⟩ ::
 ⟨some 52,none,.mov,[.t 51]⟩ ::
 ⟨some 53,some (52,true),.mov,[.t 5]⟩ ::
 ⟨some 54,some (52,true),.iaddrS 1,[.t 53,.k (.d (.int .i64 0))]⟩ ::
 ⟨some 55,some (52,true),.load false 1,[.t 54]⟩ ::
 ⟨some 56,some (52,true),.bin .eql,[.t 55,.k (.d (.int .i64 1))]⟩ ::
 ⟨some 57,none,.pick,[.t 52,.t 56,.k (.d (.bool false))]⟩ ::
 ⟨some 58,none,.mov,[.t 57]⟩ ::
 ⟨some 59,some (58,true),.mov,[.t 6]⟩ ::
 ⟨some 60,some (58,true),.bin .eql,[.t 59,.k (.d (.int .i64 0))]⟩ ::
 ⟨some 61,none,.pick,[.t 58,.t 60,.k (.d (.bool false))]⟩ ::
 ⟨some 62,none,.mov,[.t 61]⟩ ::
 ⟨some 63,some (62,true),.mov,[.t 8]⟩ ::
 ⟨some 64,some (62,true),.bin .eql,[.t 63,.k (.d (.int .i64 1))]⟩ ::
 ⟨some 65,none,.pick,[.t 62,.t 64,.k (.d (.bool false))]⟩ ::
 ⟨some 0,none,.mov,[.t 65]⟩ ::
 []) [0])
 (.ret))))))
theorem Ow:Ch E0 Lm KJ [.t 0] 66:=AM (fl:=[]) (by kernel_rfl)
abbrev Jq:Nat:=11
def IT:PC :=
 .seq (.reg [] (
 ⟨some 2,none,.box,[.t 0]⟩ ::
 ⟨some 4,none,.mov,[.k (.d (.list true []))]⟩ ::
 ⟨some 5,none,.mov,[.k (.d (.int .i64 0))]⟩ ::
 []) [1,2])
 (.seq (.reg [] (
 ⟨some 13,none,.load true 12,[.t 2]⟩ ::
 ⟨some 14,none,.call 39,[.t 13]⟩ ::
 ⟨some 12,none,.mov,[.t 14]⟩ ::
 ⟨some 15,none,.extract 0,[.t 12]⟩ ::
 ⟨some 16,none,.extract 1,[.t 12]⟩ ::
 ⟨some 6,none,.mov,[.t 15]⟩ ::
 ⟨some 7,none,.mov,[.t 16]⟩ ::
 []) [1,6,7])
 (.seq (.seq (.reg [] (
 ⟨some 17,none,.mov,[.t 7]⟩ ::
 ⟨some 18,none,.bin .neq,[.t 17,.k (.d (.int .i64 0))]⟩ ::
 []) [1,6,7,18])
 (.cond (.t 18)
 (.seq (.reg [] (
 ⟨some 19,none,.mov,[.t 7]⟩ ::
 ⟨some 4,none,.mov,[.k (.d (.list true []))]⟩ ::
 ⟨some 5,none,.mov,[.t 19]⟩ ::
 []) [4,5])
 (.ret))
 (.skip)))
 (.seq (.reg [] (
 ⟨some 21,none,.mov,[.t 6]⟩ ::
 ⟨some 22,none,.nilck,[.t 21]⟩ ::
 ⟨some 23,none,.faddr 0,[.t 22]⟩ ::
 ⟨some 24,none,.faddr 6,[.t 23]⟩ ::
 ⟨some 25,none,.load true 3,[.t 24]⟩ ::
 ⟨some 26,none,.mov,[.t 1]⟩ ::
 ⟨some 27,none,.call 40,[.t 25,.t 26]⟩ ::
 ⟨some 20,none,.mov,[.t 27]⟩ ::
 ⟨some 28,none,.extract 0,[.t 20]⟩ ::
 ⟨some 29,none,.extract 1,[.t 20]⟩ ::
 ⟨some 8,none,.mov,[.t 28]⟩ ::
 ⟨some 7,none,.mov,[.t 29]⟩ ::
 []) [6,7,8])
 (.seq (.seq (.reg [] (
 ⟨some 30,none,.mov,[.t 7]⟩ ::
 ⟨some 31,none,.bin .neq,[.t 30,.k (.d (.int .i64 0))]⟩ ::
 []) [6,8,31])
 (.cond (.t 31)
 (.seq (.reg [] (
 ⟨some 4,none,.mov,[.k (.d (.list true []))]⟩ ::
 ⟨some 5,none,.mov,[.k (.d (.int .i64 51))]⟩ ::
 []) [4,5])
 (.ret))
 (.skip)))
 (.seq (.reg [] (
 ⟨some 32,none,.mov,[.t 6]⟩ ::
 ⟨some 33,none,.nilck,[.t 32]⟩ ::
 ⟨some 34,none,.faddr 0,[.t 33]⟩ ::
 ⟨some 35,none,.faddr 9,[.t 34]⟩ ::
 ⟨some 36,none,.load false 1,[.t 35]⟩ ::
 ⟨some 37,none,.call 41,[.t 36]⟩ ::
 ⟨some 9,none,.mov,[.t 37]⟩ ::
 []) [6,8,9])
 (.seq (.seq (.reg [] (
 ⟨some 38,none,.mov,[.t 6]⟩ ::
 ⟨some 39,none,.mov,[.t 8]⟩ ::
 ⟨some 40,none,.call 42,[.t 38,.t 39]⟩ ::
 ⟨some 41,none,.len false,[.t 40]⟩ ::
 ⟨some 42,none,.mov,[.k (.d (.int .i64 0))]⟩ ::
 []) [6,9,40,41,42])
 (.block 0
 (.loop [] [6,9,40,41,42] [14,37,40,53,10014,10037,10040]
 (.seq (.reg [] (
 ⟨some 43,none,.bin .lss,[.t 42,.t 41]⟩ ::
 []) [6,9,40,41,42,43])
 (.seq (.cond (.t 43)
 (.skip)
 (.exit 0))
 (.seq (.block 1
 (.seq (.reg [] (
 ⟨some 44,none,.iaddrS 1,[.t 40,.t 42]⟩ ::
 ⟨some 45,none,.load false 1,[.t 44]⟩ ::
 ⟨some 11,none,.mov,[.t 45]⟩ ::
 []) [6,9,11,40,41,42])
 (.reg [] (
 ⟨some 46,none,.mov,[.t 9]⟩ ::
 ⟨some 47,none,.mov,[.t 6]⟩ ::
 ⟨some 48,none,.mov,[.t 11]⟩ ::
 ⟨some 49,none,.nilck,[.t 47]⟩ ::
 ⟨some 50,none,.faddr 12,[.t 49]⟩ ::
 ⟨some 51,none,.iaddrA 16 1,[.t 50,.t 48]⟩ ::
 ⟨some 52,none,.load false 1,[.t 51]⟩ ::
 ⟨some 53,none,.app 3 1 none true,[.t 46,.t 52]⟩ ::
 ⟨some 9,none,.mov,[.t 53]⟩ ::
 []) [6,9,40,41,42])))
 (.reg [] (
 ⟨some 54,none,.bin .add,[.t 42,.k (.d (.int .i64 1))]⟩ ::
 ⟨some 42,none,.mov,[.t 54]⟩ ::
 []) [6,9,40,41,42])))))))
 (.seq (.reg [] (
 ⟨some 55,none,.mov,[.t 9]⟩ ::
 ⟨some 4,none,.mov,[.t 55]⟩ ::
 ⟨some 5,none,.mov,[.k (.d (.int .i64 0))]⟩ ::
 []) [4,5])
 (.ret))))))))
theorem NF:Ch E0 Jq IT [.t 4,.t 5] 56:=AM (fl:=[]) (by kernel_rfl)
abbrev Li:Nat:=12
def KF:PC :=
 .seq (.reg [] (
 ⟨some 1,none,.box,[.t 0]⟩ ::
 ⟨some 2,none,.mov,[.k (.d (.int .i64 0))]⟩ ::
 []) [1])
 (.seq (.draw [] (
 (⟨some 3,none,.faddr 9,[.t 1]⟩,[]) ::
 (⟨some 4,none,.load false 1,[.t 3]⟩,[]) ::
 (⟨some 5,none,.len false,[.t 4]⟩,[]) ::
 (⟨some 6,none,.load true 12,[.t 1]⟩,[]) ::
 (⟨some 7,none,.call 29,[.t 6]⟩,[1,2]) ::
 (⟨some 8,none,.load true 12,[.t 1]⟩,[4]) ::
 (⟨some 9,none,.call 28,[.t 8]⟩,[1,2]) ::
 (⟨some 10,none,.bin .mul,[.t 7,.t 9]⟩,[]) ::
 (⟨some 11,none,.bin .add,[.t 5,.t 10]⟩,[]) ::
 (⟨some 2,none,.mov,[.t 11]⟩,[]) ::
 []) [2])
 (.ret))
theorem Oq:Ch E0 Li KF [.t 2] 12:=AM (fl:=[]) (by kernel_rfl)
abbrev Ji:Nat:=13
def IG:PC :=
 .seq (.reg [] (
 ⟨some 4,none,.mov,[.k (.d (.list true []))]⟩ ::
 []) [0,1])
 (.seq (.reg [] (
 ⟨some 7,none,.mkrow 1 (.int .i64 0) 0 [],[]⟩ ::
 ⟨some 8,none,.mov,[.t 0]⟩ ::
 ⟨some 9,none,.app 3 1 none true,[.t 7,.t 8]⟩ ::
 ⟨some 5,none,.mov,[.t 9]⟩ ::
 []) [1,5])
 (.seq (.seq (.reg [] (
 ⟨some 6,none,.mov,[.k (.d (.int .i64 0))]⟩ ::
 []) [1,5,6])
 (.block 0
 (.loop [] [1,5,6] [9,900001,901001]
 (.seq (.seq (.reg [] (
 ⟨some 10,none,.mov,[.t 6]⟩ ::
 ⟨some 11,none,.mov,[.t 1]⟩ ::
 ⟨some 12,none,.len false,[.t 11]⟩ ::
 ⟨some 13,none,.bin .lss,[.t 10,.t 12]⟩ ::
 []) [1,5,6,13])
 (.cond (.t 13)
 (.skip)
 (.exit 0)))
 (.seq (.block 1
 (.seq (.reg [] (
 ⟨some 16,none,.mov,[.t 1]⟩ ::
 ⟨some 17,none,.mov,[.t 6]⟩ ::
 ⟨some 18,none,.iaddrS 1,[.t 16,.t 17]⟩ ::
 ⟨some 19,none,.load false 1,[.t 18]⟩ ::
 ⟨some 20,none,.bin .geq,[.t 19,.k (.d (.int .i64 0))]⟩ ::
 ⟨some 21,none,.mov,[.t 20]⟩ ::
 ⟨some 22,some (21,true),.mov,[.t 1]⟩ ::
 ⟨some 23,some (21,true),.mov,[.t 6]⟩ ::
 ⟨some 24,some (21,true),.iaddrS 1,[.t 22,.t 23]⟩ ::
 ⟨some 25,some (21,true),.load false 1,[.t 24]⟩ ::
 ⟨some 26,some (21,true),.mov,[.t 5]⟩ ::
 ⟨some 27,some (21,true),.len false,[.t 26]⟩ ::
 ⟨some 28,some (21,true),.bin .lss,[.t 25,.t 27]⟩ ::
 ⟨some 29,none,.pick,[.t 21,.t 28,.k (.d (.bool false))]⟩ ::
 []) [1,5,6,29])
 (.cond (.t 29)
 (.draw [] (
 (⟨some 30,none,.mov,[.t 5]⟩,[]) ::
 (⟨some 31,none,.mov,[.t 1]⟩,[]) ::
 (⟨some 32,none,.mov,[.t 6]⟩,[]) ::
 (⟨some 33,none,.iaddrS 1,[.t 31,.t 32]⟩,[]) ::
 (⟨some 34,none,.load false 1,[.t 33]⟩,[]) ::
 (⟨some 35,none,.mov,[.t 5]⟩,[]) ::
 (⟨some 36,none,.mov,[.t 1]⟩,[]) ::
 (⟨some 37,none,.mov,[.t 6]⟩,[]) ::
 (⟨some 38,none,.iaddrS 1,[.t 36,.t 37]⟩,[]) ::
 (⟨some 39,none,.load false 1,[.t 38]⟩,[]) ::
 (⟨some 40,none,.iaddrS 1,[.t 35,.t 39]⟩,[]) ::
 (⟨some 41,none,.load false 1,[.t 40]⟩,[]) ::
 (⟨some 42,none,.bin .sub,[.k (.d (.int .i64 1)),.t 41]⟩,[]) ::
 (⟨some 43,none,.iaddrS 1,[.t 30,.t 34]⟩,[]) ::
 (⟨none,none,.store 1,[.t 43,.t 42]⟩,[]) ::
 []) [1,5,6])
 (.skip))))
 (.reg [] (
 ⟨some 14,none,.mov,[.t 6]⟩ ::
 ⟨some 15,none,.bin .add,[.t 14,.k (.d (.int .i64 1))]⟩ ::
 ⟨some 6,none,.mov,[.t 15]⟩ ::
 []) [1,5,6]))))))
 (.seq (.reg [] (
 ⟨some 44,none,.mov,[.t 5]⟩ ::
 ⟨some 4,none,.mov,[.t 44]⟩ ::
 []) [4])
 (.ret))))
theorem M5:Ch E0 Ji IG [.t 4] 45:=AM (fl:=[]) (by kernel_rfl)
abbrev K3:Nat:=14
def Jb:PC :=
 .seq (.reg [] (
 ⟨some 2,none,.box,[.t 0]⟩ ::
 ⟨some 4,none,.mov,[.k (.d (.list true []))]⟩ ::
 ⟨some 5,none,.mov,[.k (.d (.int .i64 0))]⟩ ::
 ⟨some 6,none,.mov,[.k (.d (.int .i64 0))]⟩ ::
 []) [1,2])
 (.seq (.reg [] (
 ⟨some 11,none,.load true 12,[.t 2]⟩ ::
 ⟨some 12,none,.call 39,[.t 11]⟩ ::
 ⟨some 10,none,.mov,[.t 12]⟩ ::
 ⟨some 13,none,.extract 0,[.t 10]⟩ ::
 ⟨some 14,none,.extract 1,[.t 10]⟩ ::
 ⟨some 7,none,.mov,[.t 13]⟩ ::
 ⟨some 6,none,.mov,[.t 14]⟩ ::
 []) [1,6,7])
 (.seq (.seq (.reg [] (
 ⟨some 15,none,.mov,[.t 6]⟩ ::
 ⟨some 16,none,.bin .neq,[.t 15,.k (.d (.int .i64 0))]⟩ ::
 []) [1,6,7,16])
 (.cond (.t 16)
 (.seq (.reg [] (
 ⟨some 17,none,.mov,[.t 6]⟩ ::
 ⟨some 4,none,.mov,[.k (.d (.list true []))]⟩ ::
 ⟨some 5,none,.mov,[.k (.d (.int .i64 0))]⟩ ::
 ⟨some 6,none,.mov,[.t 17]⟩ ::
 []) [4,5,6])
 (.ret))
 (.skip)))
 (.seq (.seq (.reg [] (
 ⟨some 18,none,.mov,[.t 1]⟩ ::
 ⟨some 19,none,.call 43,[.t 18]⟩ ::
 ⟨some 20,none,.un .not,[.t 19]⟩ ::
 []) [1,7,20])
 (.cond (.t 20)
 (.seq (.reg [] (
 ⟨some 4,none,.mov,[.k (.d (.list true []))]⟩ ::
 ⟨some 5,none,.mov,[.k (.d (.int .i64 0))]⟩ ::
 ⟨some 6,none,.mov,[.k (.d (.int .i64 131))]⟩ ::
 []) [4,5,6])
 (.ret))
 (.skip)))
 (.seq (.reg [] (
 ⟨some 22,none,.mov,[.t 7]⟩ ::
 ⟨some 23,none,.mov,[.t 1]⟩ ::
 ⟨some 24,none,.call 44,[.t 22,.t 23]⟩ ::
 ⟨some 21,none,.mov,[.t 24]⟩ ::
 ⟨some 25,none,.extract 0,[.t 21]⟩ ::
 ⟨some 26,none,.extract 1,[.t 21]⟩ ::
 ⟨some 27,none,.extract 2,[.t 21]⟩ ::
 ⟨some 5,none,.mov,[.t 25]⟩ ::
 ⟨some 8,none,.mov,[.t 26]⟩ ::
 ⟨some 9,none,.mov,[.t 27]⟩ ::
 []) [5,7,8,9])
 (.seq (.seq (.reg [] (
 ⟨some 28,none,.mov,[.t 9]⟩ ::
 ⟨some 29,none,.un .not,[.t 28]⟩ ::
 []) [5,7,8,29])
 (.cond (.t 29)
 (.seq (.reg [] (
 ⟨some 4,none,.mov,[.k (.d (.list true []))]⟩ ::
 ⟨some 5,none,.mov,[.k (.d (.int .i64 0))]⟩ ::
 ⟨some 6,none,.mov,[.k (.d (.int .i64 3))]⟩ ::
 []) [4,5,6])
 (.ret))
 (.skip)))
 (.seq (.seq (.reg [] (
 ⟨some 31,none,.mov,[.t 7]⟩ ::
 ⟨some 32,none,.mov,[.t 8]⟩ ::
 ⟨some 33,none,.call 45,[.t 31,.t 32]⟩ ::
 ⟨some 30,none,.mov,[.t 33]⟩ ::
 ⟨some 34,none,.extract 0,[.t 30]⟩ ::
 ⟨some 35,none,.extract 1,[.t 30]⟩ ::
 ⟨some 4,none,.mov,[.t 34]⟩ ::
 ⟨some 6,none,.mov,[.t 35]⟩ ::
 []) [4,5,6])
 (.seq (.reg [] (
 ⟨some 36,none,.mov,[.t 6]⟩ ::
 ⟨some 37,none,.bin .neq,[.t 36,.k (.d (.int .i64 0))]⟩ ::
 []) [4,5,6,37])
 (.cond (.t 37)
 (.seq (.reg [] (
 ⟨some 38,none,.mov,[.t 6]⟩ ::
 ⟨some 4,none,.mov,[.k (.d (.list true []))]⟩ ::
 ⟨some 5,none,.mov,[.k (.d (.int .i64 0))]⟩ ::
 ⟨some 6,none,.mov,[.t 38]⟩ ::
 []) [4,5,6])
 (.ret))
 (.skip))))
 (.seq (.reg [] (
 ⟨some 39,none,.mov,[.t 4]⟩ ::
 ⟨some 40,none,.mov,[.t 5]⟩ ::
 ⟨some 4,none,.mov,[.t 39]⟩ ::
 ⟨some 5,none,.mov,[.t 40]⟩ ::
 ⟨some 6,none,.mov,[.k (.d (.int .i64 0))]⟩ ::
 []) [4,5,6])
 (.ret))))))))
theorem N':Ch E0 K3 Jb [.t 4,.t 5,.t 6] 41:=AM (fl:=[]) (by kernel_rfl)
abbrev Na:Nat:=15
def LY:PC :=
 .seq (.reg [] (
 ⟨some 2,none,.box,[.t 0]⟩ ::
 ⟨some 4,none,.mov,[.k (.d (.int .i64 0))]⟩ ::
 ⟨some 5,none,.mov,[.k (.d (.bool false))]⟩ ::
 []) [1,2])
 (.seq (.seq (.reg [] (
 ⟨some 6,none,.mov,[.k (.d (.int .i64 0))]⟩ ::
 []) [1,2,6])
 (.block 0
 (.loop [] [1,2,6] [2,900000,900001,901000,901001]
 (.seq (.seq (.reg [] (
 ⟨some 7,none,.mov,[.t 6]⟩ ::
 ⟨some 8,none,.load true 12,[.t 2]⟩ ::
 ⟨some 9,none,.call 12,[.t 8]⟩ ::
 ⟨some 10,none,.bin .add,[.t 7,.t 9]⟩ ::
 ⟨some 11,none,.mov,[.t 1]⟩ ::
 ⟨some 12,none,.len false,[.t 11]⟩ ::
 ⟨some 13,none,.bin .leq,[.t 10,.t 12]⟩ ::
 []) [1,2,6,13])
 (.cond (.t 13)
 (.skip)
 (.exit 0)))
 (.seq (.block 1
 (.seq (.draw [] (
 (⟨some 16,none,.faddr 9,[.t 2]⟩,[]) ::
 (⟨some 17,none,.load false 1,[.t 16]⟩,[]) ::
 (⟨some 18,none,.mov,[.t 1]⟩,[]) ::
 (⟨some 19,none,.mov,[.t 6]⟩,[]) ::
 (⟨some 20,none,.call 46,[.t 17,.t 18,.t 19]⟩,[]) ::
 (⟨some 21,none,.faddr 11,[.t 2]⟩,[]) ::
 (⟨some 22,none,.load false 1,[.t 21]⟩,[4]) ::
 (⟨some 23,none,.bin .leq,[.t 20,.t 22]⟩,[]) ::
 []) [1,2,6,23])
 (.cond (.t 23)
 (.seq (.reg [] (
 ⟨some 24,none,.mov,[.t 6]⟩ ::
 ⟨some 4,none,.mov,[.t 24]⟩ ::
 ⟨some 5,none,.mov,[.k (.d (.bool true))]⟩ ::
 []) [4,5])
 (.ret))
 (.skip))))
 (.reg [] (
 ⟨some 14,none,.mov,[.t 6]⟩ ::
 ⟨some 15,none,.bin .add,[.t 14,.k (.d (.int .i64 1))]⟩ ::
 ⟨some 6,none,.mov,[.t 15]⟩ ::
 []) [1,2,6]))))))
 (.seq (.reg [] (
 ⟨some 4,none,.mov,[.k (.d (.int .i64 0))]⟩ ::
 ⟨some 5,none,.mov,[.k (.d (.bool false))]⟩ ::
 []) [4,5])
 (.ret)))
theorem QD:Ch E0 Na LY [.t 4,.t 5] 25:=AM (fl:=[]) (by kernel_rfl)
abbrev Jj:Nat:=16
def IH:PC :=
 .seq (.reg [] (
 ⟨some 3,none,.box,[.t 0]⟩ ::
 ⟨some 6,none,.mov,[.k (.d (.list true []))]⟩ ::
 []) [1,2,3])
 (.seq (.reg [] (
 ⟨some 10,none,.faddr 6,[.t 3]⟩ ::
 ⟨some 11,none,.faddr 2,[.t 10]⟩ ::
 ⟨some 12,none,.load false 1,[.t 11]⟩ ::
 ⟨some 13,none,.mksl 3 1 (.int .i64 0) true,[.t 12,.t 12]⟩ ::
 ⟨some 7,none,.mov,[.t 13]⟩ ::
 []) [1,2,3,7])
 (.seq (.seq (.reg [] (
 ⟨some 8,none,.mov,[.k (.d (.int .i64 0))]⟩ ::
 []) [1,2,3,7,8])
 (.block 0
 (.loop [] [1,2,3,7,8] [3,13,900000,900001,900002,901000,901001,901002]
 (.seq (.seq (.reg [] (
 ⟨some 14,none,.mov,[.t 8]⟩ ::
 ⟨some 15,none,.load true 12,[.t 3]⟩ ::
 ⟨some 16,none,.call 29,[.t 15]⟩ ::
 ⟨some 17,none,.bin .lss,[.t 14,.t 16]⟩ ::
 []) [1,2,3,7,8,17])
 (.cond (.t 17)
 (.skip)
 (.exit 0)))
 (.seq (.block 1
 (.seq (.draw [] (
 (⟨some 20,none,.faddr 9,[.t 3]⟩,[]) ::
 (⟨some 21,none,.load false 1,[.t 20]⟩,[]) ::
 (⟨some 22,none,.len false,[.t 21]⟩,[]) ::
 (⟨some 23,none,.mov,[.t 8]⟩,[]) ::
 (⟨some 24,none,.load true 12,[.t 3]⟩,[]) ::
 (⟨some 25,none,.call 28,[.t 24]⟩,[1,2]) ::
 (⟨some 26,none,.bin .mul,[.t 23,.t 25]⟩,[]) ::
 (⟨some 27,none,.bin .add,[.t 22,.t 26]⟩,[]) ::
 (⟨some 9,none,.mov,[.t 27]⟩,[]) ::
 []) [1,2,3,7,8,9])
 (.seq (.draw [] (
 (⟨some 28,none,.mov,[.t 1]⟩,[]) ::
 (⟨some 29,none,.mov,[.t 9]⟩,[]) ::
 (⟨some 30,none,.mov,[.t 9]⟩,[]) ::
 (⟨some 31,none,.load true 12,[.t 3]⟩,[]) ::
 (⟨some 32,none,.call 28,[.t 31]⟩,[]) ::
 (⟨some 33,none,.bin .add,[.t 30,.t 32]⟩,[]) ::
 (⟨some 34,none,.slice 1 true true false,[.t 28,.t 29,.t 33]⟩,[]) ::
 (⟨some 35,none,.mov,[.t 2]⟩,[]) ::
 (⟨some 36,none,.mov,[.t 9]⟩,[]) ::
 (⟨some 37,none,.mov,[.t 9]⟩,[]) ::
 (⟨some 38,none,.load true 12,[.t 3]⟩,[4,6]) ::
 (⟨some 39,none,.call 28,[.t 38]⟩,[6]) ::
 (⟨some 40,none,.bin .add,[.t 37,.t 39]⟩,[]) ::
 (⟨some 41,none,.slice 1 true true false,[.t 35,.t 36,.t 40]⟩,[6]) ::
 (⟨some 42,none,.call 17,[.t 34,.t 41]⟩,[]) ::
 (⟨some 43,none,.un .not,[.t 42]⟩,[]) ::
 []) [1,2,3,7,8,43])
 (.cond (.t 43)
 (.reg [] (
 ⟨some 44,none,.mov,[.t 7]⟩ ::
 ⟨some 45,none,.mov,[.t 8]⟩ ::
 ⟨some 46,none,.faddr 6,[.t 3]⟩ ::
 ⟨some 47,none,.faddr 2,[.t 46]⟩ ::
 ⟨some 48,none,.load false 1,[.t 47]⟩ ::
 ⟨some 49,none,.bin .rem,[.t 45,.t 48]⟩ ::
 ⟨some 50,none,.iaddrS 1,[.t 44,.t 49]⟩ ::
 ⟨some 51,none,.load false 1,[.t 50]⟩ ::
 ⟨some 52,none,.bin .add,[.t 51,.k (.d (.int .i64 1))]⟩ ::
 ⟨some 53,none,.iaddrS 1,[.t 44,.t 49]⟩ ::
 ⟨none,none,.store 1,[.t 53,.t 52]⟩ ::
 []) [1,2,3,7,8])
 (.skip)))))
 (.reg [] (
 ⟨some 18,none,.mov,[.t 8]⟩ ::
 ⟨some 19,none,.bin .add,[.t 18,.k (.d (.int .i64 1))]⟩ ::
 ⟨some 8,none,.mov,[.t 19]⟩ ::
 []) [1,2,3,7,8]))))))
 (.seq (.reg [] (
 ⟨some 54,none,.mov,[.t 7]⟩ ::
 ⟨some 6,none,.mov,[.t 54]⟩ ::
 []) [6])
 (.ret))))
theorem M6:Ch E0 Jj IH [.t 6] 55:=AM (fl:=[]) (by kernel_rfl)
abbrev NZ:Nat:=17
def LX:PC :=
 .seq (.reg [] (
 ⟨some 4,none,.mov,[.k (.d (.bool false))]⟩ ::
 []) [0,1])
 (.seq (.seq (.reg [] (
 ⟨some 5,none,.mov,[.k (.d (.int .i64 0))]⟩ ::
 []) [0,1,5])
 (.block 0
 (.loop [] [0,1,5] [900000,900001,901000,901001]
 (.seq (.seq (.reg [] (
 ⟨some 6,none,.mov,[.t 5]⟩ ::
 ⟨some 7,none,.mov,[.t 0]⟩ ::
 ⟨some 8,none,.len false,[.t 7]⟩ ::
 ⟨some 9,none,.bin .lss,[.t 6,.t 8]⟩ ::
 ⟨some 10,none,.mov,[.t 9]⟩ ::
 ⟨some 11,some (10,true),.mov,[.t 5]⟩ ::
 ⟨some 12,some (10,true),.mov,[.t 1]⟩ ::
 ⟨some 13,some (10,true),.len false,[.t 12]⟩ ::
 ⟨some 14,some (10,true),.bin .lss,[.t 11,.t 13]⟩ ::
 ⟨some 15,none,.pick,[.t 10,.t 14,.k (.d (.bool false))]⟩ ::
 []) [0,1,5,15])
 (.cond (.t 15)
 (.skip)
 (.exit 0)))
 (.seq (.block 1
 (.seq (.draw [] (
 (⟨some 18,none,.mov,[.t 0]⟩,[]) ::
 (⟨some 19,none,.mov,[.t 5]⟩,[]) ::
 (⟨some 20,none,.iaddrS 1,[.t 18,.t 19]⟩,[]) ::
 (⟨some 21,none,.load false 1,[.t 20]⟩,[]) ::
 (⟨some 22,none,.mov,[.t 1]⟩,[]) ::
 (⟨some 23,none,.mov,[.t 5]⟩,[]) ::
 (⟨some 24,none,.iaddrS 1,[.t 22,.t 23]⟩,[]) ::
 (⟨some 25,none,.load false 1,[.t 24]⟩,[]) ::
 (⟨some 26,none,.bin .neq,[.t 21,.t 25]⟩,[]) ::
 []) [0,1,5,26])
 (.cond (.t 26)
 (.seq (.reg [] (
 ⟨some 4,none,.mov,[.k (.d (.bool false))]⟩ ::
 []) [4])
 (.ret))
 (.skip))))
 (.reg [] (
 ⟨some 16,none,.mov,[.t 5]⟩ ::
 ⟨some 17,none,.bin .add,[.t 16,.k (.d (.int .i64 1))]⟩ ::
 ⟨some 5,none,.mov,[.t 17]⟩ ::
 []) [0,1,5]))))))
 (.seq (.reg [] (
 ⟨some 27,none,.mov,[.t 0]⟩ ::
 ⟨some 28,none,.len false,[.t 27]⟩ ::
 ⟨some 29,none,.mov,[.t 1]⟩ ::
 ⟨some 30,none,.len false,[.t 29]⟩ ::
 ⟨some 31,none,.bin .eql,[.t 28,.t 30]⟩ ::
 ⟨some 4,none,.mov,[.t 31]⟩ ::
 []) [4])
 (.ret)))
theorem QC:Ch E0 NZ LX [.t 4] 32:=AM (fl:=[]) (by kernel_rfl)
abbrev Ir:Nat:=18
def Hb:PC :=
 .seq (.reg [] (
 ⟨some 2,none,.box,[.t 0]⟩ ::
 ⟨some 4,none,.mov,[.k (.d (.bool false))]⟩ ::
 ⟨some 5,none,.mov,[.k (.d (.int .i64 0))]⟩ ::
 []) [1,2])
 (.seq (.seq (.reg [] (
 ⟨some 7,none,.load true 2,[.t 2]⟩ ::
 ⟨some 8,none,.call 47,[.t 7]⟩ ::
 ⟨some 6,none,.mov,[.t 8]⟩ ::
 []) [1,2,6])
 (.seq (.reg [] (
 ⟨some 9,none,.mov,[.t 6]⟩ ::
 ⟨some 10,none,.bin .neq,[.t 9,.k (.d (.int .i64 0))]⟩ ::
 []) [1,2,6,10])
 (.cond (.t 10)
 (.seq (.reg [] (
 ⟨some 11,none,.mov,[.t 6]⟩ ::
 ⟨some 4,none,.mov,[.k (.d (.bool false))]⟩ ::
 ⟨some 5,none,.mov,[.t 11]⟩ ::
 []) [4,5])
 (.ret))
 (.skip))))
 (.seq (.seq (.reg [] (
 ⟨some 12,none,.mov,[.t 1]⟩ ::
 ⟨some 13,none,.bin .lss,[.t 12,.k (.d (.int .i64 0))]⟩ ::
 ⟨some 14,none,.mov,[.t 13]⟩ ::
 ⟨some 15,some (14,false),.mov,[.t 1]⟩ ::
 ⟨some 16,some (14,false),.faddr 0,[.t 2]⟩ ::
 ⟨some 17,some (14,false),.load false 1,[.t 16]⟩ ::
 ⟨some 18,some (14,false),.bin .gtr,[.t 15,.t 17]⟩ ::
 ⟨some 19,none,.pick,[.t 14,.k (.d (.bool true)),.t 18]⟩ ::
 []) [1,2,19])
 (.cond (.t 19)
 (.seq (.reg [] (
 ⟨some 4,none,.mov,[.k (.d (.bool false))]⟩ ::
 ⟨some 5,none,.mov,[.k (.d (.int .i64 1))]⟩ ::
 []) [4,5])
 (.ret))
 (.skip)))
 (.seq (.reg [] (
 ⟨some 20,none,.mov,[.t 1]⟩ ::
 ⟨some 21,none,.faddr 1,[.t 2]⟩ ::
 ⟨some 22,none,.load false 1,[.t 21]⟩ ::
 ⟨some 23,none,.bin .quo,[.t 22,.k (.d (.int .i64 2))]⟩ ::
 ⟨some 24,none,.bin .add,[.t 20,.t 23]⟩ ::
 ⟨some 25,none,.faddr 1,[.t 2]⟩ ::
 ⟨some 26,none,.load false 1,[.t 25]⟩ ::
 ⟨some 27,none,.bin .gtr,[.t 24,.t 26]⟩ ::
 ⟨some 4,none,.mov,[.t 27]⟩ ::
 ⟨some 5,none,.mov,[.k (.d (.int .i64 0))]⟩ ::
 []) [4,5])
 (.ret))))
theorem L7:Ch E0 Ir Hb [.t 4,.t 5] 28:=AM (fl:=[]) (by kernel_rfl)
abbrev Oc:Nat:=19
def Mf:PC :=
 .seq (.reg [] (
 ⟨some 1,none,.box,[.t 0]⟩ ::
 ⟨some 2,none,.mov,[.k (.d (.bool false))]⟩ ::
 []) [1])
 (.seq (.reg [] (
 ⟨some 3,none,.faddr 0,[.t 1]⟩ ::
 ⟨some 4,none,.load true 6,[.t 3]⟩ ::
 ⟨some 5,none,.call 48,[.t 4]⟩ ::
 ⟨some 6,none,.mov,[.t 5]⟩ ::
 ⟨some 7,some (6,false),.faddr 9,[.t 1]⟩ ::
 ⟨some 8,some (6,false),.load false 1,[.t 7]⟩ ::
 ⟨some 9,some (6,false),.len false,[.t 8]⟩ ::
 ⟨some 10,some (6,false),.bin .gtr,[.t 9,.k (.d (.int .i64 40))]⟩ ::
 ⟨some 11,none,.pick,[.t 6,.k (.d (.bool true)),.t 10]⟩ ::
 ⟨some 12,none,.mov,[.t 11]⟩ ::
 ⟨some 13,some (12,false),.faddr 6,[.t 1]⟩ ::
 ⟨some 14,some (12,false),.faddr 2,[.t 13]⟩ ::
 ⟨some 15,some (12,false),.load false 1,[.t 14]⟩ ::
 ⟨some 16,some (12,false),.bin .gtr,[.t 15,.k (.d (.int .i64 8))]⟩ ::
 ⟨some 17,none,.pick,[.t 12,.k (.d (.bool true)),.t 16]⟩ ::
 ⟨some 18,none,.mov,[.t 17]⟩ ::
 ⟨some 19,some (18,false),.faddr 6,[.t 1]⟩ ::
 ⟨some 20,some (18,false),.faddr 0,[.t 19]⟩ ::
 ⟨some 21,some (18,false),.faddr 0,[.t 20]⟩ ::
 ⟨some 22,some (18,false),.load false 1,[.t 21]⟩ ::
 ⟨some 23,some (18,false),.bin .gtr,[.t 22,.k (.d (.int .i64 15))]⟩ ::
 ⟨some 24,none,.pick,[.t 18,.k (.d (.bool true)),.t 23]⟩ ::
 ⟨some 25,none,.mov,[.t 24]⟩ ::
 ⟨some 26,some (25,false),.load true 12,[.t 1]⟩ ::
 ⟨some 27,some (25,false),.call 22,[.t 26]⟩ ::
 ⟨some 28,some (25,false),.bin .eql,[.t 27,.k (.d (.int .i64 0))]⟩ ::
 ⟨some 29,some (25,false),.mov,[.t 28]⟩ ::
 ⟨some 30,some (29,true),.load true 12,[.t 1]⟩ ::
 ⟨some 31,some (29,true),.call 29,[.t 30]⟩ ::
 ⟨some 32,some (29,true),.bin .gtr,[.t 31,.k (.d (.int .i64 8))]⟩ ::
 ⟨some 33,some (25,false),.pick,[.t 29,.t 32,.k (.d (.bool false))]⟩ ::
 ⟨some 34,none,.pick,[.t 25,.k (.d (.bool true)),.t 33]⟩ ::
 ⟨some 2,none,.mov,[.t 34]⟩ ::
 []) [2])
 (.ret))
theorem Q3:Ch E0 Oc Mf [.t 2] 35:=AM (fl:=[]) (by kernel_rfl)
abbrev ir:Nat:=20
abbrev aH:Nat:=21
abbrev Lj:Nat:=22
def KG:PC :=
 .seq (.reg [] (
 ⟨some 1,none,.box,[.t 0]⟩ ::
 ⟨some 2,none,.mov,[.k (.d (.int .i64 0))]⟩ ::
 []) [1])
 (.seq (.seq (.reg [] (
 ⟨some 5,none,.faddr 0,[.t 1]⟩ ::
 ⟨some 6,none,.load true 6,[.t 5]⟩ ::
 ⟨some 7,none,.call 50,[.t 6]⟩ ::
 ⟨some 8,none,.bin .neq,[.t 7,.k (.d (.int .i64 0))]⟩ ::
 ⟨some 9,none,.mov,[.t 8]⟩ ::
 ⟨some 10,some (9,false),.faddr 6,[.t 1]⟩ ::
 ⟨some 11,some (9,false),.load true 3,[.t 10]⟩ ::
 ⟨some 12,some (9,false),.call 51,[.t 11]⟩ ::
 ⟨some 13,some (9,false),.bin .neq,[.t 12,.k (.d (.int .i64 0))]⟩ ::
 ⟨some 14,none,.pick,[.t 9,.k (.d (.bool true)),.t 13]⟩ ::
 ⟨some 15,none,.mov,[.t 14]⟩ ::
 ⟨some 16,some (15,false),.load true 12,[.t 1]⟩ ::
 ⟨some 17,some (15,false),.call 29,[.t 16]⟩ ::
 ⟨some 18,some (15,false),.bin .gtr,[.t 17,.k (.d (.int .i64 32))]⟩ ::
 ⟨some 19,none,.pick,[.t 15,.k (.d (.bool true)),.t 18]⟩ ::
 ⟨some 20,none,.mov,[.t 19]⟩ ::
 ⟨some 21,some (20,false),.faddr 9,[.t 1]⟩ ::
 ⟨some 22,some (20,false),.load false 1,[.t 21]⟩ ::
 ⟨some 23,some (20,false),.call 52,[.t 22]⟩ ::
 ⟨some 24,some (20,false),.un .not,[.t 23]⟩ ::
 ⟨some 25,none,.pick,[.t 20,.k (.d (.bool true)),.t 24]⟩ ::
 ⟨some 26,none,.mov,[.t 25]⟩ ::
 ⟨some 27,some (26,false),.faddr 10,[.t 1]⟩ ::
 ⟨some 28,some (26,false),.load false 1,[.t 27]⟩ ::
 ⟨some 29,some (26,false),.call 53,[.t 28,.k (.d (.int .i64 1)),.k (.d (.int .i64 127))]⟩ ::
 ⟨some 30,some (26,false),.un .not,[.t 29]⟩ ::
 ⟨some 31,none,.pick,[.t 26,.k (.d (.bool true)),.t 30]⟩ ::
 ⟨some 32,none,.mov,[.t 31]⟩ ::
 ⟨some 33,some (32,false),.faddr 11,[.t 1]⟩ ::
 ⟨some 34,some (32,false),.load false 1,[.t 33]⟩ ::
 ⟨some 35,some (32,false),.call 53,[.t 34,.k (.d (.int .i64 0)),.k (.d (.int .i64 16))]⟩ ::
 ⟨some 36,some (32,false),.un .not,[.t 35]⟩ ::
 ⟨some 37,none,.pick,[.t 32,.k (.d (.bool true)),.t 36]⟩ ::
 []) [1,37])
 (.cond (.t 37)
 (.seq (.reg [] (
 ⟨some 2,none,.mov,[.k (.d (.int .i64 130))]⟩ ::
 []) [2])
 (.ret))
 (.skip)))
 (.seq (.seq (.reg [] (
 ⟨some 3,none,.mov,[.k (.d (.int .i64 0))]⟩ ::
 []) [1,3])
 (.block 0
 (.loop [] [1,3] [1,900000,901000]
 (.seq (.seq (.reg [] (
 ⟨some 38,none,.mov,[.t 3]⟩ ::
 ⟨some 39,none,.bin .lss,[.t 38,.k (.d (.int .i64 16))]⟩ ::
 []) [1,3,39])
 (.cond (.t 39)
 (.skip)
 (.exit 0)))
 (.seq (.block 1
 (.seq (.reg [] (
 ⟨some 4,none,.mov,[.k (.d (.int .i64 0))]⟩ ::
 []) [1,3,4])
 (.block 2
 (.loop [] [1,3,4] [1,900000,901000]
 (.seq (.seq (.reg [] (
 ⟨some 42,none,.mov,[.t 4]⟩ ::
 ⟨some 43,none,.mov,[.t 3]⟩ ::
 ⟨some 44,none,.bin .lss,[.t 42,.t 43]⟩ ::
 []) [1,3,4,44])
 (.cond (.t 44)
 (.skip)
 (.exit 2)))
 (.seq (.block 3
 (.seq (.draw [] (
 (⟨some 47,none,.load true 12,[.t 1]⟩,[]) ::
 (⟨some 48,none,.mov,[.t 3]⟩,[]) ::
 (⟨some 49,none,.call 54,[.t 47,.t 48]⟩,[]) ::
 (⟨some 50,none,.load true 12,[.t 1]⟩,[2]) ::
 (⟨some 51,none,.mov,[.t 4]⟩,[]) ::
 (⟨some 52,none,.call 54,[.t 50,.t 51]⟩,[]) ::
 (⟨some 53,none,.call 17,[.t 49,.t 52]⟩,[]) ::
 []) [1,3,4,53])
 (.cond (.t 53)
 (.seq (.reg [] (
 ⟨some 2,none,.mov,[.k (.d (.int .i64 130))]⟩ ::
 []) [2])
 (.ret))
 (.skip))))
 (.reg [] (
 ⟨some 45,none,.mov,[.t 4]⟩ ::
 ⟨some 46,none,.bin .add,[.t 45,.k (.d (.int .i64 1))]⟩ ::
 ⟨some 4,none,.mov,[.t 46]⟩ ::
 []) [1,3,4])))))))
 (.reg [] (
 ⟨some 40,none,.mov,[.t 3]⟩ ::
 ⟨some 41,none,.bin .add,[.t 40,.k (.d (.int .i64 1))]⟩ ::
 ⟨some 3,none,.mov,[.t 41]⟩ ::
 []) [1,3]))))))
 (.seq (.reg [] (
 ⟨some 2,none,.mov,[.k (.d (.int .i64 0))]⟩ ::
 []) [2])
 (.ret))))
theorem Ot:Ch E0 Lj KG [.t 2] 54:=AM (fl:=[]) (by kernel_rfl)
abbrev eO:Nat:=23
abbrev iu:Nat:=24
abbrev eR:Nat:=25
abbrev io:Nat:=26
abbrev eM:Nat:=27
abbrev NY:Nat:=28
def LW:PC :=
 .seq (.reg [] (
 ⟨some 1,none,.box,[.t 0]⟩ ::
 ⟨some 2,none,.mov,[.k (.d (.int .i64 0))]⟩ ::
 []) [1])
 (.seq (.draw [] (
 (⟨some 3,none,.faddr 0,[.t 1]⟩,[]) ::
 (⟨some 4,none,.faddr 0,[.t 3]⟩,[]) ::
 (⟨some 5,none,.load false 1,[.t 4]⟩,[]) ::
 (⟨some 6,none,.bin .quo,[.k (.d (.int .i64 4)),.t 5]⟩,[]) ::
 (⟨some 7,none,.faddr 0,[.t 1]⟩,[]) ::
 (⟨some 8,none,.faddr 1,[.t 7]⟩,[]) ::
 (⟨some 9,none,.load false 1,[.t 8]⟩,[]) ::
 (⟨some 10,none,.bin .mul,[.t 6,.t 9]⟩,[]) ::
 (⟨some 2,none,.mov,[.t 10]⟩,[]) ::
 []) [2])
 (.ret))
theorem QB:Ch E0 NY LW [.t 2] 11:=AM (fl:=[]) (by kernel_rfl)
abbrev Jg:Nat:=29
def IC:PC :=
 .seq (.reg [] (
 ⟨some 1,none,.box,[.t 0]⟩ ::
 ⟨some 2,none,.mov,[.k (.d (.int .i64 0))]⟩ ::
 []) [1])
 (.seq (.reg [] (
 ⟨some 3,none,.faddr 6,[.t 1]⟩ ::
 ⟨some 4,none,.faddr 2,[.t 3]⟩ ::
 ⟨some 5,none,.load false 1,[.t 4]⟩ ::
 ⟨some 6,none,.faddr 6,[.t 1]⟩ ::
 ⟨some 7,none,.faddr 0,[.t 6]⟩ ::
 ⟨some 8,none,.faddr 0,[.t 7]⟩ ::
 ⟨some 9,none,.load false 1,[.t 8]⟩ ::
 ⟨some 10,none,.bin .mul,[.t 5,.t 9]⟩ ::
 ⟨some 2,none,.mov,[.t 10]⟩ ::
 []) [2])
 (.ret))
theorem M3:Ch E0 Jg IC [.t 2] 11:=AM (fl:=[]) (by kernel_rfl)
abbrev ip:Nat:=30
abbrev Jr:Nat:=31
def IU:PC :=
 .seq (.reg [] (
 ⟨some 1,none,.box,[.t 0]⟩ ::
 ⟨some 2,none,.mov,[.k (.d (.int .i64 0))]⟩ ::
 ⟨some 3,none,.mov,[.k (.d (.int .i64 0))]⟩ ::
 []) [1])
 (.seq (.reg [] (
 ⟨some 9,none,.load true 12,[.t 1]⟩ ::
 ⟨some 10,none,.call 39,[.t 9]⟩ ::
 ⟨some 8,none,.mov,[.t 10]⟩ ::
 ⟨some 11,none,.extract 0,[.t 8]⟩ ::
 ⟨some 12,none,.extract 1,[.t 8]⟩ ::
 ⟨some 4,none,.mov,[.t 11]⟩ ::
 ⟨some 5,none,.mov,[.t 12]⟩ ::
 []) [4,5])
 (.seq (.seq (.reg [] (
 ⟨some 13,none,.mov,[.t 5]⟩ ::
 ⟨some 14,none,.bin .neq,[.t 13,.k (.d (.int .i64 0))]⟩ ::
 []) [4,5,14])
 (.cond (.t 14)
 (.seq (.reg [] (
 ⟨some 15,none,.mov,[.t 5]⟩ ::
 ⟨some 2,none,.mov,[.k (.d (.int .i64 0))]⟩ ::
 ⟨some 3,none,.mov,[.t 15]⟩ ::
 []) [2,3])
 (.ret))
 (.skip)))
 (.seq (.reg [] (
 ⟨some 16,none,.mov,[.t 4]⟩ ::
 ⟨some 17,none,.nilck,[.t 16]⟩ ::
 ⟨some 18,none,.faddr 0,[.t 17]⟩ ::
 ⟨some 19,none,.faddr 9,[.t 18]⟩ ::
 ⟨some 20,none,.load false 1,[.t 19]⟩ ::
 ⟨some 21,none,.len false,[.t 20]⟩ ::
 ⟨some 6,none,.mov,[.t 21]⟩ ::
 []) [4,6])
 (.seq (.seq (.reg [] (
 ⟨some 7,none,.mov,[.k (.d (.int .i64 1))]⟩ ::
 []) [4,6,7])
 (.block 0
 (.loop [] [4,6,7] [10,10010]
 (.seq (.seq (.draw [] (
 (⟨some 22,none,.mov,[.t 7]⟩,[]) ::
 (⟨some 23,none,.mov,[.t 4]⟩,[]) ::
 (⟨some 24,none,.nilck,[.t 23]⟩,[]) ::
 (⟨some 25,none,.faddr 0,[.t 24]⟩,[]) ::
 (⟨some 26,none,.faddr 9,[.t 25]⟩,[]) ::
 (⟨some 27,none,.load false 1,[.t 26]⟩,[]) ::
 (⟨some 28,none,.len false,[.t 27]⟩,[]) ::
 (⟨some 29,none,.mov,[.t 4]⟩,[]) ::
 (⟨some 30,none,.call 55,[.t 29]⟩,[5,6]) ::
 (⟨some 31,none,.bin .add,[.t 28,.t 30]⟩,[]) ::
 (⟨some 32,none,.bin .lss,[.t 22,.t 31]⟩,[]) ::
 []) [4,6,7,32])
 (.cond (.t 32)
 (.skip)
 (.exit 0)))
 (.seq (.block 1
 (.reg [] (
 ⟨some 35,none,.mov,[.t 6]⟩ ::
 ⟨some 36,none,.mov,[.t 4]⟩ ::
 ⟨some 37,none,.mov,[.t 7]⟩ ::
 ⟨some 38,none,.call 63,[.t 36,.t 37]⟩ ::
 ⟨some 39,none,.minmax false,[.t 35,.t 38]⟩ ::
 ⟨some 6,none,.mov,[.t 39]⟩ ::
 []) [4,6,7]))
 (.reg [] (
 ⟨some 33,none,.mov,[.t 7]⟩ ::
 ⟨some 34,none,.bin .add,[.t 33,.k (.d (.int .i64 1))]⟩ ::
 ⟨some 7,none,.mov,[.t 34]⟩ ::
 []) [4,6,7]))))))
 (.seq (.reg [] (
 ⟨some 40,none,.mov,[.t 6]⟩ ::
 ⟨some 2,none,.mov,[.t 40]⟩ ::
 ⟨some 3,none,.mov,[.k (.d (.int .i64 0))]⟩ ::
 []) [2,3])
 (.ret))))))
theorem NG:Ch E0 Jr IU [.t 2,.t 3] 41:=AM (fl:=[]) (by kernel_rfl)
abbrev eT:Nat:=32
abbrev aI:Nat:=33
abbrev eS:Nat:=34
abbrev eN:Nat:=35
abbrev iq:Nat:=36
abbrev HI:Nat:=37
def GV:PC :=
 .seq (.reg [] (
 ⟨some 4,none,.mov,[.k (.d (.bool false))]⟩ ::
 []) [0,1])
 (.seq (.seq (.reg [] (
 ⟨some 5,none,.mov,[.k (.d (.int .i64 0))]⟩ ::
 []) [0,1,5])
 (.block 0
 (.loop [] [0,1,5] [900000,900001,901000,901001]
 (.seq (.seq (.reg [] (
 ⟨some 6,none,.mov,[.t 5]⟩ ::
 ⟨some 7,none,.mov,[.t 0]⟩ ::
 ⟨some 8,none,.len false,[.t 7]⟩ ::
 ⟨some 9,none,.bin .lss,[.t 6,.t 8]⟩ ::
 []) [0,1,5,9])
 (.cond (.t 9)
 (.skip)
 (.exit 0)))
 (.seq (.block 1
 (.seq (.reg [] (
 ⟨some 12,none,.mov,[.t 0]⟩ ::
 ⟨some 13,none,.mov,[.t 5]⟩ ::
 ⟨some 14,none,.iaddrS 1,[.t 12,.t 13]⟩ ::
 ⟨some 15,none,.load false 1,[.t 14]⟩ ::
 ⟨some 16,none,.call 69,[.t 15,.k (.d (.int .i64 0)),.k (.d (.int .i64 15))]⟩ ::
 ⟨some 17,none,.un .not,[.t 16]⟩ ::
 []) [0,1,5,17])
 (.cond (.t 17)
 (.seq (.reg [] (
 ⟨some 4,none,.mov,[.k (.d (.bool false))]⟩ ::
 []) [4])
 (.ret))
 (.skip))))
 (.reg [] (
 ⟨some 10,none,.mov,[.t 5]⟩ ::
 ⟨some 11,none,.bin .add,[.t 10,.k (.d (.int .i64 1))]⟩ ::
 ⟨some 5,none,.mov,[.t 11]⟩ ::
 []) [0,1,5]))))))
 (.seq (.reg [] (
 ⟨some 18,none,.mov,[.t 0]⟩ ::
 ⟨some 19,none,.len false,[.t 18]⟩ ::
 ⟨some 20,none,.mov,[.t 1]⟩ ::
 ⟨some 21,none,.bin .eql,[.t 19,.t 20]⟩ ::
 ⟨some 4,none,.mov,[.t 21]⟩ ::
 []) [4])
 (.ret)))
theorem Kg:Ch E0 HI GV [.t 4] 22:=AM (fl:=[]) (by kernel_rfl)
abbrev Jk:Nat:=38
def II:PC :=
 .seq (.reg [] (
 ⟨some 0,none,.zero [.int .i64 0,.int .i64 0,.int .i64 0,.int .i64 0,.list true [],.list true [],.int .i64 0,.int .i64 0,.int .i64 0,.list true [],.int .i64 0,.int .i64 0],[]⟩ ::
 ⟨some 1,none,.mov,[.k (.d (.list true []))]⟩ ::
 []) [0])
 (.seq (.reg [] (
 ⟨some 3,none,.call 70,[]⟩ ::
 ⟨some 4,none,.build [.int .i64 0,.int .i64 0] [(0,1),(1,1)],[.k (.d (.int .i64 3)),.k (.d (.int .i64 2))]⟩ ::
 ⟨some 5,none,.build [.int .i64 0,.int .i64 0,.int .i64 0] [(0,2),(2,1)],[.t 4,.k (.d (.int .i64 1))]⟩ ::
 ⟨some 6,none,.mkrow 1 (.int .i64 0) 4 [0,1,2,3],[.k (.d (.int .i64 1)),.k (.d (.int .i64 1)),.k (.d (.int .i64 1)),.k (.d (.int .i64 0))]⟩ ::
 ⟨some 7,none,.build [.int .i64 0,.int .i64 0,.int .i64 0,.int .i64 0,.list true [],.list true [],.int .i64 0,.int .i64 0,.int .i64 0,.list true [],.int .i64 0,.int .i64 0] [(0,6),(6,3),(9,1),(10,1)],[.t 3,.t 5,.t 6,.k (.d (.int .i64 1))]⟩ ::
 ⟨some 2,none,.zero [.int .i64 0,.int .i64 0,.int .i64 0,.int .i64 0,.list true [],.list true [],.int .i64 0,.int .i64 0,.int .i64 0,.list true [],.int .i64 0,.int .i64 0],[]⟩ ::
 ⟨none,none,.store 12,[.t 2,.t 7]⟩ ::
 []) [0,2])
 (.seq (.reg [] (
 ⟨some 8,none,.load true 12,[.t 2]⟩ ::
 ⟨some 9,none,.mkrowO 3 1 (.int .i64 0) 28 [0,1,2,3,4,5,6,7,8,9,10,11,12,13,14,15,16,17,18,19,20,21,22,23,24,25,26,27],[.k (.d (.int .i64 1)),.k (.d (.int .i64 1)),.k (.d (.int .i64 1)),.k (.d (.int .i64 0)),.k (.d (.int .i64 1)),.k (.d (.int .i64 0)),.k (.d (.int .i64 1)),.k (.d (.int .i64 0)),.k (.d (.int .i64 1)),.k (.d (.int .i64 0)),.k (.d (.int .i64 0)),.k (.d (.int .i64 1)),.k (.d (.int .i64 1)),.k (.d (.int .i64 0)),.k (.d (.int .i64 1)),.k (.d (.int .i64 0)),.k (.d (.int .i64 1)),.k (.d (.int .i64 0)),.k (.d (.int .i64 0)),.k (.d (.int .i64 1)),.k (.d (.int .i64 1)),.k (.d (.int .i64 0)),.k (.d (.int .i64 1)),.k (.d (.int .i64 0)),.k (.d (.int .i64 0)),.k (.d (.int .i64 1)),.k (.d (.int .i64 0)),.k (.d (.int .i64 0))]⟩ ::
 ⟨none,none,.store 12,[.t 0,.t 8]⟩ ::
 ⟨some 1,none,.mov,[.t 9]⟩ ::
 []) [0,1])
 (.ret)))
theorem M7:Ch E0 Jk II [.c 0 31 true 12,.t 1] 10:=AM (fl:=[]) (by kernel_rfl)
abbrev K2:Nat:=39
def Cq:PC :=
 .seq (.reg [] (
 ⟨some 1,none,.box,[.t 0]⟩ ::
 ⟨some 2,none,.mov,[.k (.d (.nilptr))]⟩ ::
 ⟨some 3,none,.mov,[.k (.d (.int .i64 0))]⟩ ::
 []) [1])
 (.seq (.reg [] (
 ⟨some 15,none,.load true 12,[.t 1]⟩ ::
 ⟨some 16,none,.build [.int .i64 0,.int .i64 0,.int .i64 0,.int .i64 0,.list true [],.list true [],.int .i64 0,.int .i64 0,.int .i64 0,.list true [],.int .i64 0,.int .i64 0,.list true [],.list true [],.list true [],.list true [],.list true [],.list true [],.list true [],.list true [],.list true [],.list true [],.list true [],.list true [],.list true [],.list true [],.list true [],.list true []] [(0,12)],[.t 15]⟩ ::
 ⟨some 17,none,.box,[.t 16]⟩ ::
 ⟨some 4,none,.mov,[.t 17]⟩ ::
 []) [1,4])
 (.seq (.reg [] (
 ⟨some 19,none,.faddr 6,[.t 1]⟩ ::
 ⟨some 20,none,.load true 3,[.t 19]⟩ ::
 ⟨some 21,none,.call 71,[.t 20]⟩ ::
 ⟨some 18,none,.mov,[.t 21]⟩ ::
 ⟨some 22,none,.extract 0,[.t 18]⟩ ::
 ⟨some 23,none,.extract 1,[.t 18]⟩ ::
 ⟨some 24,none,.extract 2,[.t 18]⟩ ::
 ⟨some 5,none,.mov,[.t 22]⟩ ::
 ⟨some 6,none,.mov,[.t 23]⟩ ::
 ⟨some 7,none,.mov,[.t 24]⟩ ::
 []) [1,4,7])
 (.seq (.reg [] (
 ⟨some 26,none,.faddr 9,[.t 1]⟩ ::
 ⟨some 27,none,.load false 1,[.t 26]⟩ ::
 ⟨some 28,none,.call 72,[.t 27,.k (.d (.list true [])),.k (.d (.int .i64 0))]⟩ ::
 ⟨some 25,none,.mov,[.t 28]⟩ ::
 ⟨some 29,none,.extract 0,[.t 25]⟩ ::
 ⟨some 30,none,.extract 1,[.t 25]⟩ ::
 ⟨some 8,none,.mov,[.t 29]⟩ ::
 ⟨some 9,none,.mov,[.t 30]⟩ ::
 []) [1,4,7,9])
 (.seq (.reg [] (
 ⟨some 32,none,.faddr 10,[.t 1]⟩ ::
 ⟨some 33,none,.load false 1,[.t 32]⟩ ::
 ⟨some 34,none,.call 73,[.t 33,.k (.d (.list true []))]⟩ ::
 ⟨some 31,none,.mov,[.t 34]⟩ ::
 ⟨some 35,none,.extract 0,[.t 31]⟩ ::
 ⟨some 36,none,.extract 1,[.t 31]⟩ ::
 ⟨some 10,none,.mov,[.t 35]⟩ ::
 ⟨some 11,none,.mov,[.t 36]⟩ ::
 []) [1,4,7,9,11])
 (.seq (.block 0
 (.seq (.seq (.reg [] (
 ⟨some 38,none,.faddr 0,[.t 1]⟩ ::
 ⟨some 39,none,.load true 6,[.t 38]⟩ ::
 ⟨some 40,none,.call 74,[.t 39]⟩ ::
 ⟨some 41,none,.bin .neq,[.t 40,.k (.d (.int .i64 0))]⟩ ::
 ⟨some 37,none,.mov,[.t 41]⟩ ::
 []) [1,4,7,9,11,37])
 (.cond (.t 37)
 (.skip)
 (.seq (.reg [] (
 ⟨some 42,none,.mov,[.t 7]⟩ ::
 ⟨some 43,none,.bin .neq,[.t 42,.k (.d (.int .i64 0))]⟩ ::
 ⟨some 37,none,.mov,[.t 43]⟩ ::
 []) [1,4,9,11,37])
 (.cond (.t 37)
 (.skip)
 (.seq (.reg [] (
 ⟨some 44,none,.mov,[.t 9]⟩ ::
 ⟨some 45,none,.bin .neq,[.t 44,.k (.d (.int .i64 0))]⟩ ::
 ⟨some 37,none,.mov,[.t 45]⟩ ::
 []) [1,4,11,37])
 (.cond (.t 37)
 (.skip)
 (.reg [] (
 ⟨some 46,none,.mov,[.t 11]⟩ ::
 ⟨some 47,none,.bin .neq,[.t 46,.k (.d (.int .i64 0))]⟩ ::
 ⟨some 37,none,.mov,[.t 47]⟩ ::
 []) [1,4,37])))))))
 (.cond (.t 37)
 (.seq (.reg [] (
 ⟨some 2,none,.mov,[.k (.d (.nilptr))]⟩ ::
 ⟨some 3,none,.mov,[.k (.d (.int .i64 130))]⟩ ::
 []) [2,3])
 (.ret))
 (.seq (.seq (.reg [] (
 ⟨some 49,none,.mov,[.t 4]⟩ ::
 ⟨some 50,none,.call 64,[.t 49]⟩ ::
 ⟨some 51,none,.bin .gtr,[.t 50,.k (.d (.int .i64 32))]⟩ ::
 ⟨some 48,none,.mov,[.t 51]⟩ ::
 []) [1,4,48])
 (.cond (.t 48)
 (.skip)
 (.seq (.reg [] (
 ⟨some 52,none,.faddr 11,[.t 1]⟩ ::
 ⟨some 53,none,.load false 1,[.t 52]⟩ ::
 ⟨some 54,none,.bin .lss,[.t 53,.k (.d (.int .i64 0))]⟩ ::
 ⟨some 48,none,.mov,[.t 54]⟩ ::
 []) [1,4,48])
 (.cond (.t 48)
 (.skip)
 (.reg [] (
 ⟨some 55,none,.faddr 11,[.t 1]⟩ ::
 ⟨some 56,none,.load false 1,[.t 55]⟩ ::
 ⟨some 57,none,.bin .gtr,[.t 56,.k (.d (.int .i64 16))]⟩ ::
 ⟨some 48,none,.mov,[.t 57]⟩ ::
 []) [1,4,48])))))
 (.cond (.t 48)
 (.seq (.reg [] (
 ⟨some 2,none,.mov,[.k (.d (.nilptr))]⟩ ::
 ⟨some 3,none,.mov,[.k (.d (.int .i64 130))]⟩ ::
 []) [2,3])
 (.ret))
 (.skip))))))
 (.seq (.seq (.reg [] (
 ⟨some 58,none,.mov,[.k (.d (.int .i64 0))]⟩ ::
 []) [1,4,58])
 (.block 1
 (.loop [] [1,4,58] [1,17,70,10070,900000,901000]
 (.seq (.reg [] (
 ⟨some 59,none,.bin .lss,[.t 58,.k (.d (.int .i64 16))]⟩ ::
 []) [1,4,58,59])
 (.seq (.cond (.t 59)
 (.skip)
 (.exit 1))
 (.seq (.block 2
 (.seq (.reg [] (
 ⟨some 60,none,.mov,[.t 58]⟩ ::
 ⟨some 12,none,.mov,[.t 60]⟩ ::
 []) [1,4,12,58])
 (.seq (.draw [] (
 (⟨some 62,none,.mov,[.t 4]⟩,[]) ::
 (⟨some 63,none,.mov,[.t 12]⟩,[]) ::
 (⟨some 64,none,.faddr 0,[.t 1]⟩,[]) ::
 (⟨some 65,none,.load true 6,[.t 64]⟩,[]) ::
 (⟨some 66,none,.faddr 0,[.t 1]⟩,[]) ::
 (⟨some 67,none,.load true 6,[.t 66]⟩,[]) ::
 (⟨some 68,none,.mov,[.t 12]⟩,[]) ::
 (⟨some 69,none,.call 76,[.t 67,.t 68]⟩,[3]) ::
 (⟨some 70,none,.call 75,[.t 65,.k (.d (.int .i64 0)),.t 69]⟩,[]) ::
 (⟨some 61,none,.mov,[.t 70]⟩,[]) ::
 (⟨some 71,none,.extract 0,[.t 61]⟩,[]) ::
 (⟨some 72,none,.extract 1,[.t 61]⟩,[]) ::
 (⟨some 73,none,.extract 2,[.t 61]⟩,[]) ::
 (⟨some 74,none,.nilck,[.t 62]⟩,[]) ::
 (⟨some 75,none,.faddr 12,[.t 74]⟩,[]) ::
 (⟨some 76,none,.iaddrA 16 1,[.t 75,.t 63]⟩,[]) ::
 (⟨none,none,.store 1,[.t 76,.t 71]⟩,[]) ::
 []) [1,4,12,58])
 (.seq (.reg [] (
 ⟨some 77,none,.mov,[.t 4]⟩ ::
 ⟨some 78,none,.nilck,[.t 77]⟩ ::
 ⟨some 79,none,.faddr 12,[.t 78]⟩ ::
 ⟨some 80,none,.mov,[.t 12]⟩ ::
 ⟨some 81,none,.slice 1 true true true,[.t 79,.t 80,.k (.d (.int .i64 16))]⟩ ::
 ⟨some 82,none,.len false,[.t 81]⟩ ::
 ⟨some 83,none,.mov,[.k (.d (.int .i64 0))]⟩ ::
 []) [1,4,12,58,81,82,83])
 (.block 3
 (.loop [] [1,4,12,58,81,82,83] [1,17,70,10070,900000,901000]
 (.seq (.reg [] (
 ⟨some 84,none,.bin .lss,[.t 83,.t 82]⟩ ::
 []) [1,4,12,58,81,82,83,84])
 (.seq (.cond (.t 84)
 (.skip)
 (.exit 3))
 (.seq (.block 4
 (.seq (.reg [] (
 ⟨some 85,none,.iaddrS 1,[.t 81,.t 83]⟩ ::
 ⟨some 86,none,.load false 1,[.t 85]⟩ ::
 ⟨some 14,none,.mov,[.t 86]⟩ ::
 []) [1,4,12,14,58,81,82,83])
 (.seq (.reg [] (
 ⟨some 87,none,.mov,[.t 14]⟩ ::
 ⟨some 88,none,.mov,[.t 4]⟩ ::
 ⟨some 89,none,.mov,[.t 12]⟩ ::
 ⟨some 90,none,.nilck,[.t 88]⟩ ::
 ⟨some 91,none,.faddr 12,[.t 90]⟩ ::
 ⟨some 92,none,.iaddrA 16 1,[.t 91,.t 89]⟩ ::
 ⟨some 93,none,.load false 1,[.t 92]⟩ ::
 ⟨some 94,none,.call 77,[.t 87,.t 93]⟩ ::
 []) [1,4,12,58,81,82,83,94])
 (.cond (.t 94)
 (.seq (.reg [] (
 ⟨some 2,none,.mov,[.k (.d (.nilptr))]⟩ ::
 ⟨some 3,none,.mov,[.k (.d (.int .i64 130))]⟩ ::
 []) [2,3])
 (.ret))
 (.skip)))))
 (.reg [] (
 ⟨some 95,none,.bin .add,[.t 83,.k (.d (.int .i64 1))]⟩ ::
 ⟨some 83,none,.mov,[.t 95]⟩ ::
 []) [1,4,12,58,81,82,83]))))))))))
 (.reg [] (
 ⟨some 96,none,.bin .add,[.t 58,.k (.d (.int .i64 1))]⟩ ::
 ⟨some 58,none,.mov,[.t 96]⟩ ::
 []) [1,4,58])))))))
 (.seq (.reg [] (
 ⟨some 97,none,.mov,[.t 4]⟩ ::
 ⟨some 2,none,.mov,[.t 97]⟩ ::
 ⟨some 3,none,.mov,[.k (.d (.int .i64 0))]⟩ ::
 []) [2,3])
 (.ret))))))))
theorem C3:Ch E0 K2 Cq [.t 2,.t 3] 98:=AM (fl:=[]) (by kernel_rfl)
abbrev Ip:Nat:=40
def Ha:PC :=
 .seq (.reg [] (
 ⟨some 2,none,.box,[.t 0]⟩ ::
 ⟨some 4,none,.mov,[.k (.d (.list true []))]⟩ ::
 ⟨some 5,none,.mov,[.k (.d (.int .i64 0))]⟩ ::
 []) [1,2])
 (.seq (.reg [] (
 ⟨some 11,none,.load true 3,[.t 2]⟩ ::
 ⟨some 12,none,.mov,[.t 1]⟩ ::
 ⟨some 13,none,.call 78,[.t 11,.t 12,.k (.fn 79 [])]⟩ ::
 ⟨some 10,none,.mov,[.t 13]⟩ ::
 ⟨some 14,none,.extract 0,[.t 10]⟩ ::
 ⟨some 15,none,.extract 1,[.t 10]⟩ ::
 ⟨some 6,none,.zero [.int .i64 0,.int .i64 0,.int .i64 0],[]⟩ ::
 ⟨none,none,.store 3,[.t 6,.t 14]⟩ ::
 ⟨some 7,none,.mov,[.t 15]⟩ ::
 []) [1,6,7])
 (.seq (.seq (.reg [] (
 ⟨some 16,none,.mov,[.t 7]⟩ ::
 ⟨some 17,none,.bin .neq,[.t 16,.k (.d (.int .i64 0))]⟩ ::
 []) [1,6,7,17])
 (.cond (.t 17)
 (.seq (.reg [] (
 ⟨some 18,none,.mov,[.t 7]⟩ ::
 ⟨some 4,none,.mov,[.k (.d (.list true []))]⟩ ::
 ⟨some 5,none,.mov,[.t 18]⟩ ::
 []) [4,5])
 (.ret))
 (.skip)))
 (.seq (.reg [] (
 ⟨some 8,none,.mov,[.k (.d (.list true []))]⟩ ::
 []) [1,6,8])
 (.seq (.seq (.reg [] (
 ⟨some 19,none,.faddr 2,[.t 6]⟩ ::
 ⟨some 20,none,.load false 1,[.t 19]⟩ ::
 ⟨some 21,none,.mov,[.k (.d (.int .i64 0))]⟩ ::
 []) [1,6,8,20,21])
 (.block 0
 (.loop [.own 8 33 110 1] [1,6,8,20,21] [6,13,33,10013,900001,901001]
 (.seq (.reg [] (
 ⟨some 22,none,.bin .lss,[.t 21,.t 20]⟩ ::
 []) [1,6,8,20,21,22])
 (.seq (.cond (.t 22)
 (.skip)
 (.exit 0))
 (.seq (.block 1
 (.seq (.reg [] (
 ⟨some 23,none,.mov,[.t 21]⟩ ::
 ⟨some 9,none,.mov,[.t 23]⟩ ::
 []) [1,6,8,9,20,21])
 (.draw [] (
 (⟨some 24,none,.mov,[.t 8]⟩,[]) ::
 (⟨some 25,none,.faddr 0,[.t 6]⟩,[]) ::
 (⟨some 26,none,.load true 2,[.t 25]⟩,[]) ::
 (⟨some 27,none,.load true 3,[.t 6]⟩,[]) ::
 (⟨some 28,none,.mov,[.t 1]⟩,[]) ::
 (⟨some 29,none,.mov,[.t 9]⟩,[]) ::
 (⟨some 30,none,.call 81,[.t 27,.t 28,.t 29]⟩,[2]) ::
 (⟨some 31,none,.call 80,[.t 26,.t 30]⟩,[]) ::
 (⟨some 32,none,.mkrow 1 (.list true []) 1 [0],[.t 31]⟩,[]) ::
 (⟨some 33,none,.app 110 1 none true,[.t 24,.t 32]⟩,[]) ::
 (⟨some 8,none,.mov,[.t 33]⟩,[]) ::
 []) [1,6,8,20,21])))
 (.reg [] (
 ⟨some 34,none,.bin .add,[.t 21,.k (.d (.int .i64 1))]⟩ ::
 ⟨some 21,none,.mov,[.t 34]⟩ ::
 []) [1,6,8,20,21])))))))
 (.seq (.reg [.freeze 8] (
 ⟨some 35,none,.load true 3,[.t 6]⟩ ::
 ⟨some 36,none,.mov,[.t 8]⟩ ::
 ⟨some 37,none,.call 82,[.t 35,.t 36]⟩ ::
 ⟨some 4,none,.mov,[.t 37]⟩ ::
 ⟨some 5,none,.mov,[.k (.d (.int .i64 0))]⟩ ::
 []) [4,5])
 (.ret))))))
theorem L6:Ch E0 Ip Ha [.t 4,.t 5] 38:=AM (fl:=[33]) (by kernel_rfl)
abbrev FY:Nat:=41
def E7:PC :=
 .seq (.reg [] (
 ⟨some 2,none,.mov,[.k (.d (.list true []))]⟩ ::
 []) [0])
 (.seq (.seq (.reg [] (
 ⟨some 3,none,.mov,[.t 0]⟩ ::
 ⟨some 4,none,.eqnil false,[.t 3,.k (.d (.list true []))]⟩ ::
 []) [0,4])
 (.cond (.t 4)
 (.seq (.reg [] (
 ⟨some 2,none,.mov,[.k (.d (.list true []))]⟩ ::
 []) [2])
 (.ret))
 (.skip)))
 (.seq (.reg [] (
 ⟨some 5,none,.mkrow 1 (.int .i64 0) 0 [],[]⟩ ::
 ⟨some 6,none,.mov,[.t 0]⟩ ::
 ⟨some 7,none,.app 3 1 none true,[.t 5,.t 6]⟩ ::
 ⟨some 2,none,.mov,[.t 7]⟩ ::
 []) [2])
 (.ret)))
theorem Hv:Ch E0 FY E7 [.t 2] 8:=AM (fl:=[]) (by kernel_rfl)
abbrev EV:Nat:=42
abbrev Hp:Nat:=43
def Gz:PC :=
 .seq (.reg [] (
 ⟨some 2,none,.mov,[.k (.d (.bool false))]⟩ ::
 []) [0])
 (.seq (.reg [] (
 ⟨some 3,none,.mov,[.t 0]⟩ ::
 ⟨some 4,none,.len false,[.t 3]⟩ ::
 ⟨some 5,none,.bin .leq,[.t 4,.k (.d (.int .i64 1000))]⟩ ::
 ⟨some 6,none,.mov,[.t 5]⟩ ::
 ⟨some 7,some (6,true),.mov,[.t 0]⟩ ::
 ⟨some 8,some (6,true),.call 84,[.t 7,.k (.fn 85 [])]⟩ ::
 ⟨some 9,some (6,true),.un .not,[.t 8]⟩ ::
 ⟨some 10,none,.pick,[.t 6,.t 9,.k (.d (.bool false))]⟩ ::
 ⟨some 2,none,.mov,[.t 10]⟩ ::
 []) [2])
 (.ret))
theorem LN:Ch E0 Hp Gz [.t 2] 11:=AM (fl:=[]) (by kernel_rfl)
abbrev Ff:Nat:=44
def FA:PC :=
 .seq (.reg [] (
 ⟨some 2,none,.box,[.t 0]⟩ ::
 ⟨some 4,none,.mov,[.k (.d (.int .i64 0))]⟩ ::
 ⟨some 5,none,.zero [.list true []],[]⟩ ::
 ⟨some 6,none,.mov,[.k (.d (.bool false))]⟩ ::
 []) [1,2,4,5,6])
 (.seq (.block 0
 (.loop [] [1,2,4,5,6] [2,5,68,900000,900001,901000,901001,5000002,5000005,5000068]
 (.seq (.seq (.draw [] (
 (⟨some 10,none,.mov,[.t 4]⟩,[]) ::
 (⟨some 11,none,.load false 1,[.t 2]⟩,[]) ::
 (⟨some 12,none,.nilck,[.t 11]⟩,[]) ::
 (⟨some 13,none,.faddr 0,[.t 12]⟩,[]) ::
 (⟨some 14,none,.faddr 9,[.t 13]⟩,[]) ::
 (⟨some 15,none,.load false 1,[.t 14]⟩,[]) ::
 (⟨some 16,none,.len false,[.t 15]⟩,[]) ::
 (⟨some 17,none,.bin .add,[.t 10,.t 16]⟩,[]) ::
 (⟨some 18,none,.load false 1,[.t 2]⟩,[]) ::
 (⟨some 19,none,.call 55,[.t 18]⟩,[1,5,6]) ::
 (⟨some 20,none,.bin .add,[.t 17,.t 19]⟩,[]) ::
 (⟨some 21,none,.mov,[.t 1]⟩,[]) ::
 (⟨some 22,none,.len false,[.t 21]⟩,[9]) ::
 (⟨some 23,none,.bin .leq,[.t 20,.t 22]⟩,[]) ::
 []) [1,2,4,5,6,23])
 (.cond (.t 23)
 (.skip)
 (.exit 0)))
 (.seq (.block 1
 (.seq (.seq (.draw [] (
 (⟨some 26,none,.load false 1,[.t 2]⟩,[]) ::
 (⟨some 27,none,.nilck,[.t 26]⟩,[]) ::
 (⟨some 28,none,.faddr 0,[.t 27]⟩,[]) ::
 (⟨some 29,none,.faddr 9,[.t 28]⟩,[]) ::
 (⟨some 30,none,.load false 1,[.t 29]⟩,[]) ::
 (⟨some 31,none,.mov,[.t 1]⟩,[]) ::
 (⟨some 32,none,.mov,[.t 4]⟩,[]) ::
 (⟨some 33,none,.slice 1 true false false,[.t 31,.t 32]⟩,[0,4]) ::
 (⟨some 34,none,.call 62,[.t 30,.t 33]⟩,[]) ::
 (⟨some 35,none,.load false 1,[.t 2]⟩,[7,8]) ::
 (⟨some 36,none,.nilck,[.t 35]⟩,[]) ::
 (⟨some 37,none,.faddr 0,[.t 36]⟩,[]) ::
 (⟨some 38,none,.faddr 11,[.t 37]⟩,[]) ::
 (⟨some 39,none,.load false 1,[.t 38]⟩,[7,8]) ::
 (⟨some 40,none,.bin .gtr,[.t 34,.t 39]⟩,[]) ::
 []) [1,2,4,5,6,40])
 (.cond (.t 40)
 (.exit 1)
 (.skip)))
 (.seq (.draw [] (
 (⟨some 41,none,.mov,[.t 1]⟩,[]) ::
 (⟨some 42,none,.mov,[.t 4]⟩,[]) ::
 (⟨some 43,none,.load false 1,[.t 2]⟩,[]) ::
 (⟨some 44,none,.nilck,[.t 43]⟩,[]) ::
 (⟨some 45,none,.faddr 0,[.t 44]⟩,[]) ::
 (⟨some 46,none,.faddr 9,[.t 45]⟩,[]) ::
 (⟨some 47,none,.load false 1,[.t 46]⟩,[]) ::
 (⟨some 48,none,.len false,[.t 47]⟩,[]) ::
 (⟨some 49,none,.bin .add,[.t 42,.t 48]⟩,[]) ::
 (⟨some 50,none,.slice 1 true false false,[.t 41,.t 49]⟩,[]) ::
 (⟨some 51,none,.load false 1,[.t 2]⟩,[9]) ::
 (⟨some 52,none,.call 55,[.t 51]⟩,[2,6,7,9]) ::
 (⟨some 53,none,.slice 1 false true false,[.t 50,.t 52]⟩,[]) ::
 (⟨some 7,none,.mov,[.t 53]⟩,[]) ::
 []) [1,2,4,5,6,7])
 (.seq (.seq (.reg [] (
 ⟨some 54,none,.mov,[.t 7]⟩ ::
 ⟨some 55,none,.load false 1,[.t 2]⟩ ::
 ⟨some 56,none,.call 61,[.t 55]⟩ ::
 ⟨some 57,none,.call 83,[.t 54,.t 56]⟩ ::
 []) [1,2,4,5,6,57])
 (.block 2
 (.rngF [] (.t 57) [58] [1,2,4,5,6] [2,5,68,900000,900001,901000,901001,5000002,5000005,5000068]
 (.reg [] (
 ⟨some 8,none,.zero [.list true []],[]⟩ ::
 ⟨none,none,.store 1,[.t 8,.t 58]⟩ ::
 []) [2,5,8])
 [] [2,5,68,900000,900001,901000,901001,5000002,5000005,5000068]
 (.block 3
 (.seq (.reg [.frzP 8] (
 ⟨some 59,none,.mkfn 86,[.t 8]⟩ ::
 ⟨some 9,none,.mov,[.t 59]⟩ ::
 []) [2,5,9])
 (.draw [] (
 (⟨some 60,none,.load false 1,[.t 5]⟩,[]) ::
 (⟨some 61,none,.load false 1,[.t 2]⟩,[]) ::
 (⟨some 62,none,.nilck,[.t 61]⟩,[]) ::
 (⟨some 63,none,.faddr 12,[.t 62]⟩,[]) ::
 (⟨some 64,none,.slice 1 true true true,[.t 63,.k (.d (.int .i64 16)),.k (.d (.int .i64 16))]⟩,[0]) ::
 (⟨some 65,none,.mov,[.t 9]⟩,[]) ::
 (⟨some 66,none,.call 87,[.t 64,.t 65]⟩,[0]) ::
 (⟨some 67,none,.mkrow 1 (.int .i64 0) 1 [0],[.t 66]⟩,[]) ::
 (⟨some 68,none,.app 3 1 none true,[.t 60,.t 67]⟩,[]) ::
 (⟨none,none,.store 1,[.t 5,.t 68]⟩,[]) ::
 []) []))))))
 (.seq (.draw [] (
 (⟨some 69,none,.mov,[.t 4]⟩,[]) ::
 (⟨some 70,none,.load false 1,[.t 5]⟩,[]) ::
 (⟨some 4,none,.mov,[.t 69]⟩,[]) ::
 (⟨none,none,.store 1,[.t 5,.t 70]⟩,[]) ::
 (⟨some 6,none,.mov,[.k (.d (.bool true))]⟩,[]) ::
 []) [4,5,6])
 (.ret))))))
 (.reg [] (
 ⟨some 24,none,.mov,[.t 4]⟩ ::
 ⟨some 25,none,.bin .add,[.t 24,.k (.d (.int .i64 1))]⟩ ::
 ⟨some 4,none,.mov,[.t 25]⟩ ::
 []) [1,2,4,5,6])))))
 (.seq (.reg [] (
 ⟨some 4,none,.mov,[.k (.d (.int .i64 0))]⟩ ::
 ⟨none,none,.store 1,[.t 5,.k (.d (.list true []))]⟩ ::
 ⟨some 6,none,.mov,[.k (.d (.bool false))]⟩ ::
 []) [4,5,6])
 (.ret)))
theorem H0:Ch E0 Ff FA [.t 4,.c 5 29 false 1,.t 6] 71:=AM (fl:=[68]) (by kernel_rfl)
abbrev Ez:Nat:=45
abbrev Im:Nat:=46
def HY:PC :=
 .seq (.reg [] (
 ⟨some 6,none,.mov,[.k (.d (.int .i64 0))]⟩ ::
 []) [0,1,2])
 (.seq (.reg [] (
 ⟨some 7,none,.mov,[.k (.d (.int .i64 0))]⟩ ::
 []) [0,1,2,7])
 (.seq (.seq (.reg [] (
 ⟨some 8,none,.mov,[.k (.d (.int .i64 0))]⟩ ::
 []) [0,1,2,7,8])
 (.block 0
 (.loop [] [0,1,2,7,8] [900000,900001,900002,901000,901001,901002]
 (.seq (.seq (.reg [] (
 ⟨some 9,none,.mov,[.t 8]⟩ ::
 ⟨some 10,none,.mov,[.t 0]⟩ ::
 ⟨some 11,none,.len false,[.t 10]⟩ ::
 ⟨some 12,none,.bin .lss,[.t 9,.t 11]⟩ ::
 []) [0,1,2,7,8,12])
 (.cond (.t 12)
 (.skip)
 (.exit 0)))
 (.seq (.block 1
 (.seq (.draw [] (
 (⟨some 15,none,.mov,[.t 0]⟩,[]) ::
 (⟨some 16,none,.mov,[.t 8]⟩,[]) ::
 (⟨some 17,none,.iaddrS 1,[.t 15,.t 16]⟩,[]) ::
 (⟨some 18,none,.load false 1,[.t 17]⟩,[]) ::
 (⟨some 19,none,.mov,[.t 1]⟩,[]) ::
 (⟨some 20,none,.mov,[.t 2]⟩,[]) ::
 (⟨some 21,none,.mov,[.t 8]⟩,[]) ::
 (⟨some 22,none,.bin .add,[.t 20,.t 21]⟩,[]) ::
 (⟨some 23,none,.iaddrS 1,[.t 19,.t 22]⟩,[]) ::
 (⟨some 24,none,.load false 1,[.t 23]⟩,[]) ::
 (⟨some 25,none,.bin .neq,[.t 18,.t 24]⟩,[]) ::
 []) [0,1,2,7,8,25])
 (.cond (.t 25)
 (.reg [] (
 ⟨some 26,none,.mov,[.t 7]⟩ ::
 ⟨some 27,none,.bin .add,[.t 26,.k (.d (.int .i64 1))]⟩ ::
 ⟨some 7,none,.mov,[.t 27]⟩ ::
 []) [0,1,2,7,8])
 (.skip))))
 (.reg [] (
 ⟨some 13,none,.mov,[.t 8]⟩ ::
 ⟨some 14,none,.bin .add,[.t 13,.k (.d (.int .i64 1))]⟩ ::
 ⟨some 8,none,.mov,[.t 14]⟩ ::
 []) [0,1,2,7,8]))))))
 (.seq (.reg [] (
 ⟨some 28,none,.mov,[.t 7]⟩ ::
 ⟨some 6,none,.mov,[.t 28]⟩ ::
 []) [6])
 (.ret))))
theorem L4:Ch E0 Im HY [.t 6] 29:=AM (fl:=[]) (by kernel_rfl)
abbrev Jn:Nat:=47
def IM:PC :=
 .seq (.reg [] (
 ⟨some 1,none,.box,[.t 0]⟩ ::
 ⟨some 2,none,.mov,[.k (.d (.int .i64 0))]⟩ ::
 []) [1])
 (.seq (.seq (.reg [] (
 ⟨some 3,none,.faddr 0,[.t 1]⟩ ::
 ⟨some 4,none,.load false 1,[.t 3]⟩ ::
 ⟨some 5,none,.bin .lss,[.t 4,.k (.d (.int .i64 2))]⟩ ::
 ⟨some 6,none,.mov,[.t 5]⟩ ::
 ⟨some 7,some (6,false),.faddr 0,[.t 1]⟩ ::
 ⟨some 8,some (6,false),.load false 1,[.t 7]⟩ ::
 ⟨some 9,some (6,false),.bin .gtr,[.t 8,.k (.d (.int .i64 15))]⟩ ::
 ⟨some 10,none,.pick,[.t 6,.k (.d (.bool true)),.t 9]⟩ ::
 ⟨some 11,none,.mov,[.t 10]⟩ ::
 ⟨some 12,some (11,false),.faddr 1,[.t 1]⟩ ::
 ⟨some 13,some (11,false),.load false 1,[.t 12]⟩ ::
 ⟨some 14,some (11,false),.bin .lss,[.t 13,.k (.d (.int .i64 1))]⟩ ::
 ⟨some 15,none,.pick,[.t 11,.k (.d (.bool true)),.t 14]⟩ ::
 ⟨some 16,none,.mov,[.t 15]⟩ ::
 ⟨some 17,some (16,false),.faddr 1,[.t 1]⟩ ::
 ⟨some 18,some (16,false),.load false 1,[.t 17]⟩ ::
 ⟨some 19,some (16,false),.bin .gtr,[.t 18,.k (.d (.int .i64 8))]⟩ ::
 ⟨some 20,none,.pick,[.t 16,.k (.d (.bool true)),.t 19]⟩ ::
 ⟨some 21,none,.mov,[.t 20]⟩ ::
 ⟨some 22,some (21,false),.faddr 1,[.t 1]⟩ ::
 ⟨some 23,some (21,false),.load false 1,[.t 22]⟩ ::
 ⟨some 24,some (21,false),.faddr 0,[.t 1]⟩ ::
 ⟨some 25,some (21,false),.load false 1,[.t 24]⟩ ::
 ⟨some 26,some (21,false),.bin .geq,[.t 23,.t 25]⟩ ::
 ⟨some 27,none,.pick,[.t 21,.k (.d (.bool true)),.t 26]⟩ ::
 []) [27])
 (.cond (.t 27)
 (.seq (.reg [] (
 ⟨some 2,none,.mov,[.k (.d (.int .i64 50))]⟩ ::
 []) [2])
 (.ret))
 (.skip)))
 (.seq (.reg [] (
 ⟨some 2,none,.mov,[.k (.d (.int .i64 0))]⟩ ::
 []) [2])
 (.ret)))
theorem NA:Ch E0 Jn IM [.t 2] 28:=AM (fl:=[]) (by kernel_rfl)
abbrev Od:Nat:=48
def Mg:PC :=
 .seq (.reg [] (
 ⟨some 1,none,.box,[.t 0]⟩ ::
 ⟨some 2,none,.mov,[.k (.d (.bool false))]⟩ ::
 []) [1])
 (.seq (.seq (.reg [] (
 ⟨some 5,none,.faddr 4,[.t 1]⟩ ::
 ⟨some 6,none,.load false 1,[.t 5]⟩ ::
 ⟨some 7,none,.len false,[.t 6]⟩ ::
 ⟨some 8,none,.bin .gtr,[.t 7,.k (.d (.int .i64 20))]⟩ ::
 ⟨some 9,none,.mov,[.t 8]⟩ ::
 ⟨some 10,some (9,false),.faddr 5,[.t 1]⟩ ::
 ⟨some 11,some (9,false),.load false 1,[.t 10]⟩ ::
 ⟨some 12,some (9,false),.len false,[.t 11]⟩ ::
 ⟨some 13,some (9,false),.bin .gtr,[.t 12,.k (.d (.int .i64 20))]⟩ ::
 ⟨some 14,none,.pick,[.t 9,.k (.d (.bool true)),.t 13]⟩ ::
 []) [1,14])
 (.cond (.t 14)
 (.seq (.reg [] (
 ⟨some 2,none,.mov,[.k (.d (.bool true))]⟩ ::
 []) [2])
 (.ret))
 (.skip)))
 (.seq (.seq (.reg [] (
 ⟨some 3,none,.mov,[.k (.d (.int .i64 0))]⟩ ::
 []) [1,3])
 (.block 0
 (.loop [] [1,3] [1,900000,901000]
 (.seq (.seq (.reg [] (
 ⟨some 15,none,.mov,[.t 3]⟩ ::
 ⟨some 16,none,.faddr 4,[.t 1]⟩ ::
 ⟨some 17,none,.load false 1,[.t 16]⟩ ::
 ⟨some 18,none,.len false,[.t 17]⟩ ::
 ⟨some 19,none,.bin .lss,[.t 15,.t 18]⟩ ::
 []) [1,3,19])
 (.cond (.t 19)
 (.skip)
 (.exit 0)))
 (.seq (.block 1
 (.seq (.reg [] (
 ⟨some 22,none,.faddr 4,[.t 1]⟩ ::
 ⟨some 23,none,.load false 1,[.t 22]⟩ ::
 ⟨some 24,none,.mov,[.t 3]⟩ ::
 ⟨some 25,none,.iaddrS 1,[.t 23,.t 24]⟩ ::
 ⟨some 26,none,.load false 1,[.t 25]⟩ ::
 ⟨some 27,none,.len false,[.t 26]⟩ ::
 ⟨some 28,none,.bin .gtr,[.t 27,.k (.d (.int .i64 20))]⟩ ::
 []) [1,3,28])
 (.cond (.t 28)
 (.seq (.reg [] (
 ⟨some 2,none,.mov,[.k (.d (.bool true))]⟩ ::
 []) [2])
 (.ret))
 (.skip))))
 (.reg [] (
 ⟨some 20,none,.mov,[.t 3]⟩ ::
 ⟨some 21,none,.bin .add,[.t 20,.k (.d (.int .i64 1))]⟩ ::
 ⟨some 3,none,.mov,[.t 21]⟩ ::
 []) [1,3]))))))
 (.seq (.seq (.reg [] (
 ⟨some 4,none,.mov,[.k (.d (.int .i64 0))]⟩ ::
 []) [1,4])
 (.block 2
 (.loop [] [1,4] [1,900000,901000]
 (.seq (.seq (.reg [] (
 ⟨some 29,none,.mov,[.t 4]⟩ ::
 ⟨some 30,none,.faddr 5,[.t 1]⟩ ::
 ⟨some 31,none,.load false 1,[.t 30]⟩ ::
 ⟨some 32,none,.len false,[.t 31]⟩ ::
 ⟨some 33,none,.bin .lss,[.t 29,.t 32]⟩ ::
 []) [1,4,33])
 (.cond (.t 33)
 (.skip)
 (.exit 2)))
 (.seq (.block 3
 (.seq (.reg [] (
 ⟨some 36,none,.faddr 5,[.t 1]⟩ ::
 ⟨some 37,none,.load false 1,[.t 36]⟩ ::
 ⟨some 38,none,.mov,[.t 4]⟩ ::
 ⟨some 39,none,.iaddrS 1,[.t 37,.t 38]⟩ ::
 ⟨some 40,none,.load false 1,[.t 39]⟩ ::
 ⟨some 41,none,.len false,[.t 40]⟩ ::
 ⟨some 42,none,.bin .gtr,[.t 41,.k (.d (.int .i64 20))]⟩ ::
 []) [1,4,42])
 (.cond (.t 42)
 (.seq (.reg [] (
 ⟨some 2,none,.mov,[.k (.d (.bool true))]⟩ ::
 []) [2])
 (.ret))
 (.skip))))
 (.reg [] (
 ⟨some 34,none,.mov,[.t 4]⟩ ::
 ⟨some 35,none,.bin .add,[.t 34,.k (.d (.int .i64 1))]⟩ ::
 ⟨some 4,none,.mov,[.t 35]⟩ ::
 []) [1,4]))))))
 (.seq (.reg [] (
 ⟨some 2,none,.mov,[.k (.d (.bool false))]⟩ ::
 []) [2])
 (.ret)))))
theorem Q4:Ch E0 Od Mg [.t 2] 43:=AM (fl:=[]) (by kernel_rfl)
abbrev i4:Nat:=49
abbrev Ll:Nat:=50
def KI:PC :=
 .seq (.reg [] (
 ⟨some 1,none,.box,[.t 0]⟩ ::
 ⟨some 2,none,.mov,[.k (.d (.int .i64 0))]⟩ ::
 []) [1])
 (.seq (.seq (.reg [] (
 ⟨some 5,none,.faddr 0,[.t 1]⟩ ::
 ⟨some 6,none,.load false 1,[.t 5]⟩ ::
 ⟨some 7,none,.call 89,[.t 6,.k (.d (.int .i64 1)),.k (.d (.int .i64 2))]⟩ ::
 ⟨some 8,none,.un .not,[.t 7]⟩ ::
 ⟨some 9,none,.mov,[.t 8]⟩ ::
 ⟨some 10,some (9,false),.faddr 1,[.t 1]⟩ ::
 ⟨some 11,some (9,false),.load false 1,[.t 10]⟩ ::
 ⟨some 12,some (9,false),.call 89,[.t 11,.k (.d (.int .i64 1)),.k (.d (.int .i64 5))]⟩ ::
 ⟨some 13,some (9,false),.un .not,[.t 12]⟩ ::
 ⟨some 14,none,.pick,[.t 9,.k (.d (.bool true)),.t 13]⟩ ::
 ⟨some 15,none,.mov,[.t 14]⟩ ::
 ⟨some 16,some (15,false),.faddr 2,[.t 1]⟩ ::
 ⟨some 17,some (15,false),.load false 1,[.t 16]⟩ ::
 ⟨some 18,some (15,false),.faddr 3,[.t 1]⟩ ::
 ⟨some 19,some (15,false),.load false 1,[.t 18]⟩ ::
 ⟨some 20,some (15,false),.call 89,[.t 17,.k (.d (.int .i64 0)),.t 19]⟩ ::
 ⟨some 21,some (15,false),.un .not,[.t 20]⟩ ::
 ⟨some 22,none,.pick,[.t 15,.k (.d (.bool true)),.t 21]⟩ ::
 ⟨some 23,none,.mov,[.t 22]⟩ ::
 ⟨some 24,some (23,false),.faddr 3,[.t 1]⟩ ::
 ⟨some 25,some (23,false),.load false 1,[.t 24]⟩ ::
 ⟨some 26,some (23,false),.bin .gtr,[.t 25,.k (.d (.int .i64 12))]⟩ ::
 ⟨some 27,none,.pick,[.t 23,.k (.d (.bool true)),.t 26]⟩ ::
 ⟨some 28,none,.mov,[.t 27]⟩ ::
 ⟨some 29,some (28,false),.faddr 4,[.t 1]⟩ ::
 ⟨some 30,some (28,false),.load false 1,[.t 29]⟩ ::
 ⟨some 31,some (28,false),.len false,[.t 30]⟩ ::
 ⟨some 32,some (28,false),.call 89,[.t 31,.k (.d (.int .i64 1)),.k (.d (.int .i64 4))]⟩ ::
 ⟨some 33,some (28,false),.un .not,[.t 32]⟩ ::
 ⟨some 34,none,.pick,[.t 28,.k (.d (.bool true)),.t 33]⟩ ::
 ⟨some 35,none,.mov,[.t 34]⟩ ::
 ⟨some 36,some (35,false),.faddr 5,[.t 1]⟩ ::
 ⟨some 37,some (35,false),.load false 1,[.t 36]⟩ ::
 ⟨some 38,some (35,false),.len false,[.t 37]⟩ ::
 ⟨some 39,some (35,false),.faddr 4,[.t 1]⟩ ::
 ⟨some 40,some (35,false),.load false 1,[.t 39]⟩ ::
 ⟨some 41,some (35,false),.len false,[.t 40]⟩ ::
 ⟨some 42,some (35,false),.bin .neq,[.t 38,.t 41]⟩ ::
 ⟨some 43,none,.pick,[.t 35,.k (.d (.bool true)),.t 42]⟩ ::
 []) [1,43])
 (.cond (.t 43)
 (.seq (.reg [] (
 ⟨some 2,none,.mov,[.k (.d (.int .i64 40))]⟩ ::
 []) [2])
 (.ret))
 (.skip)))
 (.seq (.seq (.reg [] (
 ⟨some 3,none,.mov,[.k (.d (.int .i64 0))]⟩ ::
 []) [1,3])
 (.block 0
 (.loop [] [1,3] [1,900000,901000]
 (.seq (.seq (.reg [] (
 ⟨some 44,none,.mov,[.t 3]⟩ ::
 ⟨some 45,none,.faddr 4,[.t 1]⟩ ::
 ⟨some 46,none,.load false 1,[.t 45]⟩ ::
 ⟨some 47,none,.len false,[.t 46]⟩ ::
 ⟨some 48,none,.bin .lss,[.t 44,.t 47]⟩ ::
 []) [1,3,48])
 (.cond (.t 48)
 (.skip)
 (.exit 0)))
 (.seq (.block 1
 (.seq (.seq (.draw [] (
 (⟨some 51,none,.faddr 4,[.t 1]⟩,[]) ::
 (⟨some 52,none,.load false 1,[.t 51]⟩,[]) ::
 (⟨some 53,none,.mov,[.t 3]⟩,[]) ::
 (⟨some 54,none,.iaddrS 1,[.t 52,.t 53]⟩,[]) ::
 (⟨some 55,none,.load false 1,[.t 54]⟩,[]) ::
 (⟨some 56,none,.len false,[.t 55]⟩,[]) ::
 (⟨some 57,none,.faddr 0,[.t 1]⟩,[]) ::
 (⟨some 58,none,.load false 1,[.t 57]⟩,[]) ::
 (⟨some 59,none,.conv .u64,[.t 58]⟩,[]) ::
 (⟨some 60,none,.bin .shl,[.k (.d (.int .i64 1)),.t 59]⟩,[]) ::
 (⟨some 61,none,.bin .neq,[.t 56,.t 60]⟩,[]) ::
 (⟨some 62,none,.mov,[.t 61]⟩,[]) ::
 (⟨some 63,some (62,false),.faddr 5,[.t 1]⟩,[]) ::
 (⟨some 64,some (62,false),.load false 1,[.t 63]⟩,[]) ::
 (⟨some 65,some (62,false),.mov,[.t 3]⟩,[]) ::
 (⟨some 66,some (62,false),.iaddrS 1,[.t 64,.t 65]⟩,[]) ::
 (⟨some 67,some (62,false),.load false 1,[.t 66]⟩,[]) ::
 (⟨some 68,some (62,false),.len false,[.t 67]⟩,[]) ::
 (⟨some 69,some (62,false),.faddr 0,[.t 1]⟩,[]) ::
 (⟨some 70,some (62,false),.load false 1,[.t 69]⟩,[]) ::
 (⟨some 71,some (62,false),.conv .u64,[.t 70]⟩,[]) ::
 (⟨some 72,some (62,false),.bin .shl,[.k (.d (.int .i64 1)),.t 71]⟩,[]) ::
 (⟨some 73,some (62,false),.bin .neq,[.t 68,.t 72]⟩,[]) ::
 (⟨some 74,none,.pick,[.t 62,.k (.d (.bool true)),.t 73]⟩,[]) ::
 []) [1,3,74])
 (.cond (.t 74)
 (.seq (.reg [] (
 ⟨some 2,none,.mov,[.k (.d (.int .i64 40))]⟩ ::
 []) [2])
 (.ret))
 (.skip)))
 (.seq (.reg [] (
 ⟨some 4,none,.mov,[.k (.d (.int .i64 0))]⟩ ::
 []) [1,3,4])
 (.block 2
 (.loop [] [1,3,4] [1,900000,901000]
 (.seq (.seq (.reg [] (
 ⟨some 75,none,.mov,[.t 4]⟩ ::
 ⟨some 76,none,.faddr 4,[.t 1]⟩ ::
 ⟨some 77,none,.load false 1,[.t 76]⟩ ::
 ⟨some 78,none,.mov,[.t 3]⟩ ::
 ⟨some 79,none,.iaddrS 1,[.t 77,.t 78]⟩ ::
 ⟨some 80,none,.load false 1,[.t 79]⟩ ::
 ⟨some 81,none,.len false,[.t 80]⟩ ::
 ⟨some 82,none,.bin .lss,[.t 75,.t 81]⟩ ::
 []) [1,3,4,82])
 (.cond (.t 82)
 (.skip)
 (.exit 2)))
 (.seq (.block 3
 (.seq (.draw [] (
 (⟨some 85,none,.faddr 4,[.t 1]⟩,[]) ::
 (⟨some 86,none,.load false 1,[.t 85]⟩,[]) ::
 (⟨some 87,none,.mov,[.t 3]⟩,[]) ::
 (⟨some 88,none,.iaddrS 1,[.t 86,.t 87]⟩,[]) ::
 (⟨some 89,none,.load false 1,[.t 88]⟩,[]) ::
 (⟨some 90,none,.mov,[.t 4]⟩,[]) ::
 (⟨some 91,none,.iaddrS 1,[.t 89,.t 90]⟩,[]) ::
 (⟨some 92,none,.load false 1,[.t 91]⟩,[]) ::
 (⟨some 93,none,.faddr 1,[.t 1]⟩,[]) ::
 (⟨some 94,none,.load false 1,[.t 93]⟩,[]) ::
 (⟨some 95,none,.conv .u64,[.t 94]⟩,[]) ::
 (⟨some 96,none,.bin .shl,[.k (.d (.int .i64 1)),.t 95]⟩,[]) ::
 (⟨some 97,none,.bin .sub,[.t 96,.k (.d (.int .i64 1))]⟩,[]) ::
 (⟨some 98,none,.call 89,[.t 92,.k (.d (.int .i64 0)),.t 97]⟩,[]) ::
 (⟨some 99,none,.un .not,[.t 98]⟩,[]) ::
 (⟨some 100,none,.mov,[.t 99]⟩,[]) ::
 (⟨some 101,some (100,false),.faddr 5,[.t 1]⟩,[]) ::
 (⟨some 102,some (100,false),.load false 1,[.t 101]⟩,[]) ::
 (⟨some 103,some (100,false),.mov,[.t 3]⟩,[]) ::
 (⟨some 104,some (100,false),.iaddrS 1,[.t 102,.t 103]⟩,[]) ::
 (⟨some 105,some (100,false),.load false 1,[.t 104]⟩,[]) ::
 (⟨some 106,some (100,false),.mov,[.t 4]⟩,[]) ::
 (⟨some 107,some (100,false),.iaddrS 1,[.t 105,.t 106]⟩,[]) ::
 (⟨some 108,some (100,false),.load false 1,[.t 107]⟩,[]) ::
 (⟨some 109,some (100,false),.faddr 4,[.t 1]⟩,[]) ::
 (⟨some 110,some (100,false),.load false 1,[.t 109]⟩,[]) ::
 (⟨some 111,some (100,false),.len false,[.t 110]⟩,[]) ::
 (⟨some 112,some (100,false),.bin .sub,[.t 111,.k (.d (.int .i64 1))]⟩,[]) ::
 (⟨some 113,some (100,false),.call 89,[.t 108,.k (.d (.int .i64 0)),.t 112]⟩,[]) ::
 (⟨some 114,some (100,false),.un .not,[.t 113]⟩,[]) ::
 (⟨some 115,none,.pick,[.t 100,.k (.d (.bool true)),.t 114]⟩,[]) ::
 []) [1,3,4,115])
 (.cond (.t 115)
 (.seq (.reg [] (
 ⟨some 2,none,.mov,[.k (.d (.int .i64 40))]⟩ ::
 []) [2])
 (.ret))
 (.skip))))
 (.reg [] (
 ⟨some 83,none,.mov,[.t 4]⟩ ::
 ⟨some 84,none,.bin .add,[.t 83,.k (.d (.int .i64 1))]⟩ ::
 ⟨some 4,none,.mov,[.t 84]⟩ ::
 []) [1,3,4]))))))))
 (.reg [] (
 ⟨some 49,none,.mov,[.t 3]⟩ ::
 ⟨some 50,none,.bin .add,[.t 49,.k (.d (.int .i64 1))]⟩ ::
 ⟨some 3,none,.mov,[.t 50]⟩ ::
 []) [1,3]))))))
 (.seq (.reg [] (
 ⟨some 2,none,.mov,[.k (.d (.int .i64 0))]⟩ ::
 []) [2])
 (.ret))))
theorem Ov:Ch E0 Ll KI [.t 2] 116:=AM (fl:=[]) (by kernel_rfl)
abbrev HH:Nat:=51
def GU:PC :=
 .seq (.reg [] (
 ⟨some 1,none,.box,[.t 0]⟩ ::
 ⟨some 2,none,.mov,[.k (.d (.int .i64 0))]⟩ ::
 []) [1])
 (.seq (.seq (.reg [] (
 ⟨some 3,none,.faddr 0,[.t 1]⟩ ::
 ⟨some 4,none,.load true 2,[.t 3]⟩ ::
 ⟨some 5,none,.call 90,[.t 4]⟩ ::
 ⟨some 6,none,.bin .neq,[.t 5,.k (.d (.int .i64 0))]⟩ ::
 ⟨some 7,none,.mov,[.t 6]⟩ ::
 ⟨some 8,some (7,false),.faddr 2,[.t 1]⟩ ::
 ⟨some 9,some (7,false),.load false 1,[.t 8]⟩ ::
 ⟨some 10,some (7,false),.call 69,[.t 9,.k (.d (.int .i64 1)),.k (.d (.int .i64 8))]⟩ ::
 ⟨some 11,some (7,false),.un .not,[.t 10]⟩ ::
 ⟨some 12,none,.pick,[.t 7,.k (.d (.bool true)),.t 11]⟩ ::
 []) [12])
 (.cond (.t 12)
 (.seq (.reg [] (
 ⟨some 2,none,.mov,[.k (.d (.int .i64 50))]⟩ ::
 []) [2])
 (.ret))
 (.skip)))
 (.seq (.reg [] (
 ⟨some 2,none,.mov,[.k (.d (.int .i64 0))]⟩ ::
 []) [2])
 (.ret)))
theorem Kf:Ch E0 HH GU [.t 2] 13:=AM (fl:=[]) (by kernel_rfl)
abbrev Kx:Nat:=52
def JW:PC :=
 .seq (.reg [] (
 ⟨some 2,none,.mov,[.k (.d (.bool false))]⟩ ::
 []) [0])
 (.seq (.reg [] (
 ⟨some 3,none,.mov,[.t 0]⟩ ::
 ⟨some 4,none,.len false,[.t 3]⟩ ::
 ⟨some 5,none,.call 89,[.t 4,.k (.d (.int .i64 1)),.k (.d (.int .i64 16))]⟩ ::
 ⟨some 6,none,.mov,[.t 5]⟩ ::
 ⟨some 7,some (6,true),.mov,[.t 0]⟩ ::
 ⟨some 8,some (6,true),.call 91,[.t 7]⟩ ::
 ⟨some 9,none,.pick,[.t 6,.t 8,.k (.d (.bool false))]⟩ ::
 ⟨some 2,none,.mov,[.t 9]⟩ ::
 []) [2])
 (.ret))
theorem N6:Ch E0 Kx JW [.t 2] 10:=AM (fl:=[]) (by kernel_rfl)
abbrev Kr:Nat:=53
def JP:PC :=
 .seq (.reg [] (
 ⟨some 6,none,.mov,[.k (.d (.bool false))]⟩ ::
 []) [0,1,2])
 (.seq (.reg [] (
 ⟨some 7,none,.mov,[.t 0]⟩ ::
 ⟨some 8,none,.mov,[.t 1]⟩ ::
 ⟨some 9,none,.bin .geq,[.t 7,.t 8]⟩ ::
 ⟨some 10,none,.mov,[.t 9]⟩ ::
 ⟨some 11,some (10,true),.mov,[.t 0]⟩ ::
 ⟨some 12,some (10,true),.mov,[.t 2]⟩ ::
 ⟨some 13,some (10,true),.bin .leq,[.t 11,.t 12]⟩ ::
 ⟨some 14,none,.pick,[.t 10,.t 13,.k (.d (.bool false))]⟩ ::
 ⟨some 6,none,.mov,[.t 14]⟩ ::
 []) [6])
 (.ret))
theorem Nz:Ch E0 Kr JP [.t 6] 15:=AM (fl:=[]) (by kernel_rfl)
abbrev Kt:Nat:=54
def JR:PC :=
 .seq (.reg [] (
 ⟨some 2,none,.box,[.t 0]⟩ ::
 ⟨some 4,none,.mov,[.k (.d (.list true []))]⟩ ::
 []) [1,2])
 (.seq (.reg [] (
 ⟨some 9,none,.mov,[.t 1]⟩ ::
 ⟨some 10,none,.call 92,[.t 9]⟩ ::
 ⟨some 5,none,.mov,[.t 10]⟩ ::
 []) [2,5])
 (.seq (.reg [] (
 ⟨some 11,none,.mov,[.t 5]⟩ ::
 ⟨some 6,none,.mov,[.t 11]⟩ ::
 []) [2,5,6])
 (.seq (.seq (.reg [] (
 ⟨some 12,none,.faddr 0,[.t 2]⟩ ::
 ⟨some 13,none,.faddr 0,[.t 12]⟩ ::
 ⟨some 14,none,.load false 1,[.t 13]⟩ ::
 ⟨some 15,none,.bin .eql,[.t 14,.k (.d (.int .i64 2))]⟩ ::
 []) [2,5,6,15])
 (.cond (.t 15)
 (.draw [] (
 (⟨some 16,none,.mov,[.t 5]⟩,[]) ::
 (⟨some 17,none,.iaddrS 1,[.t 16,.k (.d (.int .i64 0))]⟩,[]) ::
 (⟨some 18,none,.load false 1,[.t 17]⟩,[]) ::
 (⟨some 19,none,.bin .mul,[.k (.d (.int .i64 2)),.t 18]⟩,[]) ::
 (⟨some 20,none,.mov,[.t 5]⟩,[]) ::
 (⟨some 21,none,.iaddrS 1,[.t 20,.k (.d (.int .i64 1))]⟩,[]) ::
 (⟨some 22,none,.load false 1,[.t 21]⟩,[]) ::
 (⟨some 23,none,.bin .add,[.t 19,.t 22]⟩,[]) ::
 (⟨some 24,none,.mov,[.t 5]⟩,[]) ::
 (⟨some 25,none,.iaddrS 1,[.t 24,.k (.d (.int .i64 2))]⟩,[]) ::
 (⟨some 26,none,.load false 1,[.t 25]⟩,[]) ::
 (⟨some 27,none,.bin .mul,[.k (.d (.int .i64 2)),.t 26]⟩,[]) ::
 (⟨some 28,none,.mov,[.t 5]⟩,[]) ::
 (⟨some 29,none,.iaddrS 1,[.t 28,.k (.d (.int .i64 3))]⟩,[]) ::
 (⟨some 30,none,.load false 1,[.t 29]⟩,[]) ::
 (⟨some 31,none,.bin .add,[.t 27,.t 30]⟩,[]) ::
 (⟨some 32,none,.mkrow 1 (.int .i64 0) 2 [0,1],[.t 23,.t 31]⟩,[]) ::
 (⟨some 6,none,.mov,[.t 32]⟩,[]) ::
 []) [2,6])
 (.skip)))
 (.seq (.reg [] (
 ⟨some 34,none,.faddr 0,[.t 2]⟩ ::
 ⟨some 35,none,.load true 6,[.t 34]⟩ ::
 ⟨some 36,none,.mov,[.t 6]⟩ ::
 ⟨some 37,none,.call 93,[.t 35,.k (.d (.int .i64 0)),.t 36]⟩ ::
 ⟨some 33,none,.mov,[.t 37]⟩ ::
 ⟨some 38,none,.extract 0,[.t 33]⟩ ::
 ⟨some 39,none,.extract 1,[.t 33]⟩ ::
 ⟨some 7,none,.mov,[.t 38]⟩ ::
 ⟨some 8,none,.mov,[.t 39]⟩ ::
 []) [7])
 (.seq (.reg [] (
 ⟨some 40,none,.mov,[.t 7]⟩ ::
 ⟨some 4,none,.mov,[.t 40]⟩ ::
 []) [4])
 (.ret))))))
theorem N1:Ch E0 Kt JR [.t 4] 41:=AM (fl:=[]) (by kernel_rfl)
abbrev Fg:Nat:=55
def FB:PC :=
 .seq (.reg [] (
 ⟨some 2,none,.mov,[.k (.d (.int .i64 0))]⟩ ::
 []) [0])
 (.seq (.reg [] (
 ⟨some 3,none,.mov,[.t 0]⟩ ::
 ⟨some 4,none,.call 64,[.t 3]⟩ ::
 ⟨some 5,none,.mov,[.t 0]⟩ ::
 ⟨some 6,none,.call 61,[.t 5]⟩ ::
 ⟨some 7,none,.bin .mul,[.t 4,.t 6]⟩ ::
 ⟨some 2,none,.mov,[.t 7]⟩ ::
 []) [2])
 (.ret))
theorem H1:Ch E0 Fg FB [.t 2] 8:=AM (fl:=[]) (by kernel_rfl)
abbrev eK:Nat:=56
abbrev eH:Nat:=57
abbrev aG:Nat:=58
abbrev im:Nat:=59
abbrev eL:Nat:=60
abbrev Fe:Nat:=61
def E':PC :=
 .seq (.reg [] (
 ⟨some 2,none,.mov,[.k (.d (.int .i64 0))]⟩ ::
 []) [0])
 (.seq (.reg [] (
 ⟨some 3,none,.mov,[.t 0]⟩ ::
 ⟨some 4,none,.nilck,[.t 3]⟩ ::
 ⟨some 5,none,.faddr 12,[.t 4]⟩ ::
 ⟨some 6,none,.iaddrA 16 1,[.t 5,.k (.d (.int .i64 0))]⟩ ::
 ⟨some 7,none,.load false 1,[.t 6]⟩ ::
 ⟨some 8,none,.len false,[.t 7]⟩ ::
 ⟨some 2,none,.mov,[.t 8]⟩ ::
 []) [2])
 (.ret))
theorem Hz:Ch E0 Fe E' [.t 2] 9:=AM (fl:=[]) (by kernel_rfl)
abbrev HL:Nat:=62
def GZ:PC :=
 .seq (.reg [] (
 ⟨some 4,none,.mov,[.k (.d (.int .i64 0))]⟩ ::
 []) [0,1,4])
 (.seq (.seq (.reg [] (
 ⟨some 6,none,.mov,[.t 0]⟩ ::
 ⟨some 7,none,.len false,[.t 6]⟩ ::
 ⟨some 8,none,.mov,[.k (.d (.int .i64 0))]⟩ ::
 []) [0,1,4,7,8])
 (.block 0
 (.loop [] [0,1,4,7,8] [900000,900001,901000,901001]
 (.seq (.reg [] (
 ⟨some 9,none,.bin .lss,[.t 8,.t 7]⟩ ::
 []) [0,1,4,7,8,9])
 (.seq (.cond (.t 9)
 (.skip)
 (.exit 0))
 (.seq (.block 1
 (.seq (.reg [] (
 ⟨some 10,none,.mov,[.t 8]⟩ ::
 ⟨some 5,none,.mov,[.t 10]⟩ ::
 []) [0,1,4,5,7,8])
 (.draw [] (
 (⟨some 11,none,.mov,[.t 4]⟩,[]) ::
 (⟨some 12,none,.mov,[.t 0]⟩,[]) ::
 (⟨some 13,none,.mov,[.t 5]⟩,[]) ::
 (⟨some 14,none,.iaddrS 1,[.t 12,.t 13]⟩,[]) ::
 (⟨some 15,none,.load false 1,[.t 14]⟩,[]) ::
 (⟨some 16,none,.mov,[.t 1]⟩,[]) ::
 (⟨some 17,none,.mov,[.t 5]⟩,[]) ::
 (⟨some 18,none,.iaddrS 1,[.t 16,.t 17]⟩,[]) ::
 (⟨some 19,none,.load false 1,[.t 18]⟩,[]) ::
 (⟨some 20,none,.bin .xor,[.t 15,.t 19]⟩,[]) ::
 (⟨some 21,none,.bin .add,[.t 11,.t 20]⟩,[]) ::
 (⟨some 4,none,.mov,[.t 21]⟩,[]) ::
 []) [0,1,4,7,8])))
 (.reg [] (
 ⟨some 22,none,.bin .add,[.t 8,.k (.d (.int .i64 1))]⟩ ::
 ⟨some 8,none,.mov,[.t 22]⟩ ::
 []) [0,1,4,7,8])))))))
 (.seq (.reg [] (
 ⟨some 23,none,.mov,[.t 4]⟩ ::
 ⟨some 4,none,.mov,[.t 23]⟩ ::
 []) [4])
 (.ret)))
theorem Kk:Ch E0 HL GZ [.t 4] 24:=AM (fl:=[]) (by kernel_rfl)
abbrev FF:Nat:=63
def Eo:PC :=
 .seq (.reg [] (
 ⟨some 4,none,.mov,[.k (.d (.int .i64 0))]⟩ ::
 []) [0,1,4])
 (.seq (.draw [] (
 (⟨some 12,none,.mov,[.t 0]⟩,[]) ::
 (⟨some 13,none,.nilck,[.t 12]⟩,[]) ::
 (⟨some 14,none,.faddr 0,[.t 13]⟩,[]) ::
 (⟨some 15,none,.faddr 9,[.t 14]⟩,[]) ::
 (⟨some 16,none,.load false 1,[.t 15]⟩,[]) ::
 (⟨some 17,none,.len false,[.t 16]⟩,[]) ::
 (⟨some 18,none,.mov,[.t 0]⟩,[]) ::
 (⟨some 19,none,.call 55,[.t 18]⟩,[4,5]) ::
 (⟨some 20,none,.bin .add,[.t 17,.t 19]⟩,[]) ::
 (⟨some 5,none,.mov,[.t 20]⟩,[]) ::
 []) [0,1,4,5])
 (.seq (.seq (.reg [] (
 ⟨some 21,none,.mov,[.t 0]⟩ ::
 ⟨some 22,none,.nilck,[.t 21]⟩ ::
 ⟨some 23,none,.faddr 0,[.t 22]⟩ ::
 ⟨some 24,none,.faddr 9,[.t 23]⟩ ::
 ⟨some 25,none,.load false 1,[.t 24]⟩ ::
 ⟨some 6,none,.mov,[.t 25]⟩ ::
 []) [0,1,4,5,6])
 (.block 0
 (.loop [] [0,1,4,5,6] [900000,900001,901000,901001]
 (.seq (.seq (.reg [] (
 ⟨some 26,none,.mov,[.t 6]⟩ ::
 ⟨some 27,none,.len false,[.t 26]⟩ ::
 ⟨some 28,none,.bin .gtr,[.t 27,.k (.d (.int .i64 0))]⟩ ::
 []) [0,1,4,5,6,28])
 (.cond (.t 28)
 (.skip)
 (.exit 0)))
 (.block 1
 (.seq (.reg [] (
 ⟨some 29,none,.mov,[.t 1]⟩ ::
 ⟨some 30,none,.mov,[.t 5]⟩ ::
 ⟨some 31,none,.bin .rem,[.t 29,.t 30]⟩ ::
 ⟨some 7,none,.mov,[.t 31]⟩ ::
 []) [0,1,4,5,6,7])
 (.seq (.reg [] (
 ⟨some 32,none,.mov,[.t 6]⟩ ::
 ⟨some 33,none,.len false,[.t 32]⟩ ::
 ⟨some 34,none,.mov,[.t 0]⟩ ::
 ⟨some 35,none,.nilck,[.t 34]⟩ ::
 ⟨some 36,none,.faddr 0,[.t 35]⟩ ::
 ⟨some 37,none,.faddr 9,[.t 36]⟩ ::
 ⟨some 38,none,.load false 1,[.t 37]⟩ ::
 ⟨some 39,none,.len false,[.t 38]⟩ ::
 ⟨some 40,none,.mov,[.t 7]⟩ ::
 ⟨some 41,none,.bin .sub,[.t 39,.t 40]⟩ ::
 ⟨some 42,none,.minmax false,[.t 33,.t 41]⟩ ::
 ⟨some 8,none,.mov,[.t 42]⟩ ::
 []) [0,1,4,5,6,7,8])
 (.seq (.seq (.reg [] (
 ⟨some 43,none,.mov,[.t 7]⟩ ::
 ⟨some 44,none,.mov,[.t 0]⟩ ::
 ⟨some 45,none,.nilck,[.t 44]⟩ ::
 ⟨some 46,none,.faddr 0,[.t 45]⟩ ::
 ⟨some 47,none,.faddr 9,[.t 46]⟩ ::
 ⟨some 48,none,.load false 1,[.t 47]⟩ ::
 ⟨some 49,none,.len false,[.t 48]⟩ ::
 ⟨some 50,none,.bin .lss,[.t 43,.t 49]⟩ ::
 []) [0,1,4,5,6,7,8,50])
 (.cond (.t 50)
 (.draw [] (
 (⟨some 51,none,.mov,[.t 4]⟩,[]) ::
 (⟨some 52,none,.mov,[.t 6]⟩,[]) ::
 (⟨some 53,none,.mov,[.t 8]⟩,[]) ::
 (⟨some 54,none,.slice 1 false true false,[.t 52,.t 53]⟩,[]) ::
 (⟨some 55,none,.mov,[.t 0]⟩,[]) ::
 (⟨some 56,none,.nilck,[.t 55]⟩,[]) ::
 (⟨some 57,none,.faddr 0,[.t 56]⟩,[]) ::
 (⟨some 58,none,.faddr 9,[.t 57]⟩,[]) ::
 (⟨some 59,none,.load false 1,[.t 58]⟩,[3]) ::
 (⟨some 60,none,.mov,[.t 7]⟩,[]) ::
 (⟨some 61,none,.slice 1 true false false,[.t 59,.t 60]⟩,[3]) ::
 (⟨some 62,none,.call 62,[.t 54,.t 61]⟩,[]) ::
 (⟨some 63,none,.bin .add,[.t 51,.t 62]⟩,[]) ::
 (⟨some 4,none,.mov,[.t 63]⟩,[]) ::
 []) [0,1,4,5,6,8])
 (.seq (.draw [] (
 (⟨some 64,none,.mov,[.t 7]⟩,[]) ::
 (⟨some 65,none,.mov,[.t 0]⟩,[]) ::
 (⟨some 66,none,.nilck,[.t 65]⟩,[]) ::
 (⟨some 67,none,.faddr 0,[.t 66]⟩,[]) ::
 (⟨some 68,none,.faddr 9,[.t 67]⟩,[]) ::
 (⟨some 69,none,.load false 1,[.t 68]⟩,[]) ::
 (⟨some 70,none,.len false,[.t 69]⟩,[]) ::
 (⟨some 71,none,.bin .sub,[.t 64,.t 70]⟩,[]) ::
 (⟨some 72,none,.mov,[.t 0]⟩,[]) ::
 (⟨some 73,none,.call 61,[.t 72]⟩,[5,6]) ::
 (⟨some 74,none,.bin .rem,[.t 71,.t 73]⟩,[]) ::
 (⟨some 7,none,.mov,[.t 74]⟩,[]) ::
 []) [0,1,4,5,6,7])
 (.seq (.reg [] (
 ⟨some 75,none,.mov,[.t 6]⟩ ::
 ⟨some 76,none,.len false,[.t 75]⟩ ::
 ⟨some 77,none,.mov,[.t 0]⟩ ::
 ⟨some 78,none,.call 61,[.t 77]⟩ ::
 ⟨some 79,none,.mov,[.t 7]⟩ ::
 ⟨some 80,none,.bin .sub,[.t 78,.t 79]⟩ ::
 ⟨some 81,none,.minmax false,[.t 76,.t 80]⟩ ::
 ⟨some 8,none,.mov,[.t 81]⟩ ::
 []) [0,1,4,5,6,7,8])
 (.seq (.reg [] (
 ⟨some 82,none,.mov,[.t 8]⟩ ::
 ⟨some 9,none,.mov,[.t 82]⟩ ::
 []) [0,1,4,5,6,7,8,9])
 (.seq (.seq (.reg [] (
 ⟨some 83,none,.mov,[.t 0]⟩ ::
 ⟨some 84,none,.nilck,[.t 83]⟩ ::
 ⟨some 85,none,.faddr 12,[.t 84]⟩ ::
 ⟨some 86,none,.load true 16,[.t 85]⟩ ::
 ⟨some 87,none,.mov,[.k (.d (.int .i64 0))]⟩ ::
 []) [0,1,4,5,6,7,8,9,86,87])
 (.block 2
 (.loop [] [0,1,4,5,6,7,8,9,86,87] [900000,900001,901000,901001]
 (.seq (.reg [] (
 ⟨some 88,none,.bin .lss,[.t 87,.k (.d (.int .i64 16))]⟩ ::
 []) [0,1,4,5,6,7,8,9,86,87,88])
 (.seq (.cond (.t 88)
 (.skip)
 (.exit 2))
 (.seq (.block 3
 (.seq (.reg [] (
 ⟨some 89,none,.index 16 1 false,[.t 86,.t 87]⟩ ::
 ⟨some 11,none,.mov,[.t 89]⟩ ::
 []) [0,1,4,5,6,7,8,9,11,86,87])
 (.draw [] (
 (⟨some 90,none,.mov,[.t 9]⟩,[]) ::
 (⟨some 91,none,.mov,[.t 6]⟩,[]) ::
 (⟨some 92,none,.mov,[.t 8]⟩,[]) ::
 (⟨some 93,none,.slice 1 false true false,[.t 91,.t 92]⟩,[]) ::
 (⟨some 94,none,.mov,[.t 11]⟩,[]) ::
 (⟨some 95,none,.mov,[.t 7]⟩,[]) ::
 (⟨some 96,none,.slice 1 true false false,[.t 94,.t 95]⟩,[3]) ::
 (⟨some 97,none,.call 62,[.t 93,.t 96]⟩,[]) ::
 (⟨some 98,none,.minmax false,[.t 90,.t 97]⟩,[]) ::
 (⟨some 9,none,.mov,[.t 98]⟩,[]) ::
 []) [0,1,4,5,6,7,8,9,86,87])))
 (.reg [] (
 ⟨some 99,none,.bin .add,[.t 87,.k (.d (.int .i64 1))]⟩ ::
 ⟨some 87,none,.mov,[.t 99]⟩ ::
 []) [0,1,4,5,6,7,8,9,86,87])))))))
 (.reg [] (
 ⟨some 100,none,.mov,[.t 4]⟩ ::
 ⟨some 101,none,.mov,[.t 9]⟩ ::
 ⟨some 102,none,.bin .add,[.t 100,.t 101]⟩ ::
 ⟨some 4,none,.mov,[.t 102]⟩ ::
 []) [0,1,4,5,6,8])))))))
 (.draw [] (
 (⟨some 103,none,.mov,[.t 1]⟩,[]) ::
 (⟨some 104,none,.mov,[.t 8]⟩,[]) ::
 (⟨some 105,none,.bin .add,[.t 103,.t 104]⟩,[]) ::
 (⟨some 106,none,.mov,[.t 6]⟩,[]) ::
 (⟨some 107,none,.mov,[.t 8]⟩,[]) ::
 (⟨some 108,none,.slice 1 true false false,[.t 106,.t 107]⟩,[]) ::
 (⟨some 1,none,.mov,[.t 105]⟩,[]) ::
 (⟨some 6,none,.mov,[.t 108]⟩,[]) ::
 []) [0,1,4,5,6])))))))))
 (.seq (.reg [] (
 ⟨some 109,none,.mov,[.t 4]⟩ ::
 ⟨some 4,none,.mov,[.t 109]⟩ ::
 []) [4])
 (.ret))))
theorem HS:Ch E0 FF Eo [.t 4] 110:=AM (fl:=[]) (by kernel_rfl)
abbrev Ef:Nat:=64
def EP:PC :=
 .seq (.reg [] (
 ⟨some 2,none,.mov,[.k (.d (.int .i64 0))]⟩ ::
 []) [0])
 (.seq (.draw [] (
 (⟨some 3,none,.mov,[.t 0]⟩,[]) ::
 (⟨some 4,none,.nilck,[.t 3]⟩,[]) ::
 (⟨some 5,none,.faddr 0,[.t 4]⟩,[]) ::
 (⟨some 6,none,.faddr 6,[.t 5]⟩,[]) ::
 (⟨some 7,none,.faddr 2,[.t 6]⟩,[]) ::
 (⟨some 8,none,.load false 1,[.t 7]⟩,[]) ::
 (⟨some 9,none,.mov,[.t 0]⟩,[]) ::
 (⟨some 10,none,.nilck,[.t 9]⟩,[]) ::
 (⟨some 11,none,.faddr 0,[.t 10]⟩,[]) ::
 (⟨some 12,none,.faddr 6,[.t 11]⟩,[]) ::
 (⟨some 13,none,.faddr 0,[.t 12]⟩,[]) ::
 (⟨some 14,none,.faddr 0,[.t 13]⟩,[]) ::
 (⟨some 15,none,.load false 1,[.t 14]⟩,[]) ::
 (⟨some 16,none,.bin .mul,[.t 8,.t 15]⟩,[]) ::
 (⟨some 2,none,.mov,[.t 16]⟩,[]) ::
 []) [2])
 (.ret))
theorem Gh:Ch E0 Ef EP [.t 2] 17:=AM (fl:=[]) (by kernel_rfl)
abbrev MP:Nat:=65
abbrev aB:Nat:=66
abbrev TL:Nat:=67
abbrev kx:Nat:=68
abbrev HG:Nat:=69
def JS:PC :=
 .seq (.reg [] (
 ⟨some 6,none,.mov,[.k (.d (.bool false))]⟩ ::
 []) [0,1,2])
 (.seq (.reg [] (
 ⟨some 7,none,.mov,[.t 0]⟩ ::
 ⟨some 8,none,.mov,[.t 1]⟩ ::
 ⟨some 9,none,.bin .geq,[.t 7,.t 8]⟩ ::
 ⟨some 10,none,.mov,[.t 9]⟩ ::
 ⟨some 11,some (10,true),.mov,[.t 0]⟩ ::
 ⟨some 12,some (10,true),.mov,[.t 2]⟩ ::
 ⟨some 13,some (10,true),.bin .leq,[.t 11,.t 12]⟩ ::
 ⟨some 14,none,.pick,[.t 10,.t 13,.k (.d (.bool false))]⟩ ::
 ⟨some 6,none,.mov,[.t 14]⟩ ::
 []) [6])
 (.ret))
theorem N2:Ch E0 HG JS [.t 6] 15:=AM (fl:=[]) (by kernel_rfl)
abbrev Jl:Nat:=70
def IJ:PC :=
 .seq (.reg [] (
 ⟨some 0,none,.zero [.int .i64 0,.int .i64 0,.int .i64 0,.int .i64 0,.list true [],.list true []],[]⟩ ::
 []) [0])
 (.seq (.reg [] (
 ⟨some 1,none,.mkrow 1 (.int .i64 0) 2 [0,1],[.k (.d (.int .i64 2)),.k (.d (.int .i64 1))]⟩ ::
 ⟨some 2,none,.mkrow 1 (.int .i64 0) 2 [0,1],[.k (.d (.int .i64 0)),.k (.d (.int .i64 1))]⟩ ::
 ⟨some 3,none,.mkrow 1 (.list true []) 2 [0,1],[.t 1,.t 2]⟩ ::
 ⟨some 4,none,.mkrow 1 (.int .i64 0) 2 [0,1],[.k (.d (.int .i64 0)),.k (.d (.int .i64 1))]⟩ ::
 ⟨some 5,none,.mkrow 1 (.int .i64 0) 2 [0,1],[.k (.d (.int .i64 0)),.k (.d (.int .i64 1))]⟩ ::
 ⟨some 6,none,.mkrow 1 (.list true []) 2 [0,1],[.t 4,.t 5]⟩ ::
 ⟨some 7,none,.build [.int .i64 0,.int .i64 0,.int .i64 0,.int .i64 0,.list true [],.list true []] [(0,1),(1,1),(2,1),(3,1),(4,1),(5,1)],[.k (.d (.int .i64 1)),.k (.d (.int .i64 2)),.k (.d (.int .i64 1)),.k (.d (.int .i64 3)),.t 3,.t 6]⟩ ::
 ⟨none,none,.store 6,[.t 0,.t 7]⟩ ::
 []) [0])
 (.ret))
theorem M8:Ch E0 Jl IJ [.c 0 24 true 6] 8:=AM (fl:=[]) (by kernel_rfl)
abbrev Jo:Nat:=71
def IP:PC :=
 .seq (.reg [] (
 ⟨some 1,none,.box,[.t 0]⟩ ::
 ⟨some 2,none,.mov,[.k (.d (.int .i64 0))]⟩ ::
 ⟨some 3,none,.mov,[.k (.d (.int .i64 0))]⟩ ::
 ⟨some 4,none,.mov,[.k (.d (.int .i64 0))]⟩ ::
 []) [1])
 (.seq (.reg [] (
 ⟨some 7,none,.load true 3,[.t 1]⟩ ::
 ⟨some 8,none,.call 78,[.t 7,.k (.d (.list true [])),.k (.fn 102 [])]⟩ ::
 ⟨some 6,none,.mov,[.t 8]⟩ ::
 ⟨some 9,none,.extract 0,[.t 6]⟩ ::
 ⟨some 10,none,.extract 1,[.t 6]⟩ ::
 ⟨some 5,none,.zero [.int .i64 0,.int .i64 0,.int .i64 0],[]⟩ ::
 ⟨none,none,.store 3,[.t 5,.t 9]⟩ ::
 ⟨some 4,none,.mov,[.t 10]⟩ ::
 []) [4,5])
 (.seq (.seq (.reg [] (
 ⟨some 11,none,.mov,[.t 4]⟩ ::
 ⟨some 12,none,.bin .neq,[.t 11,.k (.d (.int .i64 0))]⟩ ::
 []) [4,5,12])
 (.cond (.t 12)
 (.seq (.reg [] (
 ⟨some 13,none,.mov,[.t 4]⟩ ::
 ⟨some 2,none,.mov,[.k (.d (.int .i64 0))]⟩ ::
 ⟨some 3,none,.mov,[.k (.d (.int .i64 0))]⟩ ::
 ⟨some 4,none,.mov,[.t 13]⟩ ::
 []) [2,3,4])
 (.ret))
 (.skip)))
 (.seq (.draw [] (
 (⟨some 14,none,.faddr 2,[.t 5]⟩,[]) ::
 (⟨some 15,none,.load false 1,[.t 14]⟩,[]) ::
 (⟨some 16,none,.faddr 0,[.t 5]⟩,[]) ::
 (⟨some 17,none,.faddr 0,[.t 16]⟩,[]) ::
 (⟨some 18,none,.faddr 1,[.t 17]⟩,[]) ::
 (⟨some 19,none,.load false 1,[.t 18]⟩,[]) ::
 (⟨some 20,none,.bin .quo,[.t 19,.k (.d (.int .i64 2))]⟩,[]) ::
 (⟨some 21,none,.bin .mul,[.t 15,.t 20]⟩,[]) ::
 (⟨some 22,none,.faddr 2,[.t 5]⟩,[]) ::
 (⟨some 23,none,.load false 1,[.t 22]⟩,[]) ::
 (⟨some 24,none,.faddr 0,[.t 5]⟩,[]) ::
 (⟨some 25,none,.faddr 0,[.t 24]⟩,[]) ::
 (⟨some 26,none,.faddr 1,[.t 25]⟩,[]) ::
 (⟨some 27,none,.load false 1,[.t 26]⟩,[]) ::
 (⟨some 28,none,.bin .mul,[.t 23,.t 27]⟩,[]) ::
 (⟨some 2,none,.mov,[.t 21]⟩,[]) ::
 (⟨some 3,none,.mov,[.t 28]⟩,[]) ::
 (⟨some 4,none,.mov,[.k (.d (.int .i64 0))]⟩,[]) ::
 []) [2,3,4])
 (.ret))))
theorem NB:Ch E0 Jo IP [.t 2,.t 3,.t 4] 29:=AM (fl:=[]) (by kernel_rfl)
abbrev Nc:Nat:=72
def La:PC :=
 .seq (.reg [] (
 ⟨some 6,none,.mov,[.k (.d (.list true []))]⟩ ::
 ⟨some 7,none,.mov,[.k (.d (.int .i64 0))]⟩ ::
 []) [0,1,2])
 (.seq (.seq (.reg [] (
 ⟨some 10,none,.mov,[.t 0]⟩ ::
 ⟨some 11,none,.call 103,[.t 10]⟩ ::
 ⟨some 12,none,.un .not,[.t 11]⟩ ::
 ⟨some 13,none,.mov,[.t 12]⟩ ::
 ⟨some 14,some (13,false),.mov,[.t 1]⟩ ::
 ⟨some 15,some (13,false),.len false,[.t 14]⟩ ::
 ⟨some 16,some (13,false),.bin .gtr,[.t 15,.k (.d (.int .i64 128))]⟩ ::
 ⟨some 17,none,.pick,[.t 13,.k (.d (.bool true)),.t 16]⟩ ::
 ⟨some 18,none,.mov,[.t 17]⟩ ::
 ⟨some 19,some (18,false),.mov,[.t 1]⟩ ::
 ⟨some 20,some (18,false),.call 104,[.t 19]⟩ ::
 ⟨some 21,some (18,false),.un .not,[.t 20]⟩ ::
 ⟨some 22,none,.pick,[.t 18,.k (.d (.bool true)),.t 21]⟩ ::
 ⟨some 23,none,.mov,[.t 22]⟩ ::
 ⟨some 24,some (23,false),.mov,[.t 2]⟩ ::
 ⟨some 25,some (23,false),.call 105,[.t 24,.k (.d (.int .i64 0)),.k (.d (.int .i64 16))]⟩ ::
 ⟨some 26,some (23,false),.un .not,[.t 25]⟩ ::
 ⟨some 27,none,.pick,[.t 23,.k (.d (.bool true)),.t 26]⟩ ::
 []) [0,1,2,27])
 (.cond (.t 27)
 (.seq (.reg [] (
 ⟨some 6,none,.mov,[.k (.d (.list true []))]⟩ ::
 ⟨some 7,none,.mov,[.k (.d (.int .i64 1))]⟩ ::
 []) [6,7])
 (.ret))
 (.skip)))
 (.seq (.reg [] (
 ⟨some 8,none,.mov,[.k (.d (.list true []))]⟩ ::
 []) [0,1,2,8])
 (.seq (.seq (.reg [] (
 ⟨some 28,none,.mov,[.t 1]⟩ ::
 ⟨some 29,none,.len false,[.t 28]⟩ ::
 ⟨some 30,none,.mov,[.t 0]⟩ ::
 ⟨some 31,none,.len false,[.t 30]⟩ ::
 ⟨some 32,none,.bin .sub,[.t 29,.t 31]⟩ ::
 ⟨some 33,none,.bin .add,[.t 32,.k (.d (.int .i64 1))]⟩ ::
 ⟨some 34,none,.minmax true,[.k (.d (.int .i64 0)),.t 33]⟩ ::
 ⟨some 35,none,.mov,[.k (.d (.int .i64 0))]⟩ ::
 []) [0,1,2,8,34,35])
 (.block 0
 (.loop [.own 8 48 3 1] [0,1,2,8,34,35] [48,900000,900001,900002,901000,901001,901002]
 (.seq (.reg [] (
 ⟨some 36,none,.bin .lss,[.t 35,.t 34]⟩ ::
 []) [0,1,2,8,34,35,36])
 (.seq (.cond (.t 36)
 (.skip)
 (.exit 0))
 (.seq (.block 1
 (.seq (.reg [] (
 ⟨some 37,none,.mov,[.t 35]⟩ ::
 ⟨some 9,none,.mov,[.t 37]⟩ ::
 []) [0,1,2,8,9,34,35])
 (.seq (.reg [] (
 ⟨some 38,none,.mov,[.t 0]⟩ ::
 ⟨some 39,none,.mov,[.t 1]⟩ ::
 ⟨some 40,none,.mov,[.t 9]⟩ ::
 ⟨some 41,none,.slice 1 true false false,[.t 39,.t 40]⟩ ::
 ⟨some 42,none,.call 106,[.t 38,.t 41]⟩ ::
 ⟨some 43,none,.mov,[.t 2]⟩ ::
 ⟨some 44,none,.bin .leq,[.t 42,.t 43]⟩ ::
 []) [0,1,2,8,9,34,35,44])
 (.cond (.t 44)
 (.reg [] (
 ⟨some 45,none,.mov,[.t 8]⟩ ::
 ⟨some 46,none,.mov,[.t 9]⟩ ::
 ⟨some 47,none,.mkrow 1 (.int .i64 0) 1 [0],[.t 46]⟩ ::
 ⟨some 48,none,.app 3 1 none true,[.t 45,.t 47]⟩ ::
 ⟨some 8,none,.mov,[.t 48]⟩ ::
 []) [0,1,2,8,34,35])
 (.skip)))))
 (.reg [] (
 ⟨some 49,none,.bin .add,[.t 35,.k (.d (.int .i64 1))]⟩ ::
 ⟨some 35,none,.mov,[.t 49]⟩ ::
 []) [0,1,2,8,34,35])))))))
 (.seq (.reg [] (
 ⟨some 50,none,.mov,[.t 8]⟩ ::
 ⟨some 6,none,.mov,[.t 50]⟩ ::
 ⟨some 7,none,.mov,[.k (.d (.int .i64 0))]⟩ ::
 []) [6,7])
 (.ret)))))
theorem QF:Ch E0 Nc La [.t 6,.t 7] 51:=AM (fl:=[]) (by kernel_rfl)
abbrev It:Nat:=73
def Hd:PC :=
 .seq (.reg [] (
 ⟨some 4,none,.mov,[.k (.d (.list true []))]⟩ ::
 ⟨some 5,none,.mov,[.k (.d (.int .i64 0))]⟩ ::
 []) [0,1])
 (.seq (.seq (.reg [] (
 ⟨some 10,none,.mov,[.t 0]⟩ ::
 ⟨some 11,none,.call 105,[.t 10,.k (.d (.int .i64 1)),.k (.d (.int .i64 127))]⟩ ::
 ⟨some 12,none,.un .not,[.t 11]⟩ ::
 ⟨some 13,none,.mov,[.t 12]⟩ ::
 ⟨some 14,some (13,false),.mov,[.t 1]⟩ ::
 ⟨some 15,some (13,false),.len false,[.t 14]⟩ ::
 ⟨some 16,some (13,false),.bin .gtr,[.t 15,.k (.d (.int .i64 128))]⟩ ::
 ⟨some 17,none,.pick,[.t 13,.k (.d (.bool true)),.t 16]⟩ ::
 ⟨some 18,none,.mov,[.t 17]⟩ ::
 ⟨some 19,some (18,false),.mov,[.t 1]⟩ ::
 ⟨some 20,some (18,false),.call 104,[.t 19]⟩ ::
 ⟨some 21,some (18,false),.un .not,[.t 20]⟩ ::
 ⟨some 22,none,.pick,[.t 18,.k (.d (.bool true)),.t 21]⟩ ::
 []) [0,1,22])
 (.cond (.t 22)
 (.seq (.reg [] (
 ⟨some 4,none,.mov,[.k (.d (.list true []))]⟩ ::
 ⟨some 5,none,.mov,[.k (.d (.int .i64 1))]⟩ ::
 []) [4,5])
 (.ret))
 (.skip)))
 (.seq (.reg [] (
 ⟨some 6,none,.mov,[.k (.d (.list true []))]⟩ ::
 []) [0,1,6])
 (.seq (.seq (.reg [] (
 ⟨some 23,none,.mov,[.t 1]⟩ ::
 ⟨some 24,none,.len false,[.t 23]⟩ ::
 ⟨some 25,none,.mov,[.k (.d (.int .i64 0))]⟩ ::
 []) [0,6,23,24,25])
 (.block 0
 (.loop [.own 6 37 3 1] [0,6,23,24,25] [37,900000,900001,901000,901001]
 (.seq (.reg [] (
 ⟨some 26,none,.bin .lss,[.t 25,.t 24]⟩ ::
 []) [0,6,23,24,25,26])
 (.seq (.cond (.t 26)
 (.skip)
 (.exit 0))
 (.seq (.block 1
 (.seq (.reg [] (
 ⟨some 27,none,.iaddrS 1,[.t 23,.t 25]⟩ ::
 ⟨some 28,none,.load false 1,[.t 27]⟩ ::
 ⟨some 8,none,.mov,[.t 28]⟩ ::
 []) [0,6,8,23,24,25])
 (.seq (.reg [] (
 ⟨some 29,none,.mov,[.t 0]⟩ ::
 ⟨some 30,none,.bin .shr,[.t 29,.k (.d (.int .u64 6))]⟩ ::
 ⟨some 31,none,.bin .and,[.t 30,.k (.d (.int .i64 1))]⟩ ::
 ⟨some 9,none,.mov,[.t 31]⟩ ::
 []) [0,6,8,9,23,24,25])
 (.seq (.reg [] (
 ⟨some 32,none,.mov,[.t 6]⟩ ::
 ⟨some 33,none,.mov,[.t 8]⟩ ::
 ⟨some 34,none,.mov,[.t 9]⟩ ::
 ⟨some 35,none,.bin .xor,[.t 33,.t 34]⟩ ::
 ⟨some 36,none,.mkrow 1 (.int .i64 0) 1 [0],[.t 35]⟩ ::
 ⟨some 37,none,.app 3 1 none true,[.t 32,.t 36]⟩ ::
 ⟨some 6,none,.mov,[.t 37]⟩ ::
 []) [0,6,9,23,24,25])
 (.reg [] (
 ⟨some 38,none,.mov,[.t 0]⟩ ::
 ⟨some 39,none,.bin .shl,[.t 38,.k (.d (.int .u64 1))]⟩ ::
 ⟨some 40,none,.bin .and,[.t 39,.k (.d (.int .i64 127))]⟩ ::
 ⟨some 41,none,.mov,[.t 9]⟩ ::
 ⟨some 42,none,.mov,[.t 0]⟩ ::
 ⟨some 43,none,.bin .shr,[.t 42,.k (.d (.int .u64 5))]⟩ ::
 ⟨some 44,none,.bin .and,[.t 43,.k (.d (.int .i64 1))]⟩ ::
 ⟨some 45,none,.bin .xor,[.t 41,.t 44]⟩ ::
 ⟨some 46,none,.bin .or,[.t 40,.t 45]⟩ ::
 ⟨some 0,none,.mov,[.t 46]⟩ ::
 []) [0,6,23,24,25])))))
 (.reg [] (
 ⟨some 47,none,.bin .add,[.t 25,.k (.d (.int .i64 1))]⟩ ::
 ⟨some 25,none,.mov,[.t 47]⟩ ::
 []) [0,6,23,24,25])))))))
 (.seq (.reg [] (
 ⟨some 48,none,.mov,[.t 6]⟩ ::
 ⟨some 4,none,.mov,[.t 48]⟩ ::
 ⟨some 5,none,.mov,[.k (.d (.int .i64 0))]⟩ ::
 []) [4,5])
 (.ret)))))
theorem L9:Ch E0 It Hd [.t 4,.t 5] 49:=AM (fl:=[]) (by kernel_rfl)
abbrev Lp:Nat:=74
def KN:PC :=
 .seq (.reg [] (
 ⟨some 1,none,.box,[.t 0]⟩ ::
 ⟨some 2,none,.mov,[.k (.d (.int .i64 0))]⟩ ::
 []) [1])
 (.seq (.reg [] (
 ⟨some 8,none,.load true 6,[.t 1]⟩ ::
 ⟨some 9,none,.build [.int .i64 0,.int .i64 0,.int .i64 0,.int .i64 0,.list true [],.list true []] [(0,6)],[.t 8]⟩ ::
 ⟨some 3,none,.zero [.int .i64 0,.int .i64 0,.int .i64 0,.int .i64 0,.list true [],.list true []],[]⟩ ::
 ⟨none,none,.store 6,[.t 3,.t 9]⟩ ::
 []) [3])
 (.seq (.seq (.reg [] (
 ⟨some 10,none,.faddr 0,[.t 3]⟩ ::
 ⟨some 11,none,.faddr 0,[.t 10]⟩ ::
 ⟨some 12,none,.load false 1,[.t 11]⟩ ::
 ⟨some 13,none,.call 105,[.t 12,.k (.d (.int .i64 1)),.k (.d (.int .i64 2))]⟩ ::
 ⟨some 14,none,.un .not,[.t 13]⟩ ::
 ⟨some 15,none,.mov,[.t 14]⟩ ::
 ⟨some 16,some (15,false),.faddr 0,[.t 3]⟩ ::
 ⟨some 17,some (15,false),.faddr 1,[.t 16]⟩ ::
 ⟨some 18,some (15,false),.load false 1,[.t 17]⟩ ::
 ⟨some 19,some (15,false),.call 105,[.t 18,.k (.d (.int .i64 1)),.k (.d (.int .i64 5))]⟩ ::
 ⟨some 20,some (15,false),.un .not,[.t 19]⟩ ::
 ⟨some 21,none,.pick,[.t 15,.k (.d (.bool true)),.t 20]⟩ ::
 ⟨some 22,none,.mov,[.t 21]⟩ ::
 ⟨some 23,some (22,false),.faddr 0,[.t 3]⟩ ::
 ⟨some 24,some (22,false),.faddr 2,[.t 23]⟩ ::
 ⟨some 25,some (22,false),.load false 1,[.t 24]⟩ ::
 ⟨some 26,some (22,false),.faddr 0,[.t 3]⟩ ::
 ⟨some 27,some (22,false),.faddr 3,[.t 26]⟩ ::
 ⟨some 28,some (22,false),.load false 1,[.t 27]⟩ ::
 ⟨some 29,some (22,false),.call 105,[.t 25,.k (.d (.int .i64 0)),.t 28]⟩ ::
 ⟨some 30,some (22,false),.un .not,[.t 29]⟩ ::
 ⟨some 31,none,.pick,[.t 22,.k (.d (.bool true)),.t 30]⟩ ::
 ⟨some 32,none,.mov,[.t 31]⟩ ::
 ⟨some 33,some (32,false),.faddr 0,[.t 3]⟩ ::
 ⟨some 34,some (32,false),.faddr 3,[.t 33]⟩ ::
 ⟨some 35,some (32,false),.load false 1,[.t 34]⟩ ::
 ⟨some 36,some (32,false),.bin .gtr,[.t 35,.k (.d (.int .i64 12))]⟩ ::
 ⟨some 37,none,.pick,[.t 32,.k (.d (.bool true)),.t 36]⟩ ::
 ⟨some 38,none,.mov,[.t 37]⟩ ::
 ⟨some 39,some (38,false),.faddr 0,[.t 3]⟩ ::
 ⟨some 40,some (38,false),.faddr 4,[.t 39]⟩ ::
 ⟨some 41,some (38,false),.load false 1,[.t 40]⟩ ::
 ⟨some 42,some (38,false),.len false,[.t 41]⟩ ::
 ⟨some 43,some (38,false),.call 105,[.t 42,.k (.d (.int .i64 1)),.k (.d (.int .i64 4))]⟩ ::
 ⟨some 44,some (38,false),.un .not,[.t 43]⟩ ::
 ⟨some 45,none,.pick,[.t 38,.k (.d (.bool true)),.t 44]⟩ ::
 ⟨some 46,none,.mov,[.t 45]⟩ ::
 ⟨some 47,some (46,false),.faddr 0,[.t 3]⟩ ::
 ⟨some 48,some (46,false),.faddr 5,[.t 47]⟩ ::
 ⟨some 49,some (46,false),.load false 1,[.t 48]⟩ ::
 ⟨some 50,some (46,false),.len false,[.t 49]⟩ ::
 ⟨some 51,some (46,false),.faddr 0,[.t 3]⟩ ::
 ⟨some 52,some (46,false),.faddr 4,[.t 51]⟩ ::
 ⟨some 53,some (46,false),.load false 1,[.t 52]⟩ ::
 ⟨some 54,some (46,false),.len false,[.t 53]⟩ ::
 ⟨some 55,some (46,false),.bin .neq,[.t 50,.t 54]⟩ ::
 ⟨some 56,none,.pick,[.t 46,.k (.d (.bool true)),.t 55]⟩ ::
 []) [3,56])
 (.cond (.t 56)
 (.seq (.reg [] (
 ⟨some 2,none,.mov,[.k (.d (.int .i64 40))]⟩ ::
 []) [2])
 (.ret))
 (.skip)))
 (.seq (.reg [.frzP 3] (
 ⟨some 57,none,.mkfn 107,[.t 3]⟩ ::
 ⟨some 4,none,.mov,[.t 57]⟩ ::
 []) [3,4])
 (.seq (.reg [.frzP 3] (
 ⟨some 58,none,.mkfn 108,[.t 3]⟩ ::
 ⟨some 5,none,.mov,[.t 58]⟩ ::
 []) [3,4,5])
 (.seq (.seq (.reg [] (
 ⟨some 59,none,.faddr 0,[.t 3]⟩ ::
 ⟨some 60,none,.faddr 4,[.t 59]⟩ ::
 ⟨some 61,none,.load false 1,[.t 60]⟩ ::
 ⟨some 62,none,.len false,[.t 61]⟩ ::
 ⟨some 63,none,.mov,[.k (.d (.int .i64 0))]⟩ ::
 []) [3,4,5,61,62,63])
 (.block 0
 (.loop [] [3,4,5,61,62,63] [3,900000,901000]
 (.seq (.reg [] (
 ⟨some 64,none,.bin .lss,[.t 63,.t 62]⟩ ::
 []) [3,4,5,61,62,63,64])
 (.seq (.cond (.t 64)
 (.skip)
 (.exit 0))
 (.seq (.block 1
 (.seq (.reg [] (
 ⟨some 65,none,.mov,[.t 63]⟩ ::
 ⟨some 66,none,.iaddrS 1,[.t 61,.t 63]⟩ ::
 ⟨some 67,none,.load false 1,[.t 66]⟩ ::
 ⟨some 6,none,.mov,[.t 65]⟩ ::
 ⟨some 7,none,.mov,[.t 67]⟩ ::
 []) [3,4,5,6,7,61,62,63])
 (.seq (.draw [] (
 (⟨some 68,none,.mov,[.t 7]⟩,[]) ::
 (⟨some 69,none,.len false,[.t 68]⟩,[]) ::
 (⟨some 70,none,.load true 6,[.t 3]⟩,[]) ::
 (⟨some 71,none,.call 110,[.t 70]⟩,[1]) ::
 (⟨some 72,none,.bin .neq,[.t 69,.t 71]⟩,[]) ::
 (⟨some 73,none,.mov,[.t 72]⟩,[]) ::
 (⟨some 74,some (73,false),.faddr 0,[.t 3]⟩,[]) ::
 (⟨some 75,some (73,false),.faddr 5,[.t 74]⟩,[]) ::
 (⟨some 76,some (73,false),.load false 1,[.t 75]⟩,[]) ::
 (⟨some 77,some (73,false),.mov,[.t 6]⟩,[]) ::
 (⟨some 78,some (73,false),.iaddrS 1,[.t 76,.t 77]⟩,[]) ::
 (⟨some 79,some (73,false),.load false 1,[.t 78]⟩,[]) ::
 (⟨some 80,some (73,false),.len false,[.t 79]⟩,[]) ::
 (⟨some 81,some (73,false),.load true 6,[.t 3]⟩,[]) ::
 (⟨some 82,some (73,false),.call 110,[.t 81]⟩,[8,10,11,12]) ::
 (⟨some 83,some (73,false),.bin .neq,[.t 80,.t 82]⟩,[]) ::
 (⟨some 84,none,.pick,[.t 73,.k (.d (.bool true)),.t 83]⟩,[]) ::
 (⟨some 85,none,.mov,[.t 84]⟩,[]) ::
 (⟨some 86,some (85,false),.mov,[.t 7]⟩,[]) ::
 (⟨some 87,some (85,false),.mov,[.t 4]⟩,[]) ::
 (⟨some 88,some (85,false),.call 84,[.t 86,.t 87]⟩,[]) ::
 (⟨some 89,none,.pick,[.t 85,.k (.d (.bool true)),.t 88]⟩,[]) ::
 (⟨some 90,none,.mov,[.t 89]⟩,[]) ::
 (⟨some 91,some (90,false),.faddr 0,[.t 3]⟩,[]) ::
 (⟨some 92,some (90,false),.faddr 5,[.t 91]⟩,[]) ::
 (⟨some 93,some (90,false),.load false 1,[.t 92]⟩,[]) ::
 (⟨some 94,some (90,false),.mov,[.t 6]⟩,[]) ::
 (⟨some 95,some (90,false),.iaddrS 1,[.t 93,.t 94]⟩,[]) ::
 (⟨some 96,some (90,false),.load false 1,[.t 95]⟩,[]) ::
 (⟨some 97,some (90,false),.mov,[.t 5]⟩,[]) ::
 (⟨some 98,some (90,false),.call 84,[.t 96,.t 97]⟩,[]) ::
 (⟨some 99,none,.pick,[.t 90,.k (.d (.bool true)),.t 98]⟩,[]) ::
 []) [3,4,5,61,62,63,99])
 (.cond (.t 99)
 (.seq (.reg [] (
 ⟨some 2,none,.mov,[.k (.d (.int .i64 40))]⟩ ::
 []) [2])
 (.ret))
 (.skip)))))
 (.reg [] (
 ⟨some 100,none,.bin .add,[.t 63,.k (.d (.int .i64 1))]⟩ ::
 ⟨some 63,none,.mov,[.t 100]⟩ ::
 []) [3,4,5,61,62,63])))))))
 (.seq (.reg [] (
 ⟨some 2,none,.mov,[.k (.d (.int .i64 0))]⟩ ::
 []) [2])
 (.ret)))))))
theorem O0:Ch E0 Lp KN [.t 2] 101:=AM (fl:=[]) (by kernel_rfl)
abbrev K1:Nat:=75
def Ja:PC :=
 .seq (.reg [] (
 ⟨some 3,none,.box,[.t 0]⟩ ::
 ⟨some 6,none,.mov,[.k (.d (.list true []))]⟩ ::
 ⟨some 7,none,.mov,[.k (.d (.int .i64 0))]⟩ ::
 ⟨some 8,none,.mov,[.k (.d (.int .i64 0))]⟩ ::
 []) [1,2,3,6])
 (.seq (.reg [] (
 ⟨some 13,none,.load true 6,[.t 3]⟩ ::
 ⟨some 14,none,.mov,[.t 1]⟩ ::
 ⟨some 15,none,.call 111,[.t 13,.t 14]⟩ ::
 ⟨some 12,none,.mov,[.t 15]⟩ ::
 ⟨some 16,none,.extract 0,[.t 12]⟩ ::
 ⟨some 17,none,.extract 1,[.t 12]⟩ ::
 ⟨some 9,none,.zero [.int .i64 0,.int .i64 0,.int .i64 0,.int .i64 0,.list true [],.list true []],[]⟩ ::
 ⟨none,none,.store 6,[.t 9,.t 16]⟩ ::
 ⟨some 8,none,.mov,[.t 17]⟩ ::
 []) [1,2,6,8,9])
 (.seq (.seq (.reg [] (
 ⟨some 18,none,.mov,[.t 8]⟩ ::
 ⟨some 19,none,.bin .neq,[.t 18,.k (.d (.int .i64 0))]⟩ ::
 []) [1,2,6,8,9,19])
 (.cond (.t 19)
 (.seq (.reg [] (
 ⟨some 20,none,.mov,[.t 8]⟩ ::
 ⟨some 6,none,.mov,[.k (.d (.list true []))]⟩ ::
 ⟨some 7,none,.mov,[.k (.d (.int .i64 0))]⟩ ::
 ⟨some 8,none,.mov,[.t 20]⟩ ::
 []) [6,7,8])
 (.ret))
 (.skip)))
 (.seq (.seq (.reg [.frzP 9] (
 ⟨some 21,none,.mov,[.t 2]⟩ ::
 ⟨some 22,none,.len false,[.t 21]⟩ ::
 ⟨some 23,none,.bin .gtr,[.t 22,.k (.d (.int .i64 24))]⟩ ::
 ⟨some 24,none,.mov,[.t 23]⟩ ::
 ⟨some 25,some (24,false),.mov,[.t 2]⟩ ::
 ⟨some 26,some (24,false),.mkfn 112,[.t 9]⟩ ::
 ⟨some 27,some (24,false),.call 84,[.t 25,.t 26]⟩ ::
 ⟨some 28,none,.pick,[.t 24,.k (.d (.bool true)),.t 27]⟩ ::
 []) [1,2,6,9,28])
 (.cond (.t 28)
 (.seq (.reg [] (
 ⟨some 6,none,.mov,[.k (.d (.list true []))]⟩ ::
 ⟨some 7,none,.mov,[.k (.d (.int .i64 0))]⟩ ::
 ⟨some 8,none,.mov,[.k (.d (.int .i64 42))]⟩ ::
 []) [6,7,8])
 (.ret))
 (.skip)))
 (.seq (.seq (.reg [] (
 ⟨some 29,none,.mov,[.t 2]⟩ ::
 ⟨some 30,none,.len false,[.t 29]⟩ ::
 ⟨some 31,none,.mov,[.k (.d (.int .i64 0))]⟩ ::
 []) [1,6,9,29,30,31])
 (.block 0
 (.loop [.own 6 40 3 1] [1,6,9,29,30,31] [9,15,40,10015,900001,900002,901001,901002]
 (.seq (.reg [] (
 ⟨some 32,none,.bin .lss,[.t 31,.t 30]⟩ ::
 []) [1,6,9,29,30,31,32])
 (.seq (.cond (.t 32)
 (.skip)
 (.exit 0))
 (.seq (.block 1
 (.seq (.reg [] (
 ⟨some 33,none,.iaddrS 1,[.t 29,.t 31]⟩ ::
 ⟨some 34,none,.load false 1,[.t 33]⟩ ::
 ⟨some 11,none,.mov,[.t 34]⟩ ::
 []) [1,6,9,11,29,30,31])
 (.seq (.reg [] (
 ⟨some 35,none,.mov,[.t 6]⟩ ::
 ⟨some 36,none,.load true 6,[.t 9]⟩ ::
 ⟨some 37,none,.mov,[.t 1]⟩ ::
 ⟨some 38,none,.mov,[.t 11]⟩ ::
 ⟨some 39,none,.call 113,[.t 36,.t 37,.t 38]⟩ ::
 ⟨some 40,none,.app 3 1 none true,[.t 35,.t 39]⟩ ::
 ⟨some 6,none,.mov,[.t 40]⟩ ::
 []) [1,6,9,11,29,30,31])
 (.reg [] (
 ⟨some 41,none,.faddr 0,[.t 9]⟩ ::
 ⟨some 42,none,.faddr 5,[.t 41]⟩ ::
 ⟨some 43,none,.load false 1,[.t 42]⟩ ::
 ⟨some 44,none,.mov,[.t 1]⟩ ::
 ⟨some 45,none,.iaddrS 1,[.t 43,.t 44]⟩ ::
 ⟨some 46,none,.load false 1,[.t 45]⟩ ::
 ⟨some 47,none,.mov,[.t 11]⟩ ::
 ⟨some 48,none,.iaddrS 1,[.t 46,.t 47]⟩ ::
 ⟨some 49,none,.load false 1,[.t 48]⟩ ::
 ⟨some 1,none,.mov,[.t 49]⟩ ::
 []) [1,6,9,29,30,31]))))
 (.reg [] (
 ⟨some 50,none,.bin .add,[.t 31,.k (.d (.int .i64 1))]⟩ ::
 ⟨some 31,none,.mov,[.t 50]⟩ ::
 []) [1,6,9,29,30,31])))))))
 (.seq (.reg [] (
 ⟨some 51,none,.mov,[.t 6]⟩ ::
 ⟨some 52,none,.mov,[.t 1]⟩ ::
 ⟨some 6,none,.mov,[.t 51]⟩ ::
 ⟨some 7,none,.mov,[.t 52]⟩ ::
 ⟨some 8,none,.mov,[.k (.d (.int .i64 0))]⟩ ::
 []) [6,7,8])
 (.ret))))))
theorem N_:Ch E0 K1 Ja [.t 6,.t 7,.t 8] 53:=AM (fl:=[]) (by kernel_rfl)
abbrev Jp:Nat:=76
def IS:PC :=
 .seq (.reg [] (
 ⟨some 2,none,.box,[.t 0]⟩ ::
 ⟨some 4,none,.mov,[.k (.d (.list true []))]⟩ ::
 []) [1,2])
 (.seq (.reg [] (
 ⟨some 5,none,.mov,[.k (.d (.list true []))]⟩ ::
 []) [1,2,5])
 (.seq (.seq (.reg [] (
 ⟨some 7,none,.faddr 0,[.t 2]⟩ ::
 ⟨some 8,none,.load false 1,[.t 7]⟩ ::
 ⟨some 9,none,.bin .sub,[.k (.d (.int .i64 4)),.t 8]⟩ ::
 ⟨some 6,none,.mov,[.t 9]⟩ ::
 []) [1,2,5,6])
 (.block 0
 (.loop [.own 5 26 3 1] [1,2,5,6] [2,26,900000,900001,901000,901001]
 (.seq (.seq (.reg [] (
 ⟨some 10,none,.mov,[.t 6]⟩ ::
 ⟨some 11,none,.bin .geq,[.t 10,.k (.d (.int .i64 0))]⟩ ::
 []) [1,2,5,6,11])
 (.cond (.t 11)
 (.skip)
 (.exit 0)))
 (.seq (.block 1
 (.draw [] (
 (⟨some 16,none,.mov,[.t 5]⟩,[]) ::
 (⟨some 17,none,.mov,[.t 1]⟩,[]) ::
 (⟨some 18,none,.mov,[.t 6]⟩,[]) ::
 (⟨some 19,none,.bin .shr,[.t 17,.t 18]⟩,[]) ::
 (⟨some 20,none,.faddr 0,[.t 2]⟩,[]) ::
 (⟨some 21,none,.load false 1,[.t 20]⟩,[]) ::
 (⟨some 22,none,.bin .shl,[.k (.d (.int .i64 1)),.t 21]⟩,[]) ::
 (⟨some 23,none,.bin .sub,[.t 22,.k (.d (.int .i64 1))]⟩,[]) ::
 (⟨some 24,none,.bin .and,[.t 19,.t 23]⟩,[]) ::
 (⟨some 25,none,.mkrow 1 (.int .i64 0) 1 [0],[.t 24]⟩,[]) ::
 (⟨some 26,none,.app 3 1 none true,[.t 16,.t 25]⟩,[]) ::
 (⟨some 5,none,.mov,[.t 26]⟩,[]) ::
 []) [1,2,5,6]))
 (.reg [] (
 ⟨some 12,none,.mov,[.t 6]⟩ ::
 ⟨some 13,none,.faddr 0,[.t 2]⟩ ::
 ⟨some 14,none,.load false 1,[.t 13]⟩ ::
 ⟨some 15,none,.bin .sub,[.t 12,.t 14]⟩ ::
 ⟨some 6,none,.mov,[.t 15]⟩ ::
 []) [1,2,5,6]))))))
 (.seq (.reg [] (
 ⟨some 27,none,.mov,[.t 5]⟩ ::
 ⟨some 4,none,.mov,[.t 27]⟩ ::
 []) [4])
 (.ret))))
theorem NE:Ch E0 Jp IS [.t 4] 28:=AM (fl:=[26]) (by kernel_rfl)
abbrev FX:Nat:=77
def E6:PC :=
 .seq (.reg [] (
 ⟨some 4,none,.mov,[.k (.d (.bool false))]⟩ ::
 []) [0,1])
 (.seq (.seq (.reg [] (
 ⟨some 6,none,.mov,[.t 0]⟩ ::
 ⟨some 7,none,.len false,[.t 6]⟩ ::
 ⟨some 8,none,.mov,[.t 1]⟩ ::
 ⟨some 9,none,.len false,[.t 8]⟩ ::
 ⟨some 10,none,.bin .neq,[.t 7,.t 9]⟩ ::
 []) [0,1,10])
 (.cond (.t 10)
 (.seq (.reg [] (
 ⟨some 4,none,.mov,[.k (.d (.bool false))]⟩ ::
 []) [4])
 (.ret))
 (.skip)))
 (.seq (.seq (.reg [] (
 ⟨some 11,none,.mov,[.t 0]⟩ ::
 ⟨some 12,none,.len false,[.t 11]⟩ ::
 ⟨some 13,none,.mov,[.k (.d (.int .i64 0))]⟩ ::
 []) [0,1,12,13])
 (.block 0
 (.loop [] [0,1,12,13] [900000,900001,901000,901001]
 (.seq (.reg [] (
 ⟨some 14,none,.bin .lss,[.t 13,.t 12]⟩ ::
 []) [0,1,12,13,14])
 (.seq (.cond (.t 14)
 (.skip)
 (.exit 0))
 (.seq (.block 1
 (.seq (.reg [] (
 ⟨some 15,none,.mov,[.t 13]⟩ ::
 ⟨some 5,none,.mov,[.t 15]⟩ ::
 []) [0,1,5,12,13])
 (.seq (.draw [] (
 (⟨some 16,none,.mov,[.t 0]⟩,[]) ::
 (⟨some 17,none,.mov,[.t 5]⟩,[]) ::
 (⟨some 18,none,.iaddrS 1,[.t 16,.t 17]⟩,[]) ::
 (⟨some 19,none,.load false 1,[.t 18]⟩,[]) ::
 (⟨some 20,none,.mov,[.t 1]⟩,[]) ::
 (⟨some 21,none,.mov,[.t 5]⟩,[]) ::
 (⟨some 22,none,.iaddrS 1,[.t 20,.t 21]⟩,[]) ::
 (⟨some 23,none,.load false 1,[.t 22]⟩,[]) ::
 (⟨some 24,none,.bin .neq,[.t 19,.t 23]⟩,[]) ::
 []) [0,1,12,13,24])
 (.cond (.t 24)
 (.seq (.reg [] (
 ⟨some 4,none,.mov,[.k (.d (.bool false))]⟩ ::
 []) [4])
 (.ret))
 (.skip)))))
 (.reg [] (
 ⟨some 25,none,.bin .add,[.t 13,.k (.d (.int .i64 1))]⟩ ::
 ⟨some 13,none,.mov,[.t 25]⟩ ::
 []) [0,1,12,13])))))))
 (.seq (.reg [] (
 ⟨some 4,none,.mov,[.k (.d (.bool true))]⟩ ::
 []) [4])
 (.ret))))
theorem Hu:Ch E0 FX E6 [.t 4] 26:=AM (fl:=[]) (by kernel_rfl)
abbrev Ky:Nat:=78
def JX:PC :=
 .seq (.reg [] (
 ⟨some 3,none,.box,[.t 0]⟩ ::
 ⟨some 6,none,.zero [.int .i64 0,.int .i64 0,.int .i64 0],[]⟩ ::
 ⟨some 7,none,.mov,[.k (.d (.int .i64 0))]⟩ ::
 []) [1,2,3,6])
 (.seq (.seq (.reg [] (
 ⟨some 9,none,.faddr 0,[.t 3]⟩ ::
 ⟨some 10,none,.load true 2,[.t 9]⟩ ::
 ⟨some 11,none,.call 47,[.t 10]⟩ ::
 ⟨some 12,none,.bin .neq,[.t 11,.k (.d (.int .i64 0))]⟩ ::
 ⟨some 13,none,.mov,[.t 12]⟩ ::
 ⟨some 14,some (13,false),.faddr 2,[.t 3]⟩ ::
 ⟨some 15,some (13,false),.load false 1,[.t 14]⟩ ::
 ⟨some 16,some (13,false),.bin .lss,[.t 15,.k (.d (.int .i64 1))]⟩ ::
 ⟨some 17,none,.pick,[.t 13,.k (.d (.bool true)),.t 16]⟩ ::
 ⟨some 18,none,.mov,[.t 17]⟩ ::
 ⟨some 19,some (18,false),.faddr 2,[.t 3]⟩ ::
 ⟨some 20,some (18,false),.load false 1,[.t 19]⟩ ::
 ⟨some 21,some (18,false),.bin .gtr,[.t 20,.k (.d (.int .i64 8))]⟩ ::
 ⟨some 22,none,.pick,[.t 18,.k (.d (.bool true)),.t 21]⟩ ::
 []) [1,2,3,6,22])
 (.cond (.t 22)
 (.seq (.reg [] (
 ⟨some 23,none,.build [.int .i64 0,.int .i64 0,.int .i64 0] [],[]⟩ ::
 ⟨none,none,.store 3,[.t 6,.t 23]⟩ ::
 ⟨some 7,none,.mov,[.k (.d (.int .i64 50))]⟩ ::
 []) [6,7])
 (.ret))
 (.skip)))
 (.seq (.reg [] (
 ⟨some 24,none,.faddr 0,[.t 3]⟩ ::
 ⟨some 25,none,.load true 2,[.t 24]⟩ ::
 ⟨some 26,none,.build [.int .i64 0,.int .i64 0] [(0,2)],[.t 25]⟩ ::
 ⟨some 27,none,.faddr 2,[.t 3]⟩ ::
 ⟨some 28,none,.load false 1,[.t 27]⟩ ::
 ⟨some 29,none,.build [.int .i64 0,.int .i64 0,.int .i64 0] [(0,2),(2,1)],[.t 26,.t 28]⟩ ::
 ⟨some 8,none,.zero [.int .i64 0,.int .i64 0,.int .i64 0],[]⟩ ::
 ⟨none,none,.store 3,[.t 8,.t 29]⟩ ::
 []) [1,2,3,6,8])
 (.seq (.seq (.draw [] (
 (⟨some 30,none,.mov,[.t 1]⟩,[]) ::
 (⟨some 31,none,.faddr 2,[.t 3]⟩,[]) ::
 (⟨some 32,none,.load false 1,[.t 31]⟩,[]) ::
 (⟨some 33,none,.mov,[.t 2]⟩,[]) ::
 (⟨some 34,none,.faddr 0,[.t 8]⟩,[]) ::
 (⟨some 35,none,.load true 2,[.t 34]⟩,[]) ::
 (⟨some 36,none,.callv,[.t 33,.t 35]⟩,[2]) ::
 (⟨some 37,none,.bin .mul,[.t 32,.t 36]⟩,[]) ::
 (⟨some 38,none,.call 114,[.t 30,.t 37]⟩,[]) ::
 (⟨some 39,none,.un .not,[.t 38]⟩,[]) ::
 []) [6,8,39])
 (.cond (.t 39)
 (.seq (.reg [] (
 ⟨some 40,none,.build [.int .i64 0,.int .i64 0,.int .i64 0] [],[]⟩ ::
 ⟨none,none,.store 3,[.t 6,.t 40]⟩ ::
 ⟨some 7,none,.mov,[.k (.d (.int .i64 51))]⟩ ::
 []) [6,7])
 (.ret))
 (.skip)))
 (.seq (.reg [] (
 ⟨some 41,none,.load true 3,[.t 8]⟩ ::
 ⟨none,none,.store 3,[.t 6,.t 41]⟩ ::
 ⟨some 7,none,.mov,[.k (.d (.int .i64 0))]⟩ ::
 []) [6,7])
 (.ret)))))
theorem N7:Ch E0 Ky JX [.c 6 105 true 3,.t 7] 42:=AM (fl:=[]) (by kernel_rfl)
abbrev Cv:Nat:=79
def F9:PC :=
 .seq (.reg [] (
 ⟨some 1,none,.box,[.t 0]⟩ ::
 ⟨some 2,none,.mov,[.k (.d (.int .i64 0))]⟩ ::
 []) [1])
 (.seq (.reg [] (
 ⟨some 3,none,.faddr 0,[.t 1]⟩ ::
 ⟨some 4,none,.faddr 0,[.t 3]⟩ ::
 ⟨some 5,none,.load false 1,[.t 4]⟩ ::
 ⟨some 6,none,.faddr 0,[.t 1]⟩ ::
 ⟨some 7,none,.faddr 1,[.t 6]⟩ ::
 ⟨some 8,none,.load false 1,[.t 7]⟩ ::
 ⟨some 9,none,.bin .sub,[.t 5,.t 8]⟩ ::
 ⟨some 2,none,.mov,[.t 9]⟩ ::
 []) [2])
 (.ret))
theorem Jw:Ch E0 Cv F9 [.t 2] 10:=AM (fl:=[]) (by kernel_rfl)
abbrev Fo:Nat:=80
def FL:PC :=
 .seq (.reg [] (
 ⟨some 2,none,.box,[.t 0]⟩ ::
 ⟨some 4,none,.mov,[.k (.d (.list true []))]⟩ ::
 []) [1,2])
 (.seq (.reg [] (
 ⟨some 15,none,.mkrowO 135 1 (.int .u8 0) 1 [0],[.k (.d (.int .u8 1))]⟩ ::
 ⟨some 5,none,.mov,[.t 15]⟩ ::
 []) [1,2,5])
 (.seq (.seq (.reg [] (
 ⟨some 16,none,.faddr 0,[.t 2]⟩ ::
 ⟨some 17,none,.faddr 1,[.t 16]⟩ ::
 ⟨some 18,none,.load false 1,[.t 17]⟩ ::
 ⟨some 19,none,.mov,[.k (.d (.int .i64 0))]⟩ ::
 []) [1,2,5,18,19])
 (.block 0
 (.loop [.freeze 5] [1,2,5,18,19] [2,900000,900001,901000,901001]
 (.seq (.reg [] (
 ⟨some 20,none,.bin .lss,[.t 19,.t 18]⟩ ::
 []) [1,2,5,18,19,20])
 (.seq (.cond (.t 20)
 (.skip)
 (.exit 0))
 (.seq (.block 1
 (.seq (.reg [] (
 ⟨some 21,none,.mov,[.t 19]⟩ ::
 ⟨some 6,none,.mov,[.t 21]⟩ ::
 []) [1,2,5,6,18,19])
 (.seq (.reg [.freeze 5] (
 ⟨some 22,none,.mov,[.t 5]⟩ ::
 ⟨some 23,none,.call 115,[.t 22]⟩ ::
 ⟨some 24,none,.mkrow 1 (.int .u8 0) 1 [0],[.k (.d (.int .u8 0))]⟩ ::
 ⟨some 25,none,.app 135 1 none true,[.t 23,.t 24]⟩ ::
 ⟨some 7,none,.mov,[.t 25]⟩ ::
 []) [1,2,5,6,7,18,19])
 (.seq (.seq (.reg [] (
 ⟨some 26,none,.mov,[.t 5]⟩ ::
 ⟨some 27,none,.len false,[.t 26]⟩ ::
 ⟨some 28,none,.mov,[.k (.d (.int .i64 0))]⟩ ::
 []) [1,2,6,7,18,19,26,27,28])
 (.block 2
 (.loop [.freeze 26] [1,2,6,7,18,19,26,27,28] [2,23,25,10023,900000,900001,901000,901001]
 (.seq (.reg [] (
 ⟨some 29,none,.bin .lss,[.t 28,.t 27]⟩ ::
 []) [1,2,6,7,18,19,26,27,28,29])
 (.seq (.cond (.t 29)
 (.skip)
 (.exit 2))
 (.seq (.block 3
 (.seq (.reg [] (
 ⟨some 30,none,.mov,[.t 28]⟩ ::
 ⟨some 31,none,.iaddrS 1,[.t 26,.t 28]⟩ ::
 ⟨some 32,none,.load false 1,[.t 31]⟩ ::
 ⟨some 8,none,.mov,[.t 30]⟩ ::
 ⟨some 9,none,.mov,[.t 32]⟩ ::
 []) [1,2,6,7,8,9,18,19,26,27,28])
 (.draw [] (
 (⟨some 33,none,.mov,[.t 7]⟩,[]) ::
 (⟨some 34,none,.mov,[.t 8]⟩,[]) ::
 (⟨some 35,none,.bin .add,[.t 34,.k (.d (.int .i64 1))]⟩,[]) ::
 (⟨some 36,none,.iaddrS 1,[.t 33,.t 35]⟩,[]) ::
 (⟨some 37,none,.load false 1,[.t 36]⟩,[]) ::
 (⟨some 38,none,.mov,[.t 9]⟩,[]) ::
 (⟨some 39,none,.mov,[.t 6]⟩,[]) ::
 (⟨some 40,none,.call 117,[.t 39]⟩,[3,4]) ::
 (⟨some 41,none,.call 116,[.t 38,.t 40]⟩,[3,4]) ::
 (⟨some 42,none,.bin .xor,[.t 37,.t 41]⟩,[]) ::
 (⟨some 43,none,.iaddrS 1,[.t 33,.t 35]⟩,[]) ::
 (⟨none,none,.store 1,[.t 43,.t 42]⟩,[]) ::
 []) [1,2,6,7,18,19,26,27,28])))
 (.reg [] (
 ⟨some 44,none,.bin .add,[.t 28,.k (.d (.int .i64 1))]⟩ ::
 ⟨some 28,none,.mov,[.t 44]⟩ ::
 []) [1,2,6,7,18,19,26,27,28])))))))
 (.reg [] (
 ⟨some 45,none,.mov,[.t 7]⟩ ::
 ⟨some 5,none,.mov,[.t 45]⟩ ::
 []) [1,2,5,18,19])))))
 (.reg [] (
 ⟨some 46,none,.bin .add,[.t 19,.k (.d (.int .i64 1))]⟩ ::
 ⟨some 19,none,.mov,[.t 46]⟩ ::
 []) [1,2,5,18,19])))))))
 (.seq (.draw [] (
 (⟨some 47,none,.mov,[.t 1]⟩,[]) ::
 (⟨some 48,none,.call 115,[.t 47]⟩,[]) ::
 (⟨some 49,none,.faddr 0,[.t 2]⟩,[]) ::
 (⟨some 50,none,.faddr 1,[.t 49]⟩,[]) ::
 (⟨some 51,none,.load false 1,[.t 50]⟩,[1]) ::
 (⟨some 52,none,.app 135 1 (some (.int .u8 0)) true,[.t 48,.t 51]⟩,[]) ::
 (⟨some 10,none,.mov,[.t 52]⟩,[]) ::
 []) [1,5,10])
 (.seq (.seq (.reg [] (
 ⟨some 53,none,.mov,[.t 1]⟩ ::
 ⟨some 54,none,.len false,[.t 53]⟩ ::
 ⟨some 55,none,.mov,[.k (.d (.int .i64 0))]⟩ ::
 []) [1,5,10,54,55])
 (.block 4
 (.loop [.freeze 5] [1,5,10,54,55] [48,52,10048,900001,901001]
 (.seq (.reg [] (
 ⟨some 56,none,.bin .lss,[.t 55,.t 54]⟩ ::
 []) [1,5,10,54,55,56])
 (.seq (.cond (.t 56)
 (.skip)
 (.exit 4))
 (.seq (.block 5
 (.seq (.reg [] (
 ⟨some 57,none,.mov,[.t 55]⟩ ::
 ⟨some 11,none,.mov,[.t 57]⟩ ::
 []) [1,5,10,11,54,55])
 (.seq (.reg [] (
 ⟨some 58,none,.mov,[.t 10]⟩ ::
 ⟨some 59,none,.mov,[.t 11]⟩ ::
 ⟨some 60,none,.iaddrS 1,[.t 58,.t 59]⟩ ::
 ⟨some 61,none,.load false 1,[.t 60]⟩ ::
 ⟨some 12,none,.mov,[.t 61]⟩ ::
 []) [1,5,10,11,12,54,55])
 (.seq (.reg [] (
 ⟨some 62,none,.mov,[.t 5]⟩ ::
 ⟨some 63,none,.len false,[.t 62]⟩ ::
 ⟨some 64,none,.mov,[.k (.d (.int .i64 0))]⟩ ::
 []) [1,5,10,11,12,54,55,62,63,64])
 (.block 6
 (.loop [.freeze 5,.freeze 62] [1,5,10,11,12,54,55,62,63,64] [48,52,10048,900001,901001]
 (.seq (.reg [] (
 ⟨some 65,none,.bin .lss,[.t 64,.t 63]⟩ ::
 []) [1,5,10,11,12,54,55,62,63,64,65])
 (.seq (.cond (.t 65)
 (.skip)
 (.exit 6))
 (.seq (.block 7
 (.seq (.reg [] (
 ⟨some 66,none,.mov,[.t 64]⟩ ::
 ⟨some 67,none,.iaddrS 1,[.t 62,.t 64]⟩ ::
 ⟨some 68,none,.load false 1,[.t 67]⟩ ::
 ⟨some 13,none,.mov,[.t 66]⟩ ::
 ⟨some 14,none,.mov,[.t 68]⟩ ::
 []) [1,5,10,11,12,13,14,54,55,62,63,64])
 (.draw [] (
 (⟨some 69,none,.mov,[.t 10]⟩,[]) ::
 (⟨some 70,none,.mov,[.t 11]⟩,[]) ::
 (⟨some 71,none,.mov,[.t 13]⟩,[]) ::
 (⟨some 72,none,.bin .add,[.t 70,.t 71]⟩,[]) ::
 (⟨some 73,none,.iaddrS 1,[.t 69,.t 72]⟩,[]) ::
 (⟨some 74,none,.load false 1,[.t 73]⟩,[]) ::
 (⟨some 75,none,.mov,[.t 12]⟩,[]) ::
 (⟨some 76,none,.mov,[.t 14]⟩,[]) ::
 (⟨some 77,none,.call 116,[.t 75,.t 76]⟩,[4,5]) ::
 (⟨some 78,none,.bin .xor,[.t 74,.t 77]⟩,[]) ::
 (⟨some 79,none,.iaddrS 1,[.t 69,.t 72]⟩,[]) ::
 (⟨none,none,.store 1,[.t 79,.t 78]⟩,[]) ::
 []) [1,5,10,11,12,54,55,62,63,64])))
 (.reg [] (
 ⟨some 80,none,.bin .add,[.t 64,.k (.d (.int .i64 1))]⟩ ::
 ⟨some 64,none,.mov,[.t 80]⟩ ::
 []) [1,5,10,11,12,54,55,62,63,64]))))))))))
 (.reg [] (
 ⟨some 81,none,.bin .add,[.t 55,.k (.d (.int .i64 1))]⟩ ::
 ⟨some 55,none,.mov,[.t 81]⟩ ::
 []) [1,5,10,54,55])))))))
 (.seq (.reg [.freeze 10] (
 ⟨some 82,none,.mov,[.t 1]⟩ ::
 ⟨some 83,none,.mov,[.t 10]⟩ ::
 ⟨some 84,none,.mov,[.t 1]⟩ ::
 ⟨some 85,none,.len false,[.t 84]⟩ ::
 ⟨some 86,none,.slice 1 true false false,[.t 83,.t 85]⟩ ::
 ⟨some 87,none,.mkrow 1 (.list true []) 2 [0,1],[.t 82,.t 86]⟩ ::
 ⟨some 88,none,.call 118,[.t 87]⟩ ::
 ⟨some 4,none,.mov,[.t 88]⟩ ::
 []) [4])
 (.ret))))))
theorem IY:Ch E0 Fo FL [.t 4] 89:=AM (fl:=[52]) (by kernel_rfl)
abbrev GI:Nat:=81
def Fj:PC :=
 .seq (.reg [] (
 ⟨some 3,none,.box,[.t 0]⟩ ::
 ⟨some 6,none,.mov,[.k (.d (.list true []))]⟩ ::
 []) [1,2,3])
 (.seq (.reg [] (
 ⟨some 7,none,.mov,[.k (.d (.list true []))]⟩ ::
 []) [1,2,3,7])
 (.seq (.seq (.reg [] (
 ⟨some 9,none,.mov,[.t 2]⟩ ::
 ⟨some 8,none,.mov,[.t 9]⟩ ::
 []) [1,3,7,8])
 (.block 0
 (.loop [.own 7 25 135 1] [1,3,7,8] [3,25,900000,900001,900002,901000,901001,901002]
 (.seq (.seq (.reg [] (
 ⟨some 10,none,.mov,[.t 8]⟩ ::
 ⟨some 11,none,.mov,[.t 1]⟩ ::
 ⟨some 12,none,.len false,[.t 11]⟩ ::
 ⟨some 13,none,.bin .lss,[.t 10,.t 12]⟩ ::
 []) [1,3,7,8,13])
 (.cond (.t 13)
 (.skip)
 (.exit 0)))
 (.seq (.block 1
 (.reg [] (
 ⟨some 18,none,.mov,[.t 7]⟩ ::
 ⟨some 19,none,.mov,[.t 1]⟩ ::
 ⟨some 20,none,.mov,[.t 8]⟩ ::
 ⟨some 21,none,.iaddrS 1,[.t 19,.t 20]⟩ ::
 ⟨some 22,none,.load false 1,[.t 21]⟩ ::
 ⟨some 23,none,.conv .u8,[.t 22]⟩ ::
 ⟨some 24,none,.mkrow 1 (.int .u8 0) 1 [0],[.t 23]⟩ ::
 ⟨some 25,none,.app 135 1 none true,[.t 18,.t 24]⟩ ::
 ⟨some 7,none,.mov,[.t 25]⟩ ::
 []) [1,3,7,8]))
 (.reg [] (
 ⟨some 14,none,.mov,[.t 8]⟩ ::
 ⟨some 15,none,.faddr 2,[.t 3]⟩ ::
 ⟨some 16,none,.load false 1,[.t 15]⟩ ::
 ⟨some 17,none,.bin .add,[.t 14,.t 16]⟩ ::
 ⟨some 8,none,.mov,[.t 17]⟩ ::
 []) [1,3,7,8]))))))
 (.seq (.reg [] (
 ⟨some 26,none,.mov,[.t 7]⟩ ::
 ⟨some 6,none,.mov,[.t 26]⟩ ::
 []) [6])
 (.ret))))
theorem I':Ch E0 GI Fj [.t 6] 27:=AM (fl:=[]) (by kernel_rfl)
abbrev GJ:Nat:=82
def Fk:PC :=
 .seq (.reg [] (
 ⟨some 2,none,.box,[.t 0]⟩ ::
 ⟨some 4,none,.mov,[.k (.d (.list true []))]⟩ ::
 []) [1])
 (.seq (.reg [] (
 ⟨some 5,none,.mov,[.k (.d (.list true []))]⟩ ::
 []) [1,5])
 (.seq (.seq (.reg [] (
 ⟨some 9,none,.mov,[.t 1]⟩ ::
 ⟨some 10,none,.iaddrS 1,[.t 9,.k (.d (.int .i64 0))]⟩ ::
 ⟨some 11,none,.load false 1,[.t 10]⟩ ::
 ⟨some 12,none,.len false,[.t 11]⟩ ::
 ⟨some 13,none,.mov,[.k (.d (.int .i64 0))]⟩ ::
 []) [1,5,12,13])
 (.block 0
 (.loop [.own 5 29 3 1] [1,5,12,13] [29,900001,901001]
 (.seq (.reg [] (
 ⟨some 14,none,.bin .lss,[.t 13,.t 12]⟩ ::
 []) [1,5,12,13,14])
 (.seq (.cond (.t 14)
 (.skip)
 (.exit 0))
 (.seq (.block 1
 (.seq (.reg [] (
 ⟨some 15,none,.mov,[.t 13]⟩ ::
 ⟨some 6,none,.mov,[.t 15]⟩ ::
 []) [1,5,6,12,13])
 (.seq (.reg [] (
 ⟨some 16,none,.mov,[.t 1]⟩ ::
 ⟨some 17,none,.len false,[.t 16]⟩ ::
 ⟨some 18,none,.mov,[.k (.d (.int .i64 0))]⟩ ::
 []) [1,5,6,12,13,16,17,18])
 (.block 2
 (.loop [.own 5 29 3 1] [1,5,6,12,13,16,17,18] [29,900001,901001]
 (.seq (.reg [] (
 ⟨some 19,none,.bin .lss,[.t 18,.t 17]⟩ ::
 []) [1,5,6,12,13,16,17,18,19])
 (.seq (.cond (.t 19)
 (.skip)
 (.exit 2))
 (.seq (.block 3
 (.seq (.reg [] (
 ⟨some 20,none,.iaddrS 1,[.t 16,.t 18]⟩ ::
 ⟨some 21,none,.load false 1,[.t 20]⟩ ::
 ⟨some 8,none,.mov,[.t 21]⟩ ::
 []) [1,5,6,8,12,13,16,17,18])
 (.reg [] (
 ⟨some 22,none,.mov,[.t 5]⟩ ::
 ⟨some 23,none,.mov,[.t 8]⟩ ::
 ⟨some 24,none,.mov,[.t 6]⟩ ::
 ⟨some 25,none,.iaddrS 1,[.t 23,.t 24]⟩ ::
 ⟨some 26,none,.load false 1,[.t 25]⟩ ::
 ⟨some 27,none,.conv .i64,[.t 26]⟩ ::
 ⟨some 28,none,.mkrow 1 (.int .i64 0) 1 [0],[.t 27]⟩ ::
 ⟨some 29,none,.app 3 1 none true,[.t 22,.t 28]⟩ ::
 ⟨some 5,none,.mov,[.t 29]⟩ ::
 []) [1,5,6,12,13,16,17,18])))
 (.reg [] (
 ⟨some 30,none,.bin .add,[.t 18,.k (.d (.int .i64 1))]⟩ ::
 ⟨some 18,none,.mov,[.t 30]⟩ ::
 []) [1,5,6,12,13,16,17,18])))))))))
 (.reg [] (
 ⟨some 31,none,.bin .add,[.t 13,.k (.d (.int .i64 1))]⟩ ::
 ⟨some 13,none,.mov,[.t 31]⟩ ::
 []) [1,5,12,13])))))))
 (.seq (.reg [] (
 ⟨some 32,none,.mov,[.t 5]⟩ ::
 ⟨some 4,none,.mov,[.t 32]⟩ ::
 []) [4])
 (.ret))))
theorem JA:Ch E0 GJ Fk [.t 4] 33:=AM (fl:=[]) (by kernel_rfl)
abbrev FZ:Nat:=83
def E8:PC :=
 .seq (.reg [] (
 ⟨some 2,none,.box,[.t 0]⟩ ::
 ⟨some 3,none,.box,[.t 1]⟩ ::
 ⟨some 4,none,.mov,[.k (.d (.nilfn))]⟩ ::
 []) [2,3])
 (.seq (.seq (.reg [] (
 ⟨some 5,none,.load false 1,[.t 3]⟩ ::
 ⟨some 6,none,.bin .lss,[.t 5,.k (.d (.int .i64 1))]⟩ ::
 []) [2,3,6])
 (.cond (.t 6)
 (.dead)
 (.skip)))
 (.seq (.reg [.frzP 2,.frzP 3] (
 ⟨some 8,none,.mkfn 119,[.t 2,.t 3]⟩ ::
 ⟨some 4,none,.mov,[.t 8]⟩ ::
 []) [4])
 (.ret)))
theorem Hw:Ch E0 FZ E8 [.t 4] 9:=AM (fl:=[]) (by kernel_rfl)
abbrev Bz:Nat:=84
def CV:PC :=
 .seq (.reg [] (
 ⟨some 4,none,.mov,[.k (.d (.bool false))]⟩ ::
 []) [0,1])
 (.seq (.reg [] (
 ⟨some 5,none,.mov,[.t 0]⟩ ::
 ⟨some 6,none,.mov,[.t 1]⟩ ::
 ⟨some 7,none,.call 120,[.t 5,.t 6]⟩ ::
 ⟨some 8,none,.bin .geq,[.t 7,.k (.d (.int .i64 0))]⟩ ::
 ⟨some 4,none,.mov,[.t 8]⟩ ::
 []) [4])
 (.ret))
theorem DV:Ch E0 Bz CV [.t 4] 9:=AM (fl:=[]) (by kernel_rfl)
abbrev Ek:Nat:=85
def F_:PC :=
 .seq (.reg [] (
 ⟨some 2,none,.mov,[.k (.d (.bool false))]⟩ ::
 []) [0])
 (.seq (.reg [] (
 ⟨some 3,none,.mov,[.t 0]⟩ ::
 ⟨some 4,none,.bin .shr,[.t 3,.k (.d (.int .u64 1))]⟩ ::
 ⟨some 5,none,.bin .neq,[.t 4,.k (.d (.int .i64 0))]⟩ ::
 ⟨some 2,none,.mov,[.t 5]⟩ ::
 []) [2])
 (.ret))
theorem Jx:Ch E0 Ek F_ [.t 2] 6:=AM (fl:=[]) (by kernel_rfl)
abbrev Cb:Nat:=86
def Eb:PC :=
 .seq (.reg [] (
 ⟨some 3,none,.mov,[.k (.d (.bool false))]⟩ ::
 []) [0,1])
 (.seq (.reg [] (
 ⟨some 4,none,.mov,[.t 0]⟩ ::
 ⟨some 5,none,.load false 1,[.t 1]⟩ ::
 ⟨some 6,none,.call 77,[.t 4,.t 5]⟩ ::
 ⟨some 3,none,.mov,[.t 6]⟩ ::
 []) [3])
 (.ret))
theorem G7:Ch E0 Cb Eb [.t 3] 7:=AM (fl:=[]) (by kernel_rfl)
abbrev DW:Nat:=87
def DJ:PC :=
 .seq (.reg [] (
 ⟨some 4,none,.mov,[.k (.d (.int .i64 0))]⟩ ::
 []) [0,1])
 (.seq (.seq (.reg [] (
 ⟨some 6,none,.mov,[.t 0]⟩ ::
 ⟨some 7,none,.len false,[.t 6]⟩ ::
 ⟨some 8,none,.mov,[.k (.d (.int .i64 0))]⟩ ::
 []) [0,1,7,8])
 (.block 0
 (.loop [] [0,1,7,8] [900000,900001,901000,901001]
 (.seq (.reg [] (
 ⟨some 9,none,.bin .lss,[.t 8,.t 7]⟩ ::
 []) [0,1,7,8,9])
 (.seq (.cond (.t 9)
 (.skip)
 (.exit 0))
 (.seq (.block 1
 (.seq (.reg [] (
 ⟨some 10,none,.mov,[.t 8]⟩ ::
 ⟨some 5,none,.mov,[.t 10]⟩ ::
 []) [0,1,5,7,8])
 (.seq (.reg [] (
 ⟨some 11,none,.mov,[.t 1]⟩ ::
 ⟨some 12,none,.mov,[.t 0]⟩ ::
 ⟨some 13,none,.mov,[.t 5]⟩ ::
 ⟨some 14,none,.iaddrS 1,[.t 12,.t 13]⟩ ::
 ⟨some 15,none,.load false 1,[.t 14]⟩ ::
 ⟨some 16,none,.callv,[.t 11,.t 15]⟩ ::
 []) [0,1,5,7,8,16])
 (.cond (.t 16)
 (.seq (.reg [] (
 ⟨some 17,none,.mov,[.t 5]⟩ ::
 ⟨some 4,none,.mov,[.t 17]⟩ ::
 []) [4])
 (.ret))
 (.skip)))))
 (.reg [] (
 ⟨some 18,none,.bin .add,[.t 8,.k (.d (.int .i64 1))]⟩ ::
 ⟨some 8,none,.mov,[.t 18]⟩ ::
 []) [0,1,7,8])))))))
 (.seq (.reg [] (
 ⟨some 4,none,.mov,[.k (.d (.int .i64 (-1)))]⟩ ::
 []) [4])
 (.ret)))
theorem FH:Ch E0 DW DJ [.t 4] 19:=AM (fl:=[]) (by kernel_rfl)
abbrev Iq:Nat:=88
abbrev Ku:Nat:=89
def JT:PC :=
 .seq (.reg [] (
 ⟨some 6,none,.mov,[.k (.d (.bool false))]⟩ ::
 []) [0,1,2])
 (.seq (.reg [] (
 ⟨some 7,none,.mov,[.t 0]⟩ ::
 ⟨some 8,none,.mov,[.t 1]⟩ ::
 ⟨some 9,none,.bin .geq,[.t 7,.t 8]⟩ ::
 ⟨some 10,none,.mov,[.t 9]⟩ ::
 ⟨some 11,some (10,true),.mov,[.t 0]⟩ ::
 ⟨some 12,some (10,true),.mov,[.t 2]⟩ ::
 ⟨some 13,some (10,true),.bin .leq,[.t 11,.t 12]⟩ ::
 ⟨some 14,none,.pick,[.t 10,.t 13,.k (.d (.bool false))]⟩ ::
 ⟨some 6,none,.mov,[.t 14]⟩ ::
 []) [6])
 (.ret))
theorem N3:Ch E0 Ku JT [.t 6] 15:=AM (fl:=[]) (by kernel_rfl)
abbrev Lk:Nat:=90
def KH:PC :=
 .seq (.reg [] (
 ⟨some 1,none,.box,[.t 0]⟩ ::
 ⟨some 2,none,.mov,[.k (.d (.int .i64 0))]⟩ ::
 []) [1])
 (.seq (.seq (.reg [] (
 ⟨some 3,none,.faddr 0,[.t 1]⟩ ::
 ⟨some 4,none,.load false 1,[.t 3]⟩ ::
 ⟨some 5,none,.call 69,[.t 4,.k (.d (.int .i64 2)),.k (.d (.int .i64 15))]⟩ ::
 ⟨some 6,none,.un .not,[.t 5]⟩ ::
 ⟨some 7,none,.mov,[.t 6]⟩ ::
 ⟨some 8,some (7,false),.faddr 1,[.t 1]⟩ ::
 ⟨some 9,some (7,false),.load false 1,[.t 8]⟩ ::
 ⟨some 10,some (7,false),.call 69,[.t 9,.k (.d (.int .i64 1)),.k (.d (.int .i64 8))]⟩ ::
 ⟨some 11,some (7,false),.un .not,[.t 10]⟩ ::
 ⟨some 12,none,.pick,[.t 7,.k (.d (.bool true)),.t 11]⟩ ::
 ⟨some 13,none,.mov,[.t 12]⟩ ::
 ⟨some 14,some (13,false),.faddr 1,[.t 1]⟩ ::
 ⟨some 15,some (13,false),.load false 1,[.t 14]⟩ ::
 ⟨some 16,some (13,false),.faddr 0,[.t 1]⟩ ::
 ⟨some 17,some (13,false),.load false 1,[.t 16]⟩ ::
 ⟨some 18,some (13,false),.bin .geq,[.t 15,.t 17]⟩ ::
 ⟨some 19,none,.pick,[.t 13,.k (.d (.bool true)),.t 18]⟩ ::
 []) [19])
 (.cond (.t 19)
 (.seq (.reg [] (
 ⟨some 2,none,.mov,[.k (.d (.int .i64 50))]⟩ ::
 []) [2])
 (.ret))
 (.skip)))
 (.seq (.reg [] (
 ⟨some 2,none,.mov,[.k (.d (.int .i64 0))]⟩ ::
 []) [2])
 (.ret)))
theorem Ou:Ch E0 Lk KH [.t 2] 20:=AM (fl:=[]) (by kernel_rfl)
abbrev Jh:Nat:=91
def IE:PC :=
 .seq (.reg [] (
 ⟨some 2,none,.mov,[.k (.d (.bool false))]⟩ ::
 []) [0])
 (.seq (.seq (.reg [] (
 ⟨some 3,none,.mov,[.k (.d (.int .i64 0))]⟩ ::
 []) [0,3])
 (.block 0
 (.loop [] [0,3] [900000,901000]
 (.seq (.seq (.reg [] (
 ⟨some 4,none,.mov,[.t 3]⟩ ::
 ⟨some 5,none,.mov,[.t 0]⟩ ::
 ⟨some 6,none,.len false,[.t 5]⟩ ::
 ⟨some 7,none,.bin .lss,[.t 4,.t 6]⟩ ::
 []) [0,3,7])
 (.cond (.t 7)
 (.skip)
 (.exit 0)))
 (.seq (.block 1
 (.seq (.reg [] (
 ⟨some 10,none,.mov,[.t 0]⟩ ::
 ⟨some 11,none,.mov,[.t 3]⟩ ::
 ⟨some 12,none,.iaddrS 1,[.t 10,.t 11]⟩ ::
 ⟨some 13,none,.load false 1,[.t 12]⟩ ::
 ⟨some 14,none,.call 89,[.t 13,.k (.d (.int .i64 0)),.k (.d (.int .i64 1))]⟩ ::
 ⟨some 15,none,.un .not,[.t 14]⟩ ::
 []) [0,3,15])
 (.cond (.t 15)
 (.seq (.reg [] (
 ⟨some 2,none,.mov,[.k (.d (.bool false))]⟩ ::
 []) [2])
 (.ret))
 (.skip))))
 (.reg [] (
 ⟨some 8,none,.mov,[.t 3]⟩ ::
 ⟨some 9,none,.bin .add,[.t 8,.k (.d (.int .i64 1))]⟩ ::
 ⟨some 3,none,.mov,[.t 9]⟩ ::
 []) [0,3]))))))
 (.seq (.reg [] (
 ⟨some 2,none,.mov,[.k (.d (.bool true))]⟩ ::
 []) [2])
 (.ret)))
theorem M4:Ch E0 Jh IE [.t 2] 16:=AM (fl:=[]) (by kernel_rfl)
abbrev Ks:Nat:=92
def JQ:PC :=
 .seq (.reg [] (
 ⟨some 2,none,.mov,[.k (.d (.list true []))]⟩ ::
 []) [0])
 (.seq (.reg [] (
 ⟨some 3,none,.mov,[.t 0]⟩ ::
 ⟨some 4,none,.bin .quo,[.t 3,.k (.d (.int .i64 8))]⟩ ::
 ⟨some 5,none,.mov,[.t 0]⟩ ::
 ⟨some 6,none,.bin .quo,[.t 5,.k (.d (.int .i64 4))]⟩ ::
 ⟨some 7,none,.bin .rem,[.t 6,.k (.d (.int .i64 2))]⟩ ::
 ⟨some 8,none,.mov,[.t 0]⟩ ::
 ⟨some 9,none,.bin .quo,[.t 8,.k (.d (.int .i64 2))]⟩ ::
 ⟨some 10,none,.bin .rem,[.t 9,.k (.d (.int .i64 2))]⟩ ::
 ⟨some 11,none,.mov,[.t 0]⟩ ::
 ⟨some 12,none,.bin .rem,[.t 11,.k (.d (.int .i64 2))]⟩ ::
 ⟨some 13,none,.mkrowO 3 1 (.int .i64 0) 4 [0,1,2,3],[.t 4,.t 7,.t 10,.t 12]⟩ ::
 ⟨some 2,none,.mov,[.t 13]⟩ ::
 []) [2])
 (.ret))
theorem N0:Ch E0 Ks JQ [.t 2] 14:=AM (fl:=[]) (by kernel_rfl)
abbrev Kv:Nat:=93
def JU:PC :=
 .seq (.reg [] (
 ⟨some 3,none,.box,[.t 0]⟩ ::
 ⟨some 6,none,.mov,[.k (.d (.list true []))]⟩ ::
 ⟨some 7,none,.mov,[.k (.d (.int .i64 0))]⟩ ::
 []) [1,2,3,6])
 (.seq (.seq (.reg [] (
 ⟨some 8,none,.mov,[.k (.d (.int .i64 0))]⟩ ::
 []) [1,2,3,6,8])
 (.block 0
 (.loop [.own 6 29 3 1] [1,2,3,6,8] [3,29,900000,900001,900002,901000,901001,901002]
 (.seq (.seq (.reg [] (
 ⟨some 9,none,.mov,[.t 8]⟩ ::
 ⟨some 10,none,.mov,[.t 2]⟩ ::
 ⟨some 11,none,.len false,[.t 10]⟩ ::
 ⟨some 12,none,.bin .lss,[.t 9,.t 11]⟩ ::
 []) [1,2,3,6,8,12])
 (.cond (.t 12)
 (.skip)
 (.exit 0)))
 (.seq (.block 1
 (.seq (.draw [] (
 (⟨some 15,none,.mov,[.t 6]⟩,[]) ::
 (⟨some 16,none,.load true 6,[.t 3]⟩,[]) ::
 (⟨some 17,none,.faddr 4,[.t 3]⟩,[]) ::
 (⟨some 18,none,.load false 1,[.t 17]⟩,[]) ::
 (⟨some 19,none,.mov,[.t 1]⟩,[]) ::
 (⟨some 20,none,.iaddrS 1,[.t 18,.t 19]⟩,[]) ::
 (⟨some 21,none,.load false 1,[.t 20]⟩,[]) ::
 (⟨some 22,none,.mov,[.t 2]⟩,[]) ::
 (⟨some 23,none,.mov,[.t 8]⟩,[]) ::
 (⟨some 24,none,.iaddrS 1,[.t 22,.t 23]⟩,[]) ::
 (⟨some 25,none,.load false 1,[.t 24]⟩,[]) ::
 (⟨some 26,none,.iaddrS 1,[.t 21,.t 25]⟩,[]) ::
 (⟨some 27,none,.load false 1,[.t 26]⟩,[]) ::
 (⟨some 28,none,.call 124,[.t 16,.t 27]⟩,[]) ::
 (⟨some 29,none,.app 3 1 none true,[.t 15,.t 28]⟩,[]) ::
 (⟨some 6,none,.mov,[.t 29]⟩,[]) ::
 []) [1,2,3,6,8])
 (.draw [] (
 (⟨some 30,none,.faddr 5,[.t 3]⟩,[]) ::
 (⟨some 31,none,.load false 1,[.t 30]⟩,[]) ::
 (⟨some 32,none,.mov,[.t 1]⟩,[]) ::
 (⟨some 33,none,.iaddrS 1,[.t 31,.t 32]⟩,[]) ::
 (⟨some 34,none,.load false 1,[.t 33]⟩,[]) ::
 (⟨some 35,none,.mov,[.t 2]⟩,[]) ::
 (⟨some 36,none,.mov,[.t 8]⟩,[]) ::
 (⟨some 37,none,.iaddrS 1,[.t 35,.t 36]⟩,[]) ::
 (⟨some 38,none,.load false 1,[.t 37]⟩,[]) ::
 (⟨some 39,none,.iaddrS 1,[.t 34,.t 38]⟩,[]) ::
 (⟨some 40,none,.load false 1,[.t 39]⟩,[]) ::
 (⟨some 1,none,.mov,[.t 40]⟩,[]) ::
 []) [1,2,3,6,8])))
 (.reg [] (
 ⟨some 13,none,.mov,[.t 8]⟩ ::
 ⟨some 14,none,.bin .add,[.t 13,.k (.d (.int .i64 1))]⟩ ::
 ⟨some 8,none,.mov,[.t 14]⟩ ::
 []) [1,2,3,6,8]))))))
 (.seq (.reg [] (
 ⟨some 41,none,.mov,[.t 6]⟩ ::
 ⟨some 42,none,.mov,[.t 1]⟩ ::
 ⟨some 6,none,.mov,[.t 41]⟩ ::
 ⟨some 7,none,.mov,[.t 42]⟩ ::
 []) [6,7])
 (.ret)))
theorem N4:Ch E0 Kv JU [.t 6,.t 7] 43:=AM (fl:=[29]) (by kernel_rfl)
abbrev eI:Nat:=94
abbrev iz:Nat:=95
abbrev X7:Nat:=96
abbrev eG:Nat:=97
abbrev Z9:Nat:=98
abbrev eJ:Nat:=99
abbrev VW:Nat:=100
abbrev FW:Nat:=101
def E5:PC :=
 .seq (.reg [] (
 ⟨some 4,none,.mov,[.k (.d (.int .i64 0))]⟩ ::
 []) [0,1])
 (.seq (.seq (.reg [] (
 ⟨some 6,none,.mov,[.t 0]⟩ ::
 ⟨some 7,none,.len false,[.t 6]⟩ ::
 ⟨some 8,none,.mov,[.k (.d (.int .i64 0))]⟩ ::
 []) [0,1,7,8])
 (.block 0
 (.loop [] [0,1,7,8] [900000,900001,901000,901001]
 (.seq (.reg [] (
 ⟨some 9,none,.bin .lss,[.t 8,.t 7]⟩ ::
 []) [0,1,7,8,9])
 (.seq (.cond (.t 9)
 (.skip)
 (.exit 0))
 (.seq (.block 1
 (.seq (.reg [] (
 ⟨some 10,none,.mov,[.t 8]⟩ ::
 ⟨some 5,none,.mov,[.t 10]⟩ ::
 []) [0,1,5,7,8])
 (.seq (.reg [] (
 ⟨some 11,none,.mov,[.t 1]⟩ ::
 ⟨some 12,none,.mov,[.t 0]⟩ ::
 ⟨some 13,none,.mov,[.t 5]⟩ ::
 ⟨some 14,none,.iaddrS 1,[.t 12,.t 13]⟩ ::
 ⟨some 15,none,.load false 1,[.t 14]⟩ ::
 ⟨some 16,none,.bin .eql,[.t 11,.t 15]⟩ ::
 []) [0,1,5,7,8,16])
 (.cond (.t 16)
 (.seq (.reg [] (
 ⟨some 17,none,.mov,[.t 5]⟩ ::
 ⟨some 4,none,.mov,[.t 17]⟩ ::
 []) [4])
 (.ret))
 (.skip)))))
 (.reg [] (
 ⟨some 18,none,.bin .add,[.t 8,.k (.d (.int .i64 1))]⟩ ::
 ⟨some 8,none,.mov,[.t 18]⟩ ::
 []) [0,1,7,8])))))))
 (.seq (.reg [] (
 ⟨some 4,none,.mov,[.k (.d (.int .i64 (-1)))]⟩ ::
 []) [4])
 (.ret)))
theorem Ht:Ch E0 FW E5 [.t 4] 19:=AM (fl:=[]) (by kernel_rfl)
abbrev EI:Nat:=102
def Gx:PC :=
 .seq (.reg [] (
 ⟨some 1,none,.box,[.t 0]⟩ ::
 ⟨some 2,none,.mov,[.k (.d (.int .i64 0))]⟩ ::
 []) [])
 (.seq (.reg [] (
 ⟨some 2,none,.mov,[.k (.d (.int .i64 0))]⟩ ::
 []) [2])
 (.ret))
theorem LL:Ch E0 EI Gx [.t 2] 3:=AM (fl:=[]) (by kernel_rfl)
abbrev K0:Nat:=103
def JZ:PC :=
 .seq (.reg [] (
 ⟨some 2,none,.mov,[.k (.d (.bool false))]⟩ ::
 []) [0])
 (.seq (.reg [] (
 ⟨some 3,none,.mov,[.t 0]⟩ ::
 ⟨some 4,none,.len false,[.t 3]⟩ ::
 ⟨some 5,none,.call 105,[.t 4,.k (.d (.int .i64 1)),.k (.d (.int .i64 16))]⟩ ::
 ⟨some 6,none,.mov,[.t 5]⟩ ::
 ⟨some 7,some (6,true),.mov,[.t 0]⟩ ::
 ⟨some 8,some (6,true),.call 104,[.t 7]⟩ ::
 ⟨some 9,none,.pick,[.t 6,.t 8,.k (.d (.bool false))]⟩ ::
 ⟨some 2,none,.mov,[.t 9]⟩ ::
 []) [2])
 (.ret))
theorem N9:Ch E0 K0 JZ [.t 2] 10:=AM (fl:=[]) (by kernel_rfl)
abbrev Oe:Nat:=104
def Mh:PC :=
 .seq (.reg [] (
 ⟨some 2,none,.mov,[.k (.d (.bool false))]⟩ ::
 []) [0])
 (.seq (.reg [] (
 ⟨some 3,none,.mov,[.t 0]⟩ ::
 ⟨some 4,none,.call 84,[.t 3,.k (.fn 129 [])]⟩ ::
 ⟨some 5,none,.un .not,[.t 4]⟩ ::
 ⟨some 2,none,.mov,[.t 5]⟩ ::
 []) [2])
 (.ret))
theorem Q5:Ch E0 Oe Mh [.t 2] 6:=AM (fl:=[]) (by kernel_rfl)
abbrev Kz:Nat:=105
def JY:PC :=
 .seq (.reg [] (
 ⟨some 6,none,.mov,[.k (.d (.bool false))]⟩ ::
 []) [0,1,2])
 (.seq (.reg [] (
 ⟨some 7,none,.mov,[.t 1]⟩ ::
 ⟨some 8,none,.mov,[.t 0]⟩ ::
 ⟨some 9,none,.bin .leq,[.t 7,.t 8]⟩ ::
 ⟨some 10,none,.mov,[.t 9]⟩ ::
 ⟨some 11,some (10,true),.mov,[.t 0]⟩ ::
 ⟨some 12,some (10,true),.mov,[.t 2]⟩ ::
 ⟨some 13,some (10,true),.bin .leq,[.t 11,.t 12]⟩ ::
 ⟨some 14,none,.pick,[.t 10,.t 13,.k (.d (.bool false))]⟩ ::
 ⟨some 6,none,.mov,[.t 14]⟩ ::
 []) [6])
 (.ret))
theorem N8:Ch E0 Kz JY [.t 6] 15:=AM (fl:=[]) (by kernel_rfl)
abbrev Is:Nat:=106
def Hc:PC :=
 .seq (.reg [] (
 ⟨some 4,none,.mov,[.k (.d (.int .i64 0))]⟩ ::
 []) [0,1,4])
 (.seq (.seq (.reg [] (
 ⟨some 7,none,.mov,[.t 0]⟩ ::
 ⟨some 8,none,.len false,[.t 7]⟩ ::
 ⟨some 9,none,.mov,[.k (.d (.int .i64 0))]⟩ ::
 []) [1,4,7,8,9])
 (.block 0
 (.loop [] [1,4,7,8,9] [900000,900001,901000,901001]
 (.seq (.reg [] (
 ⟨some 10,none,.bin .lss,[.t 9,.t 8]⟩ ::
 []) [1,4,7,8,9,10])
 (.seq (.cond (.t 10)
 (.skip)
 (.exit 0))
 (.seq (.block 1
 (.seq (.reg [] (
 ⟨some 11,none,.mov,[.t 9]⟩ ::
 ⟨some 12,none,.iaddrS 1,[.t 7,.t 9]⟩ ::
 ⟨some 13,none,.load false 1,[.t 12]⟩ ::
 ⟨some 5,none,.mov,[.t 11]⟩ ::
 ⟨some 6,none,.mov,[.t 13]⟩ ::
 []) [1,4,5,6,7,8,9])
 (.reg [] (
 ⟨some 14,none,.mov,[.t 4]⟩ ::
 ⟨some 15,none,.mov,[.t 6]⟩ ::
 ⟨some 16,none,.mov,[.t 1]⟩ ::
 ⟨some 17,none,.mov,[.t 5]⟩ ::
 ⟨some 18,none,.iaddrS 1,[.t 16,.t 17]⟩ ::
 ⟨some 19,none,.load false 1,[.t 18]⟩ ::
 ⟨some 20,none,.bin .xor,[.t 15,.t 19]⟩ ::
 ⟨some 21,none,.bin .add,[.t 14,.t 20]⟩ ::
 ⟨some 4,none,.mov,[.t 21]⟩ ::
 []) [1,4,7,8,9])))
 (.reg [] (
 ⟨some 22,none,.bin .add,[.t 9,.k (.d (.int .i64 1))]⟩ ::
 ⟨some 9,none,.mov,[.t 22]⟩ ::
 []) [1,4,7,8,9])))))))
 (.seq (.reg [] (
 ⟨some 23,none,.mov,[.t 4]⟩ ::
 ⟨some 4,none,.mov,[.t 23]⟩ ::
 []) [4])
 (.ret)))
theorem L8:Ch E0 Is Hc [.t 4] 24:=AM (fl:=[]) (by kernel_rfl)
abbrev GT:Nat:=107
def IR:PC :=
 .seq (.reg [] (
 ⟨some 3,none,.mov,[.k (.d (.bool false))]⟩ ::
 []) [0,1])
 (.seq (.reg [] (
 ⟨some 4,none,.mov,[.t 0]⟩ ::
 ⟨some 5,none,.faddr 0,[.t 1]⟩ ::
 ⟨some 6,none,.faddr 1,[.t 5]⟩ ::
 ⟨some 7,none,.load false 1,[.t 6]⟩ ::
 ⟨some 8,none,.bin .shl,[.k (.d (.int .i64 1)),.t 7]⟩ ::
 ⟨some 9,none,.bin .sub,[.t 8,.k (.d (.int .i64 1))]⟩ ::
 ⟨some 10,none,.call 105,[.t 4,.k (.d (.int .i64 0)),.t 9]⟩ ::
 ⟨some 11,none,.un .not,[.t 10]⟩ ::
 ⟨some 3,none,.mov,[.t 11]⟩ ::
 []) [3])
 (.ret))
theorem ND:Ch E0 GT IR [.t 3] 12:=AM (fl:=[]) (by kernel_rfl)
abbrev GS:Nat:=108
def IQ:PC :=
 .seq (.reg [] (
 ⟨some 3,none,.mov,[.k (.d (.bool false))]⟩ ::
 []) [0,1])
 (.seq (.reg [] (
 ⟨some 4,none,.load true 6,[.t 1]⟩ ::
 ⟨some 5,none,.mov,[.t 0]⟩ ::
 ⟨some 6,none,.call 109,[.t 4,.t 5]⟩ ::
 ⟨some 7,none,.un .not,[.t 6]⟩ ::
 ⟨some 3,none,.mov,[.t 7]⟩ ::
 []) [3])
 (.ret))
theorem NC:Ch E0 GS IQ [.t 3] 8:=AM (fl:=[]) (by kernel_rfl)
abbrev HK:Nat:=109
def GY:PC :=
 .seq (.reg [] (
 ⟨some 2,none,.box,[.t 0]⟩ ::
 ⟨some 4,none,.mov,[.k (.d (.bool false))]⟩ ::
 []) [1,2])
 (.seq (.reg [] (
 ⟨some 5,none,.mov,[.t 1]⟩ ::
 ⟨some 6,none,.faddr 0,[.t 2]⟩ ::
 ⟨some 7,none,.faddr 4,[.t 6]⟩ ::
 ⟨some 8,none,.load false 1,[.t 7]⟩ ::
 ⟨some 9,none,.len false,[.t 8]⟩ ::
 ⟨some 10,none,.bin .sub,[.t 9,.k (.d (.int .i64 1))]⟩ ::
 ⟨some 11,none,.call 105,[.t 5,.k (.d (.int .i64 0)),.t 10]⟩ ::
 ⟨some 4,none,.mov,[.t 11]⟩ ::
 []) [4])
 (.ret))
theorem Kj:Ch E0 HK GY [.t 4] 12:=AM (fl:=[]) (by kernel_rfl)
abbrev HJ:Nat:=110
def GX:PC :=
 .seq (.reg [] (
 ⟨some 1,none,.box,[.t 0]⟩ ::
 ⟨some 2,none,.mov,[.k (.d (.int .i64 0))]⟩ ::
 []) [1])
 (.seq (.reg [] (
 ⟨some 3,none,.faddr 0,[.t 1]⟩ ::
 ⟨some 4,none,.faddr 0,[.t 3]⟩ ::
 ⟨some 5,none,.load false 1,[.t 4]⟩ ::
 ⟨some 6,none,.bin .shl,[.k (.d (.int .i64 1)),.t 5]⟩ ::
 ⟨some 2,none,.mov,[.t 6]⟩ ::
 []) [2])
 (.ret))
theorem Ki:Ch E0 HJ GX [.t 2] 7:=AM (fl:=[]) (by kernel_rfl)
abbrev Nb:Nat:=111
def LZ:PC :=
 .seq (.reg [] (
 ⟨some 2,none,.box,[.t 0]⟩ ::
 ⟨some 4,none,.zero [.int .i64 0,.int .i64 0,.int .i64 0,.int .i64 0,.list true [],.list true []],[]⟩ ::
 ⟨some 5,none,.mov,[.k (.d (.int .i64 0))]⟩ ::
 []) [1,2,4])
 (.seq (.reg [] (
 ⟨some 8,none,.load true 6,[.t 2]⟩ ::
 ⟨some 9,none,.build [.int .i64 0,.int .i64 0,.int .i64 0,.int .i64 0,.list true [],.list true []] [(0,6)],[.t 8]⟩ ::
 ⟨some 6,none,.zero [.int .i64 0,.int .i64 0,.int .i64 0,.int .i64 0,.list true [],.list true []],[]⟩ ::
 ⟨none,none,.store 6,[.t 6,.t 9]⟩ ::
 []) [1,2,4,6])
 (.seq (.seq (.reg [] (
 ⟨some 10,none,.load true 6,[.t 2]⟩ ::
 ⟨some 11,none,.call 74,[.t 10]⟩ ::
 ⟨some 7,none,.mov,[.t 11]⟩ ::
 []) [1,4,6,7])
 (.seq (.reg [] (
 ⟨some 12,none,.mov,[.t 7]⟩ ::
 ⟨some 13,none,.bin .neq,[.t 12,.k (.d (.int .i64 0))]⟩ ::
 []) [1,4,6,7,13])
 (.cond (.t 13)
 (.seq (.reg [] (
 ⟨some 14,none,.load true 6,[.t 6]⟩ ::
 ⟨some 15,none,.mov,[.t 7]⟩ ::
 ⟨none,none,.store 6,[.t 4,.t 14]⟩ ::
 ⟨some 5,none,.mov,[.t 15]⟩ ::
 []) [4,5])
 (.ret))
 (.skip))))
 (.seq (.seq (.reg [] (
 ⟨some 16,none,.load true 6,[.t 6]⟩ ::
 ⟨some 17,none,.mov,[.t 1]⟩ ::
 ⟨some 18,none,.call 109,[.t 16,.t 17]⟩ ::
 ⟨some 19,none,.un .not,[.t 18]⟩ ::
 []) [4,6,19])
 (.cond (.t 19)
 (.seq (.reg [] (
 ⟨some 20,none,.load true 6,[.t 6]⟩ ::
 ⟨none,none,.store 6,[.t 4,.t 20]⟩ ::
 ⟨some 5,none,.mov,[.k (.d (.int .i64 41))]⟩ ::
 []) [4,5])
 (.ret))
 (.skip)))
 (.seq (.reg [] (
 ⟨some 21,none,.load true 6,[.t 6]⟩ ::
 ⟨none,none,.store 6,[.t 4,.t 21]⟩ ::
 ⟨some 5,none,.mov,[.k (.d (.int .i64 0))]⟩ ::
 []) [4,5])
 (.ret)))))
theorem QE:Ch E0 Nb LZ [.c 4 131 true 6,.t 5] 22:=AM (fl:=[]) (by kernel_rfl)
abbrev Fy:Nat:=112
def He:PC :=
 .seq (.reg [] (
 ⟨some 3,none,.mov,[.k (.d (.bool false))]⟩ ::
 []) [0,1])
 (.seq (.reg [] (
 ⟨some 4,none,.mov,[.t 0]⟩ ::
 ⟨some 5,none,.load true 6,[.t 1]⟩ ::
 ⟨some 6,none,.call 110,[.t 5]⟩ ::
 ⟨some 7,none,.bin .sub,[.t 6,.k (.d (.int .i64 1))]⟩ ::
 ⟨some 8,none,.call 105,[.t 4,.k (.d (.int .i64 0)),.t 7]⟩ ::
 ⟨some 9,none,.un .not,[.t 8]⟩ ::
 ⟨some 3,none,.mov,[.t 9]⟩ ::
 []) [3])
 (.ret))
theorem L_:Ch E0 Fy He [.t 3] 10:=AM (fl:=[]) (by kernel_rfl)
abbrev Fd:Nat:=113
def Gy:PC :=
 .seq (.reg [] (
 ⟨some 3,none,.box,[.t 0]⟩ ::
 ⟨some 6,none,.mov,[.k (.d (.list true []))]⟩ ::
 []) [1,2,3])
 (.seq (.reg [] (
 ⟨some 7,none,.mov,[.k (.d (.list true []))]⟩ ::
 []) [1,2,3,7])
 (.seq (.seq (.reg [] (
 ⟨some 9,none,.faddr 0,[.t 3]⟩ ::
 ⟨some 10,none,.faddr 1,[.t 9]⟩ ::
 ⟨some 11,none,.load false 1,[.t 10]⟩ ::
 ⟨some 12,none,.bin .sub,[.t 11,.k (.d (.int .i64 1))]⟩ ::
 ⟨some 8,none,.mov,[.t 12]⟩ ::
 []) [1,2,3,7,8])
 (.block 0
 (.loop [.own 7 31 3 1] [1,2,3,7,8] [3,31,900000,900001,900002,901000,901001,901002]
 (.seq (.seq (.reg [] (
 ⟨some 13,none,.mov,[.t 8]⟩ ::
 ⟨some 14,none,.bin .geq,[.t 13,.k (.d (.int .i64 0))]⟩ ::
 []) [1,2,3,7,8,14])
 (.cond (.t 14)
 (.skip)
 (.exit 0)))
 (.seq (.block 1
 (.reg [] (
 ⟨some 17,none,.mov,[.t 7]⟩ ::
 ⟨some 18,none,.faddr 0,[.t 3]⟩ ::
 ⟨some 19,none,.faddr 4,[.t 18]⟩ ::
 ⟨some 20,none,.load false 1,[.t 19]⟩ ::
 ⟨some 21,none,.mov,[.t 1]⟩ ::
 ⟨some 22,none,.iaddrS 1,[.t 20,.t 21]⟩ ::
 ⟨some 23,none,.load false 1,[.t 22]⟩ ::
 ⟨some 24,none,.mov,[.t 2]⟩ ::
 ⟨some 25,none,.iaddrS 1,[.t 23,.t 24]⟩ ::
 ⟨some 26,none,.load false 1,[.t 25]⟩ ::
 ⟨some 27,none,.mov,[.t 8]⟩ ::
 ⟨some 28,none,.bin .shr,[.t 26,.t 27]⟩ ::
 ⟨some 29,none,.bin .and,[.t 28,.k (.d (.int .i64 1))]⟩ ::
 ⟨some 30,none,.mkrow 1 (.int .i64 0) 1 [0],[.t 29]⟩ ::
 ⟨some 31,none,.app 3 1 none true,[.t 17,.t 30]⟩ ::
 ⟨some 7,none,.mov,[.t 31]⟩ ::
 []) [1,2,3,7,8]))
 (.reg [] (
 ⟨some 15,none,.mov,[.t 8]⟩ ::
 ⟨some 16,none,.bin .sub,[.t 15,.k (.d (.int .i64 1))]⟩ ::
 ⟨some 8,none,.mov,[.t 16]⟩ ::
 []) [1,2,3,7,8]))))))
 (.seq (.reg [] (
 ⟨some 32,none,.mov,[.t 7]⟩ ::
 ⟨some 6,none,.mov,[.t 32]⟩ ::
 []) [6])
 (.ret))))
theorem LM:Ch E0 Fd Gy [.t 6] 33:=AM (fl:=[]) (by kernel_rfl)
abbrev Lo:Nat:=114
def KL:PC :=
 .seq (.reg [] (
 ⟨some 4,none,.mov,[.k (.d (.bool false))]⟩ ::
 []) [0,1])
 (.seq (.reg [] (
 ⟨some 5,none,.mov,[.t 0]⟩ ::
 ⟨some 6,none,.len false,[.t 5]⟩ ::
 ⟨some 7,none,.mov,[.t 1]⟩ ::
 ⟨some 8,none,.bin .eql,[.t 6,.t 7]⟩ ::
 ⟨some 9,none,.mov,[.t 8]⟩ ::
 ⟨some 10,some (9,true),.mov,[.t 0]⟩ ::
 ⟨some 11,some (9,true),.call 84,[.t 10,.k (.fn 130 [])]⟩ ::
 ⟨some 12,some (9,true),.un .not,[.t 11]⟩ ::
 ⟨some 13,none,.pick,[.t 9,.t 12,.k (.d (.bool false))]⟩ ::
 ⟨some 4,none,.mov,[.t 13]⟩ ::
 []) [4])
 (.ret))
theorem Oy:Ch E0 Lo KL [.t 4] 14:=AM (fl:=[]) (by kernel_rfl)
abbrev CA:Nat:=115
def B3:PC :=
 .seq (.reg [] (
 ⟨some 2,none,.mov,[.k (.d (.list true []))]⟩ ::
 []) [0])
 (.seq (.seq (.reg [] (
 ⟨some 3,none,.mov,[.t 0]⟩ ::
 ⟨some 4,none,.eqnil false,[.t 3,.k (.d (.list true []))]⟩ ::
 []) [0,4])
 (.cond (.t 4)
 (.seq (.reg [] (
 ⟨some 2,none,.mov,[.k (.d (.list true []))]⟩ ::
 []) [2])
 (.ret))
 (.skip)))
 (.seq (.reg [] (
 ⟨some 5,none,.mkrow 1 (.int .u8 0) 0 [],[]⟩ ::
 ⟨some 6,none,.mov,[.t 0]⟩ ::
 ⟨some 7,none,.app 135 1 none true,[.t 5,.t 6]⟩ ::
 ⟨some 2,none,.mov,[.t 7]⟩ ::
 []) [2])
 (.ret)))
theorem DS:Ch E0 CA B3 [.t 2] 8:=AM (fl:=[]) (by kernel_rfl)
abbrev Fa:Nat:=116
def E9:PC :=
 .seq (.reg [] (
 ⟨some 4,none,.mov,[.k (.d (.int .u8 0))]⟩ ::
 []) [0,1])
 (.seq (.seq (.reg [] (
 ⟨some 5,none,.mov,[.t 0]⟩ ::
 ⟨some 6,none,.bin .eql,[.t 5,.k (.d (.int .u8 0))]⟩ ::
 ⟨some 7,none,.mov,[.t 6]⟩ ::
 ⟨some 8,some (7,false),.mov,[.t 1]⟩ ::
 ⟨some 9,some (7,false),.bin .eql,[.t 8,.k (.d (.int .u8 0))]⟩ ::
 ⟨some 10,none,.pick,[.t 7,.k (.d (.bool true)),.t 9]⟩ ::
 []) [0,1,10])
 (.cond (.t 10)
 (.seq (.reg [] (
 ⟨some 4,none,.mov,[.k (.d (.int .u8 0))]⟩ ::
 []) [4])
 (.ret))
 (.skip)))
 (.seq (.draw [] (
 (⟨some 11,none,.mov,[.t 0]⟩,[]) ::
 (⟨some 12,none,.iaddrA 16 1,[.k (.d (.ptr [.int .i64 0,.int .i64 0,.int .i64 1,.int .i64 4,.int .i64 2,.int .i64 8,.int .i64 5,.int .i64 10,.int .i64 3,.int .i64 14,.int .i64 9,.int .i64 7,.int .i64 6,.int .i64 13,.int .i64 11,.int .i64 12])),.t 11]⟩,[]) ::
 (⟨some 13,none,.load false 1,[.t 12]⟩,[]) ::
 (⟨some 14,none,.mov,[.t 1]⟩,[]) ::
 (⟨some 15,none,.iaddrA 16 1,[.k (.d (.ptr [.int .i64 0,.int .i64 0,.int .i64 1,.int .i64 4,.int .i64 2,.int .i64 8,.int .i64 5,.int .i64 10,.int .i64 3,.int .i64 14,.int .i64 9,.int .i64 7,.int .i64 6,.int .i64 13,.int .i64 11,.int .i64 12])),.t 14]⟩,[]) ::
 (⟨some 16,none,.load false 1,[.t 15]⟩,[]) ::
 (⟨some 17,none,.bin .add,[.t 13,.t 16]⟩,[]) ::
 (⟨some 18,none,.call 117,[.t 17]⟩,[]) ::
 (⟨some 4,none,.mov,[.t 18]⟩,[]) ::
 []) [4])
 (.ret)))
theorem Hx:Ch E0 Fa E9 [.t 4] 19:=AM (fl:=[]) (by kernel_rfl)
abbrev Jm:Nat:=117
def IK:PC :=
 .seq (.reg [] (
 ⟨some 2,none,.mov,[.k (.d (.int .u8 0))]⟩ ::
 []) [0])
 (.seq (.reg [] (
 ⟨some 3,none,.mov,[.t 0]⟩ ::
 ⟨some 4,none,.bin .rem,[.t 3,.k (.d (.int .i64 15))]⟩ ::
 ⟨some 5,none,.iaddrA 15 1,[.k (.d (.ptr [.int .u8 1,.int .u8 2,.int .u8 4,.int .u8 8,.int .u8 3,.int .u8 6,.int .u8 12,.int .u8 11,.int .u8 5,.int .u8 10,.int .u8 7,.int .u8 14,.int .u8 15,.int .u8 13,.int .u8 9])),.t 4]⟩ ::
 ⟨some 6,none,.load false 1,[.t 5]⟩ ::
 ⟨some 2,none,.mov,[.t 6]⟩ ::
 []) [2])
 (.ret))
theorem M9:Ch E0 Jm IK [.t 2] 7:=AM (fl:=[]) (by kernel_rfl)
abbrev B7:Nat:=118
def B2:PC :=
 .seq (.reg [] (
 ⟨some 2,none,.mov,[.k (.d (.list true []))]⟩ ::
 []) [0])
 (.seq (.reg [] (
 ⟨some 3,none,.mov,[.k (.d (.int .i64 0))]⟩ ::
 []) [0,3])
 (.seq (.seq (.reg [] (
 ⟨some 9,none,.mov,[.t 0]⟩ ::
 ⟨some 10,none,.len false,[.t 9]⟩ ::
 ⟨some 11,none,.mov,[.k (.d (.int .i64 0))]⟩ ::
 []) [0,3,9,10,11])
 (.block 0
 (.loop [] [0,3,9,10,11] [900000,901000]
 (.seq (.reg [] (
 ⟨some 12,none,.bin .lss,[.t 11,.t 10]⟩ ::
 []) [0,3,9,10,11,12])
 (.seq (.cond (.t 12)
 (.skip)
 (.exit 0))
 (.seq (.block 1
 (.seq (.reg [] (
 ⟨some 13,none,.iaddrS 1,[.t 9,.t 11]⟩ ::
 ⟨some 14,none,.load false 1,[.t 13]⟩ ::
 ⟨some 5,none,.mov,[.t 14]⟩ ::
 []) [0,3,5,9,10,11])
 (.seq (.reg [] (
 ⟨some 15,none,.mov,[.t 3]⟩ ::
 ⟨some 16,none,.mov,[.t 5]⟩ ::
 ⟨some 17,none,.len false,[.t 16]⟩ ::
 ⟨some 18,none,.bin .add,[.t 15,.t 17]⟩ ::
 ⟨some 3,none,.mov,[.t 18]⟩ ::
 []) [0,3,9,10,11])
 (.seq (.reg [] (
 ⟨some 19,none,.mov,[.t 3]⟩ ::
 ⟨some 20,none,.bin .lss,[.t 19,.k (.d (.int .i64 0))]⟩ ::
 []) [0,3,9,10,11,20])
 (.cond (.t 20)
 (.dead)
 (.skip))))))
 (.reg [] (
 ⟨some 22,none,.bin .add,[.t 11,.k (.d (.int .i64 1))]⟩ ::
 ⟨some 11,none,.mov,[.t 22]⟩ ::
 []) [0,3,9,10,11])))))))
 (.seq (.reg [] (
 ⟨some 23,none,.mov,[.t 3]⟩ ::
 ⟨some 24,none,.call 131,[.k (.d (.list true [])),.t 23]⟩ ::
 ⟨some 6,none,.mov,[.t 24]⟩ ::
 []) [0,6])
 (.seq (.seq (.reg [] (
 ⟨some 25,none,.mov,[.t 0]⟩ ::
 ⟨some 26,none,.len false,[.t 25]⟩ ::
 ⟨some 27,none,.mov,[.k (.d (.int .i64 0))]⟩ ::
 []) [6,25,26,27])
 (.block 2
 (.loop [.own 6 33 135 1] [6,25,26,27] [24,33,10024,900000,901000]
 (.seq (.reg [] (
 ⟨some 28,none,.bin .lss,[.t 27,.t 26]⟩ ::
 []) [6,25,26,27,28])
 (.seq (.cond (.t 28)
 (.skip)
 (.exit 2))
 (.seq (.block 3
 (.seq (.reg [] (
 ⟨some 29,none,.iaddrS 1,[.t 25,.t 27]⟩ ::
 ⟨some 30,none,.load false 1,[.t 29]⟩ ::
 ⟨some 8,none,.mov,[.t 30]⟩ ::
 []) [6,8,25,26,27])
 (.reg [] (
 ⟨some 31,none,.mov,[.t 6]⟩ ::
 ⟨some 32,none,.mov,[.t 8]⟩ ::
 ⟨some 33,none,.app 135 1 none true,[.t 31,.t 32]⟩ ::
 ⟨some 6,none,.mov,[.t 33]⟩ ::
 []) [6,25,26,27])))
 (.reg [] (
 ⟨some 34,none,.bin .add,[.t 27,.k (.d (.int .i64 1))]⟩ ::
 ⟨some 27,none,.mov,[.t 34]⟩ ::
 []) [6,25,26,27])))))))
 (.seq (.reg [] (
 ⟨some 35,none,.mov,[.t 6]⟩ ::
 ⟨some 2,none,.mov,[.t 35]⟩ ::
 []) [2])
 (.ret))))))
theorem DM:Ch E0 B7 B2 [.t 2] 36:=AM (fl:=[]) (by kernel_rfl)
abbrev Ca:Nat:=119
def DE:PC :=
 .seq (.reg [] (
 ⟨some 4,none,.mov,[.k (.d (.int .i64 0))]⟩ ::
 []) [0,1,2,4])
 (.block 0
 (.loop [] [0,1,2,4] [900000,900001,900002,901000,901001,901002]
 (.seq (.seq (.reg [] (
 ⟨some 6,none,.mov,[.t 4]⟩ ::
 ⟨some 7,none,.load false 1,[.t 1]⟩ ::
 ⟨some 8,none,.len false,[.t 7]⟩ ::
 ⟨some 9,none,.bin .lss,[.t 6,.t 8]⟩ ::
 []) [0,1,2,4,9])
 (.cond (.t 9)
 (.skip)
 (.exit 0)))
 (.seq (.block 1
 (.seq (.draw [] (
 (⟨some 13,none,.load false 1,[.t 2]⟩,[]) ::
 (⟨some 14,none,.load false 1,[.t 1]⟩,[]) ::
 (⟨some 15,none,.mov,[.t 4]⟩,[]) ::
 (⟨some 16,none,.slice 1 true false false,[.t 14,.t 15]⟩,[0]) ::
 (⟨some 17,none,.len false,[.t 16]⟩,[]) ::
 (⟨some 18,none,.minmax false,[.t 13,.t 17]⟩,[]) ::
 (⟨some 5,none,.mov,[.t 18]⟩,[]) ::
 []) [0,1,2,4,5])
 (.seq (.yld [] (
 ⟨some 19,none,.mov,[.t 0]⟩ ::
 ⟨some 20,none,.load false 1,[.t 1]⟩ ::
 ⟨some 21,none,.mov,[.t 4]⟩ ::
 ⟨some 22,none,.mov,[.t 4]⟩ ::
 ⟨some 23,none,.mov,[.t 5]⟩ ::
 ⟨some 24,none,.bin .add,[.t 22,.t 23]⟩ ::
 ⟨some 25,none,.mov,[.t 4]⟩ ::
 ⟨some 26,none,.mov,[.t 5]⟩ ::
 ⟨some 27,none,.bin .add,[.t 25,.t 26]⟩ ::
 ⟨some 28,none,.slice 1 true true true,[.t 20,.t 21,.t 24,.t 27]⟩ ::
 []) (some 29) (.t 19) [.t 28] (
 ⟨some 30,none,.un .not,[.t 29]⟩ ::
 []) [0,1,2,4,30])
 (.cond (.t 30)
 (.ret)
 (.skip)))))
 (.reg [] (
 ⟨some 10,none,.mov,[.t 4]⟩ ::
 ⟨some 11,none,.load false 1,[.t 2]⟩ ::
 ⟨some 12,none,.bin .add,[.t 10,.t 11]⟩ ::
 ⟨some 4,none,.mov,[.t 12]⟩ ::
 []) [0,1,2,4])))))
theorem G4:Ch E0 Ca DE [] 31:=AM (fl:=[1000029]) (by kernel_rfl)
theorem EH:Bl E0.P Ca=true:=by kernel_rfl
abbrev C9:Nat:=120
def Cx:PC :=
 .seq (.reg [] (
 ⟨some 4,none,.mov,[.k (.d (.int .i64 0))]⟩ ::
 []) [0,1])
 (.seq (.seq (.reg [] (
 ⟨some 6,none,.mov,[.t 0]⟩ ::
 ⟨some 7,none,.len false,[.t 6]⟩ ::
 ⟨some 8,none,.mov,[.k (.d (.int .i64 0))]⟩ ::
 []) [0,1,7,8])
 (.block 0
 (.loop [] [0,1,7,8] [900000,900001,901000,901001]
 (.seq (.reg [] (
 ⟨some 9,none,.bin .lss,[.t 8,.t 7]⟩ ::
 []) [0,1,7,8,9])
 (.seq (.cond (.t 9)
 (.skip)
 (.exit 0))
 (.seq (.block 1
 (.seq (.reg [] (
 ⟨some 10,none,.mov,[.t 8]⟩ ::
 ⟨some 5,none,.mov,[.t 10]⟩ ::
 []) [0,1,5,7,8])
 (.seq (.reg [] (
 ⟨some 11,none,.mov,[.t 1]⟩ ::
 ⟨some 12,none,.mov,[.t 0]⟩ ::
 ⟨some 13,none,.mov,[.t 5]⟩ ::
 ⟨some 14,none,.iaddrS 1,[.t 12,.t 13]⟩ ::
 ⟨some 15,none,.load false 1,[.t 14]⟩ ::
 ⟨some 16,none,.callv,[.t 11,.t 15]⟩ ::
 []) [0,1,5,7,8,16])
 (.cond (.t 16)
 (.seq (.reg [] (
 ⟨some 17,none,.mov,[.t 5]⟩ ::
 ⟨some 4,none,.mov,[.t 17]⟩ ::
 []) [4])
 (.ret))
 (.skip)))))
 (.reg [] (
 ⟨some 18,none,.bin .add,[.t 8,.k (.d (.int .i64 1))]⟩ ::
 ⟨some 8,none,.mov,[.t 18]⟩ ::
 []) [0,1,7,8])))))))
 (.seq (.reg [] (
 ⟨some 4,none,.mov,[.k (.d (.int .i64 (-1)))]⟩ ::
 []) [4])
 (.ret)))
theorem Dv:Ch E0 C9 Cx [.t 4] 19:=AM (fl:=[]) (by kernel_rfl)
abbrev C_:Nat:=121
def GW:PC :=
 .seq (.reg [] (
 ⟨some 1,none,.box,[.t 0]⟩ ::
 ⟨some 2,none,.mov,[.k (.d (.int .i64 0))]⟩ ::
 []) [1])
 (.seq (.reg [] (
 ⟨some 3,none,.faddr 0,[.t 1]⟩ ::
 ⟨some 4,none,.faddr 0,[.t 3]⟩ ::
 ⟨some 5,none,.load false 1,[.t 4]⟩ ::
 ⟨some 2,none,.mov,[.t 5]⟩ ::
 []) [2])
 (.ret))
theorem Kh:Ch E0 C_ GW [.t 2] 6:=AM (fl:=[]) (by kernel_rfl)
abbrev Io:Nat:=122
def HZ:PC :=
 .seq (.reg [] (
 ⟨some 4,none,.mov,[.k (.d (.bool false))]⟩ ::
 []) [0,1])
 (.seq (.seq (.reg [] (
 ⟨some 7,none,.mov,[.t 0]⟩ ::
 ⟨some 8,none,.len false,[.t 7]⟩ ::
 ⟨some 9,none,.mov,[.k (.d (.int .i64 0))]⟩ ::
 []) [0,1,7,8,9])
 (.block 0
 (.loop [] [0,1,7,8,9] [900000,900001,901000,901001]
 (.seq (.reg [] (
 ⟨some 10,none,.bin .lss,[.t 9,.t 8]⟩ ::
 []) [0,1,7,8,9,10])
 (.seq (.cond (.t 10)
 (.skip)
 (.exit 0))
 (.seq (.block 1
 (.seq (.reg [] (
 ⟨some 11,none,.mov,[.t 9]⟩ ::
 ⟨some 12,none,.iaddrS 1,[.t 7,.t 9]⟩ ::
 ⟨some 13,none,.load false 1,[.t 12]⟩ ::
 ⟨some 5,none,.mov,[.t 11]⟩ ::
 ⟨some 6,none,.mov,[.t 13]⟩ ::
 []) [0,1,5,6,7,8,9])
 (.seq (.reg [] (
 ⟨some 14,none,.mov,[.t 6]⟩ ::
 ⟨some 15,none,.bin .lss,[.t 14,.k (.d (.int .i64 0))]⟩ ::
 ⟨some 16,none,.mov,[.t 15]⟩ ::
 ⟨some 17,some (16,false),.mov,[.t 6]⟩ ::
 ⟨some 18,some (16,false),.mov,[.t 1]⟩ ::
 ⟨some 19,some (16,false),.bin .geq,[.t 17,.t 18]⟩ ::
 ⟨some 20,none,.pick,[.t 16,.k (.d (.bool true)),.t 19]⟩ ::
 ⟨some 21,none,.mov,[.t 20]⟩ ::
 ⟨some 22,some (21,false),.mov,[.t 5]⟩ ::
 ⟨some 23,some (21,false),.bin .gtr,[.t 22,.k (.d (.int .i64 0))]⟩ ::
 ⟨some 24,some (21,false),.mov,[.t 23]⟩ ::
 ⟨some 25,some (24,true),.mov,[.t 6]⟩ ::
 ⟨some 26,some (24,true),.mov,[.t 0]⟩ ::
 ⟨some 27,some (24,true),.mov,[.t 5]⟩ ::
 ⟨some 28,some (24,true),.bin .sub,[.t 27,.k (.d (.int .i64 1))]⟩ ::
 ⟨some 29,some (24,true),.iaddrS 1,[.t 26,.t 28]⟩ ::
 ⟨some 30,some (24,true),.load false 1,[.t 29]⟩ ::
 ⟨some 31,some (24,true),.bin .leq,[.t 25,.t 30]⟩ ::
 ⟨some 32,some (21,false),.pick,[.t 24,.t 31,.k (.d (.bool false))]⟩ ::
 ⟨some 33,none,.pick,[.t 21,.k (.d (.bool true)),.t 32]⟩ ::
 []) [0,1,7,8,9,33])
 (.cond (.t 33)
 (.seq (.reg [] (
 ⟨some 4,none,.mov,[.k (.d (.bool false))]⟩ ::
 []) [4])
 (.ret))
 (.skip)))))
 (.reg [] (
 ⟨some 34,none,.bin .add,[.t 9,.k (.d (.int .i64 1))]⟩ ::
 ⟨some 9,none,.mov,[.t 34]⟩ ::
 []) [0,1,7,8,9])))))))
 (.seq (.reg [] (
 ⟨some 4,none,.mov,[.k (.d (.bool true))]⟩ ::
 []) [4])
 (.ret)))
theorem L5:Ch E0 Io HZ [.t 4] 35:=AM (fl:=[]) (by kernel_rfl)
abbrev Fp:Nat:=123
def FM:PC :=
 .seq (.reg [] (
 ⟨some 3,none,.box,[.t 0]⟩ ::
 ⟨some 4,none,.box,[.t 1]⟩ ::
 ⟨some 5,none,.box,[.t 2]⟩ ::
 ⟨some 6,none,.zero [.list true []],[]⟩ ::
 ⟨some 7,none,.zero [.bool false],[]⟩ ::
 []) [3,4,5,6,7])
 (.seq (.reg [] (
 ⟨some 10,none,.load true 2,[.t 3]⟩ ::
 ⟨some 11,none,.load false 1,[.t 4]⟩ ::
 ⟨some 12,none,.call 132,[.t 10,.t 11]⟩ ::
 ⟨some 8,none,.zero [.list true []],[]⟩ ::
 ⟨none,none,.store 1,[.t 8,.t 12]⟩ ::
 []) [3,4,5,6,7,8])
 (.seq (.seq (.reg [.frzP 3,.frzP 4,.frzP 5,.frzP 8] (
 ⟨some 9,none,.mov,[.k (.d (.int .i64 0))]⟩ ::
 []) [3,4,5,6,7,8,9])
 (.block 0
 (.loop [] [3,4,5,6,7,8,9] [3,4,5,6,7,8,12,10012,900000,900001,900002,901000,901001,901002]
 (.seq (.seq (.reg [] (
 ⟨some 13,none,.mov,[.t 9]⟩ ::
 ⟨some 14,none,.bin .mul,[.k (.d (.int .i64 2)),.t 13]⟩ ::
 ⟨some 15,none,.load false 1,[.t 5]⟩ ::
 ⟨some 16,none,.len false,[.t 15]⟩ ::
 ⟨some 17,none,.bin .add,[.t 14,.t 16]⟩ ::
 ⟨some 18,none,.faddr 0,[.t 3]⟩ ::
 ⟨some 19,none,.faddr 1,[.t 18]⟩ ::
 ⟨some 20,none,.load false 1,[.t 19]⟩ ::
 ⟨some 21,none,.bin .leq,[.t 17,.t 20]⟩ ::
 ⟨some 22,none,.mov,[.t 21]⟩ ::
 ⟨some 23,some (22,true),.load false 1,[.t 7]⟩ ::
 ⟨some 24,some (22,true),.un .not,[.t 23]⟩ ::
 ⟨some 25,none,.pick,[.t 22,.t 24,.k (.d (.bool false))]⟩ ::
 []) [3,4,5,6,7,8,9,25])
 (.cond (.t 25)
 (.skip)
 (.exit 0)))
 (.seq (.block 1
 (.reg [] (
 ⟨some 28,none,.load true 2,[.t 3]⟩ ::
 ⟨some 29,none,.load false 1,[.t 5]⟩ ::
 ⟨some 30,none,.mov,[.t 9]⟩ ::
 ⟨some 31,none,.mkfn 134,[.t 5,.t 3,.t 8,.t 4,.t 6,.t 7]⟩ ::
 ⟨some 32,none,.call 133,[.t 28,.t 29,.k (.d (.int .i64 0)),.t 30,.t 31]⟩ ::
 []) [3,4,5,6,7,8,9]))
 (.reg [] (
 ⟨some 26,none,.mov,[.t 9]⟩ ::
 ⟨some 27,none,.bin .add,[.t 26,.k (.d (.int .i64 1))]⟩ ::
 ⟨some 9,none,.mov,[.t 27]⟩ ::
 []) [3,4,5,6,7,8,9]))))))
 (.seq (.draw [] (
 (⟨some 33,none,.load false 1,[.t 6]⟩,[]) ::
 (⟨some 34,none,.load false 1,[.t 7]⟩,[]) ::
 (⟨none,none,.store 1,[.t 6,.t 33]⟩,[1]) ::
 (⟨none,none,.store 1,[.t 7,.t 34]⟩,[]) ::
 []) [6,7])
 (.ret))))
theorem IZ:Ch E0 Fp FM [.c 6 110 false 1,.c 7 4 false 1] 35:=AM (fl:=[]) (by kernel_rfl)
abbrev Kw:Nat:=124
def JV:PC :=
 .seq (.reg [] (
 ⟨some 2,none,.box,[.t 0]⟩ ::
 ⟨some 4,none,.mov,[.k (.d (.list true []))]⟩ ::
 []) [1,2])
 (.seq (.reg [] (
 ⟨some 5,none,.mov,[.k (.d (.list true []))]⟩ ::
 []) [1,2,5])
 (.seq (.seq (.reg [] (
 ⟨some 7,none,.faddr 1,[.t 2]⟩ ::
 ⟨some 8,none,.load false 1,[.t 7]⟩ ::
 ⟨some 9,none,.bin .sub,[.t 8,.k (.d (.int .i64 1))]⟩ ::
 ⟨some 6,none,.mov,[.t 9]⟩ ::
 []) [1,5,6])
 (.block 0
 (.loop [.own 5 21 3 1] [1,5,6] [21,900001,901001]
 (.seq (.seq (.reg [] (
 ⟨some 10,none,.mov,[.t 6]⟩ ::
 ⟨some 11,none,.bin .geq,[.t 10,.k (.d (.int .i64 0))]⟩ ::
 []) [1,5,6,11])
 (.cond (.t 11)
 (.skip)
 (.exit 0)))
 (.seq (.block 1
 (.reg [] (
 ⟨some 14,none,.mov,[.t 5]⟩ ::
 ⟨some 15,none,.mov,[.t 1]⟩ ::
 ⟨some 16,none,.mov,[.t 6]⟩ ::
 ⟨some 17,none,.conv .u64,[.t 16]⟩ ::
 ⟨some 18,none,.bin .shr,[.t 15,.t 17]⟩ ::
 ⟨some 19,none,.bin .and,[.t 18,.k (.d (.int .i64 1))]⟩ ::
 ⟨some 20,none,.mkrow 1 (.int .i64 0) 1 [0],[.t 19]⟩ ::
 ⟨some 21,none,.app 3 1 none true,[.t 14,.t 20]⟩ ::
 ⟨some 5,none,.mov,[.t 21]⟩ ::
 []) [1,5,6]))
 (.reg [] (
 ⟨some 12,none,.mov,[.t 6]⟩ ::
 ⟨some 13,none,.bin .sub,[.t 12,.k (.d (.int .i64 1))]⟩ ::
 ⟨some 6,none,.mov,[.t 13]⟩ ::
 []) [1,5,6]))))))
 (.seq (.reg [] (
 ⟨some 22,none,.mov,[.t 5]⟩ ::
 ⟨some 4,none,.mov,[.t 22]⟩ ::
 []) [4])
 (.ret))))
theorem N5:Ch E0 Kw JV [.t 4] 23:=AM (fl:=[]) (by kernel_rfl)
abbrev eV:Nat:=125
abbrev iw:Nat:=126
abbrev Z_:Nat:=127
abbrev iy:Nat:=128
abbrev H5:Nat:=129
def KM:PC :=
 .seq (.reg [] (
 ⟨some 2,none,.mov,[.k (.d (.bool false))]⟩ ::
 []) [0])
 (.seq (.reg [] (
 ⟨some 3,none,.mov,[.t 0]⟩ ::
 ⟨some 4,none,.bin .neq,[.t 3,.k (.d (.int .i64 0))]⟩ ::
 ⟨some 5,none,.mov,[.t 4]⟩ ::
 ⟨some 6,some (5,true),.mov,[.t 0]⟩ ::
 ⟨some 7,some (5,true),.bin .neq,[.t 6,.k (.d (.int .i64 1))]⟩ ::
 ⟨some 8,none,.pick,[.t 5,.t 7,.k (.d (.bool false))]⟩ ::
 ⟨some 2,none,.mov,[.t 8]⟩ ::
 []) [2])
 (.ret))
theorem Oz:Ch E0 H5 KM [.t 2] 9:=AM (fl:=[]) (by kernel_rfl)
abbrev Dx:Nat:=130
def IL:PC :=
 .seq (.reg [] (
 ⟨some 2,none,.mov,[.k (.d (.bool false))]⟩ ::
 []) [0])
 (.seq (.reg [] (
 ⟨some 3,none,.mov,[.t 0]⟩ ::
 ⟨some 4,none,.bin .lss,[.t 3,.k (.d (.int .i64 0))]⟩ ::
 ⟨some 5,none,.mov,[.t 4]⟩ ::
 ⟨some 6,some (5,false),.mov,[.t 0]⟩ ::
 ⟨some 7,some (5,false),.bin .gtr,[.t 6,.k (.d (.int .i64 15))]⟩ ::
 ⟨some 8,none,.pick,[.t 5,.k (.d (.bool true)),.t 7]⟩ ::
 ⟨some 2,none,.mov,[.t 8]⟩ ::
 []) [2])
 (.ret))
theorem M_:Ch E0 Dx IL [.t 2] 9:=AM (fl:=[]) (by kernel_rfl)
abbrev BU:Nat:=131
def Bg:PC :=
 .seq (.reg [] (
 ⟨some 4,none,.mov,[.k (.d (.list true []))]⟩ ::
 []) [0,1])
 (.seq (.seq (.reg [] (
 ⟨some 5,none,.mov,[.t 1]⟩ ::
 ⟨some 6,none,.bin .lss,[.t 5,.k (.d (.int .i64 0))]⟩ ::
 []) [0,1,6])
 (.cond (.t 6)
 (.dead)
 (.skip)))
 (.seq (.seq (.reg [] (
 ⟨some 8,none,.mov,[.t 1]⟩ ::
 ⟨some 9,none,.mov,[.t 0]⟩ ::
 ⟨some 10,none,.cap,[.t 9]⟩ ::
 ⟨some 11,none,.mov,[.t 0]⟩ ::
 ⟨some 12,none,.len false,[.t 11]⟩ ::
 ⟨some 13,none,.bin .sub,[.t 10,.t 12]⟩ ::
 ⟨some 14,none,.bin .sub,[.t 8,.t 13]⟩ ::
 ⟨some 1,none,.mov,[.t 14]⟩ ::
 []) [0,1])
 (.seq (.reg [] (
 ⟨some 15,none,.mov,[.t 1]⟩ ::
 ⟨some 16,none,.bin .gtr,[.t 15,.k (.d (.int .i64 0))]⟩ ::
 []) [0,1,16])
 (.cond (.t 16)
 (.reg [] (
 ⟨some 17,none,.mov,[.t 0]⟩ ::
 ⟨some 18,none,.mov,[.t 0]⟩ ::
 ⟨some 19,none,.cap,[.t 18]⟩ ::
 ⟨some 20,none,.slice 1 false true false,[.t 17,.t 19]⟩ ::
 ⟨some 21,none,.mov,[.t 1]⟩ ::
 ⟨some 22,none,.app 135 1 (some (.int .u8 0)) true,[.t 20,.t 21]⟩ ::
 ⟨some 23,none,.mov,[.t 0]⟩ ::
 ⟨some 24,none,.len false,[.t 23]⟩ ::
 ⟨some 25,none,.slice 1 false true false,[.t 22,.t 24]⟩ ::
 ⟨some 0,none,.mov,[.t 25]⟩ ::
 []) [0])
 (.skip))))
 (.seq (.reg [] (
 ⟨some 26,none,.mov,[.t 0]⟩ ::
 ⟨some 4,none,.mov,[.t 26]⟩ ::
 []) [4])
 (.ret))))
theorem B5:Ch E0 BU Bg [.t 4] 27:=AM (fl:=[]) (by kernel_rfl)
abbrev Gc:Nat:=132
def F8:PC :=
 .seq (.reg [] (
 ⟨some 2,none,.box,[.t 0]⟩ ::
 ⟨some 4,none,.mov,[.k (.d (.list true []))]⟩ ::
 []) [1,2])
 (.seq (.reg [] (
 ⟨some 9,none,.faddr 0,[.t 2]⟩ ::
 ⟨some 10,none,.faddr 1,[.t 9]⟩ ::
 ⟨some 11,none,.load false 1,[.t 10]⟩ ::
 ⟨some 12,none,.mksl 135 1 (.int .u8 0) true,[.t 11,.t 11]⟩ ::
 ⟨some 5,none,.mov,[.t 12]⟩ ::
 []) [1,2,5])
 (.seq (.seq (.reg [] (
 ⟨some 13,none,.mov,[.t 5]⟩ ::
 ⟨some 14,none,.len false,[.t 13]⟩ ::
 ⟨some 15,none,.mov,[.k (.d (.int .i64 0))]⟩ ::
 []) [1,2,5,14,15])
 (.block 0
 (.loop [] [1,2,5,14,15] [2,12,900000,900001,901000,901001]
 (.seq (.reg [] (
 ⟨some 16,none,.bin .lss,[.t 15,.t 14]⟩ ::
 []) [1,2,5,14,15,16])
 (.seq (.cond (.t 16)
 (.skip)
 (.exit 0))
 (.seq (.block 1
 (.seq (.reg [] (
 ⟨some 17,none,.mov,[.t 15]⟩ ::
 ⟨some 6,none,.mov,[.t 17]⟩ ::
 []) [1,2,5,6,14,15])
 (.seq (.reg [] (
 ⟨some 18,none,.mov,[.t 1]⟩ ::
 ⟨some 19,none,.len false,[.t 18]⟩ ::
 ⟨some 20,none,.mov,[.k (.d (.int .i64 0))]⟩ ::
 []) [1,2,5,6,14,15,18,19,20])
 (.block 2
 (.loop [] [1,2,5,6,14,15,18,19,20] [2,12,900000,900001,901000,901001]
 (.seq (.reg [] (
 ⟨some 21,none,.bin .lss,[.t 20,.t 19]⟩ ::
 []) [1,2,5,6,14,15,18,19,20,21])
 (.seq (.cond (.t 21)
 (.skip)
 (.exit 2))
 (.seq (.block 3
 (.seq (.reg [] (
 ⟨some 22,none,.mov,[.t 20]⟩ ::
 ⟨some 23,none,.iaddrS 1,[.t 18,.t 20]⟩ ::
 ⟨some 24,none,.load false 1,[.t 23]⟩ ::
 ⟨some 7,none,.mov,[.t 22]⟩ ::
 ⟨some 8,none,.mov,[.t 24]⟩ ::
 []) [1,2,5,6,7,8,14,15,18,19,20])
 (.draw [] (
 (⟨some 25,none,.mov,[.t 5]⟩,[]) ::
 (⟨some 26,none,.mov,[.t 6]⟩,[]) ::
 (⟨some 27,none,.iaddrS 1,[.t 25,.t 26]⟩,[]) ::
 (⟨some 28,none,.load false 1,[.t 27]⟩,[]) ::
 (⟨some 29,none,.mov,[.t 8]⟩,[]) ::
 (⟨some 30,none,.load true 2,[.t 2]⟩,[]) ::
 (⟨some 31,none,.mov,[.t 6]⟩,[]) ::
 (⟨some 32,none,.mov,[.t 7]⟩,[]) ::
 (⟨some 33,none,.call 141,[.t 30,.t 31,.t 32]⟩,[2,3]) ::
 (⟨some 34,none,.call 116,[.t 29,.t 33]⟩,[2,3]) ::
 (⟨some 35,none,.bin .xor,[.t 28,.t 34]⟩,[]) ::
 (⟨some 36,none,.iaddrS 1,[.t 25,.t 26]⟩,[]) ::
 (⟨none,none,.store 1,[.t 36,.t 35]⟩,[]) ::
 []) [1,2,5,6,14,15,18,19,20])))
 (.reg [] (
 ⟨some 37,none,.bin .add,[.t 20,.k (.d (.int .i64 1))]⟩ ::
 ⟨some 20,none,.mov,[.t 37]⟩ ::
 []) [1,2,5,6,14,15,18,19,20])))))))))
 (.reg [] (
 ⟨some 38,none,.bin .add,[.t 15,.k (.d (.int .i64 1))]⟩ ::
 ⟨some 15,none,.mov,[.t 38]⟩ ::
 []) [1,2,5,14,15])))))))
 (.seq (.reg [] (
 ⟨some 39,none,.mov,[.t 5]⟩ ::
 ⟨some 4,none,.mov,[.t 39]⟩ ::
 []) [4])
 (.ret))))
theorem Jv:Ch E0 Gc F8 [.t 4] 40:=AM (fl:=[]) (by kernel_rfl)
abbrev Fc:Nat:=133
def Dc:PC :=
 .seq (.reg [] (
 ⟨some 5,none,.box,[.t 0]⟩ ::
 ⟨some 9,none,.box,[.t 4]⟩ ::
 ⟨some 10,none,.mov,[.k (.d (.bool false))]⟩ ::
 []) [1,2,3,5,9])
 (.seq (.seq (.reg [] (
 ⟨some 12,none,.mov,[.t 3]⟩ ::
 ⟨some 13,none,.bin .eql,[.t 12,.k (.d (.int .i64 0))]⟩ ::
 []) [1,2,3,5,9,13])
 (.cond (.t 13)
 (.seq (.reg [] (
 ⟨some 14,none,.load false 1,[.t 9]⟩ ::
 ⟨some 15,none,.callv,[.t 14,.k (.d (.list true []))]⟩ ::
 ⟨some 10,none,.mov,[.t 15]⟩ ::
 []) [10])
 (.ret))
 (.skip)))
 (.seq (.seq (.reg [.frzP 5,.frzA 9] (
 ⟨some 16,none,.mov,[.t 2]⟩ ::
 ⟨some 11,none,.zero [.int .i64 0],[]⟩ ::
 ⟨none,none,.store 1,[.t 11,.t 16]⟩ ::
 []) [1,3,5,9,11])
 (.block 0
 (.loop [] [1,3,5,9,11] [5,9,11,900000,900001,900002,900003,900004,901000,901001,901002,901003,901004]
 (.seq (.seq (.reg [] (
 ⟨some 17,none,.load false 1,[.t 11]⟩ ::
 ⟨some 18,none,.faddr 0,[.t 5]⟩ ::
 ⟨some 19,none,.faddr 0,[.t 18]⟩ ::
 ⟨some 20,none,.load false 1,[.t 19]⟩ ::
 ⟨some 21,none,.bin .lss,[.t 17,.t 20]⟩ ::
 []) [1,3,5,9,11,21])
 (.cond (.t 21)
 (.skip)
 (.exit 0)))
 (.seq (.block 1
 (.seq (.seq (.reg [] (
 ⟨some 24,none,.mov,[.t 1]⟩ ::
 ⟨some 25,none,.load false 1,[.t 11]⟩ ::
 ⟨some 26,none,.call 142,[.t 24,.t 25]⟩ ::
 []) [1,3,5,9,11,26])
 (.cond (.t 26)
 (.exit 1)
 (.skip)))
 (.seq (.reg [.frzP 11] (
 ⟨some 27,none,.load true 2,[.t 5]⟩ ::
 ⟨some 28,none,.mov,[.t 1]⟩ ::
 ⟨some 29,none,.load false 1,[.t 11]⟩ ::
 ⟨some 30,none,.bin .add,[.t 29,.k (.d (.int .i64 1))]⟩ ::
 ⟨some 31,none,.mov,[.t 3]⟩ ::
 ⟨some 32,none,.bin .sub,[.t 31,.k (.d (.int .i64 1))]⟩ ::
 ⟨some 33,none,.mkfn 143,[.t 9,.t 11]⟩ ::
 ⟨some 34,none,.call 133,[.t 27,.t 28,.t 30,.t 32,.t 33]⟩ ::
 ⟨some 35,none,.un .not,[.t 34]⟩ ::
 []) [1,3,5,9,11,35])
 (.cond (.t 35)
 (.seq (.reg [] (
 ⟨some 10,none,.mov,[.k (.d (.bool false))]⟩ ::
 []) [10])
 (.ret))
 (.skip)))))
 (.seq (.seq (.reg [] (
 ⟨some 36,none,.load false 1,[.t 11]⟩ ::
 []) [1,3,5,9,36])
 (.reg [] (
 ⟨some 11,none,.zero [.int .i64 0],[]⟩ ::
 ⟨none,none,.store 1,[.t 11,.t 36]⟩ ::
 []) [1,3,5,9,11]))
 (.reg [] (
 ⟨some 22,none,.load false 1,[.t 11]⟩ ::
 ⟨some 23,none,.bin .add,[.t 22,.k (.d (.int .i64 1))]⟩ ::
 ⟨none,none,.store 1,[.t 11,.t 23]⟩ ::
 []) [1,3,5,9,11])))))))
 (.seq (.reg [] (
 ⟨some 10,none,.mov,[.k (.d (.bool true))]⟩ ::
 []) [10])
 (.ret))))
theorem Ev:Ch E0 Fc Dc [.t 10] 37:=AM (fl:=[]) (by kernel_rfl)
abbrev Co:Nat:=134
def En:PC :=
 .seq (.reg [] (
 ⟨some 8,none,.mov,[.k (.d (.bool false))]⟩ ::
 []) [0,1,2,3,4,5,6])
 (.seq (.reg [] (
 ⟨some 14,none,.load false 1,[.t 1]⟩ ::
 ⟨some 15,none,.mov,[.t 0]⟩ ::
 ⟨some 16,none,.mkrow 1 (.list true []) 2 [0,1],[.t 14,.t 15]⟩ ::
 ⟨some 17,none,.call 135,[.t 16]⟩ ::
 ⟨some 9,none,.mov,[.t 17]⟩ ::
 []) [2,3,4,5,6,9])
 (.seq (.reg [] (
 ⟨some 19,none,.load true 2,[.t 2]⟩ ::
 ⟨some 20,none,.load false 1,[.t 3]⟩ ::
 ⟨some 21,none,.mov,[.t 9]⟩ ::
 ⟨some 22,none,.call 136,[.t 19,.t 20,.t 21]⟩ ::
 ⟨some 18,none,.mov,[.t 22]⟩ ::
 ⟨some 23,none,.extract 0,[.t 18]⟩ ::
 ⟨some 24,none,.extract 1,[.t 18]⟩ ::
 ⟨some 10,none,.mov,[.t 23]⟩ ::
 ⟨some 11,none,.mov,[.t 24]⟩ ::
 []) [4,5,6,9,10,11])
 (.seq (.seq (.reg [] (
 ⟨some 25,none,.mov,[.t 11]⟩ ::
 []) [4,5,6,9,10,11,25])
 (.cond (.t 25)
 (.seq (.reg [] (
 ⟨some 26,none,.load false 1,[.t 4]⟩ ::
 ⟨some 27,none,.call 115,[.t 26]⟩ ::
 ⟨none,none,.store 1,[.t 5,.t 27]⟩ ::
 ⟨none,none,.store 1,[.t 6,.k (.d (.bool true))]⟩ ::
 []) [5,9,10,11])
 (.seq (.reg [] (
 ⟨some 28,none,.mov,[.t 9]⟩ ::
 ⟨some 29,none,.len false,[.t 28]⟩ ::
 ⟨some 30,none,.mov,[.k (.d (.int .i64 0))]⟩ ::
 []) [5,10,11,28,29,30])
 (.block 0
 (.loop [] [5,10,11,28,29,30] [17,22,27,10017,10022,10027,900004,901004]
 (.seq (.reg [] (
 ⟨some 31,none,.bin .lss,[.t 30,.t 29]⟩ ::
 []) [5,10,11,28,29,30,31])
 (.seq (.cond (.t 31)
 (.skip)
 (.exit 0))
 (.seq (.block 1
 (.seq (.reg [] (
 ⟨some 32,none,.mov,[.t 30]⟩ ::
 ⟨some 33,none,.iaddrS 1,[.t 28,.t 30]⟩ ::
 ⟨some 34,none,.load false 1,[.t 33]⟩ ::
 ⟨some 12,none,.mov,[.t 32]⟩ ::
 ⟨some 13,none,.mov,[.t 34]⟩ ::
 []) [5,10,11,12,13,28,29,30])
 (.draw [] (
 (⟨some 35,none,.load false 1,[.t 5]⟩,[]) ::
 (⟨some 36,none,.mov,[.t 13]⟩,[]) ::
 (⟨some 37,none,.iaddrS 1,[.t 35,.t 36]⟩,[]) ::
 (⟨some 38,none,.load false 1,[.t 37]⟩,[]) ::
 (⟨some 39,none,.mov,[.t 10]⟩,[]) ::
 (⟨some 40,none,.mov,[.t 12]⟩,[]) ::
 (⟨some 41,none,.iaddrS 1,[.t 39,.t 40]⟩,[]) ::
 (⟨some 42,none,.load false 1,[.t 41]⟩,[]) ::
 (⟨some 43,none,.bin .xor,[.t 38,.t 42]⟩,[]) ::
 (⟨some 44,none,.iaddrS 1,[.t 35,.t 36]⟩,[]) ::
 (⟨none,none,.store 1,[.t 44,.t 43]⟩,[]) ::
 []) [5,10,11,28,29,30])))
 (.reg [] (
 ⟨some 45,none,.bin .add,[.t 30,.k (.d (.int .i64 1))]⟩ ::
 ⟨some 30,none,.mov,[.t 45]⟩ ::
 []) [5,10,11,28,29,30]))))))))
 (.skip)))
 (.seq (.reg [.frzC 5 0] (
 ⟨some 46,none,.mov,[.t 11]⟩ ::
 ⟨some 47,none,.un .not,[.t 46]⟩ ::
 ⟨some 8,none,.mov,[.t 47]⟩ ::
 []) [8])
 (.ret)))))
theorem HR:Ch E0 Co En [.t 8] 48:=AM (fl:=[]) (by kernel_rfl)
abbrev FE:Nat:=135
def Em:PC :=
 .seq (.reg [] (
 ⟨some 2,none,.mov,[.k (.d (.list true []))]⟩ ::
 []) [0])
 (.seq (.reg [] (
 ⟨some 3,none,.mov,[.k (.d (.int .i64 0))]⟩ ::
 []) [0,3])
 (.seq (.seq (.reg [] (
 ⟨some 9,none,.mov,[.t 0]⟩ ::
 ⟨some 10,none,.len false,[.t 9]⟩ ::
 ⟨some 11,none,.mov,[.k (.d (.int .i64 0))]⟩ ::
 []) [0,3,9,10,11])
 (.block 0
 (.loop [] [0,3,9,10,11] [900000,901000]
 (.seq (.reg [] (
 ⟨some 12,none,.bin .lss,[.t 11,.t 10]⟩ ::
 []) [0,3,9,10,11,12])
 (.seq (.cond (.t 12)
 (.skip)
 (.exit 0))
 (.seq (.block 1
 (.seq (.reg [] (
 ⟨some 13,none,.iaddrS 1,[.t 9,.t 11]⟩ ::
 ⟨some 14,none,.load false 1,[.t 13]⟩ ::
 ⟨some 5,none,.mov,[.t 14]⟩ ::
 []) [0,3,5,9,10,11])
 (.seq (.reg [] (
 ⟨some 15,none,.mov,[.t 3]⟩ ::
 ⟨some 16,none,.mov,[.t 5]⟩ ::
 ⟨some 17,none,.len false,[.t 16]⟩ ::
 ⟨some 18,none,.bin .add,[.t 15,.t 17]⟩ ::
 ⟨some 3,none,.mov,[.t 18]⟩ ::
 []) [0,3,9,10,11])
 (.seq (.reg [] (
 ⟨some 19,none,.mov,[.t 3]⟩ ::
 ⟨some 20,none,.bin .lss,[.t 19,.k (.d (.int .i64 0))]⟩ ::
 []) [0,3,9,10,11,20])
 (.cond (.t 20)
 (.dead)
 (.skip))))))
 (.reg [] (
 ⟨some 22,none,.bin .add,[.t 11,.k (.d (.int .i64 1))]⟩ ::
 ⟨some 11,none,.mov,[.t 22]⟩ ::
 []) [0,3,9,10,11])))))))
 (.seq (.reg [] (
 ⟨some 23,none,.mov,[.t 3]⟩ ::
 ⟨some 24,none,.call 144,[.k (.d (.list true [])),.t 23]⟩ ::
 ⟨some 6,none,.mov,[.t 24]⟩ ::
 []) [0,6])
 (.seq (.seq (.reg [] (
 ⟨some 25,none,.mov,[.t 0]⟩ ::
 ⟨some 26,none,.len false,[.t 25]⟩ ::
 ⟨some 27,none,.mov,[.k (.d (.int .i64 0))]⟩ ::
 []) [6,25,26,27])
 (.block 2
 (.loop [.own 6 33 3 1] [6,25,26,27] [24,33,10024,900000,901000]
 (.seq (.reg [] (
 ⟨some 28,none,.bin .lss,[.t 27,.t 26]⟩ ::
 []) [6,25,26,27,28])
 (.seq (.cond (.t 28)
 (.skip)
 (.exit 2))
 (.seq (.block 3
 (.seq (.reg [] (
 ⟨some 29,none,.iaddrS 1,[.t 25,.t 27]⟩ ::
 ⟨some 30,none,.load false 1,[.t 29]⟩ ::
 ⟨some 8,none,.mov,[.t 30]⟩ ::
 []) [6,8,25,26,27])
 (.reg [] (
 ⟨some 31,none,.mov,[.t 6]⟩ ::
 ⟨some 32,none,.mov,[.t 8]⟩ ::
 ⟨some 33,none,.app 3 1 none true,[.t 31,.t 32]⟩ ::
 ⟨some 6,none,.mov,[.t 33]⟩ ::
 []) [6,25,26,27])))
 (.reg [] (
 ⟨some 34,none,.bin .add,[.t 27,.k (.d (.int .i64 1))]⟩ ::
 ⟨some 27,none,.mov,[.t 34]⟩ ::
 []) [6,25,26,27])))))))
 (.seq (.reg [] (
 ⟨some 35,none,.mov,[.t 6]⟩ ::
 ⟨some 2,none,.mov,[.t 35]⟩ ::
 []) [2])
 (.ret))))))
theorem HQ:Ch E0 FE Em [.t 2] 36:=AM (fl:=[]) (by kernel_rfl)
abbrev GK:Nat:=136
def Fl:PC :=
 .seq (.reg [] (
 ⟨some 3,none,.box,[.t 0]⟩ ::
 ⟨some 5,none,.box,[.t 2]⟩ ::
 ⟨some 6,none,.mov,[.k (.d (.list true []))]⟩ ::
 ⟨some 7,none,.mov,[.k (.d (.bool false))]⟩ ::
 []) [1,3,5])
 (.seq (.reg [] (
 ⟨some 8,none,.mov,[.k (.d (.list true []))]⟩ ::
 []) [1,3,5,8])
 (.seq (.seq (.reg [.frzP 3,.frzP 5] (
 ⟨some 23,none,.mov,[.t 1]⟩ ::
 ⟨some 24,none,.len false,[.t 23]⟩ ::
 ⟨some 25,none,.mov,[.k (.d (.int .i64 0))]⟩ ::
 []) [3,5,8,23,24,25])
 (.block 0
 (.loop [.ownM 8 50 152 135] [3,5,8,23,24,25] [3,5,50,900000,900001,900002,901000,901001,901002]
 (.seq (.reg [] (
 ⟨some 26,none,.bin .lss,[.t 25,.t 24]⟩ ::
 []) [3,5,8,23,24,25,26])
 (.seq (.cond (.t 26)
 (.skip)
 (.exit 0))
 (.seq (.block 1
 (.seq (.reg [] (
 ⟨some 27,none,.mov,[.t 25]⟩ ::
 ⟨some 28,none,.iaddrS 1,[.t 23,.t 25]⟩ ::
 ⟨some 29,none,.load false 1,[.t 28]⟩ ::
 ⟨some 9,none,.mov,[.t 27]⟩ ::
 ⟨some 10,none,.mov,[.t 29]⟩ ::
 []) [3,5,8,9,10,23,24,25])
 (.seq (.reg [] (
 ⟨some 11,none,.mov,[.k (.d (.list true []))]⟩ ::
 []) [3,5,8,9,10,11,23,24,25])
 (.seq (.seq (.reg [] (
 ⟨some 30,none,.load false 1,[.t 5]⟩ ::
 ⟨some 31,none,.len false,[.t 30]⟩ ::
 ⟨some 32,none,.mov,[.k (.d (.int .i64 0))]⟩ ::
 []) [3,5,8,9,10,11,23,24,25,30,31,32])
 (.block 2
 (.loop [.ownM 8 50 152 135,.own 11 42 135 1] [3,5,8,9,10,11,23,24,25,30,31,32] [3,5,42,50,900000,900001,900002,901000,901001,901002]
 (.seq (.reg [] (
 ⟨some 33,none,.bin .lss,[.t 32,.t 31]⟩ ::
 []) [3,5,8,9,10,11,23,24,25,30,31,32,33])
 (.seq (.cond (.t 33)
 (.skip)
 (.exit 2))
 (.seq (.block 3
 (.seq (.reg [] (
 ⟨some 34,none,.iaddrS 1,[.t 30,.t 32]⟩ ::
 ⟨some 35,none,.load false 1,[.t 34]⟩ ::
 ⟨some 13,none,.mov,[.t 35]⟩ ::
 []) [3,5,8,9,10,11,13,23,24,25,30,31,32])
 (.reg [] (
 ⟨some 36,none,.mov,[.t 11]⟩ ::
 ⟨some 37,none,.load true 2,[.t 3]⟩ ::
 ⟨some 38,none,.mov,[.t 9]⟩ ::
 ⟨some 39,none,.mov,[.t 13]⟩ ::
 ⟨some 40,none,.call 141,[.t 37,.t 38,.t 39]⟩ ::
 ⟨some 41,none,.mkrow 1 (.int .u8 0) 1 [0],[.t 40]⟩ ::
 ⟨some 42,none,.app 135 1 none true,[.t 36,.t 41]⟩ ::
 ⟨some 11,none,.mov,[.t 42]⟩ ::
 []) [3,5,8,9,10,11,23,24,25,30,31,32])))
 (.reg [] (
 ⟨some 43,none,.bin .add,[.t 32,.k (.d (.int .i64 1))]⟩ ::
 ⟨some 32,none,.mov,[.t 43]⟩ ::
 []) [3,5,8,9,10,11,23,24,25,30,31,32])))))))
 (.reg [] (
 ⟨some 44,none,.mov,[.t 8]⟩ ::
 ⟨some 45,none,.mov,[.t 11]⟩ ::
 ⟨some 46,none,.mov,[.t 10]⟩ ::
 ⟨some 47,none,.mkrow 1 (.int .u8 0) 1 [0],[.t 46]⟩ ::
 ⟨some 48,none,.app 135 1 none false,[.t 45,.t 47]⟩ ::
 ⟨some 49,none,.mkrow 1 (.list true []) 1 [0],[.t 48]⟩ ::
 ⟨some 50,none,.app 152 1 none true,[.t 44,.t 49]⟩ ::
 ⟨some 8,none,.mov,[.t 50]⟩ ::
 []) [3,5,8,23,24,25])))))
 (.reg [] (
 ⟨some 51,none,.bin .add,[.t 25,.k (.d (.int .i64 1))]⟩ ::
 ⟨some 25,none,.mov,[.t 51]⟩ ::
 []) [3,5,8,23,24,25])))))))
 (.seq (.seq (.reg [] (
 ⟨some 52,none,.load false 1,[.t 5]⟩ ::
 ⟨some 53,none,.len false,[.t 52]⟩ ::
 ⟨some 54,none,.mov,[.k (.d (.int .i64 0))]⟩ ::
 []) [5,8,53,54])
 (.block 4
 (.loop [.ownM 8 50 152 135] [5,8,53,54] [5,50,900002,901002]
 (.seq (.reg [] (
 ⟨some 55,none,.bin .lss,[.t 54,.t 53]⟩ ::
 []) [5,8,53,54,55])
 (.seq (.cond (.t 55)
 (.skip)
 (.exit 4))
 (.seq (.block 5
 (.seq (.reg [] (
 ⟨some 56,none,.mov,[.t 54]⟩ ::
 ⟨some 14,none,.mov,[.t 56]⟩ ::
 []) [5,8,14,53,54])
 (.seq (.reg [] (
 ⟨some 57,none,.mov,[.t 14]⟩ ::
 ⟨some 15,none,.mov,[.t 57]⟩ ::
 []) [5,8,14,15,53,54])
 (.seq (.block 6
 (.loop [.ownM 8 50 152 135] [5,8,14,15,53,54] [5,50,900002,901002]
 (.seq (.seq (.reg [] (
 ⟨some 58,none,.mov,[.t 15]⟩ ::
 ⟨some 59,none,.mov,[.t 8]⟩ ::
 ⟨some 60,none,.len false,[.t 59]⟩ ::
 ⟨some 61,none,.bin .lss,[.t 58,.t 60]⟩ ::
 ⟨some 62,none,.mov,[.t 61]⟩ ::
 ⟨some 63,some (62,true),.mov,[.t 8]⟩ ::
 ⟨some 64,some (62,true),.mov,[.t 15]⟩ ::
 ⟨some 65,some (62,true),.iaddrS 1,[.t 63,.t 64]⟩ ::
 ⟨some 66,some (62,true),.load false 1,[.t 65]⟩ ::
 ⟨some 67,some (62,true),.mov,[.t 14]⟩ ::
 ⟨some 68,some (62,true),.iaddrS 1,[.t 66,.t 67]⟩ ::
 ⟨some 69,some (62,true),.load false 1,[.t 68]⟩ ::
 ⟨some 70,some (62,true),.bin .eql,[.t 69,.k (.d (.int .u8 0))]⟩ ::
 ⟨some 71,none,.pick,[.t 62,.t 70,.k (.d (.bool false))]⟩ ::
 []) [5,8,14,15,53,54,71])
 (.cond (.t 71)
 (.skip)
 (.exit 6)))
 (.block 7
 (.reg [] (
 ⟨some 72,none,.mov,[.t 15]⟩ ::
 ⟨some 73,none,.bin .add,[.t 72,.k (.d (.int .i64 1))]⟩ ::
 ⟨some 15,none,.mov,[.t 73]⟩ ::
 []) [5,8,14,15,53,54])))))
 (.seq (.seq (.reg [] (
 ⟨some 74,none,.mov,[.t 15]⟩ ::
 ⟨some 75,none,.mov,[.t 8]⟩ ::
 ⟨some 76,none,.len false,[.t 75]⟩ ::
 ⟨some 77,none,.bin .eql,[.t 74,.t 76]⟩ ::
 []) [5,8,14,15,53,54,77])
 (.cond (.t 77)
 (.seq (.reg [] (
 ⟨some 6,none,.mov,[.k (.d (.list true []))]⟩ ::
 ⟨some 7,none,.mov,[.k (.d (.bool false))]⟩ ::
 []) [6,7])
 (.ret))
 (.skip)))
 (.seq (.draw [] (
 (⟨some 78,none,.mov,[.t 8]⟩,[]) ::
 (⟨some 79,none,.mov,[.t 14]⟩,[]) ::
 (⟨some 80,none,.mov,[.t 8]⟩,[]) ::
 (⟨some 81,none,.mov,[.t 15]⟩,[]) ::
 (⟨some 82,none,.mov,[.t 8]⟩,[]) ::
 (⟨some 83,none,.mov,[.t 15]⟩,[]) ::
 (⟨some 84,none,.iaddrS 1,[.t 82,.t 83]⟩,[]) ::
 (⟨some 85,none,.load false 1,[.t 84]⟩,[]) ::
 (⟨some 86,none,.mov,[.t 8]⟩,[]) ::
 (⟨some 87,none,.mov,[.t 14]⟩,[]) ::
 (⟨some 88,none,.iaddrS 1,[.t 86,.t 87]⟩,[]) ::
 (⟨some 89,none,.load false 1,[.t 88]⟩,[]) ::
 (⟨some 90,none,.iaddrS 1,[.t 78,.t 79]⟩,[]) ::
 (⟨none,none,.store 1,[.t 90,.t 85]⟩,[]) ::
 (⟨some 91,none,.iaddrS 1,[.t 80,.t 81]⟩,[]) ::
 (⟨none,none,.store 1,[.t 91,.t 89]⟩,[]) ::
 []) [5,8,14,53,54])
 (.seq (.reg [] (
 ⟨some 92,none,.mov,[.t 8]⟩ ::
 ⟨some 93,none,.mov,[.t 14]⟩ ::
 ⟨some 94,none,.iaddrS 1,[.t 92,.t 93]⟩ ::
 ⟨some 95,none,.load false 1,[.t 94]⟩ ::
 ⟨some 96,none,.mov,[.t 14]⟩ ::
 ⟨some 97,none,.iaddrS 1,[.t 95,.t 96]⟩ ::
 ⟨some 98,none,.load false 1,[.t 97]⟩ ::
 ⟨some 99,none,.call 145,[.t 98]⟩ ::
 ⟨some 16,none,.mov,[.t 99]⟩ ::
 []) [5,8,14,16,53,54])
 (.seq (.seq (.reg [] (
 ⟨some 100,none,.mov,[.t 8]⟩ ::
 ⟨some 101,none,.mov,[.t 14]⟩ ::
 ⟨some 102,none,.iaddrS 1,[.t 100,.t 101]⟩ ::
 ⟨some 103,none,.load false 1,[.t 102]⟩ ::
 ⟨some 104,none,.len false,[.t 103]⟩ ::
 ⟨some 105,none,.mov,[.k (.d (.int .i64 0))]⟩ ::
 []) [5,8,14,16,53,54,103,104,105])
 (.block 8
 (.loop [.ownM 8 50 152 135] [5,8,14,16,53,54,103,104,105] [5,50,99,10099,900002,901002]
 (.seq (.reg [] (
 ⟨some 106,none,.bin .lss,[.t 105,.t 104]⟩ ::
 []) [5,8,14,16,53,54,103,104,105,106])
 (.seq (.cond (.t 106)
 (.skip)
 (.exit 8))
 (.seq (.block 9
 (.seq (.reg [] (
 ⟨some 107,none,.mov,[.t 105]⟩ ::
 ⟨some 108,none,.iaddrS 1,[.t 103,.t 105]⟩ ::
 ⟨some 109,none,.load false 1,[.t 108]⟩ ::
 ⟨some 17,none,.mov,[.t 107]⟩ ::
 ⟨some 18,none,.mov,[.t 109]⟩ ::
 []) [5,8,14,16,17,18,53,54,103,104,105])
 (.draw [] (
 (⟨some 110,none,.mov,[.t 8]⟩,[]) ::
 (⟨some 111,none,.mov,[.t 14]⟩,[]) ::
 (⟨some 112,none,.iaddrS 1,[.t 110,.t 111]⟩,[]) ::
 (⟨some 113,none,.load false 1,[.t 112]⟩,[]) ::
 (⟨some 114,none,.mov,[.t 17]⟩,[]) ::
 (⟨some 115,none,.mov,[.t 18]⟩,[]) ::
 (⟨some 116,none,.mov,[.t 16]⟩,[]) ::
 (⟨some 117,none,.call 116,[.t 115,.t 116]⟩,[2,3]) ::
 (⟨some 118,none,.iaddrS 1,[.t 113,.t 114]⟩,[]) ::
 (⟨none,none,.store 1,[.t 118,.t 117]⟩,[]) ::
 []) [5,8,14,16,53,54,103,104,105])))
 (.reg [] (
 ⟨some 119,none,.bin .add,[.t 105,.k (.d (.int .i64 1))]⟩ ::
 ⟨some 105,none,.mov,[.t 119]⟩ ::
 []) [5,8,14,16,53,54,103,104,105])))))))
 (.seq (.reg [] (
 ⟨some 120,none,.mov,[.t 8]⟩ ::
 ⟨some 121,none,.len false,[.t 120]⟩ ::
 ⟨some 122,none,.mov,[.k (.d (.int .i64 0))]⟩ ::
 []) [5,8,14,53,54,120,121,122])
 (.block 10
 (.loop [.ownM 8 50 152 135] [5,8,14,53,54,120,121,122] [5,50,900002,901002]
 (.seq (.reg [] (
 ⟨some 123,none,.bin .lss,[.t 122,.t 121]⟩ ::
 []) [5,8,14,53,54,120,121,122,123])
 (.seq (.cond (.t 123)
 (.skip)
 (.exit 10))
 (.seq (.block 11
 (.seq (.reg [] (
 ⟨some 124,none,.mov,[.t 122]⟩ ::
 ⟨some 125,none,.iaddrS 1,[.t 120,.t 122]⟩ ::
 ⟨some 126,none,.load false 1,[.t 125]⟩ ::
 ⟨some 19,none,.mov,[.t 124]⟩ ::
 ⟨some 20,none,.mov,[.t 126]⟩ ::
 []) [5,8,14,19,20,53,54,120,121,122])
 (.seq (.reg [] (
 ⟨some 127,none,.mov,[.t 19]⟩ ::
 ⟨some 128,none,.mov,[.t 14]⟩ ::
 ⟨some 129,none,.bin .neq,[.t 127,.t 128]⟩ ::
 []) [5,8,14,20,53,54,120,121,122,129])
 (.cond (.t 129)
 (.draw [] (
 (⟨some 130,none,.mov,[.t 20]⟩,[]) ::
 (⟨some 131,none,.mov,[.t 8]⟩,[]) ::
 (⟨some 132,none,.mov,[.t 14]⟩,[]) ::
 (⟨some 133,none,.iaddrS 1,[.t 131,.t 132]⟩,[]) ::
 (⟨some 134,none,.load false 1,[.t 133]⟩,[]) ::
 (⟨some 135,none,.mov,[.t 20]⟩,[]) ::
 (⟨some 136,none,.mov,[.t 14]⟩,[]) ::
 (⟨some 137,none,.iaddrS 1,[.t 135,.t 136]⟩,[]) ::
 (⟨some 138,none,.load false 1,[.t 137]⟩,[]) ::
 (⟨some 139,none,.call 146,[.t 130,.t 134,.t 138]⟩,[]) ::
 []) [5,8,14,53,54,120,121,122])
 (.skip)))))
 (.reg [] (
 ⟨some 140,none,.bin .add,[.t 122,.k (.d (.int .i64 1))]⟩ ::
 ⟨some 122,none,.mov,[.t 140]⟩ ::
 []) [5,8,14,53,54,120,121,122])))))))))))))))
 (.reg [] (
 ⟨some 141,none,.bin .add,[.t 54,.k (.d (.int .i64 1))]⟩ ::
 ⟨some 54,none,.mov,[.t 141]⟩ ::
 []) [5,8,53,54])))))))
 (.seq (.seq (.reg [.frzM 8] (
 ⟨some 142,none,.mov,[.t 8]⟩ ::
 ⟨some 143,none,.load false 1,[.t 5]⟩ ::
 ⟨some 144,none,.len false,[.t 143]⟩ ::
 ⟨some 145,none,.slice 1 true false false,[.t 142,.t 144]⟩ ::
 ⟨some 146,none,.len false,[.t 145]⟩ ::
 ⟨some 147,none,.mov,[.k (.d (.int .i64 0))]⟩ ::
 []) [5,8,145,146,147])
 (.block 12
 (.loop [] [5,8,145,146,147] [5,900002,901002]
 (.seq (.reg [] (
 ⟨some 148,none,.bin .lss,[.t 147,.t 146]⟩ ::
 []) [5,8,145,146,147,148])
 (.seq (.cond (.t 148)
 (.skip)
 (.exit 12))
 (.seq (.block 13
 (.seq (.reg [] (
 ⟨some 149,none,.iaddrS 1,[.t 145,.t 147]⟩ ::
 ⟨some 150,none,.load false 1,[.t 149]⟩ ::
 ⟨some 22,none,.mov,[.t 150]⟩ ::
 []) [5,8,22,145,146,147])
 (.seq (.reg [] (
 ⟨some 151,none,.mov,[.t 22]⟩ ::
 ⟨some 152,none,.load false 1,[.t 5]⟩ ::
 ⟨some 153,none,.len false,[.t 152]⟩ ::
 ⟨some 154,none,.iaddrS 1,[.t 151,.t 153]⟩ ::
 ⟨some 155,none,.load false 1,[.t 154]⟩ ::
 ⟨some 156,none,.bin .neq,[.t 155,.k (.d (.int .u8 0))]⟩ ::
 []) [5,8,145,146,147,156])
 (.cond (.t 156)
 (.seq (.reg [] (
 ⟨some 6,none,.mov,[.k (.d (.list true []))]⟩ ::
 ⟨some 7,none,.mov,[.k (.d (.bool false))]⟩ ::
 []) [6,7])
 (.ret))
 (.skip)))))
 (.reg [] (
 ⟨some 157,none,.bin .add,[.t 147,.k (.d (.int .i64 1))]⟩ ::
 ⟨some 147,none,.mov,[.t 157]⟩ ::
 []) [5,8,145,146,147])))))))
 (.seq (.reg [] (
 ⟨some 158,none,.mov,[.t 8]⟩ ::
 ⟨some 159,none,.load false 1,[.t 5]⟩ ::
 ⟨some 160,none,.len false,[.t 159]⟩ ::
 ⟨some 161,none,.slice 1 false true false,[.t 158,.t 160]⟩ ::
 ⟨some 162,none,.mkfn 148,[.t 5]⟩ ::
 ⟨some 163,none,.call 147,[.t 161,.t 162]⟩ ::
 ⟨some 6,none,.mov,[.t 163]⟩ ::
 ⟨some 7,none,.mov,[.k (.d (.bool true))]⟩ ::
 []) [6,7])
 (.ret))))))
theorem JB:Ch E0 GK Fl [.t 6,.t 7] 164:=AM (fl:=[48]) (by kernel_rfl)
abbrev eX:Nat:=137
abbrev eW:Nat:=138
abbrev i0:Nat:=139
abbrev ky:Nat:=140
abbrev Fn:Nat:=141
def FK:PC :=
 .seq (.reg [] (
 ⟨some 3,none,.box,[.t 0]⟩ ::
 ⟨some 6,none,.mov,[.k (.d (.int .u8 0))]⟩ ::
 []) [1,2,3])
 (.seq (.reg [] (
 ⟨some 7,none,.mov,[.t 1]⟩ ::
 ⟨some 8,none,.faddr 0,[.t 3]⟩ ::
 ⟨some 9,none,.faddr 0,[.t 8]⟩ ::
 ⟨some 10,none,.load false 1,[.t 9]⟩ ::
 ⟨some 11,none,.bin .sub,[.t 10,.k (.d (.int .i64 1))]⟩ ::
 ⟨some 12,none,.mov,[.t 2]⟩ ::
 ⟨some 13,none,.bin .sub,[.t 11,.t 12]⟩ ::
 ⟨some 14,none,.bin .mul,[.t 7,.t 13]⟩ ::
 ⟨some 15,none,.call 117,[.t 14]⟩ ::
 ⟨some 6,none,.mov,[.t 15]⟩ ::
 []) [6])
 (.ret))
theorem IX:Ch E0 Fn FK [.t 6] 16:=AM (fl:=[]) (by kernel_rfl)
abbrev Ee:Nat:=142
def EO:PC :=
 .seq (.reg [] (
 ⟨some 4,none,.mov,[.k (.d (.bool false))]⟩ ::
 []) [0,1])
 (.seq (.reg [] (
 ⟨some 5,none,.mov,[.t 0]⟩ ::
 ⟨some 6,none,.mov,[.t 1]⟩ ::
 ⟨some 7,none,.call 101,[.t 5,.t 6]⟩ ::
 ⟨some 8,none,.bin .geq,[.t 7,.k (.d (.int .i64 0))]⟩ ::
 ⟨some 4,none,.mov,[.t 8]⟩ ::
 []) [4])
 (.ret))
theorem Gg:Ch E0 Ee EO [.t 4] 9:=AM (fl:=[]) (by kernel_rfl)
abbrev Bn:Nat:=143
def Ea:PC :=
 .seq (.reg [] (
 ⟨some 4,none,.mov,[.k (.d (.bool false))]⟩ ::
 []) [0,1,2])
 (.seq (.draw [] (
 (⟨some 5,none,.load false 1,[.t 1]⟩,[]) ::
 (⟨some 6,none,.load false 1,[.t 2]⟩,[]) ::
 (⟨some 7,none,.mkrow 1 (.int .i64 0) 1 [0],[.t 6]⟩,[]) ::
 (⟨some 8,none,.mov,[.t 0]⟩,[]) ::
 (⟨some 9,none,.app 3 1 none false,[.t 7,.t 8]⟩,[0]) ::
 (⟨some 10,none,.callv,[.t 5,.t 9]⟩,[]) ::
 (⟨some 4,none,.mov,[.t 10]⟩,[]) ::
 []) [4])
 (.ret))
theorem G6:Ch E0 Bn Ea [.t 4] 11:=AM (fl:=[]) (by kernel_rfl)
abbrev DD:Nat:=144
def Dm:PC :=
 .seq (.reg [] (
 ⟨some 4,none,.mov,[.k (.d (.list true []))]⟩ ::
 []) [0,1])
 (.seq (.seq (.reg [] (
 ⟨some 5,none,.mov,[.t 1]⟩ ::
 ⟨some 6,none,.bin .lss,[.t 5,.k (.d (.int .i64 0))]⟩ ::
 []) [0,1,6])
 (.cond (.t 6)
 (.dead)
 (.skip)))
 (.seq (.seq (.reg [] (
 ⟨some 8,none,.mov,[.t 1]⟩ ::
 ⟨some 9,none,.mov,[.t 0]⟩ ::
 ⟨some 10,none,.cap,[.t 9]⟩ ::
 ⟨some 11,none,.mov,[.t 0]⟩ ::
 ⟨some 12,none,.len false,[.t 11]⟩ ::
 ⟨some 13,none,.bin .sub,[.t 10,.t 12]⟩ ::
 ⟨some 14,none,.bin .sub,[.t 8,.t 13]⟩ ::
 ⟨some 1,none,.mov,[.t 14]⟩ ::
 []) [0,1])
 (.seq (.reg [] (
 ⟨some 15,none,.mov,[.t 1]⟩ ::
 ⟨some 16,none,.bin .gtr,[.t 15,.k (.d (.int .i64 0))]⟩ ::
 []) [0,1,16])
 (.cond (.t 16)
 (.reg [] (
 ⟨some 17,none,.mov,[.t 0]⟩ ::
 ⟨some 18,none,.mov,[.t 0]⟩ ::
 ⟨some 19,none,.cap,[.t 18]⟩ ::
 ⟨some 20,none,.slice 1 false true false,[.t 17,.t 19]⟩ ::
 ⟨some 21,none,.mov,[.t 1]⟩ ::
 ⟨some 22,none,.app 3 1 (some (.int .i64 0)) true,[.t 20,.t 21]⟩ ::
 ⟨some 23,none,.mov,[.t 0]⟩ ::
 ⟨some 24,none,.len false,[.t 23]⟩ ::
 ⟨some 25,none,.slice 1 false true false,[.t 22,.t 24]⟩ ::
 ⟨some 0,none,.mov,[.t 25]⟩ ::
 []) [0])
 (.skip))))
 (.seq (.reg [] (
 ⟨some 26,none,.mov,[.t 0]⟩ ::
 ⟨some 4,none,.mov,[.t 26]⟩ ::
 []) [4])
 (.ret))))
theorem FD:Ch E0 DD Dm [.t 4] 27:=AM (fl:=[]) (by kernel_rfl)
abbrev Ey:Nat:=145
def EZ:PC :=
 .seq (.reg [] (
 ⟨some 2,none,.mov,[.k (.d (.int .u8 0))]⟩ ::
 []) [0])
 (.seq (.reg [] (
 ⟨some 3,none,.mov,[.t 0]⟩ ::
 ⟨some 4,none,.iaddrA 16 1,[.k (.d (.ptr [.int .i64 0,.int .i64 0,.int .i64 1,.int .i64 4,.int .i64 2,.int .i64 8,.int .i64 5,.int .i64 10,.int .i64 3,.int .i64 14,.int .i64 9,.int .i64 7,.int .i64 6,.int .i64 13,.int .i64 11,.int .i64 12])),.t 3]⟩ ::
 ⟨some 5,none,.load false 1,[.t 4]⟩ ::
 ⟨some 6,none,.bin .sub,[.k (.d (.int .i64 15)),.t 5]⟩ ::
 ⟨some 7,none,.call 117,[.t 6]⟩ ::
 ⟨some 2,none,.mov,[.t 7]⟩ ::
 []) [2])
 (.ret))
theorem G5:Ch E0 Ey EZ [.t 2] 8:=AM (fl:=[]) (by kernel_rfl)
abbrev Fb:Nat:=146
def Gv:PC :=
 .seq (.reg [] (
 ⟨some 8,none,.mov,[.t 1]⟩ ::
 ⟨some 9,none,.len false,[.t 8]⟩ ::
 ⟨some 10,none,.mov,[.k (.d (.int .i64 0))]⟩ ::
 []) [0,2,8,9,10])
 (.block 0
 (.loop [] [0,2,8,9,10] [900000,900001,900002,901000,901001,901002]
 (.seq (.reg [] (
 ⟨some 11,none,.bin .lss,[.t 10,.t 9]⟩ ::
 []) [0,2,8,9,10,11])
 (.seq (.cond (.t 11)
 (.skip)
 (.exit 0))
 (.seq (.block 1
 (.seq (.reg [] (
 ⟨some 12,none,.mov,[.t 10]⟩ ::
 ⟨some 13,none,.iaddrS 1,[.t 8,.t 10]⟩ ::
 ⟨some 14,none,.load false 1,[.t 13]⟩ ::
 ⟨some 6,none,.mov,[.t 12]⟩ ::
 ⟨some 7,none,.mov,[.t 14]⟩ ::
 []) [0,2,6,7,8,9,10])
 (.draw [] (
 (⟨some 15,none,.mov,[.t 0]⟩,[]) ::
 (⟨some 16,none,.mov,[.t 6]⟩,[]) ::
 (⟨some 17,none,.iaddrS 1,[.t 15,.t 16]⟩,[]) ::
 (⟨some 18,none,.load false 1,[.t 17]⟩,[]) ::
 (⟨some 19,none,.mov,[.t 7]⟩,[]) ::
 (⟨some 20,none,.mov,[.t 2]⟩,[]) ::
 (⟨some 21,none,.call 116,[.t 19,.t 20]⟩,[2,3]) ::
 (⟨some 22,none,.bin .xor,[.t 18,.t 21]⟩,[]) ::
 (⟨some 23,none,.iaddrS 1,[.t 15,.t 16]⟩,[]) ::
 (⟨none,none,.store 1,[.t 23,.t 22]⟩,[]) ::
 []) [0,2,8,9,10])))
 (.reg [] (
 ⟨some 24,none,.bin .add,[.t 10,.k (.d (.int .i64 1))]⟩ ::
 ⟨some 10,none,.mov,[.t 24]⟩ ::
 []) [0,2,8,9,10]))))))
theorem LJ:Ch E0 Fb Gv [] 25:=AM (fl:=[]) (by kernel_rfl)
abbrev CB:Nat:=147
def B4:PC :=
 .seq (.reg [] (
 ⟨some 4,none,.mov,[.k (.d (.list true []))]⟩ ::
 []) [0,1])
 (.seq (.reg [] (
 ⟨some 5,none,.mov,[.k (.d (.list true []))]⟩ ::
 []) [0,1,5])
 (.seq (.seq (.reg [] (
 ⟨some 8,none,.mov,[.t 0]⟩ ::
 ⟨some 9,none,.len false,[.t 8]⟩ ::
 ⟨some 10,none,.mov,[.k (.d (.int .i64 0))]⟩ ::
 []) [1,5,8,9,10])
 (.block 0
 (.loop [.own 5 19 135 1] [1,5,8,9,10] [19,900000,900001,901000,901001]
 (.seq (.reg [] (
 ⟨some 11,none,.bin .lss,[.t 10,.t 9]⟩ ::
 []) [1,5,8,9,10,11])
 (.seq (.cond (.t 11)
 (.skip)
 (.exit 0))
 (.seq (.block 1
 (.seq (.reg [] (
 ⟨some 12,none,.iaddrS 1,[.t 8,.t 10]⟩ ::
 ⟨some 13,none,.load false 1,[.t 12]⟩ ::
 ⟨some 7,none,.mov,[.t 13]⟩ ::
 []) [1,5,7,8,9,10])
 (.reg [] (
 ⟨some 14,none,.mov,[.t 5]⟩ ::
 ⟨some 15,none,.mov,[.t 1]⟩ ::
 ⟨some 16,none,.mov,[.t 7]⟩ ::
 ⟨some 17,none,.callv,[.t 15,.t 16]⟩ ::
 ⟨some 18,none,.mkrow 1 (.int .u8 0) 1 [0],[.t 17]⟩ ::
 ⟨some 19,none,.app 135 1 none true,[.t 14,.t 18]⟩ ::
 ⟨some 5,none,.mov,[.t 19]⟩ ::
 []) [1,5,8,9,10])))
 (.reg [] (
 ⟨some 20,none,.bin .add,[.t 10,.k (.d (.int .i64 1))]⟩ ::
 ⟨some 10,none,.mov,[.t 20]⟩ ::
 []) [1,5,8,9,10])))))))
 (.seq (.reg [] (
 ⟨some 21,none,.mov,[.t 5]⟩ ::
 ⟨some 4,none,.mov,[.t 21]⟩ ::
 []) [4])
 (.ret))))
theorem DT:Ch E0 CB B4 [.t 4] 22:=AM (fl:=[]) (by kernel_rfl)
abbrev C1:Nat:=148
def E_:PC :=
 .seq (.reg [] (
 ⟨some 3,none,.mov,[.k (.d (.int .u8 0))]⟩ ::
 []) [0,1])
 (.seq (.reg [] (
 ⟨some 4,none,.mov,[.t 0]⟩ ::
 ⟨some 5,none,.load false 1,[.t 1]⟩ ::
 ⟨some 6,none,.len false,[.t 5]⟩ ::
 ⟨some 7,none,.iaddrS 1,[.t 4,.t 6]⟩ ::
 ⟨some 8,none,.load false 1,[.t 7]⟩ ::
 ⟨some 3,none,.mov,[.t 8]⟩ ::
 []) [3])
 (.ret))
theorem Hy:Ch E0 C1 E_ [.t 3] 9:=AM (fl:=[]) (by kernel_rfl)
abbrev eU:Nat:=149
abbrev Z':Nat:=170
end Go.Pw
