/- A part of the proof. -/
import Derived.Test.YtlmkpaimjpdhiaaDoorPwVC
import Derived.Test.YtlmkpaimjpdhiaaDoorProg
import Derived.KernelRfl
set_option linter.all false
open Go Go.Pw Go.Proofs
namespace Go.Pw
set_option maxRecDepth 100000
def G0:Nat→Option (List D):=fun g=>if g=1 then some [.int .u8 1,.int .u8 2,.int .u8 4,.int .u8 8,.int .u8 3,.int .u8 6,.int .u8 12,.int .u8 11,.int .u8 5,.int .u8 10,.int .u8 7,.int .u8 14,.int .u8 15,.int .u8 13,.int .u8 9] else if g=0 then some [.int .i64 0,.int .i64 0,.int .i64 1,.int .i64 4,.int .i64 2,.int .i64 8,.int .i64 5,.int .i64 10,.int .i64 3,.int .i64 14,.int .i64 9,.int .i64 7,.int .i64 6,.int .i64 13,.int .i64 11,.int .i64 12] else none
noncomputable def E0:CZ:=⟨Tryd.prog,G0⟩
theorem Af:E0.P.follows .mixedOrders=true:=by kernel_rfl
abbrev fo:Nat:=3
abbrev Wt:Nat:=2
abbrev Sl:Nat:=3
abbrev Sn:Nat:=4
abbrev RE:Nat:=5
abbrev Sm:Nat:=6
abbrev Q9:Nat:=7
abbrev Is:Nat:=8
abbrev Sp:Nat:=9
abbrev Jd:Nat:=10
abbrev Ir:Nat:=11
abbrev It:Nat:=12
abbrev Cp:Nat:=13
def BA:PC :=
 .seq (.reg [] (
 ⟨some 2,none,.box,[.t 0]⟩ ::
 ⟨some 3,none,.box,[.t 1]⟩ ::
 ⟨some 4,none,.mov,[.k (.d (.bool false))]⟩ ::
 []) [2,3])
 (.seq (.seq (.reg [] (
 ⟨some 19,none,.faddr 0,[.t 2]⟩ ::
 ⟨some 20,none,.load true 2,[.t 19]⟩ ::
 ⟨some 21,none,.call 23,[.t 20]⟩ ::
 ⟨some 22,none,.un .not,[.t 21]⟩ ::
 ⟨some 23,none,.mov,[.t 22]⟩ ::
 ⟨some 24,some (23,false),.faddr 2,[.t 2]⟩ ::
 ⟨some 25,some (23,false),.load false 1,[.t 24]⟩ ::
 ⟨some 26,some (23,false),.bin .lss,[.t 25,.k (.d (.int .i64 1))]⟩ ::
 ⟨some 27,none,.pick,[.t 23,.k (.d (.bool true)),.t 26]⟩ ::
 ⟨some 28,none,.mov,[.t 27]⟩ ::
 ⟨some 29,some (28,false),.faddr 2,[.t 2]⟩ ::
 ⟨some 30,some (28,false),.load false 1,[.t 29]⟩ ::
 ⟨some 31,some (28,false),.bin .gtr,[.t 30,.k (.d (.int .i64 4))]⟩ ::
 ⟨some 32,none,.pick,[.t 28,.k (.d (.bool true)),.t 31]⟩ ::
 ⟨some 33,none,.mov,[.t 32]⟩ ::
 ⟨some 34,some (33,false),.faddr 0,[.t 3]⟩ ::
 ⟨some 35,some (33,false),.load false 1,[.t 34]⟩ ::
 ⟨some 36,some (33,false),.faddr 2,[.t 2]⟩ ::
 ⟨some 37,some (33,false),.load false 1,[.t 36]⟩ ::
 ⟨some 38,some (33,false),.faddr 0,[.t 2]⟩ ::
 ⟨some 39,some (33,false),.faddr 0,[.t 38]⟩ ::
 ⟨some 40,some (33,false),.load false 1,[.t 39]⟩ ::
 ⟨some 41,some (33,false),.faddr 0,[.t 2]⟩ ::
 ⟨some 42,some (33,false),.faddr 1,[.t 41]⟩ ::
 ⟨some 43,some (33,false),.load false 1,[.t 42]⟩ ::
 ⟨some 44,some (33,false),.bin .sub,[.t 40,.t 43]⟩ ::
 ⟨some 45,some (33,false),.bin .mul,[.t 37,.t 44]⟩ ::
 ⟨some 46,some (33,false),.call 25,[.t 35,.t 45]⟩ ::
 ⟨some 47,some (33,false),.un .not,[.t 46]⟩ ::
 ⟨some 48,none,.pick,[.t 33,.k (.d (.bool true)),.t 47]⟩ ::
 ⟨some 49,none,.mov,[.t 48]⟩ ::
 ⟨some 50,some (49,false),.faddr 1,[.t 3]⟩ ::
 ⟨some 51,some (49,false),.load false 1,[.t 50]⟩ ::
 ⟨some 52,some (49,false),.bin .lss,[.t 51,.k (.d (.int .i64 0))]⟩ ::
 ⟨some 53,none,.pick,[.t 49,.k (.d (.bool true)),.t 52]⟩ ::
 ⟨some 54,none,.mov,[.t 53]⟩ ::
 ⟨some 55,some (54,false),.faddr 2,[.t 3]⟩ ::
 ⟨some 56,some (54,false),.load false 1,[.t 55]⟩ ::
 ⟨some 57,some (54,false),.bin .lss,[.t 56,.k (.d (.int .i64 0))]⟩ ::
 ⟨some 58,none,.pick,[.t 54,.k (.d (.bool true)),.t 57]⟩ ::
 ⟨some 59,none,.mov,[.t 58]⟩ ::
 ⟨some 60,some (59,false),.faddr 2,[.t 3]⟩ ::
 ⟨some 61,some (59,false),.load false 1,[.t 60]⟩ ::
 ⟨some 62,some (59,false),.bin .gtr,[.t 61,.k (.d (.int .i64 100))]⟩ ::
 ⟨some 63,none,.pick,[.t 59,.k (.d (.bool true)),.t 62]⟩ ::
 ⟨some 64,none,.mov,[.t 63]⟩ ::
 ⟨some 65,some (64,false),.faddr 1,[.t 3]⟩ ::
 ⟨some 66,some (64,false),.load false 1,[.t 65]⟩ ::
 ⟨some 67,some (64,false),.bin .gtr,[.t 66,.k (.d (.int .i64 100))]⟩ ::
 ⟨some 68,none,.pick,[.t 64,.k (.d (.bool true)),.t 67]⟩ ::
 ⟨some 69,none,.mov,[.t 68]⟩ ::
 ⟨some 70,some (69,false),.faddr 3,[.t 3]⟩ ::
 ⟨some 71,some (69,false),.load false 1,[.t 70]⟩ ::
 ⟨some 72,some (69,false),.faddr 2,[.t 3]⟩ ::
 ⟨some 73,some (69,false),.load false 1,[.t 72]⟩ ::
 ⟨some 74,some (69,false),.call 25,[.t 71,.t 73]⟩ ::
 ⟨some 75,some (69,false),.un .not,[.t 74]⟩ ::
 ⟨some 76,none,.pick,[.t 69,.k (.d (.bool true)),.t 75]⟩ ::
 []) [2,3,76])
 (.cond (.t 76)
 (.seq (.reg [] (
 ⟨some 77,none,.call 15,[]⟩ ::
 ⟨some 4,none,.mov,[.t 77]⟩ ::
 []) [4])
 (.ret))
 (.skip)))
 (.seq (.reg [] (
 ⟨some 79,none,.load true 3,[.t 2]⟩ ::
 ⟨some 80,none,.call 35,[.t 79]⟩ ::
 ⟨some 78,none,.mov,[.t 80]⟩ ::
 ⟨some 81,none,.extract 0,[.t 78]⟩ ::
 ⟨some 82,none,.extract 1,[.t 78]⟩ ::
 ⟨some 83,none,.extract 2,[.t 78]⟩ ::
 ⟨some 5,none,.mov,[.t 81]⟩ ::
 ⟨some 6,none,.mov,[.t 82]⟩ ::
 ⟨some 7,none,.mov,[.t 83]⟩ ::
 []) [2,3,5,6,7])
 (.seq (.reg [] (
 ⟨some 85,none,.load true 3,[.t 2]⟩ ::
 ⟨some 86,none,.faddr 0,[.t 3]⟩ ::
 ⟨some 87,none,.load false 1,[.t 86]⟩ ::
 ⟨some 88,none,.call 38,[.t 85,.t 87]⟩ ::
 ⟨some 84,none,.mov,[.t 88]⟩ ::
 ⟨some 89,none,.extract 0,[.t 84]⟩ ::
 ⟨some 90,none,.extract 1,[.t 84]⟩ ::
 ⟨some 8,none,.mov,[.t 89]⟩ ::
 ⟨some 9,none,.mov,[.t 90]⟩ ::
 []) [2,3,5,6,7,8,9])
 (.seq (.reg [] (
 ⟨some 91,none,.load true 3,[.t 2]⟩ ::
 ⟨some 10,none,.zero [.int .i64 0,.int .i64 0,.int .i64 0],[]⟩ ::
 ⟨none,none,.store 3,[.t 10,.t 91]⟩ ::
 []) [2,3,5,6,7,8,9,10])
 (.seq (.reg [] (
 ⟨some 92,none,.faddr 2,[.t 10]⟩ ::
 ⟨some 93,none,.load false 1,[.t 92]⟩ ::
 ⟨some 94,none,.bin .add,[.t 93,.k (.d (.int .i64 1))]⟩ ::
 ⟨some 95,none,.faddr 2,[.t 10]⟩ ::
 ⟨none,none,.store 1,[.t 95,.t 94]⟩ ::
 []) [2,3,5,6,7,8,9,10])
 (.seq (.reg [] (
 ⟨some 97,none,.load true 3,[.t 10]⟩ ::
 ⟨some 98,none,.call 35,[.t 97]⟩ ::
 ⟨some 96,none,.mov,[.t 98]⟩ ::
 ⟨some 99,none,.extract 0,[.t 96]⟩ ::
 ⟨some 100,none,.extract 1,[.t 96]⟩ ::
 ⟨some 101,none,.extract 2,[.t 96]⟩ ::
 ⟨some 11,none,.mov,[.t 99]⟩ ::
 ⟨some 12,none,.mov,[.t 100]⟩ ::
 ⟨some 13,none,.mov,[.t 101]⟩ ::
 []) [2,3,5,6,7,8,9,11,12,13])
 (.seq (.seq (.reg [] (
 ⟨some 102,none,.mov,[.t 7]⟩ ::
 ⟨some 103,none,.bin .neq,[.t 102,.k (.d (.int .i64 0))]⟩ ::
 ⟨some 104,none,.mov,[.t 103]⟩ ::
 ⟨some 105,some (104,false),.mov,[.t 9]⟩ ::
 ⟨some 106,some (104,false),.bin .neq,[.t 105,.k (.d (.int .i64 0))]⟩ ::
 ⟨some 107,none,.pick,[.t 104,.k (.d (.bool true)),.t 106]⟩ ::
 ⟨some 108,none,.mov,[.t 107]⟩ ::
 ⟨some 109,some (108,false),.mov,[.t 13]⟩ ::
 ⟨some 110,some (108,false),.bin .neq,[.t 109,.k (.d (.int .i64 0))]⟩ ::
 ⟨some 111,none,.pick,[.t 108,.k (.d (.bool true)),.t 110]⟩ ::
 ⟨some 112,none,.mov,[.t 111]⟩ ::
 ⟨some 113,some (112,false),.mov,[.t 8]⟩ ::
 ⟨some 114,some (112,false),.len false,[.t 113]⟩ ::
 ⟨some 115,some (112,false),.faddr 2,[.t 2]⟩ ::
 ⟨some 116,some (112,false),.load false 1,[.t 115]⟩ ::
 ⟨some 117,some (112,false),.faddr 0,[.t 2]⟩ ::
 ⟨some 118,some (112,false),.faddr 0,[.t 117]⟩ ::
 ⟨some 119,some (112,false),.load false 1,[.t 118]⟩ ::
 ⟨some 120,some (112,false),.bin .mul,[.t 116,.t 119]⟩ ::
 ⟨some 121,some (112,false),.bin .neq,[.t 114,.t 120]⟩ ::
 ⟨some 122,none,.pick,[.t 112,.k (.d (.bool true)),.t 121]⟩ ::
 ⟨some 123,none,.mov,[.t 122]⟩ ::
 ⟨some 124,some (123,false),.mov,[.t 11]⟩ ::
 ⟨some 125,some (123,false),.mov,[.t 5]⟩ ::
 ⟨some 126,some (123,false),.bin .lss,[.t 124,.t 125]⟩ ::
 ⟨some 127,none,.pick,[.t 123,.k (.d (.bool true)),.t 126]⟩ ::
 ⟨some 128,none,.mov,[.t 127]⟩ ::
 ⟨some 129,some (128,false),.mov,[.t 12]⟩ ::
 ⟨some 130,some (128,false),.mov,[.t 6]⟩ ::
 ⟨some 131,some (128,false),.bin .lss,[.t 129,.t 130]⟩ ::
 ⟨some 132,none,.pick,[.t 128,.k (.d (.bool true)),.t 131]⟩ ::
 []) [2,3,5,6,8,132])
 (.cond (.t 132)
 (.seq (.reg [] (
 ⟨some 4,none,.mov,[.k (.d (.bool false))]⟩ ::
 []) [4])
 (.ret))
 (.skip)))
 (.seq (.seq (.reg [] (
 ⟨some 133,none,.faddr 1,[.t 3]⟩ ::
 ⟨some 134,none,.load false 1,[.t 133]⟩ ::
 ⟨some 135,none,.faddr 2,[.t 3]⟩ ::
 ⟨some 136,none,.load false 1,[.t 135]⟩ ::
 ⟨some 137,none,.bin .add,[.t 134,.t 136]⟩ ::
 ⟨some 138,none,.mov,[.t 8]⟩ ::
 ⟨some 139,none,.len false,[.t 138]⟩ ::
 ⟨some 140,none,.bin .gtr,[.t 137,.t 139]⟩ ::
 ⟨some 141,none,.mov,[.t 140]⟩ ::
 ⟨some 142,some (141,false),.faddr 4,[.t 3]⟩ ::
 ⟨some 143,some (141,false),.load false 1,[.t 142]⟩ ::
 ⟨some 144,some (141,false),.un .not,[.t 143]⟩ ::
 ⟨some 145,some (141,false),.mov,[.t 144]⟩ ::
 ⟨some 146,some (145,true),.faddr 2,[.t 3]⟩ ::
 ⟨some 147,some (145,true),.load false 1,[.t 146]⟩ ::
 ⟨some 148,some (145,true),.mov,[.t 5]⟩ ::
 ⟨some 149,some (145,true),.bin .gtr,[.t 147,.t 148]⟩ ::
 ⟨some 150,some (141,false),.pick,[.t 145,.t 149,.k (.d (.bool false))]⟩ ::
 ⟨some 151,none,.pick,[.t 141,.k (.d (.bool true)),.t 150]⟩ ::
 ⟨some 152,none,.mov,[.t 151]⟩ ::
 ⟨some 153,some (152,false),.faddr 4,[.t 3]⟩ ::
 ⟨some 154,some (152,false),.load false 1,[.t 153]⟩ ::
 ⟨some 155,some (152,false),.mov,[.t 154]⟩ ::
 ⟨some 156,some (155,true),.faddr 2,[.t 3]⟩ ::
 ⟨some 157,some (155,true),.load false 1,[.t 156]⟩ ::
 ⟨some 158,some (155,true),.mov,[.t 6]⟩ ::
 ⟨some 159,some (155,true),.bin .gtr,[.t 157,.t 158]⟩ ::
 ⟨some 160,some (152,false),.pick,[.t 155,.t 159,.k (.d (.bool false))]⟩ ::
 ⟨some 161,none,.pick,[.t 152,.k (.d (.bool true)),.t 160]⟩ ::
 []) [2,3,8,161])
 (.cond (.t 161)
 (.seq (.reg [] (
 ⟨some 162,none,.call 15,[]⟩ ::
 ⟨some 4,none,.mov,[.t 162]⟩ ::
 []) [4])
 (.ret))
 (.skip)))
 (.seq (.reg [] (
 ⟨some 163,none,.mkrow 1 (.int .i64 0) 0 [],[]⟩ ::
 ⟨some 164,none,.mov,[.t 8]⟩ ::
 ⟨some 165,none,.app 3 1 none true,[.t 163,.t 164]⟩ ::
 ⟨some 14,none,.mov,[.t 165]⟩ ::
 []) [2,3,14])
 (.seq (.reg [] (
 ⟨some 15,none,.mov,[.k (.d (.list true []))]⟩ ::
 []) [2,3,14,15])
 (.seq (.seq (.reg [] (
 ⟨some 16,none,.mov,[.k (.d (.int .i64 0))]⟩ ::
 []) [2,3,14,15,16])
 (.block 0
 (.loop [.own 15 199 3 1] [2,3,14,15,16] [2,3,165,199,900000,900001,901000,901001]
 (.seq (.seq (.reg [] (
 ⟨some 166,none,.mov,[.t 16]⟩ ::
 ⟨some 167,none,.faddr 2,[.t 3]⟩ ::
 ⟨some 168,none,.load false 1,[.t 167]⟩ ::
 ⟨some 169,none,.bin .lss,[.t 166,.t 168]⟩ ::
 []) [2,3,14,15,16,169])
 (.cond (.t 169)
 (.skip)
 (.exit 0)))
 (.seq (.block 1
 (.seq (.draw [] (
 (⟨some 172,none,.mov,[.t 14]⟩,[]) ::
 (⟨some 173,none,.faddr 1,[.t 3]⟩,[]) ::
 (⟨some 174,none,.load false 1,[.t 173]⟩,[]) ::
 (⟨some 175,none,.mov,[.t 16]⟩,[]) ::
 (⟨some 176,none,.bin .add,[.t 174,.t 175]⟩,[]) ::
 (⟨some 177,none,.mov,[.t 14]⟩,[]) ::
 (⟨some 178,none,.faddr 1,[.t 3]⟩,[]) ::
 (⟨some 179,none,.load false 1,[.t 178]⟩,[]) ::
 (⟨some 180,none,.mov,[.t 16]⟩,[]) ::
 (⟨some 181,none,.bin .add,[.t 179,.t 180]⟩,[]) ::
 (⟨some 182,none,.iaddrS 1,[.t 177,.t 181]⟩,[]) ::
 (⟨some 183,none,.load false 1,[.t 182]⟩,[]) ::
 (⟨some 184,none,.faddr 3,[.t 3]⟩,[]) ::
 (⟨some 185,none,.load false 1,[.t 184]⟩,[]) ::
 (⟨some 186,none,.mov,[.t 16]⟩,[]) ::
 (⟨some 187,none,.iaddrS 1,[.t 185,.t 186]⟩,[]) ::
 (⟨some 188,none,.load false 1,[.t 187]⟩,[]) ::
 (⟨some 189,none,.bin .xor,[.t 183,.t 188]⟩,[]) ::
 (⟨some 190,none,.iaddrS 1,[.t 172,.t 176]⟩,[]) ::
 (⟨none,none,.store 1,[.t 190,.t 189]⟩,[]) ::
 []) [2,3,14,15,16])
 (.seq (.reg [] (
 ⟨some 191,none,.faddr 4,[.t 3]⟩ ::
 ⟨some 192,none,.load false 1,[.t 191]⟩ ::
 []) [2,3,14,15,16,192])
 (.cond (.t 192)
 (.reg [] (
 ⟨some 193,none,.mov,[.t 15]⟩ ::
 ⟨some 194,none,.faddr 1,[.t 3]⟩ ::
 ⟨some 195,none,.load false 1,[.t 194]⟩ ::
 ⟨some 196,none,.mov,[.t 16]⟩ ::
 ⟨some 197,none,.bin .add,[.t 195,.t 196]⟩ ::
 ⟨some 198,none,.mkrow 1 (.int .i64 0) 1 [0],[.t 197]⟩ ::
 ⟨some 199,none,.app 3 1 none true,[.t 193,.t 198]⟩ ::
 ⟨some 15,none,.mov,[.t 199]⟩ ::
 []) [2,3,14,15,16])
 (.skip)))))
 (.reg [] (
 ⟨some 170,none,.mov,[.t 16]⟩ ::
 ⟨some 171,none,.bin .add,[.t 170,.k (.d (.int .i64 1))]⟩ ::
 ⟨some 16,none,.mov,[.t 171]⟩ ::
 []) [2,3,14,15,16]))))))
 (.seq (.reg [.freeze 14,.freeze 15] (
 ⟨some 201,none,.load true 3,[.t 2]⟩ ::
 ⟨some 202,none,.mov,[.t 14]⟩ ::
 ⟨some 203,none,.mov,[.t 15]⟩ ::
 ⟨some 204,none,.call 40,[.t 201,.t 202,.t 203]⟩ ::
 ⟨some 200,none,.mov,[.t 204]⟩ ::
 ⟨some 205,none,.extract 0,[.t 200]⟩ ::
 ⟨some 206,none,.extract 1,[.t 200]⟩ ::
 ⟨some 17,none,.mov,[.t 205]⟩ ::
 ⟨some 18,none,.mov,[.t 206]⟩ ::
 []) [3,17,18])
 (.seq (.reg [] (
 ⟨some 207,none,.mov,[.t 18]⟩ ::
 ⟨some 208,none,.bin .eql,[.t 207,.k (.d (.int .i64 0))]⟩ ::
 ⟨some 209,none,.mov,[.t 208]⟩ ::
 ⟨some 210,some (209,true),.mov,[.t 17]⟩ ::
 ⟨some 211,some (209,true),.faddr 0,[.t 3]⟩ ::
 ⟨some 212,some (209,true),.load false 1,[.t 211]⟩ ::
 ⟨some 213,some (209,true),.call 22,[.t 210,.t 212]⟩ ::
 ⟨some 214,none,.pick,[.t 209,.t 213,.k (.d (.bool false))]⟩ ::
 ⟨some 215,none,.mov,[.t 214]⟩ ::
 ⟨some 216,some (215,true),.call 15,[]⟩ ::
 ⟨some 217,none,.pick,[.t 215,.t 216,.k (.d (.bool false))]⟩ ::
 ⟨some 4,none,.mov,[.t 217]⟩ ::
 []) [4])
 (.ret))))))))))))))
theorem BF:DR E0 Cp BA [.t 4] 218:=AP (fl:=[]) (by kernel_rfl)
abbrev Ms:Nat:=14
def LN:PC :=
 .seq (.reg [] (
 ⟨some 1,none,.box,[.t 0]⟩ ::
 ⟨some 2,none,.mov,[.k (.d (.bool false))]⟩ ::
 []) [1])
 (.seq (.reg [] (
 ⟨some 3,none,.load true 2,[.t 1]⟩ ::
 ⟨some 4,none,.call 17,[.t 3]⟩ ::
 ⟨some 5,none,.bin .eql,[.t 4,.k (.d (.int .i64 0))]⟩ ::
 ⟨some 6,none,.mov,[.t 5]⟩ ::
 ⟨some 7,some (6,true),.faddr 0,[.t 1]⟩ ::
 ⟨some 8,some (6,true),.load false 1,[.t 7]⟩ ::
 ⟨some 9,some (6,true),.bin .gtr,[.t 8,.k (.d (.int .i64 10))]⟩ ::
 ⟨some 10,some (6,true),.mov,[.t 9]⟩ ::
 ⟨some 11,some (10,false),.faddr 1,[.t 1]⟩ ::
 ⟨some 12,some (10,false),.load false 1,[.t 11]⟩ ::
 ⟨some 13,some (10,false),.bin .gtr,[.t 12,.k (.d (.int .i64 6))]⟩ ::
 ⟨some 14,some (6,true),.pick,[.t 10,.k (.d (.bool true)),.t 13]⟩ ::
 ⟨some 15,none,.pick,[.t 6,.t 14,.k (.d (.bool false))]⟩ ::
 ⟨some 2,none,.mov,[.t 15]⟩ ::
 []) [2])
 (.ret))
theorem Ox:DR E0 Ms LN [.t 2] 16:=AP (fl:=[]) (by kernel_rfl)
abbrev KU:Nat:=15
def JC:PC :=
 .seq (.reg [] (
 ⟨some 0,none,.mov,[.k (.d (.bool false))]⟩ ::
 []) [])
 (.seq (.reg [] (
 ⟨some 11,none,.call 43,[]⟩ ::
 ⟨some 12,none,.mkrow 1 (.int .i64 0) 3 [0,1,2],[.k (.d (.int .i64 1)),.k (.d (.int .i64 2)),.k (.d (.int .i64 3))]⟩ ::
 ⟨some 13,none,.call 18,[.t 11,.t 12]⟩ ::
 ⟨some 10,none,.mov,[.t 13]⟩ ::
 ⟨some 14,none,.extract 0,[.t 10]⟩ ::
 ⟨some 15,none,.extract 1,[.t 10]⟩ ::
 ⟨some 1,none,.mov,[.t 14]⟩ ::
 ⟨some 2,none,.mov,[.t 15]⟩ ::
 []) [1,2])
 (.seq (.reg [] (
 ⟨some 17,none,.call 43,[]⟩ ::
 ⟨some 18,none,.mkrow 1 (.int .i64 0) 5 [0,1,2,3,4],[.k (.d (.int .i64 1)),.k (.d (.int .i64 2)),.k (.d (.int .i64 7)),.k (.d (.int .i64 4)),.k (.d (.int .i64 4))]⟩ ::
 ⟨some 19,none,.call 20,[.t 17,.t 18,.k (.d (.list true []))]⟩ ::
 ⟨some 16,none,.mov,[.t 19]⟩ ::
 ⟨some 20,none,.extract 0,[.t 16]⟩ ::
 ⟨some 21,none,.extract 1,[.t 16]⟩ ::
 ⟨some 3,none,.mov,[.t 20]⟩ ::
 ⟨some 4,none,.mov,[.t 21]⟩ ::
 []) [1,2,3,4])
 (.seq (.reg [] (
 ⟨some 23,none,.call 43,[]⟩ ::
 ⟨some 24,none,.mkrow 1 (.int .i64 0) 5 [0,1,2,3,4],[.k (.d (.int .i64 0)),.k (.d (.int .i64 0)),.k (.d (.int .i64 3)),.k (.d (.int .i64 4)),.k (.d (.int .i64 4))]⟩ ::
 ⟨some 25,none,.call 20,[.t 23,.t 24,.k (.d (.list true []))]⟩ ::
 ⟨some 22,none,.mov,[.t 25]⟩ ::
 ⟨some 26,none,.extract 0,[.t 22]⟩ ::
 ⟨some 27,none,.extract 1,[.t 22]⟩ ::
 ⟨some 5,none,.mov,[.t 26]⟩ ::
 ⟨some 6,none,.mov,[.t 27]⟩ ::
 []) [1,2,3,4,6])
 (.seq (.reg [] (
 ⟨some 29,none,.call 43,[]⟩ ::
 ⟨some 30,none,.call 32,[.t 29]⟩ ::
 ⟨some 28,none,.mov,[.t 30]⟩ ::
 ⟨some 31,none,.extract 0,[.t 28]⟩ ::
 ⟨some 32,none,.extract 1,[.t 28]⟩ ::
 ⟨some 33,none,.extract 2,[.t 28]⟩ ::
 ⟨some 7,none,.mov,[.t 31]⟩ ::
 ⟨some 8,none,.mov,[.t 32]⟩ ::
 ⟨some 9,none,.mov,[.t 33]⟩ ::
 []) [1,2,3,4,6,7,8,9])
 (.seq (.reg [] (
 ⟨some 34,none,.mov,[.t 2]⟩ ::
 ⟨some 35,none,.bin .eql,[.t 34,.k (.d (.int .i64 0))]⟩ ::
 ⟨some 36,none,.mov,[.t 35]⟩ ::
 ⟨some 37,some (36,true),.mov,[.t 4]⟩ ::
 ⟨some 38,some (36,true),.bin .eql,[.t 37,.k (.d (.int .i64 0))]⟩ ::
 ⟨some 39,none,.pick,[.t 36,.t 38,.k (.d (.bool false))]⟩ ::
 ⟨some 40,none,.mov,[.t 39]⟩ ::
 ⟨some 41,some (40,true),.mov,[.t 6]⟩ ::
 ⟨some 42,some (40,true),.bin .eql,[.t 41,.k (.d (.int .i64 52))]⟩ ::
 ⟨some 43,none,.pick,[.t 40,.t 42,.k (.d (.bool false))]⟩ ::
 ⟨some 44,none,.mov,[.t 43]⟩ ::
 ⟨some 45,some (44,true),.mov,[.t 9]⟩ ::
 ⟨some 46,some (44,true),.bin .eql,[.t 45,.k (.d (.int .i64 0))]⟩ ::
 ⟨some 47,none,.pick,[.t 44,.t 46,.k (.d (.bool false))]⟩ ::
 ⟨some 48,none,.mov,[.t 47]⟩ ::
 ⟨some 49,some (48,true),.mov,[.t 1]⟩ ::
 ⟨some 50,some (48,true),.mkrow 1 (.int .i64 0) 5 [0,1,2,3,4],[.k (.d (.int .i64 1)),.k (.d (.int .i64 2)),.k (.d (.int .i64 3)),.k (.d (.int .i64 4)),.k (.d (.int .i64 4))]⟩ ::
 ⟨some 51,some (48,true),.call 22,[.t 49,.t 50]⟩ ::
 ⟨some 52,none,.pick,[.t 48,.t 51,.k (.d (.bool false))]⟩ ::
 ⟨some 53,none,.mov,[.t 52]⟩ ::
 ⟨some 54,some (53,true),.mov,[.t 3]⟩ ::
 ⟨some 55,some (53,true),.mov,[.t 1]⟩ ::
 ⟨some 56,some (53,true),.call 22,[.t 54,.t 55]⟩ ::
 ⟨some 57,none,.pick,[.t 53,.t 56,.k (.d (.bool false))]⟩ ::
 ⟨some 58,none,.mov,[.t 57]⟩ ::
 ⟨some 59,some (58,true),.mov,[.t 7]⟩ ::
 ⟨some 60,some (58,true),.bin .eql,[.t 59,.k (.d (.int .i64 19))]⟩ ::
 ⟨some 61,none,.pick,[.t 58,.t 60,.k (.d (.bool false))]⟩ ::
 ⟨some 62,none,.mov,[.t 61]⟩ ::
 ⟨some 63,some (62,true),.mov,[.t 8]⟩ ::
 ⟨some 64,some (62,true),.bin .eql,[.t 63,.k (.d (.int .i64 64))]⟩ ::
 ⟨some 65,none,.pick,[.t 62,.t 64,.k (.d (.bool false))]⟩ ::
 ⟨some 0,none,.mov,[.t 65]⟩ ::
 []) [0])
 (.ret))))))
theorem M_:DR E0 KU JC [.t 0] 66:=AP (fl:=[]) (by kernel_rfl)
abbrev Ie:Nat:=16
def HZ:PC :=
 .seq (.reg [] (
 ⟨some 1,none,.box,[.t 0]⟩ ::
 ⟨some 2,none,.mov,[.k (.d (.int .i64 0))]⟩ ::
 []) [1])
 (.seq (.seq (.reg [] (
 ⟨some 3,none,.faddr 0,[.t 1]⟩ ::
 ⟨some 4,none,.load false 1,[.t 3]⟩ ::
 ⟨some 5,none,.bin .lss,[.t 4,.k (.d (.int .i64 2))]⟩ ::
 ⟨some 6,none,.mov,[.t 5]⟩ ::
 ⟨some 7,some (6,false),.faddr 0,[.t 1]⟩ ::
 ⟨some 8,some (6,false),.load false 1,[.t 7]⟩ ::
 ⟨some 9,some (6,false),.bin .gtr,[.t 8,.k (.d (.int .i64 15))]⟩ ::
 ⟨some 10,none,.pick,[.t 6,.k (.d (.bool true)),.t 9]⟩ ::
 ⟨some 11,none,.mov,[.t 10]⟩ ::
 ⟨some 12,some (11,false),.faddr 1,[.t 1]⟩ ::
 ⟨some 13,some (11,false),.load false 1,[.t 12]⟩ ::
 ⟨some 14,some (11,false),.bin .lss,[.t 13,.k (.d (.int .i64 1))]⟩ ::
 ⟨some 15,none,.pick,[.t 11,.k (.d (.bool true)),.t 14]⟩ ::
 ⟨some 16,none,.mov,[.t 15]⟩ ::
 ⟨some 17,some (16,false),.faddr 1,[.t 1]⟩ ::
 ⟨some 18,some (16,false),.load false 1,[.t 17]⟩ ::
 ⟨some 19,some (16,false),.bin .gtr,[.t 18,.k (.d (.int .i64 8))]⟩ ::
 ⟨some 20,none,.pick,[.t 16,.k (.d (.bool true)),.t 19]⟩ ::
 ⟨some 21,none,.mov,[.t 20]⟩ ::
 ⟨some 22,some (21,false),.faddr 1,[.t 1]⟩ ::
 ⟨some 23,some (21,false),.load false 1,[.t 22]⟩ ::
 ⟨some 24,some (21,false),.faddr 0,[.t 1]⟩ ::
 ⟨some 25,some (21,false),.load false 1,[.t 24]⟩ ::
 ⟨some 26,some (21,false),.bin .geq,[.t 23,.t 25]⟩ ::
 ⟨some 27,none,.pick,[.t 21,.k (.d (.bool true)),.t 26]⟩ ::
 []) [27])
 (.cond (.t 27)
 (.seq (.reg [] (
 ⟨some 2,none,.mov,[.k (.d (.int .i64 50))]⟩ ::
 []) [2])
 (.ret))
 (.skip)))
 (.seq (.reg [] (
 ⟨some 2,none,.mov,[.k (.d (.int .i64 0))]⟩ ::
 []) [2])
 (.ret)))
theorem Lf:DR E0 Ie HZ [.t 2] 28:=AP (fl:=[]) (by kernel_rfl)
abbrev KR:Nat:=17
def I':PC :=
 .seq (.reg [] (
 ⟨some 1,none,.box,[.t 0]⟩ ::
 ⟨some 2,none,.mov,[.k (.d (.int .i64 0))]⟩ ::
 []) [1])
 (.seq (.seq (.reg [] (
 ⟨some 3,none,.faddr 0,[.t 1]⟩ ::
 ⟨some 4,none,.load false 1,[.t 3]⟩ ::
 ⟨some 5,none,.call 44,[.t 4,.k (.d (.int .i64 2)),.k (.d (.int .i64 15))]⟩ ::
 ⟨some 6,none,.un .not,[.t 5]⟩ ::
 ⟨some 7,none,.mov,[.t 6]⟩ ::
 ⟨some 8,some (7,false),.faddr 1,[.t 1]⟩ ::
 ⟨some 9,some (7,false),.load false 1,[.t 8]⟩ ::
 ⟨some 10,some (7,false),.call 44,[.t 9,.k (.d (.int .i64 1)),.k (.d (.int .i64 8))]⟩ ::
 ⟨some 11,some (7,false),.un .not,[.t 10]⟩ ::
 ⟨some 12,none,.pick,[.t 7,.k (.d (.bool true)),.t 11]⟩ ::
 ⟨some 13,none,.mov,[.t 12]⟩ ::
 ⟨some 14,some (13,false),.faddr 1,[.t 1]⟩ ::
 ⟨some 15,some (13,false),.load false 1,[.t 14]⟩ ::
 ⟨some 16,some (13,false),.faddr 0,[.t 1]⟩ ::
 ⟨some 17,some (13,false),.load false 1,[.t 16]⟩ ::
 ⟨some 18,some (13,false),.bin .geq,[.t 15,.t 17]⟩ ::
 ⟨some 19,none,.pick,[.t 13,.k (.d (.bool true)),.t 18]⟩ ::
 []) [19])
 (.cond (.t 19)
 (.seq (.reg [] (
 ⟨some 2,none,.mov,[.k (.d (.int .i64 50))]⟩ ::
 []) [2])
 (.ret))
 (.skip)))
 (.seq (.reg [] (
 ⟨some 2,none,.mov,[.k (.d (.int .i64 0))]⟩ ::
 []) [2])
 (.ret)))
theorem M7:DR E0 KR I' [.t 2] 20:=AP (fl:=[]) (by kernel_rfl)
abbrev FP:Nat:=18
def Gz:PC :=
 .seq (.reg [] (
 ⟨some 2,none,.box,[.t 0]⟩ ::
 ⟨some 4,none,.mov,[.k (.d (.list true []))]⟩ ::
 ⟨some 5,none,.mov,[.k (.d (.int .i64 0))]⟩ ::
 []) [1,2])
 (.seq (.seq (.reg [] (
 ⟨some 7,none,.load true 2,[.t 2]⟩ ::
 ⟨some 8,none,.call 16,[.t 7]⟩ ::
 ⟨some 6,none,.mov,[.t 8]⟩ ::
 []) [1,2,6])
 (.seq (.reg [] (
 ⟨some 9,none,.mov,[.t 6]⟩ ::
 ⟨some 10,none,.bin .neq,[.t 9,.k (.d (.int .i64 0))]⟩ ::
 []) [1,2,6,10])
 (.cond (.t 10)
 (.seq (.reg [] (
 ⟨some 11,none,.mov,[.t 6]⟩ ::
 ⟨some 4,none,.mov,[.k (.d (.list true []))]⟩ ::
 ⟨some 5,none,.mov,[.t 11]⟩ ::
 []) [4,5])
 (.ret))
 (.skip))))
 (.seq (.seq (.reg [] (
 ⟨some 12,none,.mov,[.t 1]⟩ ::
 ⟨some 13,none,.faddr 0,[.t 2]⟩ ::
 ⟨some 14,none,.load false 1,[.t 13]⟩ ::
 ⟨some 15,none,.faddr 1,[.t 2]⟩ ::
 ⟨some 16,none,.load false 1,[.t 15]⟩ ::
 ⟨some 17,none,.bin .sub,[.t 14,.t 16]⟩ ::
 ⟨some 18,none,.call 45,[.t 12,.t 17]⟩ ::
 ⟨some 19,none,.un .not,[.t 18]⟩ ::
 []) [1,2,19])
 (.cond (.t 19)
 (.seq (.reg [] (
 ⟨some 4,none,.mov,[.k (.d (.list true []))]⟩ ::
 ⟨some 5,none,.mov,[.k (.d (.int .i64 51))]⟩ ::
 []) [4,5])
 (.ret))
 (.skip)))
 (.seq (.draw [] (
 (⟨some 20,none,.load true 2,[.t 2]⟩,[]) ::
 (⟨some 21,none,.build [.int .i64 0,.int .i64 0] [(0,2)],[.t 20]⟩,[]) ::
 (⟨some 22,none,.mov,[.t 1]⟩,[]) ::
 (⟨some 23,none,.call 48,[.t 22]⟩,[0]) ::
 (⟨some 24,none,.call 47,[.t 21,.t 23]⟩,[]) ::
 (⟨some 25,none,.call 46,[.t 24]⟩,[]) ::
 (⟨some 4,none,.mov,[.t 25]⟩,[]) ::
 (⟨some 5,none,.mov,[.k (.d (.int .i64 0))]⟩,[]) ::
 []) [4,5])
 (.ret))))
theorem Kv:DR E0 FP Gz [.t 4,.t 5] 26:=AP (fl:=[]) (by kernel_rfl)
abbrev Gi:Nat:=19
def IW:PC :=
 .seq (.reg [] (
 ⟨some 2,none,.box,[.t 0]⟩ ::
 ⟨some 4,none,.mov,[.k (.d (.list true []))]⟩ ::
 ⟨some 5,none,.mov,[.k (.d (.int .i64 0))]⟩ ::
 []) [1,2])
 (.seq (.seq (.reg [] (
 ⟨some 7,none,.load true 2,[.t 2]⟩ ::
 ⟨some 8,none,.mov,[.t 1]⟩ ::
 ⟨some 9,none,.call 49,[.t 7,.t 8]⟩ ::
 ⟨some 6,none,.mov,[.t 9]⟩ ::
 []) [1,2,6])
 (.seq (.reg [] (
 ⟨some 10,none,.mov,[.t 6]⟩ ::
 ⟨some 11,none,.bin .neq,[.t 10,.k (.d (.int .i64 0))]⟩ ::
 []) [1,2,6,11])
 (.cond (.t 11)
 (.seq (.reg [] (
 ⟨some 12,none,.mov,[.t 6]⟩ ::
 ⟨some 4,none,.mov,[.k (.d (.list true []))]⟩ ::
 ⟨some 5,none,.mov,[.t 12]⟩ ::
 []) [4,5])
 (.ret))
 (.skip))))
 (.seq (.reg [] (
 ⟨some 13,none,.load true 2,[.t 2]⟩ ::
 ⟨some 14,none,.mov,[.t 1]⟩ ::
 ⟨some 15,none,.call 50,[.t 13,.t 14]⟩ ::
 ⟨some 4,none,.mov,[.t 15]⟩ ::
 ⟨some 5,none,.mov,[.k (.d (.int .i64 0))]⟩ ::
 []) [4,5])
 (.ret)))
theorem MN:DR E0 Gi IW [.t 4,.t 5] 16:=AP (fl:=[]) (by kernel_rfl)
abbrev ED:Nat:=20
def G1:PC :=
 .seq (.reg [] (
 ⟨some 3,none,.box,[.t 0]⟩ ::
 ⟨some 6,none,.mov,[.k (.d (.list true []))]⟩ ::
 ⟨some 7,none,.mov,[.k (.d (.int .i64 0))]⟩ ::
 []) [1,2,3])
 (.seq (.seq (.reg [] (
 ⟨some 11,none,.load true 2,[.t 3]⟩ ::
 ⟨some 12,none,.call 16,[.t 11]⟩ ::
 ⟨some 8,none,.mov,[.t 12]⟩ ::
 []) [1,2,3,8])
 (.seq (.reg [] (
 ⟨some 13,none,.mov,[.t 8]⟩ ::
 ⟨some 14,none,.bin .neq,[.t 13,.k (.d (.int .i64 0))]⟩ ::
 []) [1,2,3,8,14])
 (.cond (.t 14)
 (.seq (.reg [] (
 ⟨some 15,none,.mov,[.t 8]⟩ ::
 ⟨some 6,none,.mov,[.k (.d (.list true []))]⟩ ::
 ⟨some 7,none,.mov,[.t 15]⟩ ::
 []) [6,7])
 (.ret))
 (.skip))))
 (.seq (.seq (.reg [] (
 ⟨some 16,none,.mov,[.t 1]⟩ ::
 ⟨some 17,none,.faddr 0,[.t 3]⟩ ::
 ⟨some 18,none,.load false 1,[.t 17]⟩ ::
 ⟨some 19,none,.call 45,[.t 16,.t 18]⟩ ::
 ⟨some 20,none,.un .not,[.t 19]⟩ ::
 []) [1,2,3,20])
 (.cond (.t 20)
 (.seq (.reg [] (
 ⟨some 6,none,.mov,[.k (.d (.list true []))]⟩ ::
 ⟨some 7,none,.mov,[.k (.d (.int .i64 51))]⟩ ::
 []) [6,7])
 (.ret))
 (.skip)))
 (.seq (.seq (.reg [] (
 ⟨some 21,none,.mov,[.t 2]⟩ ::
 ⟨some 22,none,.faddr 0,[.t 3]⟩ ::
 ⟨some 23,none,.load false 1,[.t 22]⟩ ::
 ⟨some 24,none,.call 51,[.t 21,.t 23]⟩ ::
 ⟨some 25,none,.un .not,[.t 24]⟩ ::
 []) [1,2,3,25])
 (.cond (.t 25)
 (.seq (.reg [] (
 ⟨some 6,none,.mov,[.k (.d (.list true []))]⟩ ::
 ⟨some 7,none,.mov,[.k (.d (.int .i64 1))]⟩ ::
 []) [6,7])
 (.ret))
 (.skip)))
 (.seq (.draw [] (
 (⟨some 27,none,.load true 2,[.t 3]⟩,[]) ::
 (⟨some 28,none,.build [.int .i64 0,.int .i64 0] [(0,2)],[.t 27]⟩,[]) ::
 (⟨some 29,none,.mov,[.t 1]⟩,[]) ::
 (⟨some 30,none,.call 48,[.t 29]⟩,[0]) ::
 (⟨some 31,none,.mov,[.t 2]⟩,[]) ::
 (⟨some 32,none,.call 52,[.t 28,.t 30,.t 31]⟩,[]) ::
 (⟨some 26,none,.mov,[.t 32]⟩,[]) ::
 (⟨some 33,none,.extract 0,[.t 26]⟩,[]) ::
 (⟨some 34,none,.extract 1,[.t 26]⟩,[]) ::
 (⟨some 9,none,.mov,[.t 33]⟩,[]) ::
 (⟨some 10,none,.mov,[.t 34]⟩,[]) ::
 []) [9,10])
 (.seq (.seq (.reg [] (
 ⟨some 35,none,.mov,[.t 10]⟩ ::
 ⟨some 36,none,.un .not,[.t 35]⟩ ::
 []) [9,36])
 (.cond (.t 36)
 (.seq (.reg [] (
 ⟨some 6,none,.mov,[.k (.d (.list true []))]⟩ ::
 ⟨some 7,none,.mov,[.k (.d (.int .i64 52))]⟩ ::
 []) [6,7])
 (.ret))
 (.skip)))
 (.seq (.reg [] (
 ⟨some 37,none,.mov,[.t 9]⟩ ::
 ⟨some 38,none,.call 46,[.t 37]⟩ ::
 ⟨some 6,none,.mov,[.t 38]⟩ ::
 ⟨some 7,none,.mov,[.k (.d (.int .i64 0))]⟩ ::
 []) [6,7])
 (.ret)))))))
theorem Kw:DR E0 ED G1 [.t 6,.t 7] 39:=AP (fl:=[]) (by kernel_rfl)
abbrev ZZ:Nat:=21
abbrev Hr:Nat:=22
def Gv:PC :=
 .seq (.reg [] (
 ⟨some 4,none,.mov,[.k (.d (.bool false))]⟩ ::
 []) [0,1])
 (.seq (.seq (.reg [] (
 ⟨some 6,none,.mov,[.t 0]⟩ ::
 ⟨some 7,none,.len false,[.t 6]⟩ ::
 ⟨some 8,none,.mov,[.t 1]⟩ ::
 ⟨some 9,none,.len false,[.t 8]⟩ ::
 ⟨some 10,none,.bin .neq,[.t 7,.t 9]⟩ ::
 []) [0,1,10])
 (.cond (.t 10)
 (.seq (.reg [] (
 ⟨some 4,none,.mov,[.k (.d (.bool false))]⟩ ::
 []) [4])
 (.ret))
 (.skip)))
 (.seq (.seq (.reg [] (
 ⟨some 5,none,.mov,[.k (.d (.int .i64 0))]⟩ ::
 []) [0,1,5])
 (.block 0
 (.loop [] [0,1,5] [900000,900001,901000,901001]
 (.seq (.seq (.reg [] (
 ⟨some 11,none,.mov,[.t 5]⟩ ::
 ⟨some 12,none,.mov,[.t 0]⟩ ::
 ⟨some 13,none,.len false,[.t 12]⟩ ::
 ⟨some 14,none,.bin .lss,[.t 11,.t 13]⟩ ::
 []) [0,1,5,14])
 (.cond (.t 14)
 (.skip)
 (.exit 0)))
 (.seq (.block 1
 (.seq (.draw [] (
 (⟨some 17,none,.mov,[.t 0]⟩,[]) ::
 (⟨some 18,none,.mov,[.t 5]⟩,[]) ::
 (⟨some 19,none,.iaddrS 1,[.t 17,.t 18]⟩,[]) ::
 (⟨some 20,none,.load false 1,[.t 19]⟩,[]) ::
 (⟨some 21,none,.mov,[.t 1]⟩,[]) ::
 (⟨some 22,none,.mov,[.t 5]⟩,[]) ::
 (⟨some 23,none,.iaddrS 1,[.t 21,.t 22]⟩,[]) ::
 (⟨some 24,none,.load false 1,[.t 23]⟩,[]) ::
 (⟨some 25,none,.bin .neq,[.t 20,.t 24]⟩,[]) ::
 []) [0,1,5,25])
 (.cond (.t 25)
 (.seq (.reg [] (
 ⟨some 4,none,.mov,[.k (.d (.bool false))]⟩ ::
 []) [4])
 (.ret))
 (.skip))))
 (.reg [] (
 ⟨some 15,none,.mov,[.t 5]⟩ ::
 ⟨some 16,none,.bin .add,[.t 15,.k (.d (.int .i64 1))]⟩ ::
 ⟨some 5,none,.mov,[.t 16]⟩ ::
 []) [0,1,5]))))))
 (.seq (.reg [] (
 ⟨some 4,none,.mov,[.k (.d (.bool true))]⟩ ::
 []) [4])
 (.ret))))
theorem Kr:DR E0 Hr Gv [.t 4] 26:=AP (fl:=[]) (by kernel_rfl)
abbrev KV:Nat:=23
def JD:PC :=
 .seq (.reg [] (
 ⟨some 1,none,.box,[.t 0]⟩ ::
 ⟨some 2,none,.mov,[.k (.d (.bool false))]⟩ ::
 []) [1])
 (.seq (.reg [] (
 ⟨some 3,none,.load true 2,[.t 1]⟩ ::
 ⟨some 4,none,.call 14,[.t 3]⟩ ::
 ⟨some 5,none,.un .not,[.t 4]⟩ ::
 ⟨some 6,none,.mov,[.t 5]⟩ ::
 ⟨some 7,some (6,true),.load true 2,[.t 1]⟩ ::
 ⟨some 8,some (6,true),.call 17,[.t 7]⟩ ::
 ⟨some 9,some (6,true),.bin .eql,[.t 8,.k (.d (.int .i64 0))]⟩ ::
 ⟨some 10,none,.pick,[.t 6,.t 9,.k (.d (.bool false))]⟩ ::
 ⟨some 2,none,.mov,[.t 10]⟩ ::
 []) [2])
 (.ret))
theorem NA:DR E0 KV JD [.t 2] 11:=AP (fl:=[]) (by kernel_rfl)
abbrev Wy:Nat:=24
abbrev Gk:Nat:=25
def Fv:PC :=
 .seq (.reg [] (
 ⟨some 4,none,.mov,[.k (.d (.bool false))]⟩ ::
 []) [0,1])
 (.seq (.seq (.reg [] (
 ⟨some 5,none,.mov,[.k (.d (.int .i64 0))]⟩ ::
 []) [0,1,5])
 (.block 0
 (.loop [] [0,1,5] [900000,900001,901000,901001]
 (.seq (.seq (.reg [] (
 ⟨some 6,none,.mov,[.t 5]⟩ ::
 ⟨some 7,none,.mov,[.t 0]⟩ ::
 ⟨some 8,none,.len false,[.t 7]⟩ ::
 ⟨some 9,none,.bin .lss,[.t 6,.t 8]⟩ ::
 []) [0,1,5,9])
 (.cond (.t 9)
 (.skip)
 (.exit 0)))
 (.seq (.block 1
 (.seq (.reg [] (
 ⟨some 12,none,.mov,[.t 0]⟩ ::
 ⟨some 13,none,.mov,[.t 5]⟩ ::
 ⟨some 14,none,.iaddrS 1,[.t 12,.t 13]⟩ ::
 ⟨some 15,none,.load false 1,[.t 14]⟩ ::
 ⟨some 16,none,.call 44,[.t 15,.k (.d (.int .i64 0)),.k (.d (.int .i64 15))]⟩ ::
 ⟨some 17,none,.un .not,[.t 16]⟩ ::
 []) [0,1,5,17])
 (.cond (.t 17)
 (.seq (.reg [] (
 ⟨some 4,none,.mov,[.k (.d (.bool false))]⟩ ::
 []) [4])
 (.ret))
 (.skip))))
 (.reg [] (
 ⟨some 10,none,.mov,[.t 5]⟩ ::
 ⟨some 11,none,.bin .add,[.t 10,.k (.d (.int .i64 1))]⟩ ::
 ⟨some 5,none,.mov,[.t 11]⟩ ::
 []) [0,1,5]))))))
 (.seq (.reg [] (
 ⟨some 18,none,.mov,[.t 0]⟩ ::
 ⟨some 19,none,.len false,[.t 18]⟩ ::
 ⟨some 20,none,.mov,[.t 1]⟩ ::
 ⟨some 21,none,.bin .eql,[.t 19,.t 20]⟩ ::
 ⟨some 4,none,.mov,[.t 21]⟩ ::
 []) [4])
 (.ret)))
theorem JU:DR E0 Gk Fv [.t 4] 22:=AP (fl:=[]) (by kernel_rfl)
abbrev ZX:Nat:=26
abbrev KW:Nat:=27
def JE:PC :=
 .seq (.reg [] (
 ⟨some 4,none,.mov,[.k (.d (.list true []))]⟩ ::
 []) [0,1])
 (.seq (.reg [] (
 ⟨some 5,none,.mov,[.k (.d (.list true []))]⟩ ::
 []) [0,1,5])
 (.seq (.seq (.reg [] (
 ⟨some 6,none,.mov,[.k (.d (.int .i64 0))]⟩ ::
 []) [0,1,5,6])
 (.block 0
 (.loop [.own 5 24 3 1] [0,1,5,6] [24,900000,900001,901000,901001]
 (.seq (.seq (.reg [] (
 ⟨some 7,none,.mov,[.t 6]⟩ ::
 ⟨some 8,none,.mov,[.t 0]⟩ ::
 ⟨some 9,none,.len false,[.t 8]⟩ ::
 ⟨some 10,none,.bin .lss,[.t 7,.t 9]⟩ ::
 []) [0,1,5,6,10])
 (.cond (.t 10)
 (.skip)
 (.exit 0)))
 (.seq (.block 1
 (.draw [] (
 (⟨some 13,none,.mov,[.t 5]⟩,[]) ::
 (⟨some 14,none,.mov,[.t 0]⟩,[]) ::
 (⟨some 15,none,.mov,[.t 6]⟩,[]) ::
 (⟨some 16,none,.iaddrS 1,[.t 14,.t 15]⟩,[]) ::
 (⟨some 17,none,.load false 1,[.t 16]⟩,[]) ::
 (⟨some 18,none,.mov,[.t 1]⟩,[]) ::
 (⟨some 19,none,.mov,[.t 6]⟩,[]) ::
 (⟨some 20,none,.iaddrS 1,[.t 18,.t 19]⟩,[]) ::
 (⟨some 21,none,.load false 1,[.t 20]⟩,[]) ::
 (⟨some 22,none,.bin .xor,[.t 17,.t 21]⟩,[]) ::
 (⟨some 23,none,.mkrow 1 (.int .i64 0) 1 [0],[.t 22]⟩,[]) ::
 (⟨some 24,none,.app 3 1 none true,[.t 13,.t 23]⟩,[]) ::
 (⟨some 5,none,.mov,[.t 24]⟩,[]) ::
 []) [0,1,5,6]))
 (.reg [] (
 ⟨some 11,none,.mov,[.t 6]⟩ ::
 ⟨some 12,none,.bin .add,[.t 11,.k (.d (.int .i64 1))]⟩ ::
 ⟨some 6,none,.mov,[.t 12]⟩ ::
 []) [0,1,5,6]))))))
 (.seq (.reg [] (
 ⟨some 25,none,.mov,[.t 5]⟩ ::
 ⟨some 4,none,.mov,[.t 25]⟩ ::
 []) [4])
 (.ret))))
theorem NB:DR E0 KW JE [.t 4] 26:=AP (fl:=[24]) (by kernel_rfl)
abbrev HO:Nat:=28
def JB:PC :=
 .seq (.reg [] (
 ⟨some 6,none,.mov,[.k (.d (.int .i64 0))]⟩ ::
 []) [0,1,2])
 (.seq (.reg [] (
 ⟨some 7,none,.mov,[.k (.d (.int .i64 0))]⟩ ::
 []) [0,1,2,7])
 (.seq (.seq (.reg [] (
 ⟨some 8,none,.mov,[.k (.d (.int .i64 0))]⟩ ::
 []) [0,1,2,7,8])
 (.block 0
 (.loop [] [0,1,2,7,8] [900000,900001,900002,901000,901001,901002]
 (.seq (.seq (.reg [] (
 ⟨some 9,none,.mov,[.t 8]⟩ ::
 ⟨some 10,none,.mov,[.t 0]⟩ ::
 ⟨some 11,none,.len false,[.t 10]⟩ ::
 ⟨some 12,none,.bin .lss,[.t 9,.t 11]⟩ ::
 []) [0,1,2,7,8,12])
 (.cond (.t 12)
 (.skip)
 (.exit 0)))
 (.seq (.block 1
 (.seq (.draw [] (
 (⟨some 15,none,.mov,[.t 0]⟩,[]) ::
 (⟨some 16,none,.mov,[.t 8]⟩,[]) ::
 (⟨some 17,none,.iaddrS 1,[.t 15,.t 16]⟩,[]) ::
 (⟨some 18,none,.load false 1,[.t 17]⟩,[]) ::
 (⟨some 19,none,.mov,[.t 1]⟩,[]) ::
 (⟨some 20,none,.mov,[.t 8]⟩,[]) ::
 (⟨some 21,none,.iaddrS 1,[.t 19,.t 20]⟩,[]) ::
 (⟨some 22,none,.load false 1,[.t 21]⟩,[]) ::
 (⟨some 23,none,.bin .neq,[.t 18,.t 22]⟩,[]) ::
 (⟨some 24,none,.mov,[.t 23]⟩,[]) ::
 (⟨some 25,some (24,true),.mov,[.t 2]⟩,[]) ::
 (⟨some 26,some (24,true),.mov,[.t 8]⟩,[]) ::
 (⟨some 27,some (24,true),.call 57,[.t 25,.t 26]⟩,[]) ::
 (⟨some 28,some (24,true),.un .not,[.t 27]⟩,[]) ::
 (⟨some 29,none,.pick,[.t 24,.t 28,.k (.d (.bool false))]⟩,[]) ::
 []) [0,1,2,7,8,29])
 (.cond (.t 29)
 (.reg [] (
 ⟨some 30,none,.mov,[.t 7]⟩ ::
 ⟨some 31,none,.bin .add,[.t 30,.k (.d (.int .i64 1))]⟩ ::
 ⟨some 7,none,.mov,[.t 31]⟩ ::
 []) [0,1,2,7,8])
 (.skip))))
 (.reg [] (
 ⟨some 13,none,.mov,[.t 8]⟩ ::
 ⟨some 14,none,.bin .add,[.t 13,.k (.d (.int .i64 1))]⟩ ::
 ⟨some 8,none,.mov,[.t 14]⟩ ::
 []) [0,1,2,7,8]))))))
 (.seq (.reg [] (
 ⟨some 32,none,.mov,[.t 7]⟩ ::
 ⟨some 6,none,.mov,[.t 32]⟩ ::
 []) [6])
 (.ret))))
theorem M9:DR E0 HO JB [.t 6] 33:=AP (fl:=[]) (by kernel_rfl)
abbrev HN:Nat:=29
def I9:PC :=
 .seq (.reg [] (
 ⟨some 4,none,.mov,[.k (.d (.int .i64 0))]⟩ ::
 []) [0,1])
 (.seq (.reg [] (
 ⟨some 5,none,.mov,[.k (.d (.int .i64 0))]⟩ ::
 []) [0,1,5])
 (.seq (.seq (.reg [] (
 ⟨some 6,none,.mov,[.k (.d (.int .i64 0))]⟩ ::
 []) [0,1,5,6])
 (.block 0
 (.loop [] [0,1,5,6] [21,10021,900000,900001,901000,901001]
 (.seq (.seq (.reg [] (
 ⟨some 7,none,.mov,[.t 6]⟩ ::
 ⟨some 8,none,.bin .lss,[.t 7,.k (.d (.int .i64 4))]⟩ ::
 []) [0,1,5,6,8])
 (.cond (.t 8)
 (.skip)
 (.exit 0)))
 (.seq (.block 1
 (.seq (.seq (.reg [] (
 ⟨some 11,none,.mov,[.t 1]⟩ ::
 ⟨some 12,none,.mov,[.t 6]⟩ ::
 ⟨some 13,none,.conv .u64,[.t 12]⟩ ::
 ⟨some 14,none,.bin .shr,[.t 11,.t 13]⟩ ::
 ⟨some 15,none,.bin .and,[.t 14,.k (.d (.int .i64 1))]⟩ ::
 ⟨some 16,none,.bin .eql,[.t 15,.k (.d (.int .i64 1))]⟩ ::
 []) [0,1,5,6,16])
 (.cond (.t 16)
 (.reg [] (
 ⟨some 17,none,.mov,[.t 5]⟩ ::
 ⟨some 18,none,.mov,[.t 0]⟩ ::
 ⟨some 19,none,.bin .xor,[.t 17,.t 18]⟩ ::
 ⟨some 5,none,.mov,[.t 19]⟩ ::
 []) [0,1,5,6])
 (.skip)))
 (.reg [] (
 ⟨some 20,none,.mov,[.t 0]⟩ ::
 ⟨some 21,none,.call 58,[.t 20]⟩ ::
 ⟨some 0,none,.mov,[.t 21]⟩ ::
 []) [0,1,5,6])))
 (.reg [] (
 ⟨some 9,none,.mov,[.t 6]⟩ ::
 ⟨some 10,none,.bin .add,[.t 9,.k (.d (.int .i64 1))]⟩ ::
 ⟨some 6,none,.mov,[.t 10]⟩ ::
 []) [0,1,5,6]))))))
 (.seq (.reg [] (
 ⟨some 22,none,.mov,[.t 5]⟩ ::
 ⟨some 4,none,.mov,[.t 22]⟩ ::
 []) [4])
 (.ret))))
theorem M5:DR E0 HN I9 [.t 4] 23:=AP (fl:=[]) (by kernel_rfl)
abbrev Hu:Nat:=30
def Gy:PC :=
 .seq (.reg [] (
 ⟨some 2,none,.box,[.t 0]⟩ ::
 ⟨some 4,none,.mov,[.k (.d (.bool false))]⟩ ::
 ⟨some 5,none,.mov,[.k (.d (.int .i64 0))]⟩ ::
 []) [1,2])
 (.seq (.seq (.reg [] (
 ⟨some 7,none,.load true 2,[.t 2]⟩ ::
 ⟨some 8,none,.call 16,[.t 7]⟩ ::
 ⟨some 6,none,.mov,[.t 8]⟩ ::
 []) [1,2,6])
 (.seq (.reg [] (
 ⟨some 9,none,.mov,[.t 6]⟩ ::
 ⟨some 10,none,.bin .neq,[.t 9,.k (.d (.int .i64 0))]⟩ ::
 []) [1,2,6,10])
 (.cond (.t 10)
 (.seq (.reg [] (
 ⟨some 11,none,.mov,[.t 6]⟩ ::
 ⟨some 4,none,.mov,[.k (.d (.bool false))]⟩ ::
 ⟨some 5,none,.mov,[.t 11]⟩ ::
 []) [4,5])
 (.ret))
 (.skip))))
 (.seq (.seq (.reg [] (
 ⟨some 12,none,.mov,[.t 1]⟩ ::
 ⟨some 13,none,.bin .lss,[.t 12,.k (.d (.int .i64 0))]⟩ ::
 ⟨some 14,none,.mov,[.t 13]⟩ ::
 ⟨some 15,some (14,false),.mov,[.t 1]⟩ ::
 ⟨some 16,some (14,false),.faddr 0,[.t 2]⟩ ::
 ⟨some 17,some (14,false),.load false 1,[.t 16]⟩ ::
 ⟨some 18,some (14,false),.bin .gtr,[.t 15,.t 17]⟩ ::
 ⟨some 19,none,.pick,[.t 14,.k (.d (.bool true)),.t 18]⟩ ::
 []) [1,2,19])
 (.cond (.t 19)
 (.seq (.reg [] (
 ⟨some 4,none,.mov,[.k (.d (.bool false))]⟩ ::
 ⟨some 5,none,.mov,[.k (.d (.int .i64 1))]⟩ ::
 []) [4,5])
 (.ret))
 (.skip)))
 (.seq (.reg [] (
 ⟨some 20,none,.mov,[.t 1]⟩ ::
 ⟨some 21,none,.faddr 1,[.t 2]⟩ ::
 ⟨some 22,none,.load false 1,[.t 21]⟩ ::
 ⟨some 23,none,.bin .quo,[.t 22,.k (.d (.int .i64 2))]⟩ ::
 ⟨some 24,none,.bin .add,[.t 20,.t 23]⟩ ::
 ⟨some 25,none,.faddr 1,[.t 2]⟩ ::
 ⟨some 26,none,.load false 1,[.t 25]⟩ ::
 ⟨some 27,none,.bin .gtr,[.t 24,.t 26]⟩ ::
 ⟨some 4,none,.mov,[.t 27]⟩ ::
 ⟨some 5,none,.mov,[.k (.d (.int .i64 0))]⟩ ::
 []) [4,5])
 (.ret))))
theorem Ku:DR E0 Hu Gy [.t 4,.t 5] 28:=AP (fl:=[]) (by kernel_rfl)
abbrev ZY:Nat:=31
abbrev Hv:Nat:=32
def G2:PC :=
 .seq (.reg [] (
 ⟨some 1,none,.box,[.t 0]⟩ ::
 ⟨some 2,none,.mov,[.k (.d (.int .i64 0))]⟩ ::
 ⟨some 3,none,.mov,[.k (.d (.int .i64 0))]⟩ ::
 ⟨some 4,none,.mov,[.k (.d (.int .i64 0))]⟩ ::
 []) [1,2])
 (.seq (.seq (.reg [] (
 ⟨some 8,none,.load true 2,[.t 1]⟩ ::
 ⟨some 9,none,.call 16,[.t 8]⟩ ::
 ⟨some 5,none,.mov,[.t 9]⟩ ::
 []) [1,2,5])
 (.seq (.reg [] (
 ⟨some 10,none,.mov,[.t 5]⟩ ::
 ⟨some 11,none,.bin .neq,[.t 10,.k (.d (.int .i64 0))]⟩ ::
 []) [1,2,5,11])
 (.cond (.t 11)
 (.seq (.reg [] (
 ⟨some 12,none,.mov,[.t 5]⟩ ::
 ⟨some 2,none,.mov,[.k (.d (.int .i64 0))]⟩ ::
 ⟨some 3,none,.mov,[.k (.d (.int .i64 0))]⟩ ::
 ⟨some 4,none,.mov,[.t 12]⟩ ::
 []) [2,3,4])
 (.ret))
 (.skip))))
 (.seq (.reg [] (
 ⟨some 6,none,.mov,[.k (.d (.int .i64 1))]⟩ ::
 []) [1,2,6])
 (.seq (.seq (.reg [] (
 ⟨some 13,none,.faddr 1,[.t 1]⟩ ::
 ⟨some 14,none,.load false 1,[.t 13]⟩ ::
 ⟨some 15,none,.bin .quo,[.t 14,.k (.d (.int .i64 2))]⟩ ::
 ⟨some 16,none,.bin .add,[.t 15,.k (.d (.int .i64 1))]⟩ ::
 ⟨some 17,none,.mov,[.k (.d (.int .i64 0))]⟩ ::
 []) [1,2,6,16,17])
 (.block 0
 (.loop [] [1,2,6,16,17] [1,40,10040,900000,901000]
 (.seq (.reg [] (
 ⟨some 18,none,.bin .lss,[.t 17,.t 16]⟩ ::
 []) [1,2,6,16,17,18])
 (.seq (.cond (.t 18)
 (.skip)
 (.exit 0))
 (.seq (.block 1
 (.seq (.reg [] (
 ⟨some 19,none,.mov,[.t 17]⟩ ::
 ⟨some 7,none,.mov,[.t 19]⟩ ::
 []) [1,2,6,7,16,17])
 (.seq (.reg [] (
 ⟨some 20,none,.mov,[.t 2]⟩ ::
 ⟨some 21,none,.mov,[.t 6]⟩ ::
 ⟨some 22,none,.bin .add,[.t 20,.t 21]⟩ ::
 ⟨some 2,none,.mov,[.t 22]⟩ ::
 []) [1,2,6,7,16,17])
 (.reg [] (
 ⟨some 23,none,.mov,[.t 6]⟩ ::
 ⟨some 24,none,.faddr 0,[.t 1]⟩ ::
 ⟨some 25,none,.load false 1,[.t 24]⟩ ::
 ⟨some 26,none,.mov,[.t 7]⟩ ::
 ⟨some 27,none,.bin .sub,[.t 25,.t 26]⟩ ::
 ⟨some 28,none,.bin .mul,[.t 23,.t 27]⟩ ::
 ⟨some 29,none,.bin .mul,[.t 28,.k (.d (.int .i64 15))]⟩ ::
 ⟨some 30,none,.mov,[.t 7]⟩ ::
 ⟨some 31,none,.bin .add,[.t 30,.k (.d (.int .i64 1))]⟩ ::
 ⟨some 32,none,.bin .quo,[.t 29,.t 31]⟩ ::
 ⟨some 6,none,.mov,[.t 32]⟩ ::
 []) [1,2,6,16,17]))))
 (.reg [] (
 ⟨some 33,none,.bin .add,[.t 17,.k (.d (.int .i64 1))]⟩ ::
 ⟨some 17,none,.mov,[.t 33]⟩ ::
 []) [1,2,6,16,17])))))))
 (.seq (.reg [] (
 ⟨some 35,none,.mov,[.t 2]⟩ ::
 ⟨some 36,none,.faddr 1,[.t 1]⟩ ::
 ⟨some 37,none,.load false 1,[.t 36]⟩ ::
 ⟨some 38,none,.bin .mul,[.k (.d (.int .i64 4)),.t 37]⟩ ::
 ⟨some 39,none,.bin .shl,[.k (.d (.int .i64 1)),.t 38]⟩ ::
 ⟨some 40,none,.call 60,[.t 35,.t 39]⟩ ::
 ⟨some 34,none,.mov,[.t 40]⟩ ::
 ⟨some 41,none,.extract 0,[.t 34]⟩ ::
 ⟨some 42,none,.extract 1,[.t 34]⟩ ::
 ⟨some 2,none,.mov,[.t 41]⟩ ::
 ⟨some 3,none,.mov,[.t 42]⟩ ::
 []) [2,3])
 (.seq (.reg [] (
 ⟨some 43,none,.mov,[.t 2]⟩ ::
 ⟨some 44,none,.mov,[.t 3]⟩ ::
 ⟨some 2,none,.mov,[.t 43]⟩ ::
 ⟨some 3,none,.mov,[.t 44]⟩ ::
 ⟨some 4,none,.mov,[.k (.d (.int .i64 0))]⟩ ::
 []) [2,3,4])
 (.ret))))))
theorem Kx:DR E0 Hv G2 [.t 2,.t 3,.t 4] 45:=AP (fl:=[]) (by kernel_rfl)
abbrev Za:Nat:=33
abbrev KX:Nat:=34
abbrev Ig:Nat:=35
def Ha:PC :=
 .seq (.reg [] (
 ⟨some 1,none,.box,[.t 0]⟩ ::
 ⟨some 2,none,.mov,[.k (.d (.int .i64 0))]⟩ ::
 ⟨some 3,none,.mov,[.k (.d (.int .i64 0))]⟩ ::
 ⟨some 4,none,.mov,[.k (.d (.int .i64 0))]⟩ ::
 []) [1])
 (.seq (.reg [] (
 ⟨some 7,none,.load true 3,[.t 1]⟩ ::
 ⟨some 8,none,.call 61,[.t 7,.k (.d (.list true [])),.k (.fn 62 [])]⟩ ::
 ⟨some 6,none,.mov,[.t 8]⟩ ::
 ⟨some 9,none,.extract 0,[.t 6]⟩ ::
 ⟨some 10,none,.extract 1,[.t 6]⟩ ::
 ⟨some 5,none,.zero [.int .i64 0,.int .i64 0,.int .i64 0],[]⟩ ::
 ⟨none,none,.store 3,[.t 5,.t 9]⟩ ::
 ⟨some 4,none,.mov,[.t 10]⟩ ::
 []) [4,5])
 (.seq (.seq (.reg [] (
 ⟨some 11,none,.mov,[.t 4]⟩ ::
 ⟨some 12,none,.bin .neq,[.t 11,.k (.d (.int .i64 0))]⟩ ::
 []) [4,5,12])
 (.cond (.t 12)
 (.seq (.reg [] (
 ⟨some 13,none,.mov,[.t 4]⟩ ::
 ⟨some 2,none,.mov,[.k (.d (.int .i64 0))]⟩ ::
 ⟨some 3,none,.mov,[.k (.d (.int .i64 0))]⟩ ::
 ⟨some 4,none,.mov,[.t 13]⟩ ::
 []) [2,3,4])
 (.ret))
 (.skip)))
 (.seq (.draw [] (
 (⟨some 14,none,.faddr 2,[.t 5]⟩,[]) ::
 (⟨some 15,none,.load false 1,[.t 14]⟩,[]) ::
 (⟨some 16,none,.faddr 0,[.t 5]⟩,[]) ::
 (⟨some 17,none,.faddr 0,[.t 16]⟩,[]) ::
 (⟨some 18,none,.faddr 1,[.t 17]⟩,[]) ::
 (⟨some 19,none,.load false 1,[.t 18]⟩,[]) ::
 (⟨some 20,none,.bin .quo,[.t 19,.k (.d (.int .i64 2))]⟩,[]) ::
 (⟨some 21,none,.bin .mul,[.t 15,.t 20]⟩,[]) ::
 (⟨some 22,none,.faddr 2,[.t 5]⟩,[]) ::
 (⟨some 23,none,.load false 1,[.t 22]⟩,[]) ::
 (⟨some 24,none,.faddr 0,[.t 5]⟩,[]) ::
 (⟨some 25,none,.faddr 0,[.t 24]⟩,[]) ::
 (⟨some 26,none,.faddr 1,[.t 25]⟩,[]) ::
 (⟨some 27,none,.load false 1,[.t 26]⟩,[]) ::
 (⟨some 28,none,.bin .mul,[.t 23,.t 27]⟩,[]) ::
 (⟨some 2,none,.mov,[.t 21]⟩,[]) ::
 (⟨some 3,none,.mov,[.t 28]⟩,[]) ::
 (⟨some 4,none,.mov,[.k (.d (.int .i64 0))]⟩,[]) ::
 []) [2,3,4])
 (.ret))))
theorem Lg:DR E0 Ig Ha [.t 2,.t 3,.t 4] 29:=AP (fl:=[]) (by kernel_rfl)
abbrev Ht:Nat:=36
abbrev Oa:Nat:=37
abbrev FO:Nat:=38
def Gx:PC :=
 .seq (.reg [] (
 ⟨some 2,none,.box,[.t 0]⟩ ::
 ⟨some 4,none,.mov,[.k (.d (.list true []))]⟩ ::
 ⟨some 5,none,.mov,[.k (.d (.int .i64 0))]⟩ ::
 []) [1,2])
 (.seq (.reg [] (
 ⟨some 11,none,.load true 3,[.t 2]⟩ ::
 ⟨some 12,none,.mov,[.t 1]⟩ ::
 ⟨some 13,none,.call 61,[.t 11,.t 12,.k (.fn 65 [])]⟩ ::
 ⟨some 10,none,.mov,[.t 13]⟩ ::
 ⟨some 14,none,.extract 0,[.t 10]⟩ ::
 ⟨some 15,none,.extract 1,[.t 10]⟩ ::
 ⟨some 6,none,.zero [.int .i64 0,.int .i64 0,.int .i64 0],[]⟩ ::
 ⟨none,none,.store 3,[.t 6,.t 14]⟩ ::
 ⟨some 7,none,.mov,[.t 15]⟩ ::
 []) [1,6,7])
 (.seq (.seq (.reg [] (
 ⟨some 16,none,.mov,[.t 7]⟩ ::
 ⟨some 17,none,.bin .neq,[.t 16,.k (.d (.int .i64 0))]⟩ ::
 []) [1,6,7,17])
 (.cond (.t 17)
 (.seq (.reg [] (
 ⟨some 18,none,.mov,[.t 7]⟩ ::
 ⟨some 4,none,.mov,[.k (.d (.list true []))]⟩ ::
 ⟨some 5,none,.mov,[.t 18]⟩ ::
 []) [4,5])
 (.ret))
 (.skip)))
 (.seq (.reg [] (
 ⟨some 8,none,.mov,[.k (.d (.list true []))]⟩ ::
 []) [1,6,8])
 (.seq (.seq (.reg [] (
 ⟨some 19,none,.faddr 2,[.t 6]⟩ ::
 ⟨some 20,none,.load false 1,[.t 19]⟩ ::
 ⟨some 21,none,.mov,[.k (.d (.int .i64 0))]⟩ ::
 []) [1,6,8,20,21])
 (.block 0
 (.loop [.own 8 33 67 1] [1,6,8,20,21] [6,13,33,10013,900001,901001]
 (.seq (.reg [] (
 ⟨some 22,none,.bin .lss,[.t 21,.t 20]⟩ ::
 []) [1,6,8,20,21,22])
 (.seq (.cond (.t 22)
 (.skip)
 (.exit 0))
 (.seq (.block 1
 (.seq (.reg [] (
 ⟨some 23,none,.mov,[.t 21]⟩ ::
 ⟨some 9,none,.mov,[.t 23]⟩ ::
 []) [1,6,8,9,20,21])
 (.draw [] (
 (⟨some 24,none,.mov,[.t 8]⟩,[]) ::
 (⟨some 25,none,.faddr 0,[.t 6]⟩,[]) ::
 (⟨some 26,none,.load true 2,[.t 25]⟩,[]) ::
 (⟨some 27,none,.load true 3,[.t 6]⟩,[]) ::
 (⟨some 28,none,.mov,[.t 1]⟩,[]) ::
 (⟨some 29,none,.mov,[.t 9]⟩,[]) ::
 (⟨some 30,none,.call 66,[.t 27,.t 28,.t 29]⟩,[2]) ::
 (⟨some 31,none,.call 47,[.t 26,.t 30]⟩,[]) ::
 (⟨some 32,none,.mkrow 1 (.list true []) 1 [0],[.t 31]⟩,[]) ::
 (⟨some 33,none,.app 67 1 none true,[.t 24,.t 32]⟩,[]) ::
 (⟨some 8,none,.mov,[.t 33]⟩,[]) ::
 []) [1,6,8,20,21])))
 (.reg [] (
 ⟨some 34,none,.bin .add,[.t 21,.k (.d (.int .i64 1))]⟩ ::
 ⟨some 21,none,.mov,[.t 34]⟩ ::
 []) [1,6,8,20,21])))))))
 (.seq (.reg [.freeze 8] (
 ⟨some 35,none,.load true 3,[.t 6]⟩ ::
 ⟨some 36,none,.mov,[.t 8]⟩ ::
 ⟨some 37,none,.call 67,[.t 35,.t 36]⟩ ::
 ⟨some 4,none,.mov,[.t 37]⟩ ::
 ⟨some 5,none,.mov,[.k (.d (.int .i64 0))]⟩ ::
 []) [4,5])
 (.ret))))))
theorem Kt:DR E0 FO Gx [.t 4,.t 5] 38:=AP (fl:=[33]) (by kernel_rfl)
abbrev Jc:Nat:=39
def IV:PC :=
 .seq (.reg [] (
 ⟨some 2,none,.box,[.t 0]⟩ ::
 ⟨some 4,none,.mov,[.k (.d (.list true []))]⟩ ::
 ⟨some 5,none,.mov,[.k (.d (.int .i64 0))]⟩ ::
 []) [1,2])
 (.seq (.seq (.reg [] (
 ⟨some 10,none,.load true 3,[.t 2]⟩ ::
 ⟨some 11,none,.call 68,[.t 10]⟩ ::
 ⟨some 12,none,.bin .neq,[.t 11,.k (.d (.int .i64 0))]⟩ ::
 []) [1,2,12])
 (.cond (.t 12)
 (.seq (.reg [] (
 ⟨some 4,none,.mov,[.k (.d (.list true []))]⟩ ::
 ⟨some 5,none,.mov,[.k (.d (.int .i64 50))]⟩ ::
 []) [4,5])
 (.ret))
 (.skip)))
 (.seq (.seq (.reg [] (
 ⟨some 13,none,.mov,[.t 1]⟩ ::
 ⟨some 14,none,.faddr 2,[.t 2]⟩ ::
 ⟨some 15,none,.load false 1,[.t 14]⟩ ::
 ⟨some 16,none,.faddr 0,[.t 2]⟩ ::
 ⟨some 17,none,.faddr 0,[.t 16]⟩ ::
 ⟨some 18,none,.load false 1,[.t 17]⟩ ::
 ⟨some 19,none,.faddr 0,[.t 2]⟩ ::
 ⟨some 20,none,.faddr 1,[.t 19]⟩ ::
 ⟨some 21,none,.load false 1,[.t 20]⟩ ::
 ⟨some 22,none,.bin .sub,[.t 18,.t 21]⟩ ::
 ⟨some 23,none,.bin .mul,[.t 15,.t 22]⟩ ::
 ⟨some 24,none,.call 25,[.t 13,.t 23]⟩ ::
 ⟨some 25,none,.un .not,[.t 24]⟩ ::
 []) [1,2,25])
 (.cond (.t 25)
 (.seq (.reg [] (
 ⟨some 4,none,.mov,[.k (.d (.list true []))]⟩ ::
 ⟨some 5,none,.mov,[.k (.d (.int .i64 51))]⟩ ::
 []) [4,5])
 (.ret))
 (.skip)))
 (.seq (.reg [] (
 ⟨some 26,none,.faddr 2,[.t 2]⟩ ::
 ⟨some 27,none,.load false 1,[.t 26]⟩ ::
 ⟨some 28,none,.faddr 0,[.t 2]⟩ ::
 ⟨some 29,none,.faddr 0,[.t 28]⟩ ::
 ⟨some 30,none,.load false 1,[.t 29]⟩ ::
 ⟨some 31,none,.bin .mul,[.t 27,.t 30]⟩ ::
 ⟨some 32,none,.mksl 3 1 (.int .i64 0) true,[.t 31,.t 31]⟩ ::
 ⟨some 6,none,.mov,[.t 32]⟩ ::
 []) [1,2,6])
 (.seq (.seq (.reg [] (
 ⟨some 7,none,.mov,[.k (.d (.int .i64 0))]⟩ ::
 []) [1,2,6,7])
 (.block 0
 (.loop [] [1,2,6,7] [2,32,10046,900000,900001,901000,901001]
 (.seq (.seq (.reg [] (
 ⟨some 33,none,.mov,[.t 7]⟩ ::
 ⟨some 34,none,.faddr 2,[.t 2]⟩ ::
 ⟨some 35,none,.load false 1,[.t 34]⟩ ::
 ⟨some 36,none,.bin .lss,[.t 33,.t 35]⟩ ::
 []) [1,2,6,7,36])
 (.cond (.t 36)
 (.skip)
 (.exit 0)))
 (.seq (.block 1
 (.seq (.draw [] (
 (⟨some 39,none,.faddr 0,[.t 2]⟩,[]) ::
 (⟨some 40,none,.load true 2,[.t 39]⟩,[]) ::
 (⟨some 41,none,.mov,[.t 1]⟩,[]) ::
 (⟨some 42,none,.faddr 2,[.t 2]⟩,[]) ::
 (⟨some 43,none,.load false 1,[.t 42]⟩,[]) ::
 (⟨some 44,none,.mov,[.t 7]⟩,[]) ::
 (⟨some 45,none,.call 69,[.t 41,.t 43,.t 44]⟩,[1]) ::
 (⟨some 46,none,.call 50,[.t 40,.t 45]⟩,[]) ::
 (⟨some 8,none,.mov,[.t 46]⟩,[]) ::
 []) [1,2,6,7,8])
 (.seq (.reg [] (
 ⟨some 9,none,.mov,[.k (.d (.int .i64 0))]⟩ ::
 []) [1,2,6,7,8,9])
 (.block 2
 (.loop [] [1,2,6,7,8,9] [2,32,46,10046,900000,900001,901000,901001]
 (.seq (.seq (.reg [] (
 ⟨some 47,none,.mov,[.t 9]⟩ ::
 ⟨some 48,none,.mov,[.t 8]⟩ ::
 ⟨some 49,none,.len false,[.t 48]⟩ ::
 ⟨some 50,none,.bin .lss,[.t 47,.t 49]⟩ ::
 []) [1,2,6,7,8,9,50])
 (.cond (.t 50)
 (.skip)
 (.exit 2)))
 (.seq (.block 3
 (.draw [] (
 (⟨some 53,none,.mov,[.t 6]⟩,[]) ::
 (⟨some 54,none,.mov,[.t 9]⟩,[]) ::
 (⟨some 55,none,.faddr 2,[.t 2]⟩,[]) ::
 (⟨some 56,none,.load false 1,[.t 55]⟩,[]) ::
 (⟨some 57,none,.bin .mul,[.t 54,.t 56]⟩,[]) ::
 (⟨some 58,none,.mov,[.t 7]⟩,[]) ::
 (⟨some 59,none,.bin .add,[.t 57,.t 58]⟩,[]) ::
 (⟨some 60,none,.mov,[.t 8]⟩,[]) ::
 (⟨some 61,none,.mov,[.t 9]⟩,[]) ::
 (⟨some 62,none,.iaddrS 1,[.t 60,.t 61]⟩,[]) ::
 (⟨some 63,none,.load false 1,[.t 62]⟩,[]) ::
 (⟨some 64,none,.iaddrS 1,[.t 53,.t 59]⟩,[]) ::
 (⟨none,none,.store 1,[.t 64,.t 63]⟩,[]) ::
 []) [1,2,6,7,8,9]))
 (.reg [] (
 ⟨some 51,none,.mov,[.t 9]⟩ ::
 ⟨some 52,none,.bin .add,[.t 51,.k (.d (.int .i64 1))]⟩ ::
 ⟨some 9,none,.mov,[.t 52]⟩ ::
 []) [1,2,6,7,8,9]))))))))
 (.reg [] (
 ⟨some 37,none,.mov,[.t 7]⟩ ::
 ⟨some 38,none,.bin .add,[.t 37,.k (.d (.int .i64 1))]⟩ ::
 ⟨some 7,none,.mov,[.t 38]⟩ ::
 []) [1,2,6,7]))))))
 (.seq (.reg [] (
 ⟨some 65,none,.mov,[.t 6]⟩ ::
 ⟨some 4,none,.mov,[.t 65]⟩ ::
 ⟨some 5,none,.mov,[.k (.d (.int .i64 0))]⟩ ::
 []) [4,5])
 (.ret))))))
theorem MM:DR E0 Jc IV [.t 4,.t 5] 66:=AP (fl:=[]) (by kernel_rfl)
abbrev EC:Nat:=40
abbrev Gh:Nat:=41
abbrev KT:Nat:=42
def JA:PC :=
 .seq (.reg [] (
 ⟨some 1,none,.box,[.t 0]⟩ ::
 ⟨some 2,none,.mov,[.k (.d (.int .i64 0))]⟩ ::
 ⟨some 3,none,.mov,[.k (.d (.int .i64 0))]⟩ ::
 ⟨some 4,none,.mov,[.k (.d (.int .i64 0))]⟩ ::
 []) [1])
 (.seq (.seq (.reg [] (
 ⟨some 5,none,.load true 3,[.t 1]⟩ ::
 ⟨some 6,none,.call 68,[.t 5]⟩ ::
 ⟨some 7,none,.bin .neq,[.t 6,.k (.d (.int .i64 0))]⟩ ::
 []) [1,7])
 (.cond (.t 7)
 (.seq (.reg [] (
 ⟨some 2,none,.mov,[.k (.d (.int .i64 0))]⟩ ::
 ⟨some 3,none,.mov,[.k (.d (.int .i64 0))]⟩ ::
 ⟨some 4,none,.mov,[.k (.d (.int .i64 50))]⟩ ::
 []) [2,3,4])
 (.ret))
 (.skip)))
 (.seq (.draw [] (
 (⟨some 8,none,.faddr 2,[.t 1]⟩,[]) ::
 (⟨some 9,none,.load false 1,[.t 8]⟩,[]) ::
 (⟨some 10,none,.faddr 0,[.t 1]⟩,[]) ::
 (⟨some 11,none,.faddr 1,[.t 10]⟩,[]) ::
 (⟨some 12,none,.load false 1,[.t 11]⟩,[]) ::
 (⟨some 13,none,.bin .quo,[.t 12,.k (.d (.int .i64 2))]⟩,[]) ::
 (⟨some 14,none,.bin .mul,[.t 9,.t 13]⟩,[]) ::
 (⟨some 15,none,.faddr 2,[.t 1]⟩,[]) ::
 (⟨some 16,none,.load false 1,[.t 15]⟩,[]) ::
 (⟨some 17,none,.faddr 0,[.t 1]⟩,[]) ::
 (⟨some 18,none,.faddr 1,[.t 17]⟩,[]) ::
 (⟨some 19,none,.load false 1,[.t 18]⟩,[]) ::
 (⟨some 20,none,.bin .mul,[.t 16,.t 19]⟩,[]) ::
 (⟨some 2,none,.mov,[.t 14]⟩,[]) ::
 (⟨some 3,none,.mov,[.t 20]⟩,[]) ::
 (⟨some 4,none,.mov,[.k (.d (.int .i64 0))]⟩,[]) ::
 []) [2,3,4])
 (.ret)))
theorem M8:DR E0 KT JA [.t 2,.t 3,.t 4] 21:=AP (fl:=[]) (by kernel_rfl)
abbrev Ib:Nat:=43
def HW:PC :=
 .seq (.reg [] (
 ⟨some 0,none,.zero [.int .i64 0,.int .i64 0],[]⟩ ::
 []) [0])
 (.seq (.reg [] (
 ⟨some 1,none,.build [.int .i64 0,.int .i64 0] [(0,1),(1,1)],[.k (.d (.int .i64 5)),.k (.d (.int .i64 2))]⟩ ::
 ⟨none,none,.store 2,[.t 0,.t 1]⟩ ::
 []) [0])
 (.ret))
theorem Lc:DR E0 Ib HW [.c 0 23 true 2] 2:=AP (fl:=[]) (by kernel_rfl)
abbrev Gf:Nat:=44
def IS:PC :=
 .seq (.reg [] (
 ⟨some 6,none,.mov,[.k (.d (.bool false))]⟩ ::
 []) [0,1,2])
 (.seq (.reg [] (
 ⟨some 7,none,.mov,[.t 0]⟩ ::
 ⟨some 8,none,.mov,[.t 1]⟩ ::
 ⟨some 9,none,.bin .geq,[.t 7,.t 8]⟩ ::
 ⟨some 10,none,.mov,[.t 9]⟩ ::
 ⟨some 11,some (10,true),.mov,[.t 0]⟩ ::
 ⟨some 12,some (10,true),.mov,[.t 2]⟩ ::
 ⟨some 13,some (10,true),.bin .leq,[.t 11,.t 12]⟩ ::
 ⟨some 14,none,.pick,[.t 10,.t 13,.k (.d (.bool false))]⟩ ::
 ⟨some 6,none,.mov,[.t 14]⟩ ::
 []) [6])
 (.ret))
theorem MI:DR E0 Gf IS [.t 6] 15:=AP (fl:=[]) (by kernel_rfl)
abbrev KY:Nat:=45
def JF:PC :=
 .seq (.reg [] (
 ⟨some 4,none,.mov,[.k (.d (.bool false))]⟩ ::
 []) [0,1])
 (.seq (.reg [] (
 ⟨some 5,none,.mov,[.t 0]⟩ ::
 ⟨some 6,none,.len false,[.t 5]⟩ ::
 ⟨some 7,none,.mov,[.t 1]⟩ ::
 ⟨some 8,none,.bin .eql,[.t 6,.t 7]⟩ ::
 ⟨some 9,none,.mov,[.t 8]⟩ ::
 ⟨some 10,some (9,true),.mov,[.t 0]⟩ ::
 ⟨some 11,some (9,true),.call 71,[.t 10,.k (.fn 72 [])]⟩ ::
 ⟨some 12,some (9,true),.un .not,[.t 11]⟩ ::
 ⟨some 13,none,.pick,[.t 9,.t 12,.k (.d (.bool false))]⟩ ::
 ⟨some 4,none,.mov,[.t 13]⟩ ::
 []) [4])
 (.ret))
theorem NC:DR E0 KY JF [.t 4] 14:=AP (fl:=[]) (by kernel_rfl)
abbrev HA:Nat:=46
def GG:PC :=
 .seq (.reg [] (
 ⟨some 2,none,.mov,[.k (.d (.list true []))]⟩ ::
 []) [0])
 (.seq (.reg [] (
 ⟨some 3,none,.mov,[.t 0]⟩ ::
 ⟨some 4,none,.call 73,[.t 3,.k (.fn 74 [])]⟩ ::
 ⟨some 2,none,.mov,[.t 4]⟩ ::
 []) [2])
 (.ret))
theorem J7:DR E0 HA GG [.t 2] 5:=AP (fl:=[]) (by kernel_rfl)
abbrev FH:Nat:=47
def Et:PC :=
 .seq (.reg [] (
 ⟨some 2,none,.box,[.t 0]⟩ ::
 ⟨some 4,none,.mov,[.k (.d (.list true []))]⟩ ::
 []) [1,2])
 (.seq (.reg [] (
 ⟨some 15,none,.mkrowO 89 1 (.int .u8 0) 1 [0],[.k (.d (.int .u8 1))]⟩ ::
 ⟨some 5,none,.mov,[.t 15]⟩ ::
 []) [1,2,5])
 (.seq (.seq (.reg [] (
 ⟨some 16,none,.faddr 0,[.t 2]⟩ ::
 ⟨some 17,none,.faddr 1,[.t 16]⟩ ::
 ⟨some 18,none,.load false 1,[.t 17]⟩ ::
 ⟨some 19,none,.mov,[.k (.d (.int .i64 0))]⟩ ::
 []) [1,2,5,18,19])
 (.block 0
 (.loop [.freeze 5] [1,2,5,18,19] [2,900000,900001,901000,901001]
 (.seq (.reg [] (
 ⟨some 20,none,.bin .lss,[.t 19,.t 18]⟩ ::
 []) [1,2,5,18,19,20])
 (.seq (.cond (.t 20)
 (.skip)
 (.exit 0))
 (.seq (.block 1
 (.seq (.reg [] (
 ⟨some 21,none,.mov,[.t 19]⟩ ::
 ⟨some 6,none,.mov,[.t 21]⟩ ::
 []) [1,2,5,6,18,19])
 (.seq (.reg [.freeze 5] (
 ⟨some 22,none,.mov,[.t 5]⟩ ::
 ⟨some 23,none,.call 75,[.t 22]⟩ ::
 ⟨some 24,none,.mkrow 1 (.int .u8 0) 1 [0],[.k (.d (.int .u8 0))]⟩ ::
 ⟨some 25,none,.app 89 1 none true,[.t 23,.t 24]⟩ ::
 ⟨some 7,none,.mov,[.t 25]⟩ ::
 []) [1,2,5,6,7,18,19])
 (.seq (.seq (.reg [] (
 ⟨some 26,none,.mov,[.t 5]⟩ ::
 ⟨some 27,none,.len false,[.t 26]⟩ ::
 ⟨some 28,none,.mov,[.k (.d (.int .i64 0))]⟩ ::
 []) [1,2,6,7,18,19,26,27,28])
 (.block 2
 (.loop [.freeze 26] [1,2,6,7,18,19,26,27,28] [2,23,25,10023,900000,900001,901000,901001]
 (.seq (.reg [] (
 ⟨some 29,none,.bin .lss,[.t 28,.t 27]⟩ ::
 []) [1,2,6,7,18,19,26,27,28,29])
 (.seq (.cond (.t 29)
 (.skip)
 (.exit 2))
 (.seq (.block 3
 (.seq (.reg [] (
 ⟨some 30,none,.mov,[.t 28]⟩ ::
 ⟨some 31,none,.iaddrS 1,[.t 26,.t 28]⟩ ::
 ⟨some 32,none,.load false 1,[.t 31]⟩ ::
 ⟨some 8,none,.mov,[.t 30]⟩ ::
 ⟨some 9,none,.mov,[.t 32]⟩ ::
 []) [1,2,6,7,8,9,18,19,26,27,28])
 (.draw [] (
 (⟨some 33,none,.mov,[.t 7]⟩,[]) ::
 (⟨some 34,none,.mov,[.t 8]⟩,[]) ::
 (⟨some 35,none,.bin .add,[.t 34,.k (.d (.int .i64 1))]⟩,[]) ::
 (⟨some 36,none,.iaddrS 1,[.t 33,.t 35]⟩,[]) ::
 (⟨some 37,none,.load false 1,[.t 36]⟩,[]) ::
 (⟨some 38,none,.mov,[.t 9]⟩,[]) ::
 (⟨some 39,none,.mov,[.t 6]⟩,[]) ::
 (⟨some 40,none,.call 77,[.t 39]⟩,[3,4]) ::
 (⟨some 41,none,.call 76,[.t 38,.t 40]⟩,[3,4]) ::
 (⟨some 42,none,.bin .xor,[.t 37,.t 41]⟩,[]) ::
 (⟨some 43,none,.iaddrS 1,[.t 33,.t 35]⟩,[]) ::
 (⟨none,none,.store 1,[.t 43,.t 42]⟩,[]) ::
 []) [1,2,6,7,18,19,26,27,28])))
 (.reg [] (
 ⟨some 44,none,.bin .add,[.t 28,.k (.d (.int .i64 1))]⟩ ::
 ⟨some 28,none,.mov,[.t 44]⟩ ::
 []) [1,2,6,7,18,19,26,27,28])))))))
 (.reg [] (
 ⟨some 45,none,.mov,[.t 7]⟩ ::
 ⟨some 5,none,.mov,[.t 45]⟩ ::
 []) [1,2,5,18,19])))))
 (.reg [] (
 ⟨some 46,none,.bin .add,[.t 19,.k (.d (.int .i64 1))]⟩ ::
 ⟨some 19,none,.mov,[.t 46]⟩ ::
 []) [1,2,5,18,19])))))))
 (.seq (.draw [] (
 (⟨some 47,none,.mov,[.t 1]⟩,[]) ::
 (⟨some 48,none,.call 75,[.t 47]⟩,[]) ::
 (⟨some 49,none,.faddr 0,[.t 2]⟩,[]) ::
 (⟨some 50,none,.faddr 1,[.t 49]⟩,[]) ::
 (⟨some 51,none,.load false 1,[.t 50]⟩,[1]) ::
 (⟨some 52,none,.app 89 1 (some (.int .u8 0)) true,[.t 48,.t 51]⟩,[]) ::
 (⟨some 10,none,.mov,[.t 52]⟩,[]) ::
 []) [1,5,10])
 (.seq (.seq (.reg [] (
 ⟨some 53,none,.mov,[.t 1]⟩ ::
 ⟨some 54,none,.len false,[.t 53]⟩ ::
 ⟨some 55,none,.mov,[.k (.d (.int .i64 0))]⟩ ::
 []) [1,5,10,54,55])
 (.block 4
 (.loop [.freeze 5] [1,5,10,54,55] [48,52,10048,900001,901001]
 (.seq (.reg [] (
 ⟨some 56,none,.bin .lss,[.t 55,.t 54]⟩ ::
 []) [1,5,10,54,55,56])
 (.seq (.cond (.t 56)
 (.skip)
 (.exit 4))
 (.seq (.block 5
 (.seq (.reg [] (
 ⟨some 57,none,.mov,[.t 55]⟩ ::
 ⟨some 11,none,.mov,[.t 57]⟩ ::
 []) [1,5,10,11,54,55])
 (.seq (.reg [] (
 ⟨some 58,none,.mov,[.t 10]⟩ ::
 ⟨some 59,none,.mov,[.t 11]⟩ ::
 ⟨some 60,none,.iaddrS 1,[.t 58,.t 59]⟩ ::
 ⟨some 61,none,.load false 1,[.t 60]⟩ ::
 ⟨some 12,none,.mov,[.t 61]⟩ ::
 []) [1,5,10,11,12,54,55])
 (.seq (.reg [] (
 ⟨some 62,none,.mov,[.t 5]⟩ ::
 ⟨some 63,none,.len false,[.t 62]⟩ ::
 ⟨some 64,none,.mov,[.k (.d (.int .i64 0))]⟩ ::
 []) [1,5,10,11,12,54,55,62,63,64])
 (.block 6
 (.loop [.freeze 5,.freeze 62] [1,5,10,11,12,54,55,62,63,64] [48,52,10048,900001,901001]
 (.seq (.reg [] (
 ⟨some 65,none,.bin .lss,[.t 64,.t 63]⟩ ::
 []) [1,5,10,11,12,54,55,62,63,64,65])
 (.seq (.cond (.t 65)
 (.skip)
 (.exit 6))
 (.seq (.block 7
 (.seq (.reg [] (
 ⟨some 66,none,.mov,[.t 64]⟩ ::
 ⟨some 67,none,.iaddrS 1,[.t 62,.t 64]⟩ ::
 ⟨some 68,none,.load false 1,[.t 67]⟩ ::
 ⟨some 13,none,.mov,[.t 66]⟩ ::
 ⟨some 14,none,.mov,[.t 68]⟩ ::
 []) [1,5,10,11,12,13,14,54,55,62,63,64])
 (.draw [] (
 (⟨some 69,none,.mov,[.t 10]⟩,[]) ::
 (⟨some 70,none,.mov,[.t 11]⟩,[]) ::
 (⟨some 71,none,.mov,[.t 13]⟩,[]) ::
 (⟨some 72,none,.bin .add,[.t 70,.t 71]⟩,[]) ::
 (⟨some 73,none,.iaddrS 1,[.t 69,.t 72]⟩,[]) ::
 (⟨some 74,none,.load false 1,[.t 73]⟩,[]) ::
 (⟨some 75,none,.mov,[.t 12]⟩,[]) ::
 (⟨some 76,none,.mov,[.t 14]⟩,[]) ::
 (⟨some 77,none,.call 76,[.t 75,.t 76]⟩,[4,5]) ::
 (⟨some 78,none,.bin .xor,[.t 74,.t 77]⟩,[]) ::
 (⟨some 79,none,.iaddrS 1,[.t 69,.t 72]⟩,[]) ::
 (⟨none,none,.store 1,[.t 79,.t 78]⟩,[]) ::
 []) [1,5,10,11,12,54,55,62,63,64])))
 (.reg [] (
 ⟨some 80,none,.bin .add,[.t 64,.k (.d (.int .i64 1))]⟩ ::
 ⟨some 64,none,.mov,[.t 80]⟩ ::
 []) [1,5,10,11,12,54,55,62,63,64]))))))))))
 (.reg [] (
 ⟨some 81,none,.bin .add,[.t 55,.k (.d (.int .i64 1))]⟩ ::
 ⟨some 55,none,.mov,[.t 81]⟩ ::
 []) [1,5,10,54,55])))))))
 (.seq (.reg [.freeze 10] (
 ⟨some 82,none,.mov,[.t 1]⟩ ::
 ⟨some 83,none,.mov,[.t 10]⟩ ::
 ⟨some 84,none,.mov,[.t 1]⟩ ::
 ⟨some 85,none,.len false,[.t 84]⟩ ::
 ⟨some 86,none,.slice 1 true false false,[.t 83,.t 85]⟩ ::
 ⟨some 87,none,.mkrow 1 (.list true []) 2 [0,1],[.t 82,.t 86]⟩ ::
 ⟨some 88,none,.call 78,[.t 87]⟩ ::
 ⟨some 4,none,.mov,[.t 88]⟩ ::
 []) [4])
 (.ret))))))
theorem Hh:DR E0 FH Et [.t 4] 89:=AP (fl:=[52]) (by kernel_rfl)
abbrev G9:Nat:=48
def GD:PC :=
 .seq (.reg [] (
 ⟨some 2,none,.mov,[.k (.d (.list true []))]⟩ ::
 []) [0])
 (.seq (.reg [] (
 ⟨some 3,none,.mov,[.t 0]⟩ ::
 ⟨some 4,none,.call 79,[.t 3,.k (.fn 80 [])]⟩ ::
 ⟨some 2,none,.mov,[.t 4]⟩ ::
 []) [2])
 (.ret))
theorem J4:DR E0 G9 GD [.t 2] 5:=AP (fl:=[]) (by kernel_rfl)
abbrev G8:Nat:=49
def GC:PC :=
 .seq (.reg [] (
 ⟨some 2,none,.box,[.t 0]⟩ ::
 ⟨some 4,none,.mov,[.k (.d (.int .i64 0))]⟩ ::
 []) [1,2])
 (.seq (.seq (.reg [] (
 ⟨some 5,none,.load true 2,[.t 2]⟩ ::
 ⟨some 6,none,.call 17,[.t 5]⟩ ::
 ⟨some 7,none,.bin .neq,[.t 6,.k (.d (.int .i64 0))]⟩ ::
 []) [1,2,7])
 (.cond (.t 7)
 (.seq (.reg [] (
 ⟨some 4,none,.mov,[.k (.d (.int .i64 50))]⟩ ::
 []) [4])
 (.ret))
 (.skip)))
 (.seq (.seq (.reg [] (
 ⟨some 8,none,.mov,[.t 1]⟩ ::
 ⟨some 9,none,.faddr 0,[.t 2]⟩ ::
 ⟨some 10,none,.load false 1,[.t 9]⟩ ::
 ⟨some 11,none,.faddr 1,[.t 2]⟩ ::
 ⟨some 12,none,.load false 1,[.t 11]⟩ ::
 ⟨some 13,none,.bin .sub,[.t 10,.t 12]⟩ ::
 ⟨some 14,none,.call 25,[.t 8,.t 13]⟩ ::
 ⟨some 15,none,.un .not,[.t 14]⟩ ::
 []) [15])
 (.cond (.t 15)
 (.seq (.reg [] (
 ⟨some 4,none,.mov,[.k (.d (.int .i64 51))]⟩ ::
 []) [4])
 (.ret))
 (.skip)))
 (.seq (.reg [] (
 ⟨some 4,none,.mov,[.k (.d (.int .i64 0))]⟩ ::
 []) [4])
 (.ret))))
theorem J3:DR E0 G8 GC [.t 4] 16:=AP (fl:=[]) (by kernel_rfl)
abbrev Jb:Nat:=50
def IT:PC :=
 .seq (.reg [] (
 ⟨some 2,none,.box,[.t 0]⟩ ::
 ⟨some 4,none,.mov,[.k (.d (.list true []))]⟩ ::
 []) [1,2])
 (.seq (.draw [] (
 (⟨some 10,none,.mkrow 1 (.int .i64 0) 0 [],[]⟩,[]) ::
 (⟨some 11,none,.mov,[.t 1]⟩,[]) ::
 (⟨some 12,none,.app 3 1 none true,[.t 10,.t 11]⟩,[]) ::
 (⟨some 13,none,.faddr 1,[.t 2]⟩,[]) ::
 (⟨some 14,none,.load false 1,[.t 13]⟩,[2]) ::
 (⟨some 15,none,.app 3 1 (some (.int .i64 0)) true,[.t 12,.t 14]⟩,[]) ::
 (⟨some 5,none,.mov,[.t 15]⟩,[]) ::
 []) [1,2,5])
 (.seq (.reg [] (
 ⟨some 6,none,.mov,[.k (.d (.list true []))]⟩ ::
 []) [1,2,5,6])
 (.seq (.seq (.reg [] (
 ⟨some 16,none,.mov,[.t 1]⟩ ::
 ⟨some 17,none,.len false,[.t 16]⟩ ::
 ⟨some 7,none,.mov,[.t 17]⟩ ::
 []) [2,5,6,7])
 (.block 0
 (.loop [.freeze 5,.own 6 27 3 1] [2,5,6,7] [2,27,900000,901000]
 (.seq (.seq (.reg [] (
 ⟨some 18,none,.mov,[.t 7]⟩ ::
 ⟨some 19,none,.faddr 0,[.t 2]⟩ ::
 ⟨some 20,none,.load false 1,[.t 19]⟩ ::
 ⟨some 21,none,.bin .lss,[.t 18,.t 20]⟩ ::
 []) [2,5,6,7,21])
 (.cond (.t 21)
 (.skip)
 (.exit 0)))
 (.seq (.block 1
 (.reg [] (
 ⟨some 24,none,.mov,[.t 6]⟩ ::
 ⟨some 25,none,.mov,[.t 7]⟩ ::
 ⟨some 26,none,.mkrow 1 (.int .i64 0) 1 [0],[.t 25]⟩ ::
 ⟨some 27,none,.app 3 1 none true,[.t 24,.t 26]⟩ ::
 ⟨some 6,none,.mov,[.t 27]⟩ ::
 []) [2,5,6,7]))
 (.reg [] (
 ⟨some 22,none,.mov,[.t 7]⟩ ::
 ⟨some 23,none,.bin .add,[.t 22,.k (.d (.int .i64 1))]⟩ ::
 ⟨some 7,none,.mov,[.t 23]⟩ ::
 []) [2,5,6,7]))))))
 (.seq (.reg [.freeze 5,.freeze 6] (
 ⟨some 29,none,.load true 2,[.t 2]⟩ ::
 ⟨some 30,none,.mov,[.t 5]⟩ ::
 ⟨some 31,none,.mov,[.t 6]⟩ ::
 ⟨some 32,none,.call 81,[.t 29,.t 30,.t 31]⟩ ::
 ⟨some 28,none,.mov,[.t 32]⟩ ::
 ⟨some 33,none,.extract 0,[.t 28]⟩ ::
 ⟨some 34,none,.extract 1,[.t 28]⟩ ::
 ⟨some 8,none,.mov,[.t 33]⟩ ::
 ⟨some 9,none,.mov,[.t 34]⟩ ::
 []) [5,6,8])
 (.seq (.reg [.freeze 5,.freeze 6] (
 ⟨some 35,none,.mov,[.t 5]⟩ ::
 ⟨some 36,none,.mov,[.t 6]⟩ ::
 ⟨some 37,none,.mov,[.t 8]⟩ ::
 ⟨some 38,none,.call 82,[.t 35,.t 36,.t 37]⟩ ::
 ⟨some 4,none,.mov,[.t 38]⟩ ::
 []) [4])
 (.ret))))))
theorem MJ:DR E0 Jb IT [.t 4] 39:=AP (fl:=[12,15]) (by kernel_rfl)
abbrev Hs:Nat:=51
def Gw:PC :=
 .seq (.reg [] (
 ⟨some 4,none,.mov,[.k (.d (.bool false))]⟩ ::
 []) [0,1])
 (.seq (.seq (.reg [] (
 ⟨some 7,none,.mov,[.t 0]⟩ ::
 ⟨some 8,none,.len false,[.t 7]⟩ ::
 ⟨some 9,none,.mov,[.k (.d (.int .i64 0))]⟩ ::
 []) [0,1,7,8,9])
 (.block 0
 (.loop [] [0,1,7,8,9] [900000,900001,901000,901001]
 (.seq (.reg [] (
 ⟨some 10,none,.bin .lss,[.t 9,.t 8]⟩ ::
 []) [0,1,7,8,9,10])
 (.seq (.cond (.t 10)
 (.skip)
 (.exit 0))
 (.seq (.block 1
 (.seq (.reg [] (
 ⟨some 11,none,.mov,[.t 9]⟩ ::
 ⟨some 12,none,.iaddrS 1,[.t 7,.t 9]⟩ ::
 ⟨some 13,none,.load false 1,[.t 12]⟩ ::
 ⟨some 5,none,.mov,[.t 11]⟩ ::
 ⟨some 6,none,.mov,[.t 13]⟩ ::
 []) [0,1,5,6,7,8,9])
 (.seq (.reg [] (
 ⟨some 14,none,.mov,[.t 6]⟩ ::
 ⟨some 15,none,.bin .lss,[.t 14,.k (.d (.int .i64 0))]⟩ ::
 ⟨some 16,none,.mov,[.t 15]⟩ ::
 ⟨some 17,some (16,false),.mov,[.t 6]⟩ ::
 ⟨some 18,some (16,false),.mov,[.t 1]⟩ ::
 ⟨some 19,some (16,false),.bin .geq,[.t 17,.t 18]⟩ ::
 ⟨some 20,none,.pick,[.t 16,.k (.d (.bool true)),.t 19]⟩ ::
 ⟨some 21,none,.mov,[.t 20]⟩ ::
 ⟨some 22,some (21,false),.mov,[.t 5]⟩ ::
 ⟨some 23,some (21,false),.bin .gtr,[.t 22,.k (.d (.int .i64 0))]⟩ ::
 ⟨some 24,some (21,false),.mov,[.t 23]⟩ ::
 ⟨some 25,some (24,true),.mov,[.t 6]⟩ ::
 ⟨some 26,some (24,true),.mov,[.t 0]⟩ ::
 ⟨some 27,some (24,true),.mov,[.t 5]⟩ ::
 ⟨some 28,some (24,true),.bin .sub,[.t 27,.k (.d (.int .i64 1))]⟩ ::
 ⟨some 29,some (24,true),.iaddrS 1,[.t 26,.t 28]⟩ ::
 ⟨some 30,some (24,true),.load false 1,[.t 29]⟩ ::
 ⟨some 31,some (24,true),.bin .leq,[.t 25,.t 30]⟩ ::
 ⟨some 32,some (21,false),.pick,[.t 24,.t 31,.k (.d (.bool false))]⟩ ::
 ⟨some 33,none,.pick,[.t 21,.k (.d (.bool true)),.t 32]⟩ ::
 []) [0,1,7,8,9,33])
 (.cond (.t 33)
 (.seq (.reg [] (
 ⟨some 4,none,.mov,[.k (.d (.bool false))]⟩ ::
 []) [4])
 (.ret))
 (.skip)))))
 (.reg [] (
 ⟨some 34,none,.bin .add,[.t 9,.k (.d (.int .i64 1))]⟩ ::
 ⟨some 9,none,.mov,[.t 34]⟩ ::
 []) [0,1,7,8,9])))))))
 (.seq (.reg [] (
 ⟨some 4,none,.mov,[.k (.d (.bool true))]⟩ ::
 []) [4])
 (.ret)))
theorem Ks:DR E0 Hs Gw [.t 4] 35:=AP (fl:=[]) (by kernel_rfl)
abbrev Dp:Nat:=52
def Eu:PC :=
 .seq (.reg [] (
 ⟨some 3,none,.box,[.t 0]⟩ ::
 ⟨some 4,none,.box,[.t 1]⟩ ::
 ⟨some 5,none,.box,[.t 2]⟩ ::
 ⟨some 6,none,.zero [.list true []],[]⟩ ::
 ⟨some 7,none,.zero [.bool false],[]⟩ ::
 []) [3,4,5,6,7])
 (.seq (.reg [] (
 ⟨some 10,none,.load true 2,[.t 3]⟩ ::
 ⟨some 11,none,.load false 1,[.t 4]⟩ ::
 ⟨some 12,none,.call 83,[.t 10,.t 11]⟩ ::
 ⟨some 8,none,.zero [.list true []],[]⟩ ::
 ⟨none,none,.store 1,[.t 8,.t 12]⟩ ::
 []) [3,4,5,6,7,8])
 (.seq (.seq (.reg [.frzP 3,.frzP 4,.frzP 5,.frzP 8] (
 ⟨some 9,none,.mov,[.k (.d (.int .i64 0))]⟩ ::
 []) [3,4,5,6,7,8,9])
 (.block 0
 (.loop [] [3,4,5,6,7,8,9] [3,4,5,6,7,8,12,10012,900000,900001,900002,901000,901001,901002]
 (.seq (.seq (.reg [] (
 ⟨some 13,none,.mov,[.t 9]⟩ ::
 ⟨some 14,none,.bin .mul,[.k (.d (.int .i64 2)),.t 13]⟩ ::
 ⟨some 15,none,.load false 1,[.t 5]⟩ ::
 ⟨some 16,none,.len false,[.t 15]⟩ ::
 ⟨some 17,none,.bin .add,[.t 14,.t 16]⟩ ::
 ⟨some 18,none,.faddr 0,[.t 3]⟩ ::
 ⟨some 19,none,.faddr 1,[.t 18]⟩ ::
 ⟨some 20,none,.load false 1,[.t 19]⟩ ::
 ⟨some 21,none,.bin .leq,[.t 17,.t 20]⟩ ::
 ⟨some 22,none,.mov,[.t 21]⟩ ::
 ⟨some 23,some (22,true),.load false 1,[.t 7]⟩ ::
 ⟨some 24,some (22,true),.un .not,[.t 23]⟩ ::
 ⟨some 25,none,.pick,[.t 22,.t 24,.k (.d (.bool false))]⟩ ::
 []) [3,4,5,6,7,8,9,25])
 (.cond (.t 25)
 (.skip)
 (.exit 0)))
 (.seq (.block 1
 (.reg [] (
 ⟨some 28,none,.load true 2,[.t 3]⟩ ::
 ⟨some 29,none,.load false 1,[.t 5]⟩ ::
 ⟨some 30,none,.mov,[.t 9]⟩ ::
 ⟨some 31,none,.mkfn 85,[.t 5,.t 3,.t 8,.t 4,.t 6,.t 7]⟩ ::
 ⟨some 32,none,.call 84,[.t 28,.t 29,.k (.d (.int .i64 0)),.t 30,.t 31]⟩ ::
 []) [3,4,5,6,7,8,9]))
 (.reg [] (
 ⟨some 26,none,.mov,[.t 9]⟩ ::
 ⟨some 27,none,.bin .add,[.t 26,.k (.d (.int .i64 1))]⟩ ::
 ⟨some 9,none,.mov,[.t 27]⟩ ::
 []) [3,4,5,6,7,8,9]))))))
 (.seq (.draw [] (
 (⟨some 33,none,.load false 1,[.t 6]⟩,[]) ::
 (⟨some 34,none,.load false 1,[.t 7]⟩,[]) ::
 (⟨none,none,.store 1,[.t 6,.t 33]⟩,[1]) ::
 (⟨none,none,.store 1,[.t 7,.t 34]⟩,[]) ::
 []) [6,7])
 (.ret))))
theorem Hi:DR E0 Dp Eu [.c 6 67 false 1,.c 7 4 false 1] 35:=AP (fl:=[]) (by kernel_rfl)
abbrev VD:Nat:=53
abbrev Gg:Nat:=54
def IU:PC :=
 .seq (.reg [] (
 ⟨some 3,none,.box,[.t 0]⟩ ::
 ⟨some 6,none,.mov,[.k (.d (.list true []))]⟩ ::
 ⟨some 7,none,.mov,[.k (.d (.bool false))]⟩ ::
 []) [1,2,3])
 (.seq (.seq (.reg [] (
 ⟨some 16,none,.mov,[.t 2]⟩ ::
 ⟨some 17,none,.len false,[.t 16]⟩ ::
 ⟨some 18,none,.faddr 1,[.t 3]⟩ ::
 ⟨some 19,none,.load false 1,[.t 18]⟩ ::
 ⟨some 20,none,.bin .gtr,[.t 17,.t 19]⟩ ::
 []) [1,2,3,20])
 (.cond (.t 20)
 (.seq (.reg [] (
 ⟨some 6,none,.mov,[.k (.d (.list true []))]⟩ ::
 ⟨some 7,none,.mov,[.k (.d (.bool false))]⟩ ::
 []) [6,7])
 (.ret))
 (.skip)))
 (.seq (.reg [] (
 ⟨some 21,none,.faddr 1,[.t 3]⟩ ::
 ⟨some 22,none,.load false 1,[.t 21]⟩ ::
 ⟨some 23,none,.mov,[.t 2]⟩ ::
 ⟨some 24,none,.len false,[.t 23]⟩ ::
 ⟨some 25,none,.bin .sub,[.t 22,.t 24]⟩ ::
 ⟨some 26,none,.bin .quo,[.t 25,.k (.d (.int .i64 2))]⟩ ::
 ⟨some 8,none,.mov,[.t 26]⟩ ::
 []) [1,2,3,8])
 (.seq (.seq (.reg [] (
 ⟨some 9,none,.mov,[.k (.d (.int .i64 0))]⟩ ::
 []) [1,2,3,8,9])
 (.block 0
 (.loop [] [1,2,3,8,9] [3,900000,900001,900002,901000,901001,901002]
 (.seq (.seq (.reg [] (
 ⟨some 27,none,.mov,[.t 9]⟩ ::
 ⟨some 28,none,.mov,[.t 8]⟩ ::
 ⟨some 29,none,.bin .leq,[.t 27,.t 28]⟩ ::
 []) [1,2,3,8,9,29])
 (.cond (.t 29)
 (.skip)
 (.exit 0)))
 (.seq (.block 1
 (.seq (.reg [] (
 ⟨some 32,none,.load true 2,[.t 3]⟩ ::
 ⟨some 33,none,.mov,[.t 2]⟩ ::
 ⟨some 34,none,.mov,[.t 9]⟩ ::
 ⟨some 35,none,.call 88,[.t 32,.t 33,.k (.d (.int .i64 0)),.t 34]⟩ ::
 ⟨some 10,none,.mov,[.t 35]⟩ ::
 []) [1,2,3,8,9,10])
 (.seq (.reg [] (
 ⟨some 11,none,.mov,[.k (.d (.int .i64 0))]⟩ ::
 []) [1,2,3,8,9,10,11])
 (.block 2
 (.loop [] [1,2,3,8,9,10,11] [3,35,10035,900000,900001,900002,901000,901001,901002]
 (.seq (.seq (.reg [] (
 ⟨some 36,none,.mov,[.t 11]⟩ ::
 ⟨some 37,none,.mov,[.t 10]⟩ ::
 ⟨some 38,none,.len false,[.t 37]⟩ ::
 ⟨some 39,none,.bin .lss,[.t 36,.t 38]⟩ ::
 []) [1,2,3,8,9,10,11,39])
 (.cond (.t 39)
 (.skip)
 (.exit 2)))
 (.seq (.block 3
 (.seq (.draw [] (
 (⟨some 42,none,.mkrow 1 (.int .i64 0) 0 [],[]⟩,[]) ::
 (⟨some 43,none,.mov,[.t 2]⟩,[]) ::
 (⟨some 44,none,.app 3 1 none true,[.t 42,.t 43]⟩,[]) ::
 (⟨some 45,none,.mov,[.t 10]⟩,[]) ::
 (⟨some 46,none,.mov,[.t 11]⟩,[]) ::
 (⟨some 47,none,.iaddrS 1,[.t 45,.t 46]⟩,[2]) ::
 (⟨some 48,none,.load false 1,[.t 47]⟩,[2]) ::
 (⟨some 49,none,.app 3 1 none true,[.t 44,.t 48]⟩,[]) ::
 (⟨some 12,none,.mov,[.t 49]⟩,[]) ::
 []) [1,2,3,8,9,10,11,12])
 (.seq (.reg [.freeze 12] (
 ⟨some 50,none,.mov,[.t 1]⟩ ::
 ⟨some 51,none,.mov,[.t 12]⟩ ::
 ⟨some 52,none,.mov,[.t 12]⟩ ::
 ⟨some 53,none,.len false,[.t 52]⟩ ::
 ⟨some 54,none,.mksl 3 1 (.int .i64 0) false,[.t 53,.t 53]⟩ ::
 ⟨some 55,none,.call 82,[.t 50,.t 51,.t 54]⟩ ::
 ⟨some 13,none,.mov,[.t 55]⟩ ::
 []) [1,2,3,8,9,10,11,12,13])
 (.seq (.reg [.freeze 12] (
 ⟨some 57,none,.load true 2,[.t 3]⟩ ::
 ⟨some 58,none,.mov,[.t 13]⟩ ::
 ⟨some 59,none,.mov,[.t 12]⟩ ::
 ⟨some 60,none,.call 81,[.t 57,.t 58,.t 59]⟩ ::
 ⟨some 56,none,.mov,[.t 60]⟩ ::
 ⟨some 61,none,.extract 0,[.t 56]⟩ ::
 ⟨some 62,none,.extract 1,[.t 56]⟩ ::
 ⟨some 14,none,.mov,[.t 61]⟩ ::
 ⟨some 15,none,.mov,[.t 62]⟩ ::
 []) [1,2,3,8,9,10,11,12,14,15])
 (.seq (.reg [] (
 ⟨some 63,none,.mov,[.t 15]⟩ ::
 []) [1,2,3,8,9,10,11,12,14,63])
 (.cond (.t 63)
 (.seq (.reg [.freeze 12] (
 ⟨some 64,none,.mov,[.t 1]⟩ ::
 ⟨some 65,none,.mov,[.t 12]⟩ ::
 ⟨some 66,none,.mov,[.t 14]⟩ ::
 ⟨some 67,none,.call 82,[.t 64,.t 65,.t 66]⟩ ::
 ⟨some 6,none,.mov,[.t 67]⟩ ::
 ⟨some 7,none,.mov,[.k (.d (.bool true))]⟩ ::
 []) [6,7])
 (.ret))
 (.skip)))))))
 (.reg [] (
 ⟨some 40,none,.mov,[.t 11]⟩ ::
 ⟨some 41,none,.bin .add,[.t 40,.k (.d (.int .i64 1))]⟩ ::
 ⟨some 11,none,.mov,[.t 41]⟩ ::
 []) [1,2,3,8,9,10,11]))))))))
 (.reg [] (
 ⟨some 30,none,.mov,[.t 9]⟩ ::
 ⟨some 31,none,.bin .add,[.t 30,.k (.d (.int .i64 1))]⟩ ::
 ⟨some 9,none,.mov,[.t 31]⟩ ::
 []) [1,2,3,8,9]))))))
 (.seq (.reg [] (
 ⟨some 6,none,.mov,[.k (.d (.list true []))]⟩ ::
 ⟨some 7,none,.mov,[.k (.d (.bool false))]⟩ ::
 []) [6,7])
 (.ret)))))
theorem ML:DR E0 Gg IU [.t 6,.t 7] 68:=AP (fl:=[44,49,54]) (by kernel_rfl)
abbrev Hq:Nat:=55
def Gu:PC :=
 .seq (.reg [] (
 ⟨some 4,none,.mov,[.k (.d (.bool false))]⟩ ::
 []) [0,1])
 (.seq (.seq (.reg [] (
 ⟨some 5,none,.mov,[.k (.d (.int .i64 0))]⟩ ::
 []) [0,1,5])
 (.block 0
 (.loop [] [0,1,5] [900000,900001,901000,901001]
 (.seq (.seq (.reg [] (
 ⟨some 6,none,.mov,[.t 5]⟩ ::
 ⟨some 7,none,.mov,[.t 0]⟩ ::
 ⟨some 8,none,.len false,[.t 7]⟩ ::
 ⟨some 9,none,.bin .lss,[.t 6,.t 8]⟩ ::
 []) [0,1,5,9])
 (.cond (.t 9)
 (.skip)
 (.exit 0)))
 (.seq (.block 1
 (.seq (.draw [] (
 (⟨some 12,none,.mov,[.t 0]⟩,[]) ::
 (⟨some 13,none,.mov,[.t 5]⟩,[]) ::
 (⟨some 14,none,.iaddrS 1,[.t 12,.t 13]⟩,[]) ::
 (⟨some 15,none,.load false 1,[.t 14]⟩,[]) ::
 (⟨some 16,none,.mov,[.t 1]⟩,[]) ::
 (⟨some 17,none,.bin .sub,[.t 16,.k (.d (.int .i64 1))]⟩,[]) ::
 (⟨some 18,none,.call 44,[.t 15,.k (.d (.int .i64 0)),.t 17]⟩,[]) ::
 (⟨some 19,none,.un .not,[.t 18]⟩,[]) ::
 (⟨some 20,none,.mov,[.t 19]⟩,[]) ::
 (⟨some 21,some (20,false),.mov,[.t 5]⟩,[]) ::
 (⟨some 22,some (20,false),.bin .gtr,[.t 21,.k (.d (.int .i64 0))]⟩,[]) ::
 (⟨some 23,some (20,false),.mov,[.t 22]⟩,[]) ::
 (⟨some 24,some (23,true),.mov,[.t 0]⟩,[]) ::
 (⟨some 25,some (23,true),.mov,[.t 5]⟩,[]) ::
 (⟨some 26,some (23,true),.bin .sub,[.t 25,.k (.d (.int .i64 1))]⟩,[]) ::
 (⟨some 27,some (23,true),.iaddrS 1,[.t 24,.t 26]⟩,[]) ::
 (⟨some 28,some (23,true),.load false 1,[.t 27]⟩,[]) ::
 (⟨some 29,some (23,true),.mov,[.t 0]⟩,[]) ::
 (⟨some 30,some (23,true),.mov,[.t 5]⟩,[]) ::
 (⟨some 31,some (23,true),.iaddrS 1,[.t 29,.t 30]⟩,[]) ::
 (⟨some 32,some (23,true),.load false 1,[.t 31]⟩,[]) ::
 (⟨some 33,some (23,true),.bin .geq,[.t 28,.t 32]⟩,[]) ::
 (⟨some 34,some (20,false),.pick,[.t 23,.t 33,.k (.d (.bool false))]⟩,[]) ::
 (⟨some 35,none,.pick,[.t 20,.k (.d (.bool true)),.t 34]⟩,[]) ::
 []) [0,1,5,35])
 (.cond (.t 35)
 (.seq (.reg [] (
 ⟨some 4,none,.mov,[.k (.d (.bool false))]⟩ ::
 []) [4])
 (.ret))
 (.skip))))
 (.reg [] (
 ⟨some 10,none,.mov,[.t 5]⟩ ::
 ⟨some 11,none,.bin .add,[.t 10,.k (.d (.int .i64 1))]⟩ ::
 ⟨some 5,none,.mov,[.t 11]⟩ ::
 []) [0,1,5]))))))
 (.seq (.reg [] (
 ⟨some 4,none,.mov,[.k (.d (.bool true))]⟩ ::
 []) [4])
 (.ret)))
theorem Kq:DR E0 Hq Gu [.t 4] 36:=AP (fl:=[]) (by kernel_rfl)
abbrev KQ:Nat:=56
def I_:PC :=
 .seq (.reg [] (
 ⟨some 2,none,.mov,[.k (.d (.int .i64 0))]⟩ ::
 []) [0])
 (.seq (.reg [] (
 ⟨some 3,none,.mov,[.k (.d (.int .i64 1))]⟩ ::
 []) [0,3])
 (.seq (.seq (.reg [] (
 ⟨some 4,none,.mov,[.k (.d (.int .i64 0))]⟩ ::
 []) [0,3,4])
 (.block 0
 (.loop [] [0,3,4] [11,10011,900000,901000]
 (.seq (.seq (.reg [] (
 ⟨some 5,none,.mov,[.t 4]⟩ ::
 ⟨some 6,none,.mov,[.t 0]⟩ ::
 ⟨some 7,none,.bin .lss,[.t 5,.t 6]⟩ ::
 []) [0,3,4,7])
 (.cond (.t 7)
 (.skip)
 (.exit 0)))
 (.seq (.block 1
 (.reg [] (
 ⟨some 10,none,.mov,[.t 3]⟩ ::
 ⟨some 11,none,.call 58,[.t 10]⟩ ::
 ⟨some 3,none,.mov,[.t 11]⟩ ::
 []) [0,3,4]))
 (.reg [] (
 ⟨some 8,none,.mov,[.t 4]⟩ ::
 ⟨some 9,none,.bin .add,[.t 8,.k (.d (.int .i64 1))]⟩ ::
 ⟨some 4,none,.mov,[.t 9]⟩ ::
 []) [0,3,4]))))))
 (.seq (.reg [] (
 ⟨some 12,none,.mov,[.t 3]⟩ ::
 ⟨some 2,none,.mov,[.t 12]⟩ ::
 []) [2])
 (.ret))))
theorem M6:DR E0 KQ I_ [.t 2] 13:=AP (fl:=[]) (by kernel_rfl)
abbrev OZ:Nat:=57
def Mh:PC :=
 .seq (.reg [] (
 ⟨some 4,none,.mov,[.k (.d (.bool false))]⟩ ::
 []) [0,1])
 (.seq (.seq (.reg [] (
 ⟨some 5,none,.mov,[.k (.d (.int .i64 0))]⟩ ::
 []) [0,1,5])
 (.block 0
 (.loop [] [0,1,5] [900000,900001,901000,901001]
 (.seq (.seq (.reg [] (
 ⟨some 6,none,.mov,[.t 5]⟩ ::
 ⟨some 7,none,.mov,[.t 0]⟩ ::
 ⟨some 8,none,.len false,[.t 7]⟩ ::
 ⟨some 9,none,.bin .lss,[.t 6,.t 8]⟩ ::
 []) [0,1,5,9])
 (.cond (.t 9)
 (.skip)
 (.exit 0)))
 (.seq (.block 1
 (.seq (.reg [] (
 ⟨some 12,none,.mov,[.t 0]⟩ ::
 ⟨some 13,none,.mov,[.t 5]⟩ ::
 ⟨some 14,none,.iaddrS 1,[.t 12,.t 13]⟩ ::
 ⟨some 15,none,.load false 1,[.t 14]⟩ ::
 ⟨some 16,none,.mov,[.t 1]⟩ ::
 ⟨some 17,none,.bin .eql,[.t 15,.t 16]⟩ ::
 []) [0,1,5,17])
 (.cond (.t 17)
 (.seq (.reg [] (
 ⟨some 4,none,.mov,[.k (.d (.bool true))]⟩ ::
 []) [4])
 (.ret))
 (.skip))))
 (.reg [] (
 ⟨some 10,none,.mov,[.t 5]⟩ ::
 ⟨some 11,none,.bin .add,[.t 10,.k (.d (.int .i64 1))]⟩ ::
 ⟨some 5,none,.mov,[.t 11]⟩ ::
 []) [0,1,5]))))))
 (.seq (.reg [] (
 ⟨some 4,none,.mov,[.k (.d (.bool false))]⟩ ::
 []) [4])
 (.ret)))
theorem Qs:DR E0 OZ Mh [.t 4] 18:=AP (fl:=[]) (by kernel_rfl)
abbrev KO:Nat:=58
def I7:PC :=
 .seq (.reg [] (
 ⟨some 2,none,.mov,[.k (.d (.int .i64 0))]⟩ ::
 []) [0])
 (.seq (.seq (.reg [] (
 ⟨some 3,none,.mov,[.t 0]⟩ ::
 ⟨some 4,none,.bin .lss,[.t 3,.k (.d (.int .i64 8))]⟩ ::
 []) [0,4])
 (.cond (.t 4)
 (.seq (.reg [] (
 ⟨some 5,none,.mov,[.t 0]⟩ ::
 ⟨some 6,none,.bin .mul,[.k (.d (.int .i64 2)),.t 5]⟩ ::
 ⟨some 2,none,.mov,[.t 6]⟩ ::
 []) [2])
 (.ret))
 (.skip)))
 (.seq (.reg [] (
 ⟨some 7,none,.mov,[.t 0]⟩ ::
 ⟨some 8,none,.bin .mul,[.k (.d (.int .i64 2)),.t 7]⟩ ::
 ⟨some 9,none,.bin .sub,[.t 8,.k (.d (.int .i64 16))]⟩ ::
 ⟨some 10,none,.bin .xor,[.t 9,.k (.d (.int .i64 3))]⟩ ::
 ⟨some 2,none,.mov,[.t 10]⟩ ::
 []) [2])
 (.ret)))
theorem M3:DR E0 KO I7 [.t 2] 11:=AP (fl:=[]) (by kernel_rfl)
abbrev Wr:Nat:=59
abbrev G_:Nat:=60
def GF:PC :=
 .seq (.reg [] (
 ⟨some 4,none,.mov,[.k (.d (.int .i64 0))]⟩ ::
 ⟨some 5,none,.mov,[.k (.d (.int .i64 0))]⟩ ::
 []) [0,1])
 (.seq (.reg [] (
 ⟨some 8,none,.mov,[.t 0]⟩ ::
 ⟨some 9,none,.mov,[.t 1]⟩ ::
 ⟨some 6,none,.mov,[.t 8]⟩ ::
 ⟨some 7,none,.mov,[.t 9]⟩ ::
 []) [0,1,6,7])
 (.seq (.block 0
 (.loop [] [0,1,6,7] [900000,900001,901000,901001]
 (.seq (.seq (.reg [] (
 ⟨some 10,none,.mov,[.t 7]⟩ ::
 ⟨some 11,none,.bin .neq,[.t 10,.k (.d (.int .i64 0))]⟩ ::
 []) [0,1,6,7,11])
 (.cond (.t 11)
 (.skip)
 (.exit 0)))
 (.block 1
 (.draw [] (
 (⟨some 12,none,.mov,[.t 7]⟩,[]) ::
 (⟨some 13,none,.mov,[.t 6]⟩,[]) ::
 (⟨some 14,none,.mov,[.t 7]⟩,[]) ::
 (⟨some 15,none,.bin .rem,[.t 13,.t 14]⟩,[]) ::
 (⟨some 6,none,.mov,[.t 12]⟩,[]) ::
 (⟨some 7,none,.mov,[.t 15]⟩,[]) ::
 []) [0,1,6,7])))))
 (.seq (.draw [] (
 (⟨some 16,none,.mov,[.t 0]⟩,[]) ::
 (⟨some 17,none,.mov,[.t 6]⟩,[]) ::
 (⟨some 18,none,.bin .quo,[.t 16,.t 17]⟩,[]) ::
 (⟨some 19,none,.mov,[.t 1]⟩,[]) ::
 (⟨some 20,none,.mov,[.t 6]⟩,[]) ::
 (⟨some 21,none,.bin .quo,[.t 19,.t 20]⟩,[]) ::
 (⟨some 4,none,.mov,[.t 18]⟩,[]) ::
 (⟨some 5,none,.mov,[.t 21]⟩,[]) ::
 []) [4,5])
 (.ret))))
theorem J6:DR E0 G_ GF [.t 4,.t 5] 22:=AP (fl:=[]) (by kernel_rfl)
abbrev Je:Nat:=61
def IY:PC :=
 .seq (.reg [] (
 ⟨some 3,none,.box,[.t 0]⟩ ::
 ⟨some 6,none,.zero [.int .i64 0,.int .i64 0,.int .i64 0],[]⟩ ::
 ⟨some 7,none,.mov,[.k (.d (.int .i64 0))]⟩ ::
 []) [1,2,3,6])
 (.seq (.seq (.reg [] (
 ⟨some 9,none,.faddr 0,[.t 3]⟩ ::
 ⟨some 10,none,.load true 2,[.t 9]⟩ ::
 ⟨some 11,none,.call 16,[.t 10]⟩ ::
 ⟨some 12,none,.bin .neq,[.t 11,.k (.d (.int .i64 0))]⟩ ::
 ⟨some 13,none,.mov,[.t 12]⟩ ::
 ⟨some 14,some (13,false),.faddr 2,[.t 3]⟩ ::
 ⟨some 15,some (13,false),.load false 1,[.t 14]⟩ ::
 ⟨some 16,some (13,false),.bin .lss,[.t 15,.k (.d (.int .i64 1))]⟩ ::
 ⟨some 17,none,.pick,[.t 13,.k (.d (.bool true)),.t 16]⟩ ::
 ⟨some 18,none,.mov,[.t 17]⟩ ::
 ⟨some 19,some (18,false),.faddr 2,[.t 3]⟩ ::
 ⟨some 20,some (18,false),.load false 1,[.t 19]⟩ ::
 ⟨some 21,some (18,false),.bin .gtr,[.t 20,.k (.d (.int .i64 8))]⟩ ::
 ⟨some 22,none,.pick,[.t 18,.k (.d (.bool true)),.t 21]⟩ ::
 []) [1,2,3,6,22])
 (.cond (.t 22)
 (.seq (.reg [] (
 ⟨some 23,none,.build [.int .i64 0,.int .i64 0,.int .i64 0] [],[]⟩ ::
 ⟨none,none,.store 3,[.t 6,.t 23]⟩ ::
 ⟨some 7,none,.mov,[.k (.d (.int .i64 50))]⟩ ::
 []) [6,7])
 (.ret))
 (.skip)))
 (.seq (.reg [] (
 ⟨some 24,none,.faddr 0,[.t 3]⟩ ::
 ⟨some 25,none,.load true 2,[.t 24]⟩ ::
 ⟨some 26,none,.build [.int .i64 0,.int .i64 0] [(0,2)],[.t 25]⟩ ::
 ⟨some 27,none,.faddr 2,[.t 3]⟩ ::
 ⟨some 28,none,.load false 1,[.t 27]⟩ ::
 ⟨some 29,none,.build [.int .i64 0,.int .i64 0,.int .i64 0] [(0,2),(2,1)],[.t 26,.t 28]⟩ ::
 ⟨some 8,none,.zero [.int .i64 0,.int .i64 0,.int .i64 0],[]⟩ ::
 ⟨none,none,.store 3,[.t 8,.t 29]⟩ ::
 []) [1,2,3,6,8])
 (.seq (.seq (.draw [] (
 (⟨some 30,none,.mov,[.t 1]⟩,[]) ::
 (⟨some 31,none,.faddr 2,[.t 3]⟩,[]) ::
 (⟨some 32,none,.load false 1,[.t 31]⟩,[]) ::
 (⟨some 33,none,.mov,[.t 2]⟩,[]) ::
 (⟨some 34,none,.faddr 0,[.t 8]⟩,[]) ::
 (⟨some 35,none,.load true 2,[.t 34]⟩,[]) ::
 (⟨some 36,none,.callv,[.t 33,.t 35]⟩,[2]) ::
 (⟨some 37,none,.bin .mul,[.t 32,.t 36]⟩,[]) ::
 (⟨some 38,none,.call 45,[.t 30,.t 37]⟩,[]) ::
 (⟨some 39,none,.un .not,[.t 38]⟩,[]) ::
 []) [6,8,39])
 (.cond (.t 39)
 (.seq (.reg [] (
 ⟨some 40,none,.build [.int .i64 0,.int .i64 0,.int .i64 0] [],[]⟩ ::
 ⟨none,none,.store 3,[.t 6,.t 40]⟩ ::
 ⟨some 7,none,.mov,[.k (.d (.int .i64 51))]⟩ ::
 []) [6,7])
 (.ret))
 (.skip)))
 (.seq (.reg [] (
 ⟨some 41,none,.load true 3,[.t 8]⟩ ::
 ⟨none,none,.store 3,[.t 6,.t 41]⟩ ::
 ⟨some 7,none,.mov,[.k (.d (.int .i64 0))]⟩ ::
 []) [6,7])
 (.ret)))))
theorem MP:DR E0 Je IY [.c 6 84 true 3,.t 7] 42:=AP (fl:=[]) (by kernel_rfl)
abbrev Dw:Nat:=62
def GI:PC :=
 .seq (.reg [] (
 ⟨some 1,none,.box,[.t 0]⟩ ::
 ⟨some 2,none,.mov,[.k (.d (.int .i64 0))]⟩ ::
 []) [])
 (.seq (.reg [] (
 ⟨some 2,none,.mov,[.k (.d (.int .i64 0))]⟩ ::
 []) [2])
 (.ret))
theorem J9:DR E0 Dw GI [.t 2] 3:=AP (fl:=[]) (by kernel_rfl)
abbrev DM:Nat:=63
abbrev K3:Nat:=64
abbrev CY:Nat:=65
def Fc:PC :=
 .seq (.reg [] (
 ⟨some 1,none,.box,[.t 0]⟩ ::
 ⟨some 2,none,.mov,[.k (.d (.int .i64 0))]⟩ ::
 []) [1])
 (.seq (.reg [] (
 ⟨some 3,none,.faddr 0,[.t 1]⟩ ::
 ⟨some 4,none,.faddr 0,[.t 3]⟩ ::
 ⟨some 5,none,.load false 1,[.t 4]⟩ ::
 ⟨some 6,none,.faddr 0,[.t 1]⟩ ::
 ⟨some 7,none,.faddr 1,[.t 6]⟩ ::
 ⟨some 8,none,.load false 1,[.t 7]⟩ ::
 ⟨some 9,none,.bin .sub,[.t 5,.t 8]⟩ ::
 ⟨some 2,none,.mov,[.t 9]⟩ ::
 []) [2])
 (.ret))
theorem Ip:DR E0 CY Fc [.t 2] 10:=AP (fl:=[]) (by kernel_rfl)
abbrev Fj:Nat:=66
def FC:PC :=
 .seq (.reg [] (
 ⟨some 3,none,.box,[.t 0]⟩ ::
 ⟨some 6,none,.mov,[.k (.d (.list true []))]⟩ ::
 []) [1,2,3])
 (.seq (.reg [] (
 ⟨some 7,none,.mov,[.k (.d (.list true []))]⟩ ::
 []) [1,2,3,7])
 (.seq (.seq (.reg [] (
 ⟨some 9,none,.mov,[.t 2]⟩ ::
 ⟨some 8,none,.mov,[.t 9]⟩ ::
 []) [1,3,7,8])
 (.block 0
 (.loop [.own 7 25 89 1] [1,3,7,8] [3,25,900000,900001,900002,901000,901001,901002]
 (.seq (.seq (.reg [] (
 ⟨some 10,none,.mov,[.t 8]⟩ ::
 ⟨some 11,none,.mov,[.t 1]⟩ ::
 ⟨some 12,none,.len false,[.t 11]⟩ ::
 ⟨some 13,none,.bin .lss,[.t 10,.t 12]⟩ ::
 []) [1,3,7,8,13])
 (.cond (.t 13)
 (.skip)
 (.exit 0)))
 (.seq (.block 1
 (.reg [] (
 ⟨some 18,none,.mov,[.t 7]⟩ ::
 ⟨some 19,none,.mov,[.t 1]⟩ ::
 ⟨some 20,none,.mov,[.t 8]⟩ ::
 ⟨some 21,none,.iaddrS 1,[.t 19,.t 20]⟩ ::
 ⟨some 22,none,.load false 1,[.t 21]⟩ ::
 ⟨some 23,none,.conv .u8,[.t 22]⟩ ::
 ⟨some 24,none,.mkrow 1 (.int .u8 0) 1 [0],[.t 23]⟩ ::
 ⟨some 25,none,.app 89 1 none true,[.t 18,.t 24]⟩ ::
 ⟨some 7,none,.mov,[.t 25]⟩ ::
 []) [1,3,7,8]))
 (.reg [] (
 ⟨some 14,none,.mov,[.t 8]⟩ ::
 ⟨some 15,none,.faddr 2,[.t 3]⟩ ::
 ⟨some 16,none,.load false 1,[.t 15]⟩ ::
 ⟨some 17,none,.bin .add,[.t 14,.t 16]⟩ ::
 ⟨some 8,none,.mov,[.t 17]⟩ ::
 []) [1,3,7,8]))))))
 (.seq (.reg [] (
 ⟨some 26,none,.mov,[.t 7]⟩ ::
 ⟨some 6,none,.mov,[.t 26]⟩ ::
 []) [6])
 (.ret))))
theorem H_:DR E0 Fj FC [.t 6] 27:=AP (fl:=[]) (by kernel_rfl)
abbrev Fk:Nat:=67
def FD:PC :=
 .seq (.reg [] (
 ⟨some 2,none,.box,[.t 0]⟩ ::
 ⟨some 4,none,.mov,[.k (.d (.list true []))]⟩ ::
 []) [1])
 (.seq (.reg [] (
 ⟨some 5,none,.mov,[.k (.d (.list true []))]⟩ ::
 []) [1,5])
 (.seq (.seq (.reg [] (
 ⟨some 9,none,.mov,[.t 1]⟩ ::
 ⟨some 10,none,.iaddrS 1,[.t 9,.k (.d (.int .i64 0))]⟩ ::
 ⟨some 11,none,.load false 1,[.t 10]⟩ ::
 ⟨some 12,none,.len false,[.t 11]⟩ ::
 ⟨some 13,none,.mov,[.k (.d (.int .i64 0))]⟩ ::
 []) [1,5,12,13])
 (.block 0
 (.loop [.own 5 29 3 1] [1,5,12,13] [29,900001,901001]
 (.seq (.reg [] (
 ⟨some 14,none,.bin .lss,[.t 13,.t 12]⟩ ::
 []) [1,5,12,13,14])
 (.seq (.cond (.t 14)
 (.skip)
 (.exit 0))
 (.seq (.block 1
 (.seq (.reg [] (
 ⟨some 15,none,.mov,[.t 13]⟩ ::
 ⟨some 6,none,.mov,[.t 15]⟩ ::
 []) [1,5,6,12,13])
 (.seq (.reg [] (
 ⟨some 16,none,.mov,[.t 1]⟩ ::
 ⟨some 17,none,.len false,[.t 16]⟩ ::
 ⟨some 18,none,.mov,[.k (.d (.int .i64 0))]⟩ ::
 []) [1,5,6,12,13,16,17,18])
 (.block 2
 (.loop [.own 5 29 3 1] [1,5,6,12,13,16,17,18] [29,900001,901001]
 (.seq (.reg [] (
 ⟨some 19,none,.bin .lss,[.t 18,.t 17]⟩ ::
 []) [1,5,6,12,13,16,17,18,19])
 (.seq (.cond (.t 19)
 (.skip)
 (.exit 2))
 (.seq (.block 3
 (.seq (.reg [] (
 ⟨some 20,none,.iaddrS 1,[.t 16,.t 18]⟩ ::
 ⟨some 21,none,.load false 1,[.t 20]⟩ ::
 ⟨some 8,none,.mov,[.t 21]⟩ ::
 []) [1,5,6,8,12,13,16,17,18])
 (.reg [] (
 ⟨some 22,none,.mov,[.t 5]⟩ ::
 ⟨some 23,none,.mov,[.t 8]⟩ ::
 ⟨some 24,none,.mov,[.t 6]⟩ ::
 ⟨some 25,none,.iaddrS 1,[.t 23,.t 24]⟩ ::
 ⟨some 26,none,.load false 1,[.t 25]⟩ ::
 ⟨some 27,none,.conv .i64,[.t 26]⟩ ::
 ⟨some 28,none,.mkrow 1 (.int .i64 0) 1 [0],[.t 27]⟩ ::
 ⟨some 29,none,.app 3 1 none true,[.t 22,.t 28]⟩ ::
 ⟨some 5,none,.mov,[.t 29]⟩ ::
 []) [1,5,6,12,13,16,17,18])))
 (.reg [] (
 ⟨some 30,none,.bin .add,[.t 18,.k (.d (.int .i64 1))]⟩ ::
 ⟨some 18,none,.mov,[.t 30]⟩ ::
 []) [1,5,6,12,13,16,17,18])))))))))
 (.reg [] (
 ⟨some 31,none,.bin .add,[.t 13,.k (.d (.int .i64 1))]⟩ ::
 ⟨some 13,none,.mov,[.t 31]⟩ ::
 []) [1,5,12,13])))))))
 (.seq (.reg [] (
 ⟨some 32,none,.mov,[.t 5]⟩ ::
 ⟨some 4,none,.mov,[.t 32]⟩ ::
 []) [4])
 (.ret))))
theorem H':DR E0 Fk FD [.t 4] 33:=AP (fl:=[]) (by kernel_rfl)
abbrev Gj:Nat:=68
def Fu:PC :=
 .seq (.reg [] (
 ⟨some 1,none,.box,[.t 0]⟩ ::
 ⟨some 2,none,.mov,[.k (.d (.int .i64 0))]⟩ ::
 []) [1])
 (.seq (.seq (.reg [] (
 ⟨some 3,none,.faddr 0,[.t 1]⟩ ::
 ⟨some 4,none,.load true 2,[.t 3]⟩ ::
 ⟨some 5,none,.call 17,[.t 4]⟩ ::
 ⟨some 6,none,.bin .neq,[.t 5,.k (.d (.int .i64 0))]⟩ ::
 ⟨some 7,none,.mov,[.t 6]⟩ ::
 ⟨some 8,some (7,false),.faddr 2,[.t 1]⟩ ::
 ⟨some 9,some (7,false),.load false 1,[.t 8]⟩ ::
 ⟨some 10,some (7,false),.call 44,[.t 9,.k (.d (.int .i64 1)),.k (.d (.int .i64 8))]⟩ ::
 ⟨some 11,some (7,false),.un .not,[.t 10]⟩ ::
 ⟨some 12,none,.pick,[.t 7,.k (.d (.bool true)),.t 11]⟩ ::
 []) [12])
 (.cond (.t 12)
 (.seq (.reg [] (
 ⟨some 2,none,.mov,[.k (.d (.int .i64 50))]⟩ ::
 []) [2])
 (.ret))
 (.skip)))
 (.seq (.reg [] (
 ⟨some 2,none,.mov,[.k (.d (.int .i64 0))]⟩ ::
 []) [2])
 (.ret)))
theorem JT:DR E0 Gj Fu [.t 2] 13:=AP (fl:=[]) (by kernel_rfl)
abbrev Lu:Nat:=69
def KH:PC :=
 .seq (.reg [] (
 ⟨some 6,none,.mov,[.k (.d (.list true []))]⟩ ::
 []) [0,1,2])
 (.seq (.reg [] (
 ⟨some 7,none,.mov,[.k (.d (.list true []))]⟩ ::
 []) [0,1,2,7])
 (.seq (.seq (.reg [] (
 ⟨some 9,none,.mov,[.t 2]⟩ ::
 ⟨some 8,none,.mov,[.t 9]⟩ ::
 []) [0,1,7,8])
 (.block 0
 (.loop [.own 7 23 3 1] [0,1,7,8] [23,900000,900001,900002,901000,901001,901002]
 (.seq (.seq (.reg [] (
 ⟨some 10,none,.mov,[.t 8]⟩ ::
 ⟨some 11,none,.mov,[.t 0]⟩ ::
 ⟨some 12,none,.len false,[.t 11]⟩ ::
 ⟨some 13,none,.bin .lss,[.t 10,.t 12]⟩ ::
 []) [0,1,7,8,13])
 (.cond (.t 13)
 (.skip)
 (.exit 0)))
 (.seq (.block 1
 (.reg [] (
 ⟨some 17,none,.mov,[.t 7]⟩ ::
 ⟨some 18,none,.mov,[.t 0]⟩ ::
 ⟨some 19,none,.mov,[.t 8]⟩ ::
 ⟨some 20,none,.iaddrS 1,[.t 18,.t 19]⟩ ::
 ⟨some 21,none,.load false 1,[.t 20]⟩ ::
 ⟨some 22,none,.mkrow 1 (.int .i64 0) 1 [0],[.t 21]⟩ ::
 ⟨some 23,none,.app 3 1 none true,[.t 17,.t 22]⟩ ::
 ⟨some 7,none,.mov,[.t 23]⟩ ::
 []) [0,1,7,8]))
 (.reg [] (
 ⟨some 14,none,.mov,[.t 8]⟩ ::
 ⟨some 15,none,.mov,[.t 1]⟩ ::
 ⟨some 16,none,.bin .add,[.t 14,.t 15]⟩ ::
 ⟨some 8,none,.mov,[.t 16]⟩ ::
 []) [0,1,7,8]))))))
 (.seq (.reg [] (
 ⟨some 24,none,.mov,[.t 7]⟩ ::
 ⟨some 6,none,.mov,[.t 24]⟩ ::
 []) [6])
 (.ret))))
theorem N8:DR E0 Lu KH [.t 6] 25:=AP (fl:=[]) (by kernel_rfl)
abbrev Cm:Nat:=70
def Fw:PC :=
 .seq (.reg [] (
 ⟨some 1,none,.box,[.t 0]⟩ ::
 ⟨some 2,none,.mov,[.k (.d (.int .i64 0))]⟩ ::
 []) [1])
 (.seq (.reg [] (
 ⟨some 3,none,.faddr 0,[.t 1]⟩ ::
 ⟨some 4,none,.faddr 0,[.t 3]⟩ ::
 ⟨some 5,none,.load false 1,[.t 4]⟩ ::
 ⟨some 2,none,.mov,[.t 5]⟩ ::
 []) [2])
 (.ret))
theorem JV:DR E0 Cm Fw [.t 2] 6:=AP (fl:=[]) (by kernel_rfl)
abbrev CI:Nat:=71
def DE:PC :=
 .seq (.reg [] (
 ⟨some 4,none,.mov,[.k (.d (.bool false))]⟩ ::
 []) [0,1])
 (.seq (.reg [] (
 ⟨some 5,none,.mov,[.t 0]⟩ ::
 ⟨some 6,none,.mov,[.t 1]⟩ ::
 ⟨some 7,none,.call 89,[.t 5,.t 6]⟩ ::
 ⟨some 8,none,.bin .geq,[.t 7,.k (.d (.int .i64 0))]⟩ ::
 ⟨some 4,none,.mov,[.t 8]⟩ ::
 []) [4])
 (.ret))
theorem E':DR E0 CI DE [.t 4] 9:=AP (fl:=[]) (by kernel_rfl)
abbrev De:Nat:=72
def HY:PC :=
 .seq (.reg [] (
 ⟨some 2,none,.mov,[.k (.d (.bool false))]⟩ ::
 []) [0])
 (.seq (.reg [] (
 ⟨some 3,none,.mov,[.t 0]⟩ ::
 ⟨some 4,none,.bin .lss,[.t 3,.k (.d (.int .i64 0))]⟩ ::
 ⟨some 5,none,.mov,[.t 4]⟩ ::
 ⟨some 6,some (5,false),.mov,[.t 0]⟩ ::
 ⟨some 7,some (5,false),.bin .gtr,[.t 6,.k (.d (.int .i64 15))]⟩ ::
 ⟨some 8,none,.pick,[.t 5,.k (.d (.bool true)),.t 7]⟩ ::
 ⟨some 2,none,.mov,[.t 8]⟩ ::
 []) [2])
 (.ret))
theorem Le:DR E0 De HY [.t 2] 9:=AP (fl:=[]) (by kernel_rfl)
abbrev CX:Nat:=73
def CL:PC :=
 .seq (.reg [] (
 ⟨some 4,none,.mov,[.k (.d (.list true []))]⟩ ::
 []) [0,1])
 (.seq (.reg [] (
 ⟨some 5,none,.mov,[.k (.d (.list true []))]⟩ ::
 []) [0,1,5])
 (.seq (.seq (.reg [] (
 ⟨some 8,none,.mov,[.t 0]⟩ ::
 ⟨some 9,none,.len false,[.t 8]⟩ ::
 ⟨some 10,none,.mov,[.k (.d (.int .i64 0))]⟩ ::
 []) [1,5,8,9,10])
 (.block 0
 (.loop [.own 5 19 3 1] [1,5,8,9,10] [19,900000,900001,901000,901001]
 (.seq (.reg [] (
 ⟨some 11,none,.bin .lss,[.t 10,.t 9]⟩ ::
 []) [1,5,8,9,10,11])
 (.seq (.cond (.t 11)
 (.skip)
 (.exit 0))
 (.seq (.block 1
 (.seq (.reg [] (
 ⟨some 12,none,.iaddrS 1,[.t 8,.t 10]⟩ ::
 ⟨some 13,none,.load false 1,[.t 12]⟩ ::
 ⟨some 7,none,.mov,[.t 13]⟩ ::
 []) [1,5,7,8,9,10])
 (.reg [] (
 ⟨some 14,none,.mov,[.t 5]⟩ ::
 ⟨some 15,none,.mov,[.t 1]⟩ ::
 ⟨some 16,none,.mov,[.t 7]⟩ ::
 ⟨some 17,none,.callv,[.t 15,.t 16]⟩ ::
 ⟨some 18,none,.mkrow 1 (.int .i64 0) 1 [0],[.t 17]⟩ ::
 ⟨some 19,none,.app 3 1 none true,[.t 14,.t 18]⟩ ::
 ⟨some 5,none,.mov,[.t 19]⟩ ::
 []) [1,5,8,9,10])))
 (.reg [] (
 ⟨some 20,none,.bin .add,[.t 10,.k (.d (.int .i64 1))]⟩ ::
 ⟨some 10,none,.mov,[.t 20]⟩ ::
 []) [1,5,8,9,10])))))))
 (.seq (.reg [] (
 ⟨some 21,none,.mov,[.t 5]⟩ ::
 ⟨some 4,none,.mov,[.t 21]⟩ ::
 []) [4])
 (.ret))))
theorem D8:DR E0 CX CL [.t 4] 22:=AP (fl:=[]) (by kernel_rfl)
abbrev DB:Nat:=74
def Fa:PC :=
 .seq (.reg [] (
 ⟨some 2,none,.mov,[.k (.d (.int .i64 0))]⟩ ::
 []) [0])
 (.seq (.reg [] (
 ⟨some 3,none,.mov,[.t 0]⟩ ::
 ⟨some 4,none,.conv .i64,[.t 3]⟩ ::
 ⟨some 2,none,.mov,[.t 4]⟩ ::
 []) [2])
 (.ret))
theorem Im:DR E0 DB Fa [.t 2] 5:=AP (fl:=[]) (by kernel_rfl)
abbrev Bx:Nat:=75
def Bo:PC :=
 .seq (.reg [] (
 ⟨some 2,none,.mov,[.k (.d (.list true []))]⟩ ::
 []) [0])
 (.seq (.seq (.reg [] (
 ⟨some 3,none,.mov,[.t 0]⟩ ::
 ⟨some 4,none,.eqnil false,[.t 3,.k (.d (.list true []))]⟩ ::
 []) [0,4])
 (.cond (.t 4)
 (.seq (.reg [] (
 ⟨some 2,none,.mov,[.k (.d (.list true []))]⟩ ::
 []) [2])
 (.ret))
 (.skip)))
 (.seq (.reg [] (
 ⟨some 5,none,.mkrow 1 (.int .u8 0) 0 [],[]⟩ ::
 ⟨some 6,none,.mov,[.t 0]⟩ ::
 ⟨some 7,none,.app 89 1 none true,[.t 5,.t 6]⟩ ::
 ⟨some 2,none,.mov,[.t 7]⟩ ::
 []) [2])
 (.ret)))
theorem C6:DR E0 Bx Bo [.t 2] 8:=AP (fl:=[]) (by kernel_rfl)
abbrev E7:Nat:=76
def Eb:PC :=
 .seq (.reg [] (
 ⟨some 4,none,.mov,[.k (.d (.int .u8 0))]⟩ ::
 []) [0,1])
 (.seq (.seq (.reg [] (
 ⟨some 5,none,.mov,[.t 0]⟩ ::
 ⟨some 6,none,.bin .eql,[.t 5,.k (.d (.int .u8 0))]⟩ ::
 ⟨some 7,none,.mov,[.t 6]⟩ ::
 ⟨some 8,some (7,false),.mov,[.t 1]⟩ ::
 ⟨some 9,some (7,false),.bin .eql,[.t 8,.k (.d (.int .u8 0))]⟩ ::
 ⟨some 10,none,.pick,[.t 7,.k (.d (.bool true)),.t 9]⟩ ::
 []) [0,1,10])
 (.cond (.t 10)
 (.seq (.reg [] (
 ⟨some 4,none,.mov,[.k (.d (.int .u8 0))]⟩ ::
 []) [4])
 (.ret))
 (.skip)))
 (.seq (.draw [] (
 (⟨some 11,none,.mov,[.t 0]⟩,[]) ::
 (⟨some 12,none,.iaddrA 16 1,[.k (.d (.ptr [.int .i64 0,.int .i64 0,.int .i64 1,.int .i64 4,.int .i64 2,.int .i64 8,.int .i64 5,.int .i64 10,.int .i64 3,.int .i64 14,.int .i64 9,.int .i64 7,.int .i64 6,.int .i64 13,.int .i64 11,.int .i64 12])),.t 11]⟩,[]) ::
 (⟨some 13,none,.load false 1,[.t 12]⟩,[]) ::
 (⟨some 14,none,.mov,[.t 1]⟩,[]) ::
 (⟨some 15,none,.iaddrA 16 1,[.k (.d (.ptr [.int .i64 0,.int .i64 0,.int .i64 1,.int .i64 4,.int .i64 2,.int .i64 8,.int .i64 5,.int .i64 10,.int .i64 3,.int .i64 14,.int .i64 9,.int .i64 7,.int .i64 6,.int .i64 13,.int .i64 11,.int .i64 12])),.t 14]⟩,[]) ::
 (⟨some 16,none,.load false 1,[.t 15]⟩,[]) ::
 (⟨some 17,none,.bin .add,[.t 13,.t 16]⟩,[]) ::
 (⟨some 18,none,.call 77,[.t 17]⟩,[]) ::
 (⟨some 4,none,.mov,[.t 18]⟩,[]) ::
 []) [4])
 (.ret)))
theorem HJ:DR E0 E7 Eb [.t 4] 19:=AP (fl:=[]) (by kernel_rfl)
abbrev Ic:Nat:=77
def HX:PC :=
 .seq (.reg [] (
 ⟨some 2,none,.mov,[.k (.d (.int .u8 0))]⟩ ::
 []) [0])
 (.seq (.reg [] (
 ⟨some 3,none,.mov,[.t 0]⟩ ::
 ⟨some 4,none,.bin .rem,[.t 3,.k (.d (.int .i64 15))]⟩ ::
 ⟨some 5,none,.iaddrA 15 1,[.k (.d (.ptr [.int .u8 1,.int .u8 2,.int .u8 4,.int .u8 8,.int .u8 3,.int .u8 6,.int .u8 12,.int .u8 11,.int .u8 5,.int .u8 10,.int .u8 7,.int .u8 14,.int .u8 15,.int .u8 13,.int .u8 9])),.t 4]⟩ ::
 ⟨some 6,none,.load false 1,[.t 5]⟩ ::
 ⟨some 2,none,.mov,[.t 6]⟩ ::
 []) [2])
 (.ret))
theorem Ld:DR E0 Ic HX [.t 2] 7:=AP (fl:=[]) (by kernel_rfl)
abbrev Br:Nat:=78
def Bl:PC :=
 .seq (.reg [] (
 ⟨some 2,none,.mov,[.k (.d (.list true []))]⟩ ::
 []) [0])
 (.seq (.reg [] (
 ⟨some 3,none,.mov,[.k (.d (.int .i64 0))]⟩ ::
 []) [0,3])
 (.seq (.seq (.reg [] (
 ⟨some 9,none,.mov,[.t 0]⟩ ::
 ⟨some 10,none,.len false,[.t 9]⟩ ::
 ⟨some 11,none,.mov,[.k (.d (.int .i64 0))]⟩ ::
 []) [0,3,9,10,11])
 (.block 0
 (.loop [] [0,3,9,10,11] [900000,901000]
 (.seq (.reg [] (
 ⟨some 12,none,.bin .lss,[.t 11,.t 10]⟩ ::
 []) [0,3,9,10,11,12])
 (.seq (.cond (.t 12)
 (.skip)
 (.exit 0))
 (.seq (.block 1
 (.seq (.reg [] (
 ⟨some 13,none,.iaddrS 1,[.t 9,.t 11]⟩ ::
 ⟨some 14,none,.load false 1,[.t 13]⟩ ::
 ⟨some 5,none,.mov,[.t 14]⟩ ::
 []) [0,3,5,9,10,11])
 (.seq (.reg [] (
 ⟨some 15,none,.mov,[.t 3]⟩ ::
 ⟨some 16,none,.mov,[.t 5]⟩ ::
 ⟨some 17,none,.len false,[.t 16]⟩ ::
 ⟨some 18,none,.bin .add,[.t 15,.t 17]⟩ ::
 ⟨some 3,none,.mov,[.t 18]⟩ ::
 []) [0,3,9,10,11])
 (.seq (.reg [] (
 ⟨some 19,none,.mov,[.t 3]⟩ ::
 ⟨some 20,none,.bin .lss,[.t 19,.k (.d (.int .i64 0))]⟩ ::
 []) [0,3,9,10,11,20])
 (.cond (.t 20)
 (.dead)
 (.skip))))))
 (.reg [] (
 ⟨some 22,none,.bin .add,[.t 11,.k (.d (.int .i64 1))]⟩ ::
 ⟨some 11,none,.mov,[.t 22]⟩ ::
 []) [0,3,9,10,11])))))))
 (.seq (.reg [] (
 ⟨some 23,none,.mov,[.t 3]⟩ ::
 ⟨some 24,none,.call 90,[.k (.d (.list true [])),.t 23]⟩ ::
 ⟨some 6,none,.mov,[.t 24]⟩ ::
 []) [0,6])
 (.seq (.seq (.reg [] (
 ⟨some 25,none,.mov,[.t 0]⟩ ::
 ⟨some 26,none,.len false,[.t 25]⟩ ::
 ⟨some 27,none,.mov,[.k (.d (.int .i64 0))]⟩ ::
 []) [6,25,26,27])
 (.block 2
 (.loop [.own 6 33 89 1] [6,25,26,27] [24,33,10024,900000,901000]
 (.seq (.reg [] (
 ⟨some 28,none,.bin .lss,[.t 27,.t 26]⟩ ::
 []) [6,25,26,27,28])
 (.seq (.cond (.t 28)
 (.skip)
 (.exit 2))
 (.seq (.block 3
 (.seq (.reg [] (
 ⟨some 29,none,.iaddrS 1,[.t 25,.t 27]⟩ ::
 ⟨some 30,none,.load false 1,[.t 29]⟩ ::
 ⟨some 8,none,.mov,[.t 30]⟩ ::
 []) [6,8,25,26,27])
 (.reg [] (
 ⟨some 31,none,.mov,[.t 6]⟩ ::
 ⟨some 32,none,.mov,[.t 8]⟩ ::
 ⟨some 33,none,.app 89 1 none true,[.t 31,.t 32]⟩ ::
 ⟨some 6,none,.mov,[.t 33]⟩ ::
 []) [6,25,26,27])))
 (.reg [] (
 ⟨some 34,none,.bin .add,[.t 27,.k (.d (.int .i64 1))]⟩ ::
 ⟨some 27,none,.mov,[.t 34]⟩ ::
 []) [6,25,26,27])))))))
 (.seq (.reg [] (
 ⟨some 35,none,.mov,[.t 6]⟩ ::
 ⟨some 2,none,.mov,[.t 35]⟩ ::
 []) [2])
 (.ret))))))
theorem C0:DR E0 Br Bl [.t 2] 36:=AP (fl:=[]) (by kernel_rfl)
abbrev CW:Nat:=79
def CK:PC :=
 .seq (.reg [] (
 ⟨some 4,none,.mov,[.k (.d (.list true []))]⟩ ::
 []) [0,1])
 (.seq (.reg [] (
 ⟨some 5,none,.mov,[.k (.d (.list true []))]⟩ ::
 []) [0,1,5])
 (.seq (.seq (.reg [] (
 ⟨some 8,none,.mov,[.t 0]⟩ ::
 ⟨some 9,none,.len false,[.t 8]⟩ ::
 ⟨some 10,none,.mov,[.k (.d (.int .i64 0))]⟩ ::
 []) [1,5,8,9,10])
 (.block 0
 (.loop [.own 5 19 89 1] [1,5,8,9,10] [19,900000,900001,901000,901001]
 (.seq (.reg [] (
 ⟨some 11,none,.bin .lss,[.t 10,.t 9]⟩ ::
 []) [1,5,8,9,10,11])
 (.seq (.cond (.t 11)
 (.skip)
 (.exit 0))
 (.seq (.block 1
 (.seq (.reg [] (
 ⟨some 12,none,.iaddrS 1,[.t 8,.t 10]⟩ ::
 ⟨some 13,none,.load false 1,[.t 12]⟩ ::
 ⟨some 7,none,.mov,[.t 13]⟩ ::
 []) [1,5,7,8,9,10])
 (.reg [] (
 ⟨some 14,none,.mov,[.t 5]⟩ ::
 ⟨some 15,none,.mov,[.t 1]⟩ ::
 ⟨some 16,none,.mov,[.t 7]⟩ ::
 ⟨some 17,none,.callv,[.t 15,.t 16]⟩ ::
 ⟨some 18,none,.mkrow 1 (.int .u8 0) 1 [0],[.t 17]⟩ ::
 ⟨some 19,none,.app 89 1 none true,[.t 14,.t 18]⟩ ::
 ⟨some 5,none,.mov,[.t 19]⟩ ::
 []) [1,5,8,9,10])))
 (.reg [] (
 ⟨some 20,none,.bin .add,[.t 10,.k (.d (.int .i64 1))]⟩ ::
 ⟨some 10,none,.mov,[.t 20]⟩ ::
 []) [1,5,8,9,10])))))))
 (.seq (.reg [] (
 ⟨some 21,none,.mov,[.t 5]⟩ ::
 ⟨some 4,none,.mov,[.t 21]⟩ ::
 []) [4])
 (.ret))))
theorem D7:DR E0 CW CK [.t 4] 22:=AP (fl:=[]) (by kernel_rfl)
abbrev DA:Nat:=80
def FZ:PC :=
 .seq (.reg [] (
 ⟨some 2,none,.mov,[.k (.d (.int .u8 0))]⟩ ::
 []) [0])
 (.seq (.reg [] (
 ⟨some 3,none,.mov,[.t 0]⟩ ::
 ⟨some 4,none,.conv .u8,[.t 3]⟩ ::
 ⟨some 2,none,.mov,[.t 4]⟩ ::
 []) [2])
 (.ret))
theorem Il:DR E0 DA FZ [.t 2] 5:=AP (fl:=[]) (by kernel_rfl)
abbrev KP:Nat:=81
def I8:PC :=
 .seq (.reg [] (
 ⟨some 3,none,.box,[.t 0]⟩ ::
 ⟨some 6,none,.mov,[.k (.d (.list true []))]⟩ ::
 ⟨some 7,none,.mov,[.k (.d (.bool false))]⟩ ::
 []) [1,2,3])
 (.seq (.reg [] (
 ⟨some 8,none,.mov,[.k (.d (.list true []))]⟩ ::
 []) [1,2,3,8])
 (.seq (.seq (.reg [.frzP 3] (
 ⟨some 9,none,.mov,[.k (.d (.int .i64 0))]⟩ ::
 []) [1,2,3,8,9])
 (.block 0
 (.loop [.ownM 8 78 24 3] [1,2,3,8,9] [3,78,900000,900001,900002,901000,901001,901002]
 (.seq (.seq (.reg [] (
 ⟨some 23,none,.mov,[.t 9]⟩ ::
 ⟨some 24,none,.faddr 1,[.t 3]⟩ ::
 ⟨some 25,none,.load false 1,[.t 24]⟩ ::
 ⟨some 26,none,.bin .lss,[.t 23,.t 25]⟩ ::
 []) [1,2,3,8,9,26])
 (.cond (.t 26)
 (.skip)
 (.exit 0)))
 (.seq (.block 1
 (.seq (.reg [] (
 ⟨some 10,none,.mov,[.k (.d (.list true []))]⟩ ::
 []) [1,2,3,8,9,10])
 (.seq (.seq (.reg [] (
 ⟨some 11,none,.mov,[.k (.d (.int .i64 0))]⟩ ::
 []) [1,2,3,8,9,10,11])
 (.block 2
 (.loop [.ownM 8 78 24 3,.own 10 49 3 1] [1,2,3,8,9,10,11] [3,49,78,900000,900001,900002,901000,901001,901002]
 (.seq (.seq (.reg [] (
 ⟨some 29,none,.mov,[.t 11]⟩ ::
 ⟨some 30,none,.mov,[.t 2]⟩ ::
 ⟨some 31,none,.len false,[.t 30]⟩ ::
 ⟨some 32,none,.bin .lss,[.t 29,.t 31]⟩ ::
 []) [1,2,3,8,9,10,11,32])
 (.cond (.t 32)
 (.skip)
 (.exit 2)))
 (.seq (.block 3
 (.draw [] (
 (⟨some 35,none,.mov,[.t 10]⟩,[]) ::
 (⟨some 36,none,.mov,[.t 9]⟩,[]) ::
 (⟨some 37,none,.faddr 0,[.t 3]⟩,[]) ::
 (⟨some 38,none,.load false 1,[.t 37]⟩,[]) ::
 (⟨some 39,none,.bin .sub,[.t 38,.k (.d (.int .i64 1))]⟩,[]) ::
 (⟨some 40,none,.mov,[.t 2]⟩,[]) ::
 (⟨some 41,none,.mov,[.t 11]⟩,[]) ::
 (⟨some 42,none,.iaddrS 1,[.t 40,.t 41]⟩,[]) ::
 (⟨some 43,none,.load false 1,[.t 42]⟩,[]) ::
 (⟨some 44,none,.bin .sub,[.t 39,.t 43]⟩,[]) ::
 (⟨some 45,none,.bin .mul,[.t 36,.t 44]⟩,[]) ::
 (⟨some 46,none,.bin .rem,[.t 45,.k (.d (.int .i64 15))]⟩,[]) ::
 (⟨some 47,none,.call 56,[.t 46]⟩,[]) ::
 (⟨some 48,none,.mkrow 1 (.int .i64 0) 1 [0],[.t 47]⟩,[]) ::
 (⟨some 49,none,.app 3 1 none true,[.t 35,.t 48]⟩,[]) ::
 (⟨some 10,none,.mov,[.t 49]⟩,[]) ::
 []) [1,2,3,8,9,10,11]))
 (.reg [] (
 ⟨some 33,none,.mov,[.t 11]⟩ ::
 ⟨some 34,none,.bin .add,[.t 33,.k (.d (.int .i64 1))]⟩ ::
 ⟨some 11,none,.mov,[.t 34]⟩ ::
 []) [1,2,3,8,9,10,11]))))))
 (.seq (.reg [] (
 ⟨some 12,none,.mov,[.k (.d (.int .i64 0))]⟩ ::
 []) [1,2,3,8,9,10,12])
 (.seq (.seq (.reg [] (
 ⟨some 13,none,.mov,[.k (.d (.int .i64 0))]⟩ ::
 []) [1,2,3,8,9,10,12,13])
 (.block 4
 (.loop [.ownM 8 78 24 3,.own 10 49 3 1] [1,2,3,8,9,10,12,13] [3,49,78,900000,900001,900002,901000,901001,901002]
 (.seq (.seq (.reg [] (
 ⟨some 50,none,.mov,[.t 13]⟩ ::
 ⟨some 51,none,.faddr 0,[.t 3]⟩ ::
 ⟨some 52,none,.load false 1,[.t 51]⟩ ::
 ⟨some 53,none,.bin .lss,[.t 50,.t 52]⟩ ::
 []) [1,2,3,8,9,10,12,13,53])
 (.cond (.t 53)
 (.skip)
 (.exit 4)))
 (.seq (.block 5
 (.draw [] (
 (⟨some 56,none,.mov,[.t 12]⟩,[]) ::
 (⟨some 57,none,.mov,[.t 1]⟩,[]) ::
 (⟨some 58,none,.mov,[.t 13]⟩,[]) ::
 (⟨some 59,none,.iaddrS 1,[.t 57,.t 58]⟩,[]) ::
 (⟨some 60,none,.load false 1,[.t 59]⟩,[]) ::
 (⟨some 61,none,.mov,[.t 9]⟩,[]) ::
 (⟨some 62,none,.faddr 0,[.t 3]⟩,[]) ::
 (⟨some 63,none,.load false 1,[.t 62]⟩,[]) ::
 (⟨some 64,none,.bin .sub,[.t 63,.k (.d (.int .i64 1))]⟩,[]) ::
 (⟨some 65,none,.mov,[.t 13]⟩,[]) ::
 (⟨some 66,none,.bin .sub,[.t 64,.t 65]⟩,[]) ::
 (⟨some 67,none,.bin .mul,[.t 61,.t 66]⟩,[]) ::
 (⟨some 68,none,.bin .rem,[.t 67,.k (.d (.int .i64 15))]⟩,[]) ::
 (⟨some 69,none,.call 56,[.t 68]⟩,[3,4]) ::
 (⟨some 70,none,.call 29,[.t 60,.t 69]⟩,[]) ::
 (⟨some 71,none,.bin .xor,[.t 56,.t 70]⟩,[]) ::
 (⟨some 12,none,.mov,[.t 71]⟩,[]) ::
 []) [1,2,3,8,9,10,12,13]))
 (.reg [] (
 ⟨some 54,none,.mov,[.t 13]⟩ ::
 ⟨some 55,none,.bin .add,[.t 54,.k (.d (.int .i64 1))]⟩ ::
 ⟨some 13,none,.mov,[.t 55]⟩ ::
 []) [1,2,3,8,9,10,12,13]))))))
 (.reg [] (
 ⟨some 72,none,.mov,[.t 8]⟩ ::
 ⟨some 73,none,.mov,[.t 10]⟩ ::
 ⟨some 74,none,.mov,[.t 12]⟩ ::
 ⟨some 75,none,.mkrow 1 (.int .i64 0) 1 [0],[.t 74]⟩ ::
 ⟨some 76,none,.app 3 1 none false,[.t 73,.t 75]⟩ ::
 ⟨some 77,none,.mkrow 1 (.list true []) 1 [0],[.t 76]⟩ ::
 ⟨some 78,none,.app 24 1 none true,[.t 72,.t 77]⟩ ::
 ⟨some 8,none,.mov,[.t 78]⟩ ::
 []) [1,2,3,8,9]))))))
 (.reg [] (
 ⟨some 27,none,.mov,[.t 9]⟩ ::
 ⟨some 28,none,.bin .add,[.t 27,.k (.d (.int .i64 1))]⟩ ::
 ⟨some 9,none,.mov,[.t 28]⟩ ::
 []) [1,2,3,8,9]))))))
 (.seq (.seq (.reg [] (
 ⟨some 14,none,.mov,[.k (.d (.int .i64 0))]⟩ ::
 []) [2,8,14])
 (.block 6
 (.loop [.ownM 8 78 24 3] [2,8,14] [78,900002,901002]
 (.seq (.seq (.reg [] (
 ⟨some 79,none,.mov,[.t 14]⟩ ::
 ⟨some 80,none,.mov,[.t 2]⟩ ::
 ⟨some 81,none,.len false,[.t 80]⟩ ::
 ⟨some 82,none,.bin .lss,[.t 79,.t 81]⟩ ::
 []) [2,8,14,82])
 (.cond (.t 82)
 (.skip)
 (.exit 6)))
 (.seq (.block 7
 (.seq (.reg [] (
 ⟨some 15,none,.mov,[.k (.d (.int .i64 (-1)))]⟩ ::
 []) [2,8,14,15])
 (.seq (.seq (.reg [] (
 ⟨some 85,none,.mov,[.t 14]⟩ ::
 ⟨some 16,none,.mov,[.t 85]⟩ ::
 []) [2,8,14,15,16])
 (.block 8
 (.loop [.ownM 8 78 24 3] [2,8,14,15,16] [78,900002,901002]
 (.seq (.seq (.reg [] (
 ⟨some 86,none,.mov,[.t 16]⟩ ::
 ⟨some 87,none,.mov,[.t 8]⟩ ::
 ⟨some 88,none,.len false,[.t 87]⟩ ::
 ⟨some 89,none,.bin .lss,[.t 86,.t 88]⟩ ::
 ⟨some 90,none,.mov,[.t 89]⟩ ::
 ⟨some 91,some (90,true),.mov,[.t 15]⟩ ::
 ⟨some 92,some (90,true),.bin .lss,[.t 91,.k (.d (.int .i64 0))]⟩ ::
 ⟨some 93,none,.pick,[.t 90,.t 92,.k (.d (.bool false))]⟩ ::
 []) [2,8,14,15,16,93])
 (.cond (.t 93)
 (.skip)
 (.exit 8)))
 (.seq (.block 9
 (.seq (.reg [] (
 ⟨some 96,none,.mov,[.t 8]⟩ ::
 ⟨some 97,none,.mov,[.t 16]⟩ ::
 ⟨some 98,none,.iaddrS 1,[.t 96,.t 97]⟩ ::
 ⟨some 99,none,.load false 1,[.t 98]⟩ ::
 ⟨some 100,none,.mov,[.t 14]⟩ ::
 ⟨some 101,none,.iaddrS 1,[.t 99,.t 100]⟩ ::
 ⟨some 102,none,.load false 1,[.t 101]⟩ ::
 ⟨some 103,none,.bin .neq,[.t 102,.k (.d (.int .i64 0))]⟩ ::
 []) [2,8,14,15,16,103])
 (.cond (.t 103)
 (.reg [] (
 ⟨some 104,none,.mov,[.t 16]⟩ ::
 ⟨some 15,none,.mov,[.t 104]⟩ ::
 []) [2,8,14,15,16])
 (.skip))))
 (.reg [] (
 ⟨some 94,none,.mov,[.t 16]⟩ ::
 ⟨some 95,none,.bin .add,[.t 94,.k (.d (.int .i64 1))]⟩ ::
 ⟨some 16,none,.mov,[.t 95]⟩ ::
 []) [2,8,14,15,16]))))))
 (.seq (.seq (.reg [] (
 ⟨some 105,none,.mov,[.t 15]⟩ ::
 ⟨some 106,none,.bin .lss,[.t 105,.k (.d (.int .i64 0))]⟩ ::
 []) [2,8,14,15,106])
 (.cond (.t 106)
 (.seq (.reg [] (
 ⟨some 6,none,.mov,[.k (.d (.list true []))]⟩ ::
 ⟨some 7,none,.mov,[.k (.d (.bool false))]⟩ ::
 []) [6,7])
 (.ret))
 (.skip)))
 (.seq (.draw [] (
 (⟨some 107,none,.mov,[.t 8]⟩,[]) ::
 (⟨some 108,none,.mov,[.t 14]⟩,[]) ::
 (⟨some 109,none,.mov,[.t 8]⟩,[]) ::
 (⟨some 110,none,.mov,[.t 15]⟩,[]) ::
 (⟨some 111,none,.mov,[.t 8]⟩,[]) ::
 (⟨some 112,none,.mov,[.t 15]⟩,[]) ::
 (⟨some 113,none,.iaddrS 1,[.t 111,.t 112]⟩,[]) ::
 (⟨some 114,none,.load false 1,[.t 113]⟩,[]) ::
 (⟨some 115,none,.mov,[.t 8]⟩,[]) ::
 (⟨some 116,none,.mov,[.t 14]⟩,[]) ::
 (⟨some 117,none,.iaddrS 1,[.t 115,.t 116]⟩,[]) ::
 (⟨some 118,none,.load false 1,[.t 117]⟩,[]) ::
 (⟨some 119,none,.iaddrS 1,[.t 107,.t 108]⟩,[]) ::
 (⟨none,none,.store 1,[.t 119,.t 114]⟩,[]) ::
 (⟨some 120,none,.iaddrS 1,[.t 109,.t 110]⟩,[]) ::
 (⟨none,none,.store 1,[.t 120,.t 118]⟩,[]) ::
 []) [2,8,14])
 (.seq (.reg [] (
 ⟨some 17,none,.mov,[.k (.d (.int .i64 0))]⟩ ::
 []) [2,8,14,17])
 (.block 10
 (.loop [.ownM 8 78 24 3] [2,8,14,17] [78,900002,901002]
 (.seq (.seq (.reg [] (
 ⟨some 121,none,.mov,[.t 17]⟩ ::
 ⟨some 122,none,.mov,[.t 8]⟩ ::
 ⟨some 123,none,.len false,[.t 122]⟩ ::
 ⟨some 124,none,.bin .lss,[.t 121,.t 123]⟩ ::
 []) [2,8,14,17,124])
 (.cond (.t 124)
 (.skip)
 (.exit 10)))
 (.seq (.block 11
 (.seq (.seq (.reg [] (
 ⟨some 127,none,.mov,[.t 17]⟩ ::
 ⟨some 128,none,.mov,[.t 14]⟩ ::
 ⟨some 129,none,.bin .eql,[.t 127,.t 128]⟩ ::
 ⟨some 130,none,.mov,[.t 129]⟩ ::
 ⟨some 131,some (130,false),.mov,[.t 8]⟩ ::
 ⟨some 132,some (130,false),.mov,[.t 17]⟩ ::
 ⟨some 133,some (130,false),.iaddrS 1,[.t 131,.t 132]⟩ ::
 ⟨some 134,some (130,false),.load false 1,[.t 133]⟩ ::
 ⟨some 135,some (130,false),.mov,[.t 14]⟩ ::
 ⟨some 136,some (130,false),.iaddrS 1,[.t 134,.t 135]⟩ ::
 ⟨some 137,some (130,false),.load false 1,[.t 136]⟩ ::
 ⟨some 138,some (130,false),.bin .eql,[.t 137,.k (.d (.int .i64 0))]⟩ ::
 ⟨some 139,none,.pick,[.t 130,.k (.d (.bool true)),.t 138]⟩ ::
 []) [2,8,14,17,139])
 (.cond (.t 139)
 (.exit 11)
 (.skip)))
 (.seq (.draw [] (
 (⟨some 140,none,.mov,[.t 8]⟩,[]) ::
 (⟨some 141,none,.mov,[.t 17]⟩,[]) ::
 (⟨some 142,none,.iaddrS 1,[.t 140,.t 141]⟩,[]) ::
 (⟨some 143,none,.load false 1,[.t 142]⟩,[]) ::
 (⟨some 144,none,.mov,[.t 14]⟩,[]) ::
 (⟨some 145,none,.iaddrS 1,[.t 143,.t 144]⟩,[]) ::
 (⟨some 146,none,.load false 1,[.t 145]⟩,[]) ::
 (⟨some 147,none,.mov,[.t 8]⟩,[]) ::
 (⟨some 148,none,.mov,[.t 14]⟩,[]) ::
 (⟨some 149,none,.iaddrS 1,[.t 147,.t 148]⟩,[]) ::
 (⟨some 150,none,.load false 1,[.t 149]⟩,[]) ::
 (⟨some 151,none,.mov,[.t 14]⟩,[]) ::
 (⟨some 152,none,.iaddrS 1,[.t 150,.t 151]⟩,[]) ::
 (⟨some 153,none,.load false 1,[.t 152]⟩,[]) ::
 (⟨some 154,none,.call 91,[.t 146,.t 153]⟩,[]) ::
 (⟨some 18,none,.mov,[.t 154]⟩,[]) ::
 []) [2,8,14,17,18])
 (.seq (.reg [] (
 ⟨some 19,none,.mov,[.k (.d (.int .i64 0))]⟩ ::
 []) [2,8,14,17,18,19])
 (.block 12
 (.loop [.ownM 8 78 24 3] [2,8,14,17,18,19] [78,154,10154,900002,901002]
 (.seq (.seq (.reg [] (
 ⟨some 155,none,.mov,[.t 19]⟩ ::
 ⟨some 156,none,.mov,[.t 2]⟩ ::
 ⟨some 157,none,.len false,[.t 156]⟩ ::
 ⟨some 158,none,.bin .leq,[.t 155,.t 157]⟩ ::
 []) [2,8,14,17,18,19,158])
 (.cond (.t 158)
 (.skip)
 (.exit 12)))
 (.seq (.block 13
 (.draw [] (
 (⟨some 161,none,.mov,[.t 8]⟩,[]) ::
 (⟨some 162,none,.mov,[.t 17]⟩,[]) ::
 (⟨some 163,none,.iaddrS 1,[.t 161,.t 162]⟩,[]) ::
 (⟨some 164,none,.load false 1,[.t 163]⟩,[]) ::
 (⟨some 165,none,.mov,[.t 19]⟩,[]) ::
 (⟨some 166,none,.mov,[.t 8]⟩,[]) ::
 (⟨some 167,none,.mov,[.t 17]⟩,[]) ::
 (⟨some 168,none,.iaddrS 1,[.t 166,.t 167]⟩,[]) ::
 (⟨some 169,none,.load false 1,[.t 168]⟩,[]) ::
 (⟨some 170,none,.mov,[.t 19]⟩,[]) ::
 (⟨some 171,none,.iaddrS 1,[.t 169,.t 170]⟩,[]) ::
 (⟨some 172,none,.load false 1,[.t 171]⟩,[]) ::
 (⟨some 173,none,.mov,[.t 18]⟩,[]) ::
 (⟨some 174,none,.mov,[.t 8]⟩,[]) ::
 (⟨some 175,none,.mov,[.t 14]⟩,[]) ::
 (⟨some 176,none,.iaddrS 1,[.t 174,.t 175]⟩,[]) ::
 (⟨some 177,none,.load false 1,[.t 176]⟩,[]) ::
 (⟨some 178,none,.mov,[.t 19]⟩,[]) ::
 (⟨some 179,none,.iaddrS 1,[.t 177,.t 178]⟩,[]) ::
 (⟨some 180,none,.load false 1,[.t 179]⟩,[]) ::
 (⟨some 181,none,.call 29,[.t 173,.t 180]⟩,[2,3,7,8,10,11]) ::
 (⟨some 182,none,.bin .xor,[.t 172,.t 181]⟩,[]) ::
 (⟨some 183,none,.iaddrS 1,[.t 164,.t 165]⟩,[]) ::
 (⟨none,none,.store 1,[.t 183,.t 182]⟩,[]) ::
 []) [2,8,14,17,18,19]))
 (.reg [] (
 ⟨some 159,none,.mov,[.t 19]⟩ ::
 ⟨some 160,none,.bin .add,[.t 159,.k (.d (.int .i64 1))]⟩ ::
 ⟨some 19,none,.mov,[.t 160]⟩ ::
 []) [2,8,14,17,18,19])))))))))
 (.reg [] (
 ⟨some 125,none,.mov,[.t 17]⟩ ::
 ⟨some 126,none,.bin .add,[.t 125,.k (.d (.int .i64 1))]⟩ ::
 ⟨some 17,none,.mov,[.t 126]⟩ ::
 []) [2,8,14,17])))))))))))
 (.reg [] (
 ⟨some 83,none,.mov,[.t 14]⟩ ::
 ⟨some 84,none,.bin .add,[.t 83,.k (.d (.int .i64 1))]⟩ ::
 ⟨some 14,none,.mov,[.t 84]⟩ ::
 []) [2,8,14]))))))
 (.seq (.seq (.reg [.frzM 8] (
 ⟨some 184,none,.mov,[.t 2]⟩ ::
 ⟨some 185,none,.len false,[.t 184]⟩ ::
 ⟨some 20,none,.mov,[.t 185]⟩ ::
 []) [2,8,20])
 (.block 14
 (.loop [] [2,8,20] [900002,901002]
 (.seq (.seq (.reg [] (
 ⟨some 186,none,.mov,[.t 20]⟩ ::
 ⟨some 187,none,.mov,[.t 8]⟩ ::
 ⟨some 188,none,.len false,[.t 187]⟩ ::
 ⟨some 189,none,.bin .lss,[.t 186,.t 188]⟩ ::
 []) [2,8,20,189])
 (.cond (.t 189)
 (.skip)
 (.exit 14)))
 (.seq (.block 15
 (.seq (.reg [] (
 ⟨some 192,none,.mov,[.t 8]⟩ ::
 ⟨some 193,none,.mov,[.t 20]⟩ ::
 ⟨some 194,none,.iaddrS 1,[.t 192,.t 193]⟩ ::
 ⟨some 195,none,.load false 1,[.t 194]⟩ ::
 ⟨some 196,none,.mov,[.t 2]⟩ ::
 ⟨some 197,none,.len false,[.t 196]⟩ ::
 ⟨some 198,none,.iaddrS 1,[.t 195,.t 197]⟩ ::
 ⟨some 199,none,.load false 1,[.t 198]⟩ ::
 ⟨some 200,none,.bin .neq,[.t 199,.k (.d (.int .i64 0))]⟩ ::
 []) [2,8,20,200])
 (.cond (.t 200)
 (.seq (.reg [] (
 ⟨some 6,none,.mov,[.k (.d (.list true []))]⟩ ::
 ⟨some 7,none,.mov,[.k (.d (.bool false))]⟩ ::
 []) [6,7])
 (.ret))
 (.skip))))
 (.reg [] (
 ⟨some 190,none,.mov,[.t 20]⟩ ::
 ⟨some 191,none,.bin .add,[.t 190,.k (.d (.int .i64 1))]⟩ ::
 ⟨some 20,none,.mov,[.t 191]⟩ ::
 []) [2,8,20]))))))
 (.seq (.reg [] (
 ⟨some 21,none,.mov,[.k (.d (.list true []))]⟩ ::
 []) [2,8,21])
 (.seq (.seq (.reg [] (
 ⟨some 22,none,.mov,[.k (.d (.int .i64 0))]⟩ ::
 []) [2,8,21,22])
 (.block 16
 (.loop [.own 21 225 3 1] [2,8,21,22] [225,900002,901002]
 (.seq (.seq (.reg [] (
 ⟨some 201,none,.mov,[.t 22]⟩ ::
 ⟨some 202,none,.mov,[.t 2]⟩ ::
 ⟨some 203,none,.len false,[.t 202]⟩ ::
 ⟨some 204,none,.bin .lss,[.t 201,.t 203]⟩ ::
 []) [2,8,21,22,204])
 (.cond (.t 204)
 (.skip)
 (.exit 16)))
 (.seq (.block 17
 (.draw [] (
 (⟨some 207,none,.mov,[.t 21]⟩,[]) ::
 (⟨some 208,none,.mov,[.t 8]⟩,[]) ::
 (⟨some 209,none,.mov,[.t 22]⟩,[]) ::
 (⟨some 210,none,.iaddrS 1,[.t 208,.t 209]⟩,[]) ::
 (⟨some 211,none,.load false 1,[.t 210]⟩,[]) ::
 (⟨some 212,none,.mov,[.t 2]⟩,[]) ::
 (⟨some 213,none,.len false,[.t 212]⟩,[]) ::
 (⟨some 214,none,.iaddrS 1,[.t 211,.t 213]⟩,[]) ::
 (⟨some 215,none,.load false 1,[.t 214]⟩,[]) ::
 (⟨some 216,none,.mov,[.t 8]⟩,[]) ::
 (⟨some 217,none,.mov,[.t 22]⟩,[]) ::
 (⟨some 218,none,.iaddrS 1,[.t 216,.t 217]⟩,[]) ::
 (⟨some 219,none,.load false 1,[.t 218]⟩,[]) ::
 (⟨some 220,none,.mov,[.t 22]⟩,[]) ::
 (⟨some 221,none,.iaddrS 1,[.t 219,.t 220]⟩,[]) ::
 (⟨some 222,none,.load false 1,[.t 221]⟩,[]) ::
 (⟨some 223,none,.call 91,[.t 215,.t 222]⟩,[]) ::
 (⟨some 224,none,.mkrow 1 (.int .i64 0) 1 [0],[.t 223]⟩,[]) ::
 (⟨some 225,none,.app 3 1 none true,[.t 207,.t 224]⟩,[]) ::
 (⟨some 21,none,.mov,[.t 225]⟩,[]) ::
 []) [2,8,21,22]))
 (.reg [] (
 ⟨some 205,none,.mov,[.t 22]⟩ ::
 ⟨some 206,none,.bin .add,[.t 205,.k (.d (.int .i64 1))]⟩ ::
 ⟨some 22,none,.mov,[.t 206]⟩ ::
 []) [2,8,21,22]))))))
 (.seq (.reg [] (
 ⟨some 226,none,.mov,[.t 21]⟩ ::
 ⟨some 6,none,.mov,[.t 226]⟩ ::
 ⟨some 7,none,.mov,[.k (.d (.bool true))]⟩ ::
 []) [6,7])
 (.ret))))))))
theorem M4:DR E0 KP I8 [.t 6,.t 7] 227:=AP (fl:=[49,76,225]) (by kernel_rfl)
abbrev Ls:Nat:=82
def KG:PC :=
 .seq (.reg [] (
 ⟨some 6,none,.mov,[.k (.d (.list true []))]⟩ ::
 []) [0,1,2])
 (.seq (.reg [] (
 ⟨some 9,none,.mkrow 1 (.int .i64 0) 0 [],[]⟩ ::
 ⟨some 10,none,.mov,[.t 0]⟩ ::
 ⟨some 11,none,.app 3 1 none true,[.t 9,.t 10]⟩ ::
 ⟨some 7,none,.mov,[.t 11]⟩ ::
 []) [1,2,7])
 (.seq (.seq (.reg [] (
 ⟨some 8,none,.mov,[.k (.d (.int .i64 0))]⟩ ::
 []) [1,2,7,8])
 (.block 0
 (.loop [] [1,2,7,8] [11,900001,900002,901001,901002]
 (.seq (.seq (.reg [] (
 ⟨some 12,none,.mov,[.t 8]⟩ ::
 ⟨some 13,none,.mov,[.t 1]⟩ ::
 ⟨some 14,none,.len false,[.t 13]⟩ ::
 ⟨some 15,none,.bin .lss,[.t 12,.t 14]⟩ ::
 []) [1,2,7,8,15])
 (.cond (.t 15)
 (.skip)
 (.exit 0)))
 (.seq (.block 1
 (.draw [] (
 (⟨some 18,none,.mov,[.t 7]⟩,[]) ::
 (⟨some 19,none,.mov,[.t 1]⟩,[]) ::
 (⟨some 20,none,.mov,[.t 8]⟩,[]) ::
 (⟨some 21,none,.iaddrS 1,[.t 19,.t 20]⟩,[]) ::
 (⟨some 22,none,.load false 1,[.t 21]⟩,[]) ::
 (⟨some 23,none,.mov,[.t 2]⟩,[]) ::
 (⟨some 24,none,.mov,[.t 8]⟩,[]) ::
 (⟨some 25,none,.iaddrS 1,[.t 23,.t 24]⟩,[]) ::
 (⟨some 26,none,.load false 1,[.t 25]⟩,[]) ::
 (⟨some 27,none,.iaddrS 1,[.t 18,.t 22]⟩,[]) ::
 (⟨none,none,.store 1,[.t 27,.t 26]⟩,[]) ::
 []) [1,2,7,8]))
 (.reg [] (
 ⟨some 16,none,.mov,[.t 8]⟩ ::
 ⟨some 17,none,.bin .add,[.t 16,.k (.d (.int .i64 1))]⟩ ::
 ⟨some 8,none,.mov,[.t 17]⟩ ::
 []) [1,2,7,8]))))))
 (.seq (.reg [] (
 ⟨some 28,none,.mov,[.t 7]⟩ ::
 ⟨some 6,none,.mov,[.t 28]⟩ ::
 []) [6])
 (.ret))))
theorem N7:DR E0 Ls KG [.t 6] 29:=AP (fl:=[]) (by kernel_rfl)
abbrev Fy:Nat:=83
def Fb:PC :=
 .seq (.reg [] (
 ⟨some 2,none,.box,[.t 0]⟩ ::
 ⟨some 4,none,.mov,[.k (.d (.list true []))]⟩ ::
 []) [1,2])
 (.seq (.reg [] (
 ⟨some 9,none,.faddr 0,[.t 2]⟩ ::
 ⟨some 10,none,.faddr 1,[.t 9]⟩ ::
 ⟨some 11,none,.load false 1,[.t 10]⟩ ::
 ⟨some 12,none,.mksl 89 1 (.int .u8 0) true,[.t 11,.t 11]⟩ ::
 ⟨some 5,none,.mov,[.t 12]⟩ ::
 []) [1,2,5])
 (.seq (.seq (.reg [] (
 ⟨some 13,none,.mov,[.t 5]⟩ ::
 ⟨some 14,none,.len false,[.t 13]⟩ ::
 ⟨some 15,none,.mov,[.k (.d (.int .i64 0))]⟩ ::
 []) [1,2,5,14,15])
 (.block 0
 (.loop [] [1,2,5,14,15] [2,12,900000,900001,901000,901001]
 (.seq (.reg [] (
 ⟨some 16,none,.bin .lss,[.t 15,.t 14]⟩ ::
 []) [1,2,5,14,15,16])
 (.seq (.cond (.t 16)
 (.skip)
 (.exit 0))
 (.seq (.block 1
 (.seq (.reg [] (
 ⟨some 17,none,.mov,[.t 15]⟩ ::
 ⟨some 6,none,.mov,[.t 17]⟩ ::
 []) [1,2,5,6,14,15])
 (.seq (.reg [] (
 ⟨some 18,none,.mov,[.t 1]⟩ ::
 ⟨some 19,none,.len false,[.t 18]⟩ ::
 ⟨some 20,none,.mov,[.k (.d (.int .i64 0))]⟩ ::
 []) [1,2,5,6,14,15,18,19,20])
 (.block 2
 (.loop [] [1,2,5,6,14,15,18,19,20] [2,12,900000,900001,901000,901001]
 (.seq (.reg [] (
 ⟨some 21,none,.bin .lss,[.t 20,.t 19]⟩ ::
 []) [1,2,5,6,14,15,18,19,20,21])
 (.seq (.cond (.t 21)
 (.skip)
 (.exit 2))
 (.seq (.block 3
 (.seq (.reg [] (
 ⟨some 22,none,.mov,[.t 20]⟩ ::
 ⟨some 23,none,.iaddrS 1,[.t 18,.t 20]⟩ ::
 ⟨some 24,none,.load false 1,[.t 23]⟩ ::
 ⟨some 7,none,.mov,[.t 22]⟩ ::
 ⟨some 8,none,.mov,[.t 24]⟩ ::
 []) [1,2,5,6,7,8,14,15,18,19,20])
 (.draw [] (
 (⟨some 25,none,.mov,[.t 5]⟩,[]) ::
 (⟨some 26,none,.mov,[.t 6]⟩,[]) ::
 (⟨some 27,none,.iaddrS 1,[.t 25,.t 26]⟩,[]) ::
 (⟨some 28,none,.load false 1,[.t 27]⟩,[]) ::
 (⟨some 29,none,.mov,[.t 8]⟩,[]) ::
 (⟨some 30,none,.load true 2,[.t 2]⟩,[]) ::
 (⟨some 31,none,.mov,[.t 6]⟩,[]) ::
 (⟨some 32,none,.mov,[.t 7]⟩,[]) ::
 (⟨some 33,none,.call 92,[.t 30,.t 31,.t 32]⟩,[2,3]) ::
 (⟨some 34,none,.call 76,[.t 29,.t 33]⟩,[2,3]) ::
 (⟨some 35,none,.bin .xor,[.t 28,.t 34]⟩,[]) ::
 (⟨some 36,none,.iaddrS 1,[.t 25,.t 26]⟩,[]) ::
 (⟨none,none,.store 1,[.t 36,.t 35]⟩,[]) ::
 []) [1,2,5,6,14,15,18,19,20])))
 (.reg [] (
 ⟨some 37,none,.bin .add,[.t 20,.k (.d (.int .i64 1))]⟩ ::
 ⟨some 20,none,.mov,[.t 37]⟩ ::
 []) [1,2,5,6,14,15,18,19,20])))))))))
 (.reg [] (
 ⟨some 38,none,.bin .add,[.t 15,.k (.d (.int .i64 1))]⟩ ::
 ⟨some 15,none,.mov,[.t 38]⟩ ::
 []) [1,2,5,14,15])))))))
 (.seq (.reg [] (
 ⟨some 39,none,.mov,[.t 5]⟩ ::
 ⟨some 4,none,.mov,[.t 39]⟩ ::
 []) [4])
 (.ret))))
theorem Io:DR E0 Fy Fb [.t 4] 40:=AP (fl:=[]) (by kernel_rfl)
abbrev E9:Nat:=84
def DF:PC :=
 .seq (.reg [] (
 ⟨some 5,none,.box,[.t 0]⟩ ::
 ⟨some 9,none,.box,[.t 4]⟩ ::
 ⟨some 10,none,.mov,[.k (.d (.bool false))]⟩ ::
 []) [1,2,3,5,9])
 (.seq (.seq (.reg [] (
 ⟨some 12,none,.mov,[.t 3]⟩ ::
 ⟨some 13,none,.bin .eql,[.t 12,.k (.d (.int .i64 0))]⟩ ::
 []) [1,2,3,5,9,13])
 (.cond (.t 13)
 (.seq (.reg [] (
 ⟨some 14,none,.load false 1,[.t 9]⟩ ::
 ⟨some 15,none,.callv,[.t 14,.k (.d (.list true []))]⟩ ::
 ⟨some 10,none,.mov,[.t 15]⟩ ::
 []) [10])
 (.ret))
 (.skip)))
 (.seq (.seq (.reg [.frzP 5,.frzA 9] (
 ⟨some 16,none,.mov,[.t 2]⟩ ::
 ⟨some 11,none,.zero [.int .i64 0],[]⟩ ::
 ⟨none,none,.store 1,[.t 11,.t 16]⟩ ::
 []) [1,3,5,9,11])
 (.block 0
 (.loop [] [1,3,5,9,11] [5,9,11,900000,900001,900002,900003,900004,901000,901001,901002,901003,901004]
 (.seq (.seq (.reg [] (
 ⟨some 17,none,.load false 1,[.t 11]⟩ ::
 ⟨some 18,none,.faddr 0,[.t 5]⟩ ::
 ⟨some 19,none,.faddr 0,[.t 18]⟩ ::
 ⟨some 20,none,.load false 1,[.t 19]⟩ ::
 ⟨some 21,none,.bin .lss,[.t 17,.t 20]⟩ ::
 []) [1,3,5,9,11,21])
 (.cond (.t 21)
 (.skip)
 (.exit 0)))
 (.seq (.block 1
 (.seq (.seq (.reg [] (
 ⟨some 24,none,.mov,[.t 1]⟩ ::
 ⟨some 25,none,.load false 1,[.t 11]⟩ ::
 ⟨some 26,none,.call 93,[.t 24,.t 25]⟩ ::
 []) [1,3,5,9,11,26])
 (.cond (.t 26)
 (.exit 1)
 (.skip)))
 (.seq (.reg [.frzP 11] (
 ⟨some 27,none,.load true 2,[.t 5]⟩ ::
 ⟨some 28,none,.mov,[.t 1]⟩ ::
 ⟨some 29,none,.load false 1,[.t 11]⟩ ::
 ⟨some 30,none,.bin .add,[.t 29,.k (.d (.int .i64 1))]⟩ ::
 ⟨some 31,none,.mov,[.t 3]⟩ ::
 ⟨some 32,none,.bin .sub,[.t 31,.k (.d (.int .i64 1))]⟩ ::
 ⟨some 33,none,.mkfn 94,[.t 9,.t 11]⟩ ::
 ⟨some 34,none,.call 84,[.t 27,.t 28,.t 30,.t 32,.t 33]⟩ ::
 ⟨some 35,none,.un .not,[.t 34]⟩ ::
 []) [1,3,5,9,11,35])
 (.cond (.t 35)
 (.seq (.reg [] (
 ⟨some 10,none,.mov,[.k (.d (.bool false))]⟩ ::
 []) [10])
 (.ret))
 (.skip)))))
 (.seq (.seq (.reg [] (
 ⟨some 36,none,.load false 1,[.t 11]⟩ ::
 []) [1,3,5,9,36])
 (.reg [] (
 ⟨some 11,none,.zero [.int .i64 0],[]⟩ ::
 ⟨none,none,.store 1,[.t 11,.t 36]⟩ ::
 []) [1,3,5,9,11]))
 (.reg [] (
 ⟨some 22,none,.load false 1,[.t 11]⟩ ::
 ⟨some 23,none,.bin .add,[.t 22,.k (.d (.int .i64 1))]⟩ ::
 ⟨none,none,.store 1,[.t 11,.t 23]⟩ ::
 []) [1,3,5,9,11])))))))
 (.seq (.reg [] (
 ⟨some 10,none,.mov,[.k (.d (.bool true))]⟩ ::
 []) [10])
 (.ret))))
theorem EP:DR E0 E9 DF [.t 10] 37:=AP (fl:=[]) (by kernel_rfl)
abbrev CP:Nat:=85
def EN:PC :=
 .seq (.reg [] (
 ⟨some 8,none,.mov,[.k (.d (.bool false))]⟩ ::
 []) [0,1,2,3,4,5,6])
 (.seq (.reg [] (
 ⟨some 14,none,.load false 1,[.t 1]⟩ ::
 ⟨some 15,none,.mov,[.t 0]⟩ ::
 ⟨some 16,none,.mkrow 1 (.list true []) 2 [0,1],[.t 14,.t 15]⟩ ::
 ⟨some 17,none,.call 86,[.t 16]⟩ ::
 ⟨some 9,none,.mov,[.t 17]⟩ ::
 []) [2,3,4,5,6,9])
 (.seq (.reg [] (
 ⟨some 19,none,.load true 2,[.t 2]⟩ ::
 ⟨some 20,none,.load false 1,[.t 3]⟩ ::
 ⟨some 21,none,.mov,[.t 9]⟩ ::
 ⟨some 22,none,.call 87,[.t 19,.t 20,.t 21]⟩ ::
 ⟨some 18,none,.mov,[.t 22]⟩ ::
 ⟨some 23,none,.extract 0,[.t 18]⟩ ::
 ⟨some 24,none,.extract 1,[.t 18]⟩ ::
 ⟨some 10,none,.mov,[.t 23]⟩ ::
 ⟨some 11,none,.mov,[.t 24]⟩ ::
 []) [4,5,6,9,10,11])
 (.seq (.seq (.reg [] (
 ⟨some 25,none,.mov,[.t 11]⟩ ::
 []) [4,5,6,9,10,11,25])
 (.cond (.t 25)
 (.seq (.reg [] (
 ⟨some 26,none,.load false 1,[.t 4]⟩ ::
 ⟨some 27,none,.call 75,[.t 26]⟩ ::
 ⟨none,none,.store 1,[.t 5,.t 27]⟩ ::
 ⟨none,none,.store 1,[.t 6,.k (.d (.bool true))]⟩ ::
 []) [5,9,10,11])
 (.seq (.reg [] (
 ⟨some 28,none,.mov,[.t 9]⟩ ::
 ⟨some 29,none,.len false,[.t 28]⟩ ::
 ⟨some 30,none,.mov,[.k (.d (.int .i64 0))]⟩ ::
 []) [5,10,11,28,29,30])
 (.block 0
 (.loop [] [5,10,11,28,29,30] [17,22,27,10017,10022,10027,900004,901004]
 (.seq (.reg [] (
 ⟨some 31,none,.bin .lss,[.t 30,.t 29]⟩ ::
 []) [5,10,11,28,29,30,31])
 (.seq (.cond (.t 31)
 (.skip)
 (.exit 0))
 (.seq (.block 1
 (.seq (.reg [] (
 ⟨some 32,none,.mov,[.t 30]⟩ ::
 ⟨some 33,none,.iaddrS 1,[.t 28,.t 30]⟩ ::
 ⟨some 34,none,.load false 1,[.t 33]⟩ ::
 ⟨some 12,none,.mov,[.t 32]⟩ ::
 ⟨some 13,none,.mov,[.t 34]⟩ ::
 []) [5,10,11,12,13,28,29,30])
 (.draw [] (
 (⟨some 35,none,.load false 1,[.t 5]⟩,[]) ::
 (⟨some 36,none,.mov,[.t 13]⟩,[]) ::
 (⟨some 37,none,.iaddrS 1,[.t 35,.t 36]⟩,[]) ::
 (⟨some 38,none,.load false 1,[.t 37]⟩,[]) ::
 (⟨some 39,none,.mov,[.t 10]⟩,[]) ::
 (⟨some 40,none,.mov,[.t 12]⟩,[]) ::
 (⟨some 41,none,.iaddrS 1,[.t 39,.t 40]⟩,[]) ::
 (⟨some 42,none,.load false 1,[.t 41]⟩,[]) ::
 (⟨some 43,none,.bin .xor,[.t 38,.t 42]⟩,[]) ::
 (⟨some 44,none,.iaddrS 1,[.t 35,.t 36]⟩,[]) ::
 (⟨none,none,.store 1,[.t 44,.t 43]⟩,[]) ::
 []) [5,10,11,28,29,30])))
 (.reg [] (
 ⟨some 45,none,.bin .add,[.t 30,.k (.d (.int .i64 1))]⟩ ::
 ⟨some 30,none,.mov,[.t 45]⟩ ::
 []) [5,10,11,28,29,30]))))))))
 (.skip)))
 (.seq (.reg [.frzC 5 0] (
 ⟨some 46,none,.mov,[.t 11]⟩ ::
 ⟨some 47,none,.un .not,[.t 46]⟩ ::
 ⟨some 8,none,.mov,[.t 47]⟩ ::
 []) [8])
 (.ret)))))
theorem Gn:DR E0 CP EN [.t 8] 48:=AP (fl:=[]) (by kernel_rfl)
abbrev Eh:Nat:=86
def EM:PC :=
 .seq (.reg [] (
 ⟨some 2,none,.mov,[.k (.d (.list true []))]⟩ ::
 []) [0])
 (.seq (.reg [] (
 ⟨some 3,none,.mov,[.k (.d (.int .i64 0))]⟩ ::
 []) [0,3])
 (.seq (.seq (.reg [] (
 ⟨some 9,none,.mov,[.t 0]⟩ ::
 ⟨some 10,none,.len false,[.t 9]⟩ ::
 ⟨some 11,none,.mov,[.k (.d (.int .i64 0))]⟩ ::
 []) [0,3,9,10,11])
 (.block 0
 (.loop [] [0,3,9,10,11] [900000,901000]
 (.seq (.reg [] (
 ⟨some 12,none,.bin .lss,[.t 11,.t 10]⟩ ::
 []) [0,3,9,10,11,12])
 (.seq (.cond (.t 12)
 (.skip)
 (.exit 0))
 (.seq (.block 1
 (.seq (.reg [] (
 ⟨some 13,none,.iaddrS 1,[.t 9,.t 11]⟩ ::
 ⟨some 14,none,.load false 1,[.t 13]⟩ ::
 ⟨some 5,none,.mov,[.t 14]⟩ ::
 []) [0,3,5,9,10,11])
 (.seq (.reg [] (
 ⟨some 15,none,.mov,[.t 3]⟩ ::
 ⟨some 16,none,.mov,[.t 5]⟩ ::
 ⟨some 17,none,.len false,[.t 16]⟩ ::
 ⟨some 18,none,.bin .add,[.t 15,.t 17]⟩ ::
 ⟨some 3,none,.mov,[.t 18]⟩ ::
 []) [0,3,9,10,11])
 (.seq (.reg [] (
 ⟨some 19,none,.mov,[.t 3]⟩ ::
 ⟨some 20,none,.bin .lss,[.t 19,.k (.d (.int .i64 0))]⟩ ::
 []) [0,3,9,10,11,20])
 (.cond (.t 20)
 (.dead)
 (.skip))))))
 (.reg [] (
 ⟨some 22,none,.bin .add,[.t 11,.k (.d (.int .i64 1))]⟩ ::
 ⟨some 11,none,.mov,[.t 22]⟩ ::
 []) [0,3,9,10,11])))))))
 (.seq (.reg [] (
 ⟨some 23,none,.mov,[.t 3]⟩ ::
 ⟨some 24,none,.call 95,[.k (.d (.list true [])),.t 23]⟩ ::
 ⟨some 6,none,.mov,[.t 24]⟩ ::
 []) [0,6])
 (.seq (.seq (.reg [] (
 ⟨some 25,none,.mov,[.t 0]⟩ ::
 ⟨some 26,none,.len false,[.t 25]⟩ ::
 ⟨some 27,none,.mov,[.k (.d (.int .i64 0))]⟩ ::
 []) [6,25,26,27])
 (.block 2
 (.loop [.own 6 33 3 1] [6,25,26,27] [24,33,10024,900000,901000]
 (.seq (.reg [] (
 ⟨some 28,none,.bin .lss,[.t 27,.t 26]⟩ ::
 []) [6,25,26,27,28])
 (.seq (.cond (.t 28)
 (.skip)
 (.exit 2))
 (.seq (.block 3
 (.seq (.reg [] (
 ⟨some 29,none,.iaddrS 1,[.t 25,.t 27]⟩ ::
 ⟨some 30,none,.load false 1,[.t 29]⟩ ::
 ⟨some 8,none,.mov,[.t 30]⟩ ::
 []) [6,8,25,26,27])
 (.reg [] (
 ⟨some 31,none,.mov,[.t 6]⟩ ::
 ⟨some 32,none,.mov,[.t 8]⟩ ::
 ⟨some 33,none,.app 3 1 none true,[.t 31,.t 32]⟩ ::
 ⟨some 6,none,.mov,[.t 33]⟩ ::
 []) [6,25,26,27])))
 (.reg [] (
 ⟨some 34,none,.bin .add,[.t 27,.k (.d (.int .i64 1))]⟩ ::
 ⟨some 27,none,.mov,[.t 34]⟩ ::
 []) [6,25,26,27])))))))
 (.seq (.reg [] (
 ⟨some 35,none,.mov,[.t 6]⟩ ::
 ⟨some 2,none,.mov,[.t 35]⟩ ::
 []) [2])
 (.ret))))))
theorem Gm:DR E0 Eh EM [.t 2] 36:=AP (fl:=[]) (by kernel_rfl)
abbrev Fl:Nat:=87
def FE:PC :=
 .seq (.reg [] (
 ⟨some 3,none,.box,[.t 0]⟩ ::
 ⟨some 5,none,.box,[.t 2]⟩ ::
 ⟨some 6,none,.mov,[.k (.d (.list true []))]⟩ ::
 ⟨some 7,none,.mov,[.k (.d (.bool false))]⟩ ::
 []) [1,3,5])
 (.seq (.reg [] (
 ⟨some 8,none,.mov,[.k (.d (.list true []))]⟩ ::
 []) [1,3,5,8])
 (.seq (.seq (.reg [.frzP 3,.frzP 5] (
 ⟨some 23,none,.mov,[.t 1]⟩ ::
 ⟨some 24,none,.len false,[.t 23]⟩ ::
 ⟨some 25,none,.mov,[.k (.d (.int .i64 0))]⟩ ::
 []) [3,5,8,23,24,25])
 (.block 0
 (.loop [.ownM 8 50 117 89] [3,5,8,23,24,25] [3,5,50,900000,900001,900002,901000,901001,901002]
 (.seq (.reg [] (
 ⟨some 26,none,.bin .lss,[.t 25,.t 24]⟩ ::
 []) [3,5,8,23,24,25,26])
 (.seq (.cond (.t 26)
 (.skip)
 (.exit 0))
 (.seq (.block 1
 (.seq (.reg [] (
 ⟨some 27,none,.mov,[.t 25]⟩ ::
 ⟨some 28,none,.iaddrS 1,[.t 23,.t 25]⟩ ::
 ⟨some 29,none,.load false 1,[.t 28]⟩ ::
 ⟨some 9,none,.mov,[.t 27]⟩ ::
 ⟨some 10,none,.mov,[.t 29]⟩ ::
 []) [3,5,8,9,10,23,24,25])
 (.seq (.reg [] (
 ⟨some 11,none,.mov,[.k (.d (.list true []))]⟩ ::
 []) [3,5,8,9,10,11,23,24,25])
 (.seq (.seq (.reg [] (
 ⟨some 30,none,.load false 1,[.t 5]⟩ ::
 ⟨some 31,none,.len false,[.t 30]⟩ ::
 ⟨some 32,none,.mov,[.k (.d (.int .i64 0))]⟩ ::
 []) [3,5,8,9,10,11,23,24,25,30,31,32])
 (.block 2
 (.loop [.ownM 8 50 117 89,.own 11 42 89 1] [3,5,8,9,10,11,23,24,25,30,31,32] [3,5,42,50,900000,900001,900002,901000,901001,901002]
 (.seq (.reg [] (
 ⟨some 33,none,.bin .lss,[.t 32,.t 31]⟩ ::
 []) [3,5,8,9,10,11,23,24,25,30,31,32,33])
 (.seq (.cond (.t 33)
 (.skip)
 (.exit 2))
 (.seq (.block 3
 (.seq (.reg [] (
 ⟨some 34,none,.iaddrS 1,[.t 30,.t 32]⟩ ::
 ⟨some 35,none,.load false 1,[.t 34]⟩ ::
 ⟨some 13,none,.mov,[.t 35]⟩ ::
 []) [3,5,8,9,10,11,13,23,24,25,30,31,32])
 (.reg [] (
 ⟨some 36,none,.mov,[.t 11]⟩ ::
 ⟨some 37,none,.load true 2,[.t 3]⟩ ::
 ⟨some 38,none,.mov,[.t 9]⟩ ::
 ⟨some 39,none,.mov,[.t 13]⟩ ::
 ⟨some 40,none,.call 92,[.t 37,.t 38,.t 39]⟩ ::
 ⟨some 41,none,.mkrow 1 (.int .u8 0) 1 [0],[.t 40]⟩ ::
 ⟨some 42,none,.app 89 1 none true,[.t 36,.t 41]⟩ ::
 ⟨some 11,none,.mov,[.t 42]⟩ ::
 []) [3,5,8,9,10,11,23,24,25,30,31,32])))
 (.reg [] (
 ⟨some 43,none,.bin .add,[.t 32,.k (.d (.int .i64 1))]⟩ ::
 ⟨some 32,none,.mov,[.t 43]⟩ ::
 []) [3,5,8,9,10,11,23,24,25,30,31,32])))))))
 (.reg [] (
 ⟨some 44,none,.mov,[.t 8]⟩ ::
 ⟨some 45,none,.mov,[.t 11]⟩ ::
 ⟨some 46,none,.mov,[.t 10]⟩ ::
 ⟨some 47,none,.mkrow 1 (.int .u8 0) 1 [0],[.t 46]⟩ ::
 ⟨some 48,none,.app 89 1 none false,[.t 45,.t 47]⟩ ::
 ⟨some 49,none,.mkrow 1 (.list true []) 1 [0],[.t 48]⟩ ::
 ⟨some 50,none,.app 117 1 none true,[.t 44,.t 49]⟩ ::
 ⟨some 8,none,.mov,[.t 50]⟩ ::
 []) [3,5,8,23,24,25])))))
 (.reg [] (
 ⟨some 51,none,.bin .add,[.t 25,.k (.d (.int .i64 1))]⟩ ::
 ⟨some 25,none,.mov,[.t 51]⟩ ::
 []) [3,5,8,23,24,25])))))))
 (.seq (.seq (.reg [] (
 ⟨some 52,none,.load false 1,[.t 5]⟩ ::
 ⟨some 53,none,.len false,[.t 52]⟩ ::
 ⟨some 54,none,.mov,[.k (.d (.int .i64 0))]⟩ ::
 []) [5,8,53,54])
 (.block 4
 (.loop [.ownM 8 50 117 89] [5,8,53,54] [5,50,900002,901002]
 (.seq (.reg [] (
 ⟨some 55,none,.bin .lss,[.t 54,.t 53]⟩ ::
 []) [5,8,53,54,55])
 (.seq (.cond (.t 55)
 (.skip)
 (.exit 4))
 (.seq (.block 5
 (.seq (.reg [] (
 ⟨some 56,none,.mov,[.t 54]⟩ ::
 ⟨some 14,none,.mov,[.t 56]⟩ ::
 []) [5,8,14,53,54])
 (.seq (.reg [] (
 ⟨some 57,none,.mov,[.t 14]⟩ ::
 ⟨some 15,none,.mov,[.t 57]⟩ ::
 []) [5,8,14,15,53,54])
 (.seq (.block 6
 (.loop [.ownM 8 50 117 89] [5,8,14,15,53,54] [5,50,900002,901002]
 (.seq (.seq (.reg [] (
 ⟨some 58,none,.mov,[.t 15]⟩ ::
 ⟨some 59,none,.mov,[.t 8]⟩ ::
 ⟨some 60,none,.len false,[.t 59]⟩ ::
 ⟨some 61,none,.bin .lss,[.t 58,.t 60]⟩ ::
 ⟨some 62,none,.mov,[.t 61]⟩ ::
 ⟨some 63,some (62,true),.mov,[.t 8]⟩ ::
 ⟨some 64,some (62,true),.mov,[.t 15]⟩ ::
 ⟨some 65,some (62,true),.iaddrS 1,[.t 63,.t 64]⟩ ::
 ⟨some 66,some (62,true),.load false 1,[.t 65]⟩ ::
 ⟨some 67,some (62,true),.mov,[.t 14]⟩ ::
 ⟨some 68,some (62,true),.iaddrS 1,[.t 66,.t 67]⟩ ::
 ⟨some 69,some (62,true),.load false 1,[.t 68]⟩ ::
 ⟨some 70,some (62,true),.bin .eql,[.t 69,.k (.d (.int .u8 0))]⟩ ::
 ⟨some 71,none,.pick,[.t 62,.t 70,.k (.d (.bool false))]⟩ ::
 []) [5,8,14,15,53,54,71])
 (.cond (.t 71)
 (.skip)
 (.exit 6)))
 (.block 7
 (.reg [] (
 ⟨some 72,none,.mov,[.t 15]⟩ ::
 ⟨some 73,none,.bin .add,[.t 72,.k (.d (.int .i64 1))]⟩ ::
 ⟨some 15,none,.mov,[.t 73]⟩ ::
 []) [5,8,14,15,53,54])))))
 (.seq (.seq (.reg [] (
 ⟨some 74,none,.mov,[.t 15]⟩ ::
 ⟨some 75,none,.mov,[.t 8]⟩ ::
 ⟨some 76,none,.len false,[.t 75]⟩ ::
 ⟨some 77,none,.bin .eql,[.t 74,.t 76]⟩ ::
 []) [5,8,14,15,53,54,77])
 (.cond (.t 77)
 (.seq (.reg [] (
 ⟨some 6,none,.mov,[.k (.d (.list true []))]⟩ ::
 ⟨some 7,none,.mov,[.k (.d (.bool false))]⟩ ::
 []) [6,7])
 (.ret))
 (.skip)))
 (.seq (.draw [] (
 (⟨some 78,none,.mov,[.t 8]⟩,[]) ::
 (⟨some 79,none,.mov,[.t 14]⟩,[]) ::
 (⟨some 80,none,.mov,[.t 8]⟩,[]) ::
 (⟨some 81,none,.mov,[.t 15]⟩,[]) ::
 (⟨some 82,none,.mov,[.t 8]⟩,[]) ::
 (⟨some 83,none,.mov,[.t 15]⟩,[]) ::
 (⟨some 84,none,.iaddrS 1,[.t 82,.t 83]⟩,[]) ::
 (⟨some 85,none,.load false 1,[.t 84]⟩,[]) ::
 (⟨some 86,none,.mov,[.t 8]⟩,[]) ::
 (⟨some 87,none,.mov,[.t 14]⟩,[]) ::
 (⟨some 88,none,.iaddrS 1,[.t 86,.t 87]⟩,[]) ::
 (⟨some 89,none,.load false 1,[.t 88]⟩,[]) ::
 (⟨some 90,none,.iaddrS 1,[.t 78,.t 79]⟩,[]) ::
 (⟨none,none,.store 1,[.t 90,.t 85]⟩,[]) ::
 (⟨some 91,none,.iaddrS 1,[.t 80,.t 81]⟩,[]) ::
 (⟨none,none,.store 1,[.t 91,.t 89]⟩,[]) ::
 []) [5,8,14,53,54])
 (.seq (.reg [] (
 ⟨some 92,none,.mov,[.t 8]⟩ ::
 ⟨some 93,none,.mov,[.t 14]⟩ ::
 ⟨some 94,none,.iaddrS 1,[.t 92,.t 93]⟩ ::
 ⟨some 95,none,.load false 1,[.t 94]⟩ ::
 ⟨some 96,none,.mov,[.t 14]⟩ ::
 ⟨some 97,none,.iaddrS 1,[.t 95,.t 96]⟩ ::
 ⟨some 98,none,.load false 1,[.t 97]⟩ ::
 ⟨some 99,none,.call 96,[.t 98]⟩ ::
 ⟨some 16,none,.mov,[.t 99]⟩ ::
 []) [5,8,14,16,53,54])
 (.seq (.seq (.reg [] (
 ⟨some 100,none,.mov,[.t 8]⟩ ::
 ⟨some 101,none,.mov,[.t 14]⟩ ::
 ⟨some 102,none,.iaddrS 1,[.t 100,.t 101]⟩ ::
 ⟨some 103,none,.load false 1,[.t 102]⟩ ::
 ⟨some 104,none,.len false,[.t 103]⟩ ::
 ⟨some 105,none,.mov,[.k (.d (.int .i64 0))]⟩ ::
 []) [5,8,14,16,53,54,103,104,105])
 (.block 8
 (.loop [.ownM 8 50 117 89] [5,8,14,16,53,54,103,104,105] [5,50,99,10099,900002,901002]
 (.seq (.reg [] (
 ⟨some 106,none,.bin .lss,[.t 105,.t 104]⟩ ::
 []) [5,8,14,16,53,54,103,104,105,106])
 (.seq (.cond (.t 106)
 (.skip)
 (.exit 8))
 (.seq (.block 9
 (.seq (.reg [] (
 ⟨some 107,none,.mov,[.t 105]⟩ ::
 ⟨some 108,none,.iaddrS 1,[.t 103,.t 105]⟩ ::
 ⟨some 109,none,.load false 1,[.t 108]⟩ ::
 ⟨some 17,none,.mov,[.t 107]⟩ ::
 ⟨some 18,none,.mov,[.t 109]⟩ ::
 []) [5,8,14,16,17,18,53,54,103,104,105])
 (.draw [] (
 (⟨some 110,none,.mov,[.t 8]⟩,[]) ::
 (⟨some 111,none,.mov,[.t 14]⟩,[]) ::
 (⟨some 112,none,.iaddrS 1,[.t 110,.t 111]⟩,[]) ::
 (⟨some 113,none,.load false 1,[.t 112]⟩,[]) ::
 (⟨some 114,none,.mov,[.t 17]⟩,[]) ::
 (⟨some 115,none,.mov,[.t 18]⟩,[]) ::
 (⟨some 116,none,.mov,[.t 16]⟩,[]) ::
 (⟨some 117,none,.call 76,[.t 115,.t 116]⟩,[2,3]) ::
 (⟨some 118,none,.iaddrS 1,[.t 113,.t 114]⟩,[]) ::
 (⟨none,none,.store 1,[.t 118,.t 117]⟩,[]) ::
 []) [5,8,14,16,53,54,103,104,105])))
 (.reg [] (
 ⟨some 119,none,.bin .add,[.t 105,.k (.d (.int .i64 1))]⟩ ::
 ⟨some 105,none,.mov,[.t 119]⟩ ::
 []) [5,8,14,16,53,54,103,104,105])))))))
 (.seq (.reg [] (
 ⟨some 120,none,.mov,[.t 8]⟩ ::
 ⟨some 121,none,.len false,[.t 120]⟩ ::
 ⟨some 122,none,.mov,[.k (.d (.int .i64 0))]⟩ ::
 []) [5,8,14,53,54,120,121,122])
 (.block 10
 (.loop [.ownM 8 50 117 89] [5,8,14,53,54,120,121,122] [5,50,900002,901002]
 (.seq (.reg [] (
 ⟨some 123,none,.bin .lss,[.t 122,.t 121]⟩ ::
 []) [5,8,14,53,54,120,121,122,123])
 (.seq (.cond (.t 123)
 (.skip)
 (.exit 10))
 (.seq (.block 11
 (.seq (.reg [] (
 ⟨some 124,none,.mov,[.t 122]⟩ ::
 ⟨some 125,none,.iaddrS 1,[.t 120,.t 122]⟩ ::
 ⟨some 126,none,.load false 1,[.t 125]⟩ ::
 ⟨some 19,none,.mov,[.t 124]⟩ ::
 ⟨some 20,none,.mov,[.t 126]⟩ ::
 []) [5,8,14,19,20,53,54,120,121,122])
 (.seq (.reg [] (
 ⟨some 127,none,.mov,[.t 19]⟩ ::
 ⟨some 128,none,.mov,[.t 14]⟩ ::
 ⟨some 129,none,.bin .neq,[.t 127,.t 128]⟩ ::
 []) [5,8,14,20,53,54,120,121,122,129])
 (.cond (.t 129)
 (.draw [] (
 (⟨some 130,none,.mov,[.t 20]⟩,[]) ::
 (⟨some 131,none,.mov,[.t 8]⟩,[]) ::
 (⟨some 132,none,.mov,[.t 14]⟩,[]) ::
 (⟨some 133,none,.iaddrS 1,[.t 131,.t 132]⟩,[]) ::
 (⟨some 134,none,.load false 1,[.t 133]⟩,[]) ::
 (⟨some 135,none,.mov,[.t 20]⟩,[]) ::
 (⟨some 136,none,.mov,[.t 14]⟩,[]) ::
 (⟨some 137,none,.iaddrS 1,[.t 135,.t 136]⟩,[]) ::
 (⟨some 138,none,.load false 1,[.t 137]⟩,[]) ::
 (⟨some 139,none,.call 97,[.t 130,.t 134,.t 138]⟩,[]) ::
 []) [5,8,14,53,54,120,121,122])
 (.skip)))))
 (.reg [] (
 ⟨some 140,none,.bin .add,[.t 122,.k (.d (.int .i64 1))]⟩ ::
 ⟨some 122,none,.mov,[.t 140]⟩ ::
 []) [5,8,14,53,54,120,121,122])))))))))))))))
 (.reg [] (
 ⟨some 141,none,.bin .add,[.t 54,.k (.d (.int .i64 1))]⟩ ::
 ⟨some 54,none,.mov,[.t 141]⟩ ::
 []) [5,8,53,54])))))))
 (.seq (.seq (.reg [.frzM 8] (
 ⟨some 142,none,.mov,[.t 8]⟩ ::
 ⟨some 143,none,.load false 1,[.t 5]⟩ ::
 ⟨some 144,none,.len false,[.t 143]⟩ ::
 ⟨some 145,none,.slice 1 true false false,[.t 142,.t 144]⟩ ::
 ⟨some 146,none,.len false,[.t 145]⟩ ::
 ⟨some 147,none,.mov,[.k (.d (.int .i64 0))]⟩ ::
 []) [5,8,145,146,147])
 (.block 12
 (.loop [] [5,8,145,146,147] [5,900002,901002]
 (.seq (.reg [] (
 ⟨some 148,none,.bin .lss,[.t 147,.t 146]⟩ ::
 []) [5,8,145,146,147,148])
 (.seq (.cond (.t 148)
 (.skip)
 (.exit 12))
 (.seq (.block 13
 (.seq (.reg [] (
 ⟨some 149,none,.iaddrS 1,[.t 145,.t 147]⟩ ::
 ⟨some 150,none,.load false 1,[.t 149]⟩ ::
 ⟨some 22,none,.mov,[.t 150]⟩ ::
 []) [5,8,22,145,146,147])
 (.seq (.reg [] (
 ⟨some 151,none,.mov,[.t 22]⟩ ::
 ⟨some 152,none,.load false 1,[.t 5]⟩ ::
 ⟨some 153,none,.len false,[.t 152]⟩ ::
 ⟨some 154,none,.iaddrS 1,[.t 151,.t 153]⟩ ::
 ⟨some 155,none,.load false 1,[.t 154]⟩ ::
 ⟨some 156,none,.bin .neq,[.t 155,.k (.d (.int .u8 0))]⟩ ::
 []) [5,8,145,146,147,156])
 (.cond (.t 156)
 (.seq (.reg [] (
 ⟨some 6,none,.mov,[.k (.d (.list true []))]⟩ ::
 ⟨some 7,none,.mov,[.k (.d (.bool false))]⟩ ::
 []) [6,7])
 (.ret))
 (.skip)))))
 (.reg [] (
 ⟨some 157,none,.bin .add,[.t 147,.k (.d (.int .i64 1))]⟩ ::
 ⟨some 147,none,.mov,[.t 157]⟩ ::
 []) [5,8,145,146,147])))))))
 (.seq (.reg [] (
 ⟨some 158,none,.mov,[.t 8]⟩ ::
 ⟨some 159,none,.load false 1,[.t 5]⟩ ::
 ⟨some 160,none,.len false,[.t 159]⟩ ::
 ⟨some 161,none,.slice 1 false true false,[.t 158,.t 160]⟩ ::
 ⟨some 162,none,.mkfn 99,[.t 5]⟩ ::
 ⟨some 163,none,.call 98,[.t 161,.t 162]⟩ ::
 ⟨some 6,none,.mov,[.t 163]⟩ ::
 ⟨some 7,none,.mov,[.k (.d (.bool true))]⟩ ::
 []) [6,7])
 (.ret))))))
theorem IA:DR E0 Fl FE [.t 6,.t 7] 164:=AP (fl:=[48]) (by kernel_rfl)
abbrev Lt:Nat:=88
def HE:PC :=
 .seq (.reg [] (
 ⟨some 4,none,.box,[.t 0]⟩ ::
 ⟨some 8,none,.mov,[.k (.d (.list true []))]⟩ ::
 []) [1,2,3,4])
 (.seq (.seq (.reg [] (
 ⟨some 13,none,.mov,[.t 3]⟩ ::
 ⟨some 14,none,.bin .eql,[.t 13,.k (.d (.int .i64 0))]⟩ ::
 []) [1,2,3,4,14])
 (.cond (.t 14)
 (.seq (.reg [] (
 ⟨some 15,none,.mkrowO 24 1 (.list true []) 1 [0],[.k (.d (.list true []))]⟩ ::
 ⟨some 8,none,.mov,[.t 15]⟩ ::
 []) [8])
 (.ret))
 (.skip)))
 (.seq (.reg [] (
 ⟨some 9,none,.mov,[.k (.d (.list true []))]⟩ ::
 []) [1,2,3,4,9])
 (.seq (.seq (.reg [] (
 ⟨some 16,none,.mov,[.t 2]⟩ ::
 ⟨some 10,none,.mov,[.t 16]⟩ ::
 []) [1,3,4,9,10])
 (.block 0
 (.loop [.own 9 48 24 1] [1,3,4,9,10] [4,48,900000,900001,900002,900003,901000,901001,901002,901003]
 (.seq (.seq (.reg [] (
 ⟨some 17,none,.mov,[.t 10]⟩ ::
 ⟨some 18,none,.faddr 0,[.t 4]⟩ ::
 ⟨some 19,none,.load false 1,[.t 18]⟩ ::
 ⟨some 20,none,.bin .lss,[.t 17,.t 19]⟩ ::
 []) [1,3,4,9,10,20])
 (.cond (.t 20)
 (.skip)
 (.exit 0)))
 (.seq (.block 1
 (.seq (.seq (.reg [] (
 ⟨some 23,none,.mov,[.t 1]⟩ ::
 ⟨some 24,none,.mov,[.t 10]⟩ ::
 ⟨some 25,none,.call 57,[.t 23,.t 24]⟩ ::
 []) [1,3,4,9,10,25])
 (.cond (.t 25)
 (.exit 1)
 (.skip)))
 (.seq (.reg [] (
 ⟨some 26,none,.load true 2,[.t 4]⟩ ::
 ⟨some 27,none,.mov,[.t 1]⟩ ::
 ⟨some 28,none,.mov,[.t 10]⟩ ::
 ⟨some 29,none,.bin .add,[.t 28,.k (.d (.int .i64 1))]⟩ ::
 ⟨some 30,none,.mov,[.t 3]⟩ ::
 ⟨some 31,none,.bin .sub,[.t 30,.k (.d (.int .i64 1))]⟩ ::
 ⟨some 32,none,.call 88,[.t 26,.t 27,.t 29,.t 31]⟩ ::
 ⟨some 11,none,.mov,[.t 32]⟩ ::
 []) [1,3,4,9,10,11])
 (.seq (.reg [] (
 ⟨some 12,none,.mov,[.k (.d (.int .i64 0))]⟩ ::
 []) [1,3,4,9,10,11,12])
 (.block 2
 (.loop [.own 9 48 24 1] [1,3,4,9,10,11,12] [4,32,48,10032,900000,900001,900002,900003,901000,901001,901002,901003]
 (.seq (.seq (.reg [] (
 ⟨some 33,none,.mov,[.t 12]⟩ ::
 ⟨some 34,none,.mov,[.t 11]⟩ ::
 ⟨some 35,none,.len false,[.t 34]⟩ ::
 ⟨some 36,none,.bin .lss,[.t 33,.t 35]⟩ ::
 []) [1,3,4,9,10,11,12,36])
 (.cond (.t 36)
 (.skip)
 (.exit 2)))
 (.seq (.block 3
 (.reg [] (
 ⟨some 39,none,.mov,[.t 9]⟩ ::
 ⟨some 40,none,.mov,[.t 10]⟩ ::
 ⟨some 41,none,.mkrow 1 (.int .i64 0) 1 [0],[.t 40]⟩ ::
 ⟨some 42,none,.mov,[.t 11]⟩ ::
 ⟨some 43,none,.mov,[.t 12]⟩ ::
 ⟨some 44,none,.iaddrS 1,[.t 42,.t 43]⟩ ::
 ⟨some 45,none,.load false 1,[.t 44]⟩ ::
 ⟨some 46,none,.app 3 1 none false,[.t 41,.t 45]⟩ ::
 ⟨some 47,none,.mkrow 1 (.list true []) 1 [0],[.t 46]⟩ ::
 ⟨some 48,none,.app 24 1 none true,[.t 39,.t 47]⟩ ::
 ⟨some 9,none,.mov,[.t 48]⟩ ::
 []) [1,3,4,9,10,11,12]))
 (.reg [] (
 ⟨some 37,none,.mov,[.t 12]⟩ ::
 ⟨some 38,none,.bin .add,[.t 37,.k (.d (.int .i64 1))]⟩ ::
 ⟨some 12,none,.mov,[.t 38]⟩ ::
 []) [1,3,4,9,10,11,12])))))))))
 (.reg [] (
 ⟨some 21,none,.mov,[.t 10]⟩ ::
 ⟨some 22,none,.bin .add,[.t 21,.k (.d (.int .i64 1))]⟩ ::
 ⟨some 10,none,.mov,[.t 22]⟩ ::
 []) [1,3,4,9,10]))))))
 (.seq (.reg [] (
 ⟨some 49,none,.mov,[.t 9]⟩ ::
 ⟨some 8,none,.mov,[.t 49]⟩ ::
 []) [8])
 (.ret)))))
theorem JS:DR E0 Lt HE [.t 8] 50:=AP (fl:=[46]) (by kernel_rfl)
abbrev D9:Nat:=89
def Dt:PC :=
 .seq (.reg [] (
 ⟨some 4,none,.mov,[.k (.d (.int .i64 0))]⟩ ::
 []) [0,1])
 (.seq (.seq (.reg [] (
 ⟨some 6,none,.mov,[.t 0]⟩ ::
 ⟨some 7,none,.len false,[.t 6]⟩ ::
 ⟨some 8,none,.mov,[.k (.d (.int .i64 0))]⟩ ::
 []) [0,1,7,8])
 (.block 0
 (.loop [] [0,1,7,8] [900000,900001,901000,901001]
 (.seq (.reg [] (
 ⟨some 9,none,.bin .lss,[.t 8,.t 7]⟩ ::
 []) [0,1,7,8,9])
 (.seq (.cond (.t 9)
 (.skip)
 (.exit 0))
 (.seq (.block 1
 (.seq (.reg [] (
 ⟨some 10,none,.mov,[.t 8]⟩ ::
 ⟨some 5,none,.mov,[.t 10]⟩ ::
 []) [0,1,5,7,8])
 (.seq (.reg [] (
 ⟨some 11,none,.mov,[.t 1]⟩ ::
 ⟨some 12,none,.mov,[.t 0]⟩ ::
 ⟨some 13,none,.mov,[.t 5]⟩ ::
 ⟨some 14,none,.iaddrS 1,[.t 12,.t 13]⟩ ::
 ⟨some 15,none,.load false 1,[.t 14]⟩ ::
 ⟨some 16,none,.callv,[.t 11,.t 15]⟩ ::
 []) [0,1,5,7,8,16])
 (.cond (.t 16)
 (.seq (.reg [] (
 ⟨some 17,none,.mov,[.t 5]⟩ ::
 ⟨some 4,none,.mov,[.t 17]⟩ ::
 []) [4])
 (.ret))
 (.skip)))))
 (.reg [] (
 ⟨some 18,none,.bin .add,[.t 8,.k (.d (.int .i64 1))]⟩ ::
 ⟨some 8,none,.mov,[.t 18]⟩ ::
 []) [0,1,7,8])))))))
 (.seq (.reg [] (
 ⟨some 4,none,.mov,[.k (.d (.int .i64 (-1)))]⟩ ::
 []) [4])
 (.ret)))
theorem Ft:DR E0 D9 Dt [.t 4] 19:=AP (fl:=[]) (by kernel_rfl)
abbrev Ax:Nat:=90
def BE:PC :=
 .seq (.reg [] (
 ⟨some 4,none,.mov,[.k (.d (.list true []))]⟩ ::
 []) [0,1])
 (.seq (.seq (.reg [] (
 ⟨some 5,none,.mov,[.t 1]⟩ ::
 ⟨some 6,none,.bin .lss,[.t 5,.k (.d (.int .i64 0))]⟩ ::
 []) [0,1,6])
 (.cond (.t 6)
 (.dead)
 (.skip)))
 (.seq (.seq (.reg [] (
 ⟨some 8,none,.mov,[.t 1]⟩ ::
 ⟨some 9,none,.mov,[.t 0]⟩ ::
 ⟨some 10,none,.cap,[.t 9]⟩ ::
 ⟨some 11,none,.mov,[.t 0]⟩ ::
 ⟨some 12,none,.len false,[.t 11]⟩ ::
 ⟨some 13,none,.bin .sub,[.t 10,.t 12]⟩ ::
 ⟨some 14,none,.bin .sub,[.t 8,.t 13]⟩ ::
 ⟨some 1,none,.mov,[.t 14]⟩ ::
 []) [0,1])
 (.seq (.reg [] (
 ⟨some 15,none,.mov,[.t 1]⟩ ::
 ⟨some 16,none,.bin .gtr,[.t 15,.k (.d (.int .i64 0))]⟩ ::
 []) [0,1,16])
 (.cond (.t 16)
 (.reg [] (
 ⟨some 17,none,.mov,[.t 0]⟩ ::
 ⟨some 18,none,.mov,[.t 0]⟩ ::
 ⟨some 19,none,.cap,[.t 18]⟩ ::
 ⟨some 20,none,.slice 1 false true false,[.t 17,.t 19]⟩ ::
 ⟨some 21,none,.mov,[.t 1]⟩ ::
 ⟨some 22,none,.app 89 1 (some (.int .u8 0)) true,[.t 20,.t 21]⟩ ::
 ⟨some 23,none,.mov,[.t 0]⟩ ::
 ⟨some 24,none,.len false,[.t 23]⟩ ::
 ⟨some 25,none,.slice 1 false true false,[.t 22,.t 24]⟩ ::
 ⟨some 0,none,.mov,[.t 25]⟩ ::
 []) [0])
 (.skip))))
 (.seq (.reg [] (
 ⟨some 26,none,.mov,[.t 0]⟩ ::
 ⟨some 4,none,.mov,[.t 26]⟩ ::
 []) [4])
 (.ret))))
theorem Bq:DR E0 Ax BE [.t 4] 27:=AP (fl:=[]) (by kernel_rfl)
abbrev Lv:Nat:=91
def KI:PC :=
 .seq (.reg [] (
 ⟨some 4,none,.mov,[.k (.d (.int .i64 0))]⟩ ::
 []) [0,1])
 (.seq (.seq (.reg [] (
 ⟨some 5,none,.mov,[.k (.d (.int .i64 0))]⟩ ::
 []) [0,1,5])
 (.block 0
 (.loop [] [0,1,5] [900000,900001,901000,901001]
 (.seq (.seq (.reg [] (
 ⟨some 6,none,.mov,[.t 5]⟩ ::
 ⟨some 7,none,.bin .lss,[.t 6,.k (.d (.int .i64 16))]⟩ ::
 []) [0,1,5,7])
 (.cond (.t 7)
 (.skip)
 (.exit 0)))
 (.seq (.block 1
 (.seq (.reg [] (
 ⟨some 10,none,.mov,[.t 5]⟩ ::
 ⟨some 11,none,.mov,[.t 1]⟩ ::
 ⟨some 12,none,.call 29,[.t 10,.t 11]⟩ ::
 ⟨some 13,none,.mov,[.t 0]⟩ ::
 ⟨some 14,none,.bin .eql,[.t 12,.t 13]⟩ ::
 []) [0,1,5,14])
 (.cond (.t 14)
 (.seq (.reg [] (
 ⟨some 15,none,.mov,[.t 5]⟩ ::
 ⟨some 4,none,.mov,[.t 15]⟩ ::
 []) [4])
 (.ret))
 (.skip))))
 (.reg [] (
 ⟨some 8,none,.mov,[.t 5]⟩ ::
 ⟨some 9,none,.bin .add,[.t 8,.k (.d (.int .i64 1))]⟩ ::
 ⟨some 5,none,.mov,[.t 9]⟩ ::
 []) [0,1,5]))))))
 (.seq (.reg [] (
 ⟨some 4,none,.mov,[.k (.d (.int .i64 0))]⟩ ::
 []) [4])
 (.ret)))
theorem N9:DR E0 Lv KI [.t 4] 16:=AP (fl:=[]) (by kernel_rfl)
abbrev FG:Nat:=92
def Er:PC :=
 .seq (.reg [] (
 ⟨some 3,none,.box,[.t 0]⟩ ::
 ⟨some 6,none,.mov,[.k (.d (.int .u8 0))]⟩ ::
 []) [1,2,3])
 (.seq (.reg [] (
 ⟨some 7,none,.mov,[.t 1]⟩ ::
 ⟨some 8,none,.faddr 0,[.t 3]⟩ ::
 ⟨some 9,none,.faddr 0,[.t 8]⟩ ::
 ⟨some 10,none,.load false 1,[.t 9]⟩ ::
 ⟨some 11,none,.bin .sub,[.t 10,.k (.d (.int .i64 1))]⟩ ::
 ⟨some 12,none,.mov,[.t 2]⟩ ::
 ⟨some 13,none,.bin .sub,[.t 11,.t 12]⟩ ::
 ⟨some 14,none,.bin .mul,[.t 7,.t 13]⟩ ::
 ⟨some 15,none,.call 77,[.t 14]⟩ ::
 ⟨some 6,none,.mov,[.t 15]⟩ ::
 []) [6])
 (.ret))
theorem Hg:DR E0 FG Er [.t 6] 16:=AP (fl:=[]) (by kernel_rfl)
abbrev EJ:Nat:=93
def D2:PC :=
 .seq (.reg [] (
 ⟨some 4,none,.mov,[.k (.d (.bool false))]⟩ ::
 []) [0,1])
 (.seq (.reg [] (
 ⟨some 5,none,.mov,[.t 0]⟩ ::
 ⟨some 6,none,.mov,[.t 1]⟩ ::
 ⟨some 7,none,.call 100,[.t 5,.t 6]⟩ ::
 ⟨some 8,none,.bin .geq,[.t 7,.k (.d (.int .i64 0))]⟩ ::
 ⟨some 4,none,.mov,[.t 8]⟩ ::
 []) [4])
 (.ret))
theorem F2:DR E0 EJ D2 [.t 4] 9:=AP (fl:=[]) (by kernel_rfl)
abbrev Ba:Nat:=94
def EG:PC :=
 .seq (.reg [] (
 ⟨some 4,none,.mov,[.k (.d (.bool false))]⟩ ::
 []) [0,1,2])
 (.seq (.draw [] (
 (⟨some 5,none,.load false 1,[.t 1]⟩,[]) ::
 (⟨some 6,none,.load false 1,[.t 2]⟩,[]) ::
 (⟨some 7,none,.mkrow 1 (.int .i64 0) 1 [0],[.t 6]⟩,[]) ::
 (⟨some 8,none,.mov,[.t 0]⟩,[]) ::
 (⟨some 9,none,.app 3 1 none false,[.t 7,.t 8]⟩,[0]) ::
 (⟨some 10,none,.callv,[.t 5,.t 9]⟩,[]) ::
 (⟨some 4,none,.mov,[.t 10]⟩,[]) ::
 []) [4])
 (.ret))
theorem GP:DR E0 Ba EG [.t 4] 11:=AP (fl:=[]) (by kernel_rfl)
abbrev Co:Nat:=95
def DT:PC :=
 .seq (.reg [] (
 ⟨some 4,none,.mov,[.k (.d (.list true []))]⟩ ::
 []) [0,1])
 (.seq (.seq (.reg [] (
 ⟨some 5,none,.mov,[.t 1]⟩ ::
 ⟨some 6,none,.bin .lss,[.t 5,.k (.d (.int .i64 0))]⟩ ::
 []) [0,1,6])
 (.cond (.t 6)
 (.dead)
 (.skip)))
 (.seq (.seq (.reg [] (
 ⟨some 8,none,.mov,[.t 1]⟩ ::
 ⟨some 9,none,.mov,[.t 0]⟩ ::
 ⟨some 10,none,.cap,[.t 9]⟩ ::
 ⟨some 11,none,.mov,[.t 0]⟩ ::
 ⟨some 12,none,.len false,[.t 11]⟩ ::
 ⟨some 13,none,.bin .sub,[.t 10,.t 12]⟩ ::
 ⟨some 14,none,.bin .sub,[.t 8,.t 13]⟩ ::
 ⟨some 1,none,.mov,[.t 14]⟩ ::
 []) [0,1])
 (.seq (.reg [] (
 ⟨some 15,none,.mov,[.t 1]⟩ ::
 ⟨some 16,none,.bin .gtr,[.t 15,.k (.d (.int .i64 0))]⟩ ::
 []) [0,1,16])
 (.cond (.t 16)
 (.reg [] (
 ⟨some 17,none,.mov,[.t 0]⟩ ::
 ⟨some 18,none,.mov,[.t 0]⟩ ::
 ⟨some 19,none,.cap,[.t 18]⟩ ::
 ⟨some 20,none,.slice 1 false true false,[.t 17,.t 19]⟩ ::
 ⟨some 21,none,.mov,[.t 1]⟩ ::
 ⟨some 22,none,.app 3 1 (some (.int .i64 0)) true,[.t 20,.t 21]⟩ ::
 ⟨some 23,none,.mov,[.t 0]⟩ ::
 ⟨some 24,none,.len false,[.t 23]⟩ ::
 ⟨some 25,none,.slice 1 false true false,[.t 22,.t 24]⟩ ::
 ⟨some 0,none,.mov,[.t 25]⟩ ::
 []) [0])
 (.skip))))
 (.seq (.reg [] (
 ⟨some 26,none,.mov,[.t 0]⟩ ::
 ⟨some 4,none,.mov,[.t 26]⟩ ::
 []) [4])
 (.ret))))
theorem Ef:DR E0 Co DT [.t 4] 27:=AP (fl:=[]) (by kernel_rfl)
abbrev ES:Nat:=96
def EF:PC :=
 .seq (.reg [] (
 ⟨some 2,none,.mov,[.k (.d (.int .u8 0))]⟩ ::
 []) [0])
 (.seq (.reg [] (
 ⟨some 3,none,.mov,[.t 0]⟩ ::
 ⟨some 4,none,.iaddrA 16 1,[.k (.d (.ptr [.int .i64 0,.int .i64 0,.int .i64 1,.int .i64 4,.int .i64 2,.int .i64 8,.int .i64 5,.int .i64 10,.int .i64 3,.int .i64 14,.int .i64 9,.int .i64 7,.int .i64 6,.int .i64 13,.int .i64 11,.int .i64 12])),.t 3]⟩ ::
 ⟨some 5,none,.load false 1,[.t 4]⟩ ::
 ⟨some 6,none,.bin .sub,[.k (.d (.int .i64 15)),.t 5]⟩ ::
 ⟨some 7,none,.call 77,[.t 6]⟩ ::
 ⟨some 2,none,.mov,[.t 7]⟩ ::
 []) [2])
 (.ret))
theorem GO:DR E0 ES EF [.t 2] 8:=AP (fl:=[]) (by kernel_rfl)
abbrev E8:Nat:=97
def GE:PC :=
 .seq (.reg [] (
 ⟨some 8,none,.mov,[.t 1]⟩ ::
 ⟨some 9,none,.len false,[.t 8]⟩ ::
 ⟨some 10,none,.mov,[.k (.d (.int .i64 0))]⟩ ::
 []) [0,2,8,9,10])
 (.block 0
 (.loop [] [0,2,8,9,10] [900000,900001,900002,901000,901001,901002]
 (.seq (.reg [] (
 ⟨some 11,none,.bin .lss,[.t 10,.t 9]⟩ ::
 []) [0,2,8,9,10,11])
 (.seq (.cond (.t 11)
 (.skip)
 (.exit 0))
 (.seq (.block 1
 (.seq (.reg [] (
 ⟨some 12,none,.mov,[.t 10]⟩ ::
 ⟨some 13,none,.iaddrS 1,[.t 8,.t 10]⟩ ::
 ⟨some 14,none,.load false 1,[.t 13]⟩ ::
 ⟨some 6,none,.mov,[.t 12]⟩ ::
 ⟨some 7,none,.mov,[.t 14]⟩ ::
 []) [0,2,6,7,8,9,10])
 (.draw [] (
 (⟨some 15,none,.mov,[.t 0]⟩,[]) ::
 (⟨some 16,none,.mov,[.t 6]⟩,[]) ::
 (⟨some 17,none,.iaddrS 1,[.t 15,.t 16]⟩,[]) ::
 (⟨some 18,none,.load false 1,[.t 17]⟩,[]) ::
 (⟨some 19,none,.mov,[.t 7]⟩,[]) ::
 (⟨some 20,none,.mov,[.t 2]⟩,[]) ::
 (⟨some 21,none,.call 76,[.t 19,.t 20]⟩,[2,3]) ::
 (⟨some 22,none,.bin .xor,[.t 18,.t 21]⟩,[]) ::
 (⟨some 23,none,.iaddrS 1,[.t 15,.t 16]⟩,[]) ::
 (⟨none,none,.store 1,[.t 23,.t 22]⟩,[]) ::
 []) [0,2,8,9,10])))
 (.reg [] (
 ⟨some 24,none,.bin .add,[.t 10,.k (.d (.int .i64 1))]⟩ ::
 ⟨some 10,none,.mov,[.t 24]⟩ ::
 []) [0,2,8,9,10]))))))
theorem J5:DR E0 E8 GE [] 25:=AP (fl:=[]) (by kernel_rfl)
abbrev Bz:Nat:=98
def Bp:PC :=
 .seq (.reg [] (
 ⟨some 4,none,.mov,[.k (.d (.list true []))]⟩ ::
 []) [0,1])
 (.seq (.reg [] (
 ⟨some 5,none,.mov,[.k (.d (.list true []))]⟩ ::
 []) [0,1,5])
 (.seq (.seq (.reg [] (
 ⟨some 8,none,.mov,[.t 0]⟩ ::
 ⟨some 9,none,.len false,[.t 8]⟩ ::
 ⟨some 10,none,.mov,[.k (.d (.int .i64 0))]⟩ ::
 []) [1,5,8,9,10])
 (.block 0
 (.loop [.own 5 19 89 1] [1,5,8,9,10] [19,900000,900001,901000,901001]
 (.seq (.reg [] (
 ⟨some 11,none,.bin .lss,[.t 10,.t 9]⟩ ::
 []) [1,5,8,9,10,11])
 (.seq (.cond (.t 11)
 (.skip)
 (.exit 0))
 (.seq (.block 1
 (.seq (.reg [] (
 ⟨some 12,none,.iaddrS 1,[.t 8,.t 10]⟩ ::
 ⟨some 13,none,.load false 1,[.t 12]⟩ ::
 ⟨some 7,none,.mov,[.t 13]⟩ ::
 []) [1,5,7,8,9,10])
 (.reg [] (
 ⟨some 14,none,.mov,[.t 5]⟩ ::
 ⟨some 15,none,.mov,[.t 1]⟩ ::
 ⟨some 16,none,.mov,[.t 7]⟩ ::
 ⟨some 17,none,.callv,[.t 15,.t 16]⟩ ::
 ⟨some 18,none,.mkrow 1 (.int .u8 0) 1 [0],[.t 17]⟩ ::
 ⟨some 19,none,.app 89 1 none true,[.t 14,.t 18]⟩ ::
 ⟨some 5,none,.mov,[.t 19]⟩ ::
 []) [1,5,8,9,10])))
 (.reg [] (
 ⟨some 20,none,.bin .add,[.t 10,.k (.d (.int .i64 1))]⟩ ::
 ⟨some 10,none,.mov,[.t 20]⟩ ::
 []) [1,5,8,9,10])))))))
 (.seq (.reg [] (
 ⟨some 21,none,.mov,[.t 5]⟩ ::
 ⟨some 4,none,.mov,[.t 21]⟩ ::
 []) [4])
 (.ret))))
theorem C7:DR E0 Bz Bp [.t 4] 22:=AP (fl:=[]) (by kernel_rfl)
abbrev Ce:Nat:=99
def Ec:PC :=
 .seq (.reg [] (
 ⟨some 3,none,.mov,[.k (.d (.int .u8 0))]⟩ ::
 []) [0,1])
 (.seq (.reg [] (
 ⟨some 4,none,.mov,[.t 0]⟩ ::
 ⟨some 5,none,.load false 1,[.t 1]⟩ ::
 ⟨some 6,none,.len false,[.t 5]⟩ ::
 ⟨some 7,none,.iaddrS 1,[.t 4,.t 6]⟩ ::
 ⟨some 8,none,.load false 1,[.t 7]⟩ ::
 ⟨some 3,none,.mov,[.t 8]⟩ ::
 []) [3])
 (.ret))
theorem HK:DR E0 Ce Ec [.t 3] 9:=AP (fl:=[]) (by kernel_rfl)
abbrev E6:Nat:=100
def Ea:PC :=
 .seq (.reg [] (
 ⟨some 4,none,.mov,[.k (.d (.int .i64 0))]⟩ ::
 []) [0,1])
 (.seq (.seq (.reg [] (
 ⟨some 6,none,.mov,[.t 0]⟩ ::
 ⟨some 7,none,.len false,[.t 6]⟩ ::
 ⟨some 8,none,.mov,[.k (.d (.int .i64 0))]⟩ ::
 []) [0,1,7,8])
 (.block 0
 (.loop [] [0,1,7,8] [900000,900001,901000,901001]
 (.seq (.reg [] (
 ⟨some 9,none,.bin .lss,[.t 8,.t 7]⟩ ::
 []) [0,1,7,8,9])
 (.seq (.cond (.t 9)
 (.skip)
 (.exit 0))
 (.seq (.block 1
 (.seq (.reg [] (
 ⟨some 10,none,.mov,[.t 8]⟩ ::
 ⟨some 5,none,.mov,[.t 10]⟩ ::
 []) [0,1,5,7,8])
 (.seq (.reg [] (
 ⟨some 11,none,.mov,[.t 1]⟩ ::
 ⟨some 12,none,.mov,[.t 0]⟩ ::
 ⟨some 13,none,.mov,[.t 5]⟩ ::
 ⟨some 14,none,.iaddrS 1,[.t 12,.t 13]⟩ ::
 ⟨some 15,none,.load false 1,[.t 14]⟩ ::
 ⟨some 16,none,.bin .eql,[.t 11,.t 15]⟩ ::
 []) [0,1,5,7,8,16])
 (.cond (.t 16)
 (.seq (.reg [] (
 ⟨some 17,none,.mov,[.t 5]⟩ ::
 ⟨some 4,none,.mov,[.t 17]⟩ ::
 []) [4])
 (.ret))
 (.skip)))))
 (.reg [] (
 ⟨some 18,none,.bin .add,[.t 8,.k (.d (.int .i64 1))]⟩ ::
 ⟨some 8,none,.mov,[.t 18]⟩ ::
 []) [0,1,7,8])))))))
 (.seq (.reg [] (
 ⟨some 4,none,.mov,[.k (.d (.int .i64 (-1)))]⟩ ::
 []) [4])
 (.ret)))
theorem HI:DR E0 E6 Ea [.t 4] 19:=AP (fl:=[]) (by kernel_rfl)
abbrev Ws:Nat:=121
end Go.Pw
