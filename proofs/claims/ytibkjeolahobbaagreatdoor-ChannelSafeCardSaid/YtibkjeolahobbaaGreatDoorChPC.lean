/- A part of the proof. -/
import Derived.Test.YtibkjeolahobbaaGreatDoorPwVC
import Derived.Test.YtibkjeolahobbaaGreatDoorProg
import Derived.KernelRfl
set_option linter.all false
open Go Go.Pw Go.Proofs
namespace Go.Pw
set_option maxRecDepth 100000
def G0:Nat->Option (List D):=fun g=>if g=1 then some [.int .u8 1,.int .u8 2,.int .u8 4,.int .u8 8,.int .u8 3,.int .u8 6,.int .u8 12,.int .u8 11,.int .u8 5,.int .u8 10,.int .u8 7,.int .u8 14,.int .u8 15,.int .u8 13,.int .u8 9] else if g=0 then some [.int .i64 0,.int .i64 0,.int .i64 1,.int .i64 4,.int .i64 2,.int .i64 8,.int .i64 5,.int .i64 10,.int .i64 3,.int .i64 14,.int .i64 9,.int .i64 7,.int .i64 6,.int .i64 13,.int .i64 11,.int .i64 12] else none
noncomputable def E0:Cr:=⟨Tryz.prog,G0⟩
theorem Ap:E0.P.follows .mixedOrders=true:=by kernel_rfl
abbrev TL:Nat:=3
abbrev AA (d a:Nat):E6:=⟨some d,none,.mov,[.t a]⟩
abbrev BU (d i a:Nat):E6:=⟨some d,none,.extract i,[.t a]⟩
abbrev AN (d i a:Nat):E6:=⟨some d,none,.faddr i,[.t a]⟩
abbrev AI (d n a:Nat):E6:=⟨some d,none,.load false n,[.t a]⟩
abbrev AP (d:Nat) (n:Int):E6:=⟨some d,none,.mov,[.k (.d (.int .i64 n))]⟩
abbrev BW (d:Nat) (b:Bool):E6:=⟨some d,none,.mov,[.k (.d (.bool b))]⟩
abbrev Bv (d a b:Nat):E6:=⟨some d,none,.pick,[.t a,.k (.d (.bool true)),.t b]⟩
abbrev AD (d:Nat) (o:B') (a:Nat):E6:=⟨some d,none,o,[.t a]⟩
abbrev AB (d:Nat) (o:B') (a b:Nat):E6:=⟨some d,none,o,[.t a,.t b]⟩
abbrev AU (d:Nat) (o:B') (a:Nat) (n:Int):E6:=⟨some d,none,o,[.t a,.k (.d (.int .i64 n))]⟩
abbrev AJ (d:Nat) (o:B') (x:List KF):E6:=⟨some d,none,o,x⟩
abbrev B4 (o:B') (x:List KF):E6:=⟨none,none,o,x⟩
abbrev Br (d c i a:Nat):E6:=⟨some d,some (c,false),.faddr i,[.t a]⟩
abbrev B_ (d c n a:Nat):E6:=⟨some d,some (c,false),.load false n,[.t a]⟩
abbrev CQ (d c:Nat) (o:B') (a:Nat) (n:Int):E6:=⟨some d,some (c,false),o,[.t a,.k (.d (.int .i64 n))]⟩
abbrev AH (d c:Nat) (b:Bool) (o:B') (x:List KF):E6:=⟨some d,some (c,b),o,x⟩
abbrev cV:Nat:=2
abbrev G7:Nat:=3
def GY:PC :=
 .seq (.reg [] (
 AD 2 .box 0::AD 3 .box 1::BW 4 false::[]) [2,3])
 (.seq (.seq (.reg [] (
 AD 18 (.load true 12) 2::AN 19 0 3::AI 20 1 19::AB 21 (.call 9) 18 20::AD 22 (.un .not) 21::AA 23 22::Br 24 23 1 3::B_ 25 23 1 24::AH 26 23 false (.len false) [.t 25]::CQ 27 23 (.bin .gtr) 26 100::Bv 28 23 27::[]) [2,3,28])
 (.cond (.t 28)
 (.seq (.reg [] (
 AJ 29 (.call 10) []::AA 4 29::[]) [4])
 (.ret))
 (.skip)))
 (.seq (.reg [] (
 AD 31 (.load true 12) 2::AN 32 0 3::AI 33 1 32::AB 34 (.call 11) 31 33::AA 30 34::BU 35 0 30::BU 36 1 30::AA 5 35::AA 6 36::[]) [2,3,5,6])
 (.seq (.seq (.reg [] (
 AA 37 6::AU 38 (.bin .neq) 37 0::AA 39 38::AH 40 39 false .mov [.t 5]::AH 41 39 false (.len false) [.t 40]::AH 42 39 false (.load true 12) [.t 2]::AH 43 39 false (.call 12) [.t 42]::AH 44 39 false (.bin .neq) [.t 41,.t 43]::Bv 45 39 44::[]) [2,3,5,45])
 (.cond (.t 45)
 (.seq (.reg [] (
 BW 4 false::[]) [4])
 (.ret))
 (.skip)))
 (.seq (.reg [] (
 AA 46 5::AN 47 1 3::AI 48 1 47::AB 49 (.call 13) 46 48::AA 7 49::[]) [2,3,5,7])
 (.seq (.reg [] (
 AD 51 (.load true 12) 2::AA 52 7::AB 53 (.call 14) 51 52::AA 50 53::BU 54 0 50::BU 55 1 50::BU 56 2 50::AA 8 54::AA 9 55::AA 10 56::[]) [2,3,5,7,8,9,10])
 (.seq (.seq (.reg [] (
 AD 58 (.load true 12) 2::AA 59 7::AB 60 (.call 15) 58 59::AA 57 60::BU 61 0 57::BU 62 1 57::AA 11 61::AA 12 62::[]) [2,3,5,7,8,9,10,11,12])
 (.seq (.reg [] (
 AA 63 12::AD 64 (.un .not) 63::AA 65 64::AH 66 65 false .mov [.t 11]::CQ 67 65 (.bin .neq) 66 0::Bv 68 65 67::[]) [2,3,5,7,8,9,10,12,68])
 (.cond (.t 68)
 (.seq (.reg [] (
 AA 69 12::AA 70 69::AH 71 70 false .mov [.t 10]::CQ 72 70 (.bin .eql) 71 3::Bv 73 70 72::AA 74 73::AH 75 74 true (.call 10) []::AJ 76 .pick [.t 74,.t 75,.k (.d (.bool false))]::AA 4 76::[]) [4])
 (.ret))
 (.skip))))
 (.seq (.seq (.reg [] (
 AA 77 10::AU 78 (.bin .neq) 77 0::AA 79 78::AH 80 79 true .mov [.t 10]::AH 81 79 true (.bin .neq) [.t 80,.k (.d (.int .i64 52))]::AJ 82 .pick [.t 79,.t 81,.k (.d (.bool false))]::AA 83 82::AH 84 83 false .mov [.t 9]::CQ 85 83 (.bin .neq) 84 0::Bv 86 83 85::[]) [2,3,5,7,8,10,86])
 (.cond (.t 86)
 (.seq (.reg [] (
 BW 4 false::[]) [4])
 (.ret))
 (.skip)))
 (.seq (.reg [] (
 AD 87 (.load true 12) 2::AA 88 5::AA 89 7::AJ 90 (.call 16) [.t 87,.t 88,.t 89]::AA 13 90::[]) [2,3,8,10,13])
 (.seq (.reg [] (
 AP 14 0::[]) [2,3,8,10,13,14])
 (.seq (.seq (.reg [] (
 AP 15 0::[]) [2,3,8,10,13,14,15])
 (.block 0
 (.loop [] [2,3,8,10,13,14,15] [2,3,53,90,10053,10090,900000,900001,901000,901001]
 (.seq (.seq (.reg [] (
 AA 91 15::AA 92 13::AD 93 (.len false) 92::AB 94 (.bin .lss) 91 93::[]) [2,3,8,10,13,14,15,94])
 (.cond (.t 94)
 (.skip)
 (.exit 0)))
 (.seq (.block 1
 (.reg [] (
 AA 97 14::AA 98 13::AA 99 15::AB 100 (.iaddrS 1) 98 99::AI 101 1 100::AB 102 (.minmax true) 97 101::AA 14 102::[]) [2,3,8,10,13,14,15]))
 (.reg [] (
 AA 95 15::AU 96 (.bin .add) 95 1::AA 15 96::[]) [2,3,8,10,13,14,15]))))))
 (.seq (.seq (.reg [] (
 AA 103 14::AN 104 6 2::AN 105 0 104::AN 106 1 105::AI 107 1 106::AU 108 (.bin .quo) 107 2::AB 109 (.bin .leq) 103 108::[]) [2,3,8,10,14,109])
 (.cond (.t 109)
 (.seq (.reg [] (
 AA 110 10::AU 111 (.bin .eql) 110 0::AA 112 111::AH 113 112 true .mov [.t 8]::AH 114 112 true (.faddr 0) [.t 3]::AH 115 112 true (.load false 1) [.t 114]::AH 116 112 true (.call 17) [.t 113,.t 115]::AJ 117 .pick [.t 112,.t 116,.k (.d (.bool false))]::AA 118 117::AH 119 118 true (.call 10) []::AJ 120 .pick [.t 118,.t 119,.k (.d (.bool false))]::AA 4 120::[]) [4])
 (.ret))
 (.skip)))
 (.seq (.reg [] (
 AN 122 6 2::AN 123 0 122::AD 124 (.load true 2) 123::AA 125 14::AN 126 6 2::AN 127 0 126::AN 128 0 127::AI 129 1 128::AB 130 (.minmax false) 125 129::AB 131 (.call 18) 124 130::AA 121 131::BU 132 0 121::BU 133 1 121::AA 16 132::AA 17 133::[]) [3,8,10,16,17])
 (.seq (.seq (.reg [] (
 AA 134 17::AU 135 (.bin .neq) 134 0::[]) [3,8,10,16,135])
 (.cond (.t 135)
 (.seq (.reg [] (
 BW 4 false::[]) [4])
 (.ret))
 (.skip)))
 (.seq (.reg [] (
 AA 136 16::AA 137 136::AH 138 137 false .mov [.t 10]::CQ 139 137 (.bin .eql) 138 52::Bv 140 137 139::AA 141 140::AH 142 141 false .mov [.t 8]::Br 143 141 0 3::B_ 144 141 1 143::AH 145 141 false (.call 17) [.t 142,.t 144]::Bv 146 141 145::AA 147 146::AH 148 147 true (.call 10) []::AJ 149 .pick [.t 147,.t 148,.k (.d (.bool false))]::AA 4 149::[]) [4])
 (.ret)))))))))))))))
theorem KW:Cm E0 G7 GY [.t 4] 150:=AK (fl:=[]) (by kernel_rfl)
abbrev W8:Nat:=4
abbrev ND:Nat:=5
abbrev Ke:Nat:=6
abbrev W9:Nat:=7
abbrev W_:Nat:=8
abbrev MY:Nat:=9
def K1:PC :=
 .seq (.reg [] (
 AD 2 .box 0::BW 4 false::[]) [1,2])
 (.seq (.reg [] (
 AD 5 (.load true 12) 2::AD 6 (.call 19) 5::AD 7 (.un .not) 6::AA 8 7::AH 9 8 true (.load true 12) [.t 2]::AH 10 8 true (.call 22) [.t 9]::AH 11 8 true (.bin .eql) [.t 10,.k (.d (.int .i64 0))]::AJ 12 .pick [.t 8,.t 11,.k (.d (.bool false))]::AA 13 12::AH 14 13 true .mov [.t 1]::AH 15 13 true (.len false) [.t 14]::AH 16 13 true (.bin .leq) [.t 15,.k (.d (.int .i64 100))]::AJ 17 .pick [.t 13,.t 16,.k (.d (.bool false))]::AA 18 17::AH 19 18 true .mov [.t 1]::AH 20 18 true (.faddr 6) [.t 2]::AH 21 18 true (.faddr 2) [.t 20]::AH 22 18 true (.load false 1) [.t 21]::AH 23 18 true (.faddr 6) [.t 2]::AH 24 18 true (.faddr 0) [.t 23]::AH 25 18 true (.faddr 0) [.t 24]::AH 26 18 true (.load false 1) [.t 25]::AH 27 18 true (.faddr 6) [.t 2]::AH 28 18 true (.faddr 0) [.t 27]::AH 29 18 true (.faddr 1) [.t 28]::AH 30 18 true (.load false 1) [.t 29]::AH 31 18 true (.bin .sub) [.t 26,.t 30]::AH 32 18 true (.bin .mul) [.t 22,.t 31]::AH 33 18 true (.call 37) [.t 19,.t 32]::AJ 34 .pick [.t 18,.t 33,.k (.d (.bool false))]::AA 4 34::[]) [4])
 (.ret))
theorem P9:Cm E0 MY K1 [.t 4] 35:=AK (fl:=[]) (by kernel_rfl)
abbrev MX:Nat:=10
def K0:PC :=
 .seq (.reg [] (
 BW 0 false::[]) [])
 (.seq (.reg [] (
 AJ 11 (.call 38) []::AA 10 11::BU 12 0 10::BU 13 1 10::AJ 1 (.zero [.int .i64 0,.int .i64 0,.int .i64 0,.int .i64 0,.list true [],.list true [],.int .i64 0,.int .i64 0,.int .i64 0,.list true [],.int .i64 0,.int .i64 0]) []::B4 (.store 12) [.t 1,.t 12]::AA 2 13::[]) [1,2])
 (.seq (.reg [] (
 AD 15 (.load true 12) 1::AJ 16 (.mkrow 1 (.int .i64 0) 1 [0]) [.k (.d (.int .i64 1))]::AB 17 (.call 11) 15 16::AA 14 17::BU 18 0 14::BU 19 1 14::AA 3 18::AA 4 19::[]) [1,2,3,4])
 (.seq (.reg [] (
 AD 21 (.load true 12) 1::AA 22 2::AB 23 (.call 14) 21 22::AA 20 23::BU 24 0 20::BU 25 1 20::BU 26 2 20::AA 5 24::AA 6 25::AA 7 26::[]) [1,2,3,4,5,6,7])
 (.seq (.reg [] (
 AD 28 (.load true 12) 1::AD 29 (.call 31) 28::AA 27 29::BU 30 0 27::BU 31 1 27::AA 8 30::AA 9 31::[]) [2,3,4,5,6,7,8,9])
 (.seq (.reg [] (
 AA 32 4::AU 33 (.bin .eql) 32 0::AA 34 33::AH 35 34 true .mov [.t 7]::AH 36 34 true (.bin .eql) [.t 35,.k (.d (.int .i64 0))]::AJ 37 .pick [.t 34,.t 36,.k (.d (.bool false))]::AA 38 37::AH 39 38 true .mov [.t 9]::AH 40 38 true (.bin .eql) [.t 39,.k (.d (.int .i64 0))]::AJ 41 .pick [.t 38,.t 40,.k (.d (.bool false))]::AA 42 41::AH 43 42 true .mov [.t 3]::AH 44 42 true .mov [.t 2]::AH 45 42 true (.call 17) [.t 43,.t 44]::AJ 46 .pick [.t 42,.t 45,.k (.d (.bool false))]::AA 47 46::AH 48 47 true .mov [.t 5]::AH 49 47 true (.len false) [.t 48]::AH 50 47 true (.bin .eql) [.t 49,.k (.d (.int .i64 1))]::AJ 51 .pick [.t 47,.t 50,.k (.d (.bool false))]::AA 52 51::AH 53 52 true .mov [.t 5]::AH 54 52 true (.iaddrS 1) [.t 53,.k (.d (.int .i64 0))]::AH 55 52 true (.load false 1) [.t 54]::AH 56 52 true (.bin .eql) [.t 55,.k (.d (.int .i64 1))]::AJ 57 .pick [.t 52,.t 56,.k (.d (.bool false))]::AA 58 57::AH 59 58 true .mov [.t 6]::AH 60 58 true (.bin .eql) [.t 59,.k (.d (.int .i64 0))]::AJ 61 .pick [.t 58,.t 60,.k (.d (.bool false))]::AA 62 61::AH 63 62 true .mov [.t 8]::AH 64 62 true (.bin .eql) [.t 63,.k (.d (.int .i64 1))]::AJ 65 .pick [.t 62,.t 64,.k (.d (.bool false))]::AA 0 65::[]) [0])
 (.ret))))))
theorem P8:Cm E0 MX K0 [.t 0] 66:=AK (fl:=[]) (by kernel_rfl)
abbrev KQ:Nat:=11
def I':PC :=
 .seq (.reg [] (
 AD 2 .box 0::AJ 4 .mov [.k (.d (.list true []))]::AP 5 0::[]) [1,2])
 (.seq (.reg [] (
 AD 13 (.load true 12) 2::AD 14 (.call 39) 13::AA 12 14::BU 15 0 12::BU 16 1 12::AA 6 15::AA 7 16::[]) [1,6,7])
 (.seq (.seq (.reg [] (
 AA 17 7::AU 18 (.bin .neq) 17 0::[]) [1,6,7,18])
 (.cond (.t 18)
 (.seq (.reg [] (
 AA 19 7::AJ 4 .mov [.k (.d (.list true []))]::AA 5 19::[]) [4,5])
 (.ret))
 (.skip)))
 (.seq (.reg [] (
 AA 21 6::AD 22 .nilck 21::AN 23 0 22::AN 24 6 23::AD 25 (.load true 3) 24::AA 26 1::AB 27 (.call 40) 25 26::AA 20 27::BU 28 0 20::BU 29 1 20::AA 8 28::AA 7 29::[]) [6,7,8])
 (.seq (.seq (.reg [] (
 AA 30 7::AU 31 (.bin .neq) 30 0::[]) [6,8,31])
 (.cond (.t 31)
 (.seq (.reg [] (
 AJ 4 .mov [.k (.d (.list true []))]::AP 5 51::[]) [4,5])
 (.ret))
 (.skip)))
 (.seq (.reg [] (
 AA 32 6::AD 33 .nilck 32::AN 34 0 33::AN 35 9 34::AI 36 1 35::AD 37 (.call 41) 36::AA 9 37::[]) [6,8,9])
 (.seq (.seq (.reg [] (
 AA 38 6::AA 39 8::AB 40 (.call 42) 38 39::AD 41 (.len false) 40::AP 42 0::[]) [6,9,40,41,42])
 (.block 0
 (.loop [] [6,9,40,41,42] [14,37,40,53,10014,10037,10040]
 (.seq (.reg [] (
 AB 43 (.bin .lss) 42 41::[]) [6,9,40,41,42,43])
 (.seq (.cond (.t 43)
 (.skip)
 (.exit 0))
 (.seq (.block 1
 (.seq (.reg [] (
 AB 44 (.iaddrS 1) 40 42::AI 45 1 44::AA 11 45::[]) [6,9,11,40,41,42])
 (.reg [] (
 AA 46 9::AA 47 6::AA 48 11::AD 49 .nilck 47::AN 50 12 49::AB 51 (.iaddrA 16 1) 50 48::AI 52 1 51::AB 53 (.app 3 1 none true) 46 52::AA 9 53::[]) [6,9,40,41,42])))
 (.reg [] (
 AU 54 (.bin .add) 42 1::AA 42 54::[]) [6,9,40,41,42])))))))
 (.seq (.reg [] (
 AA 55 9::AA 4 55::AP 5 0::[]) [4,5])
 (.ret))))))))
theorem N_:Cm E0 KQ I' [.t 4,.t 5] 56:=AK (fl:=[]) (by kernel_rfl)
abbrev MT:Nat:=12
def Kw:PC :=
 .seq (.reg [] (
 AD 1 .box 0::AP 2 0::[]) [1])
 (.seq (.draw [] (
 (AN 3 9 1,[])::(AI 4 1 3,[])::(AD 5 (.len false) 4,[])::(AD 6 (.load true 12) 1,[])::(AD 7 (.call 29) 6,[1,2])::(AD 8 (.load true 12) 1,[4])::(AD 9 (.call 28) 8,[1,2])::(AB 10 (.bin .mul) 7 9,[])::(AB 11 (.bin .add) 5 10,[])::(AA 2 11,[])::[]) [2])
 (.ret))
theorem P4:Cm E0 MT Kw [.t 2] 12:=AK (fl:=[]) (by kernel_rfl)
abbrev KI:Nat:=13
def I0:PC :=
 .seq (.reg [] (
 AJ 4 .mov [.k (.d (.list true []))]::[]) [0,1])
 (.seq (.reg [] (
 AJ 7 (.mkrow 1 (.int .i64 0) 0 []) []::AA 8 0::AB 9 (.app 3 1 none true) 7 8::AA 5 9::[]) [1,5])
 (.seq (.seq (.reg [] (
 AP 6 0::[]) [1,5,6])
 (.block 0
 (.loop [] [1,5,6] [9,900001,901001]
 (.seq (.seq (.reg [] (
 AA 10 6::AA 11 1::AD 12 (.len false) 11::AB 13 (.bin .lss) 10 12::[]) [1,5,6,13])
 (.cond (.t 13)
 (.skip)
 (.exit 0)))
 (.seq (.block 1
 (.seq (.reg [] (
 AA 16 1::AA 17 6::AB 18 (.iaddrS 1) 16 17::AI 19 1 18::AU 20 (.bin .geq) 19 0::AA 21 20::AH 22 21 true .mov [.t 1]::AH 23 21 true .mov [.t 6]::AH 24 21 true (.iaddrS 1) [.t 22,.t 23]::AH 25 21 true (.load false 1) [.t 24]::AH 26 21 true .mov [.t 5]::AH 27 21 true (.len false) [.t 26]::AH 28 21 true (.bin .lss) [.t 25,.t 27]::AJ 29 .pick [.t 21,.t 28,.k (.d (.bool false))]::[]) [1,5,6,29])
 (.cond (.t 29)
 (.draw [] (
 (AA 30 5,[])::(AA 31 1,[])::(AA 32 6,[])::(AB 33 (.iaddrS 1) 31 32,[])::(AI 34 1 33,[])::(AA 35 5,[])::(AA 36 1,[])::(AA 37 6,[])::(AB 38 (.iaddrS 1) 36 37,[])::(AI 39 1 38,[])::(AB 40 (.iaddrS 1) 35 39,[])::(AI 41 1 40,[])::(AJ 42 (.bin .sub) [.k (.d (.int .i64 1)),.t 41],[])::(AB 43 (.iaddrS 1) 30 34,[])::(B4 (.store 1) [.t 43,.t 42],[])::[]) [1,5,6])
 (.skip))))
 (.reg [] (
 AA 14 6::AU 15 (.bin .add) 14 1::AA 6 15::[]) [1,5,6]))))))
 (.seq (.reg [] (
 AA 44 5::AA 4 44::[]) [4])
 (.ret))))
theorem Nz:Cm E0 KI I0 [.t 4] 45:=AK (fl:=[]) (by kernel_rfl)
abbrev Lg:Nat:=14
def J_:PC :=
 .seq (.reg [] (
 AD 2 .box 0::AJ 4 .mov [.k (.d (.list true []))]::AP 5 0::AP 6 0::[]) [1,2])
 (.seq (.reg [] (
 AD 11 (.load true 12) 2::AD 12 (.call 39) 11::AA 10 12::BU 13 0 10::BU 14 1 10::AA 7 13::AA 6 14::[]) [1,6,7])
 (.seq (.seq (.reg [] (
 AA 15 6::AU 16 (.bin .neq) 15 0::[]) [1,6,7,16])
 (.cond (.t 16)
 (.seq (.reg [] (
 AA 17 6::AJ 4 .mov [.k (.d (.list true []))]::AP 5 0::AA 6 17::[]) [4,5,6])
 (.ret))
 (.skip)))
 (.seq (.seq (.reg [] (
 AA 18 1::AD 19 (.call 43) 18::AD 20 (.un .not) 19::[]) [1,7,20])
 (.cond (.t 20)
 (.seq (.reg [] (
 AJ 4 .mov [.k (.d (.list true []))]::AP 5 0::AP 6 131::[]) [4,5,6])
 (.ret))
 (.skip)))
 (.seq (.reg [] (
 AA 22 7::AA 23 1::AB 24 (.call 44) 22 23::AA 21 24::BU 25 0 21::BU 26 1 21::BU 27 2 21::AA 5 25::AA 8 26::AA 9 27::[]) [5,7,8,9])
 (.seq (.seq (.reg [] (
 AA 28 9::AD 29 (.un .not) 28::[]) [5,7,8,29])
 (.cond (.t 29)
 (.seq (.reg [] (
 AJ 4 .mov [.k (.d (.list true []))]::AP 5 0::AP 6 3::[]) [4,5,6])
 (.ret))
 (.skip)))
 (.seq (.seq (.reg [] (
 AA 31 7::AA 32 8::AB 33 (.call 45) 31 32::AA 30 33::BU 34 0 30::BU 35 1 30::AA 4 34::AA 6 35::[]) [4,5,6])
 (.seq (.reg [] (
 AA 36 6::AU 37 (.bin .neq) 36 0::[]) [4,5,6,37])
 (.cond (.t 37)
 (.seq (.reg [] (
 AA 38 6::AJ 4 .mov [.k (.d (.list true []))]::AP 5 0::AA 6 38::[]) [4,5,6])
 (.ret))
 (.skip))))
 (.seq (.reg [] (
 AA 39 4::AA 40 5::AA 4 39::AA 5 40::AP 6 0::[]) [4,5,6])
 (.ret))))))))
theorem PH:Cm E0 Lg J_ [.t 4,.t 5,.t 6] 41:=AK (fl:=[]) (by kernel_rfl)
abbrev OY:Nat:=15
def MG:PC :=
 .seq (.reg [] (
 AD 2 .box 0::AP 4 0::BW 5 false::[]) [1,2])
 (.seq (.seq (.reg [] (
 AP 6 0::[]) [1,2,6])
 (.block 0
 (.loop [] [1,2,6] [2,900000,900001,901000,901001]
 (.seq (.seq (.reg [] (
 AA 7 6::AD 8 (.load true 12) 2::AD 9 (.call 12) 8::AB 10 (.bin .add) 7 9::AA 11 1::AD 12 (.len false) 11::AB 13 (.bin .leq) 10 12::[]) [1,2,6,13])
 (.cond (.t 13)
 (.skip)
 (.exit 0)))
 (.seq (.block 1
 (.seq (.draw [] (
 (AN 16 9 2,[])::(AI 17 1 16,[])::(AA 18 1,[])::(AA 19 6,[])::(AJ 20 (.call 46) [.t 17,.t 18,.t 19],[])::(AN 21 11 2,[])::(AI 22 1 21,[4])::(AB 23 (.bin .leq) 20 22,[])::[]) [1,2,6,23])
 (.cond (.t 23)
 (.seq (.reg [] (
 AA 24 6::AA 4 24::BW 5 true::[]) [4,5])
 (.ret))
 (.skip))))
 (.reg [] (
 AA 14 6::AU 15 (.bin .add) 14 1::AA 6 15::[]) [1,2,6]))))))
 (.seq (.reg [] (
 AP 4 0::BW 5 false::[]) [4,5])
 (.ret)))
theorem RS:Cm E0 OY MG [.t 4,.t 5] 25:=AK (fl:=[]) (by kernel_rfl)
abbrev KJ:Nat:=16
def I1:PC :=
 .seq (.reg [] (
 AD 3 .box 0::AJ 6 .mov [.k (.d (.list true []))]::[]) [1,2,3])
 (.seq (.reg [] (
 AN 10 6 3::AN 11 2 10::AI 12 1 11::AB 13 (.mksl 3 1 (.int .i64 0) true) 12 12::AA 7 13::[]) [1,2,3,7])
 (.seq (.seq (.reg [] (
 AP 8 0::[]) [1,2,3,7,8])
 (.block 0
 (.loop [] [1,2,3,7,8] [3,13,900000,900001,900002,901000,901001,901002]
 (.seq (.seq (.reg [] (
 AA 14 8::AD 15 (.load true 12) 3::AD 16 (.call 29) 15::AB 17 (.bin .lss) 14 16::[]) [1,2,3,7,8,17])
 (.cond (.t 17)
 (.skip)
 (.exit 0)))
 (.seq (.block 1
 (.seq (.draw [] (
 (AN 20 9 3,[])::(AI 21 1 20,[])::(AD 22 (.len false) 21,[])::(AA 23 8,[])::(AD 24 (.load true 12) 3,[])::(AD 25 (.call 28) 24,[1,2])::(AB 26 (.bin .mul) 23 25,[])::(AB 27 (.bin .add) 22 26,[])::(AA 9 27,[])::[]) [1,2,3,7,8,9])
 (.seq (.draw [] (
 (AA 28 1,[])::(AA 29 9,[])::(AA 30 9,[])::(AD 31 (.load true 12) 3,[])::(AD 32 (.call 28) 31,[])::(AB 33 (.bin .add) 30 32,[])::(AJ 34 (.slice 1 true true false) [.t 28,.t 29,.t 33],[])::(AA 35 2,[])::(AA 36 9,[])::(AA 37 9,[])::(AD 38 (.load true 12) 3,[4,6])::(AD 39 (.call 28) 38,[6])::(AB 40 (.bin .add) 37 39,[])::(AJ 41 (.slice 1 true true false) [.t 35,.t 36,.t 40],[6])::(AB 42 (.call 17) 34 41,[])::(AD 43 (.un .not) 42,[])::[]) [1,2,3,7,8,43])
 (.cond (.t 43)
 (.reg [] (
 AA 44 7::AA 45 8::AN 46 6 3::AN 47 2 46::AI 48 1 47::AB 49 (.bin .rem) 45 48::AB 50 (.iaddrS 1) 44 49::AI 51 1 50::AU 52 (.bin .add) 51 1::AB 53 (.iaddrS 1) 44 49::B4 (.store 1) [.t 53,.t 52]::[]) [1,2,3,7,8])
 (.skip)))))
 (.reg [] (
 AA 18 8::AU 19 (.bin .add) 18 1::AA 8 19::[]) [1,2,3,7,8]))))))
 (.seq (.reg [] (
 AA 54 7::AA 6 54::[]) [6])
 (.ret))))
theorem N0:Cm E0 KJ I1 [.t 6] 55:=AK (fl:=[]) (by kernel_rfl)
abbrev OX:Nat:=17
def MF:PC :=
 .seq (.reg [] (
 BW 4 false::[]) [0,1])
 (.seq (.seq (.reg [] (
 AP 5 0::[]) [0,1,5])
 (.block 0
 (.loop [] [0,1,5] [900000,900001,901000,901001]
 (.seq (.seq (.reg [] (
 AA 6 5::AA 7 0::AD 8 (.len false) 7::AB 9 (.bin .lss) 6 8::AA 10 9::AH 11 10 true .mov [.t 5]::AH 12 10 true .mov [.t 1]::AH 13 10 true (.len false) [.t 12]::AH 14 10 true (.bin .lss) [.t 11,.t 13]::AJ 15 .pick [.t 10,.t 14,.k (.d (.bool false))]::[]) [0,1,5,15])
 (.cond (.t 15)
 (.skip)
 (.exit 0)))
 (.seq (.block 1
 (.seq (.draw [] (
 (AA 18 0,[])::(AA 19 5,[])::(AB 20 (.iaddrS 1) 18 19,[])::(AI 21 1 20,[])::(AA 22 1,[])::(AA 23 5,[])::(AB 24 (.iaddrS 1) 22 23,[])::(AI 25 1 24,[])::(AB 26 (.bin .neq) 21 25,[])::[]) [0,1,5,26])
 (.cond (.t 26)
 (.seq (.reg [] (
 BW 4 false::[]) [4])
 (.ret))
 (.skip))))
 (.reg [] (
 AA 16 5::AU 17 (.bin .add) 16 1::AA 5 17::[]) [0,1,5]))))))
 (.seq (.reg [] (
 AA 27 0::AD 28 (.len false) 27::AA 29 1::AD 30 (.len false) 29::AB 31 (.bin .eql) 28 30::AA 4 31::[]) [4])
 (.ret)))
theorem RR:Cm E0 OX MF [.t 4] 32:=AK (fl:=[]) (by kernel_rfl)
abbrev JU:Nat:=18
def H6:PC :=
 .seq (.reg [] (
 AD 2 .box 0::BW 4 false::AP 5 0::[]) [1,2])
 (.seq (.seq (.reg [] (
 AD 7 (.load true 2) 2::AD 8 (.call 47) 7::AA 6 8::[]) [1,2,6])
 (.seq (.reg [] (
 AA 9 6::AU 10 (.bin .neq) 9 0::[]) [1,2,6,10])
 (.cond (.t 10)
 (.seq (.reg [] (
 AA 11 6::BW 4 false::AA 5 11::[]) [4,5])
 (.ret))
 (.skip))))
 (.seq (.seq (.reg [] (
 AA 12 1::AU 13 (.bin .lss) 12 0::AA 14 13::AH 15 14 false .mov [.t 1]::Br 16 14 0 2::B_ 17 14 1 16::AH 18 14 false (.bin .gtr) [.t 15,.t 17]::Bv 19 14 18::[]) [1,2,19])
 (.cond (.t 19)
 (.seq (.reg [] (
 BW 4 false::AP 5 1::[]) [4,5])
 (.ret))
 (.skip)))
 (.seq (.reg [] (
 AA 20 1::AN 21 1 2::AI 22 1 21::AU 23 (.bin .quo) 22 2::AB 24 (.bin .add) 20 23::AN 25 1 2::AI 26 1 25::AB 27 (.bin .gtr) 24 26::AA 4 27::AP 5 0::[]) [4,5])
 (.ret))))
theorem Mt:Cm E0 JU H6 [.t 4,.t 5] 28:=AK (fl:=[]) (by kernel_rfl)
abbrev Pp:Nat:=19
def NZ:PC :=
 .seq (.reg [] (
 AD 1 .box 0::BW 2 false::[]) [1])
 (.seq (.reg [] (
 AN 3 0 1::AD 4 (.load true 6) 3::AD 5 (.call 48) 4::AA 6 5::Br 7 6 9 1::B_ 8 6 1 7::AH 9 6 false (.len false) [.t 8]::CQ 10 6 (.bin .gtr) 9 40::Bv 11 6 10::AA 12 11::Br 13 12 6 1::Br 14 12 2 13::B_ 15 12 1 14::CQ 16 12 (.bin .gtr) 15 8::Bv 17 12 16::AA 18 17::Br 19 18 6 1::Br 20 18 0 19::Br 21 18 0 20::B_ 22 18 1 21::CQ 23 18 (.bin .gtr) 22 15::Bv 24 18 23::AA 25 24::AH 26 25 false (.load true 12) [.t 1]::AH 27 25 false (.call 22) [.t 26]::CQ 28 25 (.bin .eql) 27 0::AH 29 25 false .mov [.t 28]::AH 30 29 true (.load true 12) [.t 1]::AH 31 29 true (.call 29) [.t 30]::AH 32 29 true (.bin .gtr) [.t 31,.k (.d (.int .i64 8))]::AH 33 25 false .pick [.t 29,.t 32,.k (.d (.bool false))]::Bv 34 25 33::AA 2 34::[]) [2])
 (.ret))
theorem SO:Cm E0 Pp NZ [.t 2] 35:=AK (fl:=[]) (by kernel_rfl)
abbrev Un:Nat:=20
abbrev ci:Nat:=21
abbrev MU:Nat:=22
def Kx:PC :=
 .seq (.reg [] (
 AD 1 .box 0::AP 2 0::[]) [1])
 (.seq (.seq (.reg [] (
 AN 5 0 1::AD 6 (.load true 6) 5::AD 7 (.call 50) 6::AU 8 (.bin .neq) 7 0::AA 9 8::Br 10 9 6 1::AH 11 9 false (.load true 3) [.t 10]::AH 12 9 false (.call 51) [.t 11]::CQ 13 9 (.bin .neq) 12 0::Bv 14 9 13::AA 15 14::AH 16 15 false (.load true 12) [.t 1]::AH 17 15 false (.call 29) [.t 16]::CQ 18 15 (.bin .gtr) 17 32::Bv 19 15 18::AA 20 19::Br 21 20 9 1::B_ 22 20 1 21::AH 23 20 false (.call 52) [.t 22]::AH 24 20 false (.un .not) [.t 23]::Bv 25 20 24::AA 26 25::Br 27 26 10 1::B_ 28 26 1 27::AH 29 26 false (.call 53) [.t 28,.k (.d (.int .i64 1)),.k (.d (.int .i64 127))]::AH 30 26 false (.un .not) [.t 29]::Bv 31 26 30::AA 32 31::Br 33 32 11 1::B_ 34 32 1 33::AH 35 32 false (.call 53) [.t 34,.k (.d (.int .i64 0)),.k (.d (.int .i64 16))]::AH 36 32 false (.un .not) [.t 35]::Bv 37 32 36::[]) [1,37])
 (.cond (.t 37)
 (.seq (.reg [] (
 AP 2 130::[]) [2])
 (.ret))
 (.skip)))
 (.seq (.seq (.reg [] (
 AP 3 0::[]) [1,3])
 (.block 0
 (.loop [] [1,3] [1,900000,901000]
 (.seq (.seq (.reg [] (
 AA 38 3::AU 39 (.bin .lss) 38 16::[]) [1,3,39])
 (.cond (.t 39)
 (.skip)
 (.exit 0)))
 (.seq (.block 1
 (.seq (.reg [] (
 AP 4 0::[]) [1,3,4])
 (.block 2
 (.loop [] [1,3,4] [1,900000,901000]
 (.seq (.seq (.reg [] (
 AA 42 4::AA 43 3::AB 44 (.bin .lss) 42 43::[]) [1,3,4,44])
 (.cond (.t 44)
 (.skip)
 (.exit 2)))
 (.seq (.block 3
 (.seq (.draw [] (
 (AD 47 (.load true 12) 1,[])::(AA 48 3,[])::(AB 49 (.call 54) 47 48,[])::(AD 50 (.load true 12) 1,[2])::(AA 51 4,[])::(AB 52 (.call 54) 50 51,[])::(AB 53 (.call 17) 49 52,[])::[]) [1,3,4,53])
 (.cond (.t 53)
 (.seq (.reg [] (
 AP 2 130::[]) [2])
 (.ret))
 (.skip))))
 (.reg [] (
 AA 45 4::AU 46 (.bin .add) 45 1::AA 4 46::[]) [1,3,4])))))))
 (.reg [] (
 AA 40 3::AU 41 (.bin .add) 40 1::AA 3 41::[]) [1,3]))))))
 (.seq (.reg [] (
 AP 2 0::[]) [2])
 (.ret))))
theorem P5:Cm E0 MU Kx [.t 2] 54:=AK (fl:=[]) (by kernel_rfl)
abbrev g8:Nat:=23
abbrev lV:Nat:=24
abbrev hZ:Nat:=25
abbrev lT:Nat:=26
abbrev Lh:Nat:=27
def J':PC :=
 .seq (.reg [] (
 AD 1 .box 0::AP 2 0::AP 3 0::[]) [1])
 (.seq (.reg [] (
 AD 12 (.load true 12) 1::AD 13 (.call 39) 12::AA 11 13::BU 14 0 11::BU 15 1 11::AA 4 14::AA 5 15::[]) [4,5])
 (.seq (.seq (.reg [] (
 AA 16 5::AU 17 (.bin .neq) 16 0::[]) [4,5,17])
 (.cond (.t 17)
 (.seq (.reg [] (
 AA 18 5::AP 2 0::AA 3 18::[]) [2,3])
 (.ret))
 (.skip)))
 (.seq (.reg [] (
 AA 19 4::AD 20 (.call 61) 19::AA 6 20::[]) [4,6])
 (.seq (.seq (.reg [] (
 AA 21 4::AD 22 .nilck 21::AN 23 12 22::AD 24 (.load true 16) 23::AP 25 0::[]) [4,6,24,25])
 (.block 0
 (.loop [] [4,6,24,25] [13,20,10013,10020]
 (.seq (.reg [] (
 AU 26 (.bin .lss) 25 16::[]) [4,6,24,25,26])
 (.seq (.cond (.t 26)
 (.skip)
 (.exit 0))
 (.seq (.block 1
 (.seq (.reg [] (
 AA 27 25::AB 28 (.index 16 1 false) 24 25::AA 7 27::AA 8 28::[]) [4,6,7,8,24,25])
 (.seq (.reg [] (
 AA 29 4::AD 30 .nilck 29::AN 31 12 30::AA 32 7::AJ 33 (.slice 1 true true true) [.t 31,.t 32,.k (.d (.int .i64 16))]::AD 34 (.len false) 33::AP 35 0::[]) [4,6,8,24,25,33,34,35])
 (.block 2
 (.loop [] [4,6,8,24,25,33,34,35] [13,20,10013,10020]
 (.seq (.reg [] (
 AB 36 (.bin .lss) 35 34::[]) [4,6,8,24,25,33,34,35,36])
 (.seq (.cond (.t 36)
 (.skip)
 (.exit 2))
 (.seq (.block 3
 (.seq (.reg [] (
 AB 37 (.iaddrS 1) 33 35::AI 38 1 37::AA 10 38::[]) [4,6,8,10,24,25,33,34,35])
 (.reg [] (
 AA 39 6::AA 40 8::AA 41 10::AB 42 (.call 62) 40 41::AB 43 (.minmax false) 39 42::AA 6 43::[]) [4,6,8,24,25,33,34,35])))
 (.reg [] (
 AU 44 (.bin .add) 35 1::AA 35 44::[]) [4,6,8,24,25,33,34,35])))))))))
 (.reg [] (
 AU 45 (.bin .add) 25 1::AA 25 45::[]) [4,6,24,25])))))))
 (.seq (.reg [] (
 AA 46 6::AA 2 46::AP 3 0::[]) [2,3])
 (.ret))))))
theorem PI:Cm E0 Lh J' [.t 2,.t 3] 47:=AK (fl:=[]) (by kernel_rfl)
abbrev OW:Nat:=28
def ME:PC :=
 .seq (.reg [] (
 AD 1 .box 0::AP 2 0::[]) [1])
 (.seq (.draw [] (
 (AN 3 0 1,[])::(AN 4 0 3,[])::(AI 5 1 4,[])::(AJ 6 (.bin .quo) [.k (.d (.int .i64 4)),.t 5],[])::(AN 7 0 1,[])::(AN 8 1 7,[])::(AI 9 1 8,[])::(AB 10 (.bin .mul) 6 9,[])::(AA 2 10,[])::[]) [2])
 (.ret))
theorem RQ:Cm E0 OW ME [.t 2] 11:=AK (fl:=[]) (by kernel_rfl)
abbrev KG:Nat:=29
def Iy:PC :=
 .seq (.reg [] (
 AD 1 .box 0::AP 2 0::[]) [1])
 (.seq (.reg [] (
 AN 3 6 1::AN 4 2 3::AI 5 1 4::AN 6 6 1::AN 7 0 6::AN 8 0 7::AI 9 1 8::AB 10 (.bin .mul) 5 9::AA 2 10::[]) [2])
 (.ret))
theorem Nx:Cm E0 KG Iy [.t 2] 11:=AK (fl:=[]) (by kernel_rfl)
abbrev Um:Nat:=30
abbrev KT:Nat:=31
def JB:PC :=
 .seq (.reg [] (
 AD 1 .box 0::AP 2 0::AP 3 0::[]) [1])
 (.seq (.reg [] (
 AD 9 (.load true 12) 1::AD 10 (.call 39) 9::AA 8 10::BU 11 0 8::BU 12 1 8::AA 4 11::AA 5 12::[]) [4,5])
 (.seq (.seq (.reg [] (
 AA 13 5::AU 14 (.bin .neq) 13 0::[]) [4,5,14])
 (.cond (.t 14)
 (.seq (.reg [] (
 AA 15 5::AP 2 0::AA 3 15::[]) [2,3])
 (.ret))
 (.skip)))
 (.seq (.reg [] (
 AA 16 4::AD 17 .nilck 16::AN 18 0 17::AN 19 9 18::AI 20 1 19::AD 21 (.len false) 20::AA 6 21::[]) [4,6])
 (.seq (.seq (.reg [] (
 AP 7 1::[]) [4,6,7])
 (.block 0
 (.loop [] [4,6,7] [10,10010]
 (.seq (.seq (.draw [] (
 (AA 22 7,[])::(AA 23 4,[])::(AD 24 .nilck 23,[])::(AN 25 0 24,[])::(AN 26 9 25,[])::(AI 27 1 26,[])::(AD 28 (.len false) 27,[])::(AA 29 4,[])::(AD 30 (.call 55) 29,[5,6])::(AB 31 (.bin .add) 28 30,[])::(AB 32 (.bin .lss) 22 31,[])::[]) [4,6,7,32])
 (.cond (.t 32)
 (.skip)
 (.exit 0)))
 (.seq (.block 1
 (.reg [] (
 AA 35 6::AA 36 4::AA 37 7::AB 38 (.call 63) 36 37::AB 39 (.minmax false) 35 38::AA 6 39::[]) [4,6,7]))
 (.reg [] (
 AA 33 7::AU 34 (.bin .add) 33 1::AA 7 34::[]) [4,6,7]))))))
 (.seq (.reg [] (
 AA 40 6::AA 2 40::AP 3 0::[]) [2,3])
 (.ret))))))
theorem OA:Cm E0 KT JB [.t 2,.t 3] 41:=AK (fl:=[]) (by kernel_rfl)
abbrev SZ:Nat:=32
abbrev KR:Nat:=33
def JA:PC :=
 .seq (.reg [] (
 AD 1 .box 0::AP 2 0::AP 3 0::[]) [1])
 (.seq (.reg [] (
 AD 8 (.load true 12) 1::AD 9 (.call 39) 8::AA 7 9::BU 10 0 7::BU 11 1 7::AA 4 10::AA 5 11::[]) [4,5])
 (.seq (.seq (.reg [] (
 AA 12 5::AU 13 (.bin .neq) 12 0::[]) [4,5,13])
 (.cond (.t 13)
 (.seq (.reg [] (
 AA 14 5::AP 2 0::AA 3 14::[]) [2,3])
 (.ret))
 (.skip)))
 (.seq (.draw [] (
 (AA 15 4,[])::(AD 16 .nilck 15,[])::(AN 17 0 16,[])::(AN 18 6 17,[])::(AN 19 2 18,[])::(AI 20 1 19,[])::(AA 21 4,[])::(AD 22 .nilck 21,[])::(AN 23 0 22,[])::(AN 24 6 23,[])::(AN 25 0 24,[])::(AN 26 1 25,[])::(AI 27 1 26,[])::(AU 28 (.bin .quo) 27 2,[])::(AB 29 (.bin .mul) 20 28,[])::(AA 6 29,[])::[]) [4,6])
 (.seq (.block 0
 (.seq (.reg [] (
 AA 31 6::AU 32 (.bin .eql) 31 0::AA 30 32::[]) [4,6,30])
 (.cond (.t 30)
 (.seq (.reg [] (
 AP 2 0::AP 3 0::[]) [2,3])
 (.ret))
 (.seq (.reg [] (
 AA 34 6::AA 35 4::AD 36 (.call 64) 35::AB 37 (.bin .geq) 34 36::AA 33 37::[]) [4,6,33])
 (.cond (.t 33)
 (.seq (.reg [] (
 AA 38 4::AD 39 (.call 55) 38::AA 2 39::AP 3 0::[]) [2,3])
 (.ret))
 (.skip))))))
 (.seq (.reg [] (
 AA 40 6::AU 41 (.bin .sub) 40 1::AA 42 4::AD 43 (.call 61) 42::AB 44 (.bin .mul) 41 43::AU 45 (.bin .add) 44 1::AA 2 45::AP 3 0::[]) [2,3])
 (.ret))))))
theorem N':Cm E0 KR JA [.t 2,.t 3] 46:=AK (fl:=[]) (by kernel_rfl)
abbrev SY:Nat:=34
abbrev g7:Nat:=35
abbrev lU:Nat:=36
abbrev Hn:Nat:=37
def G2:PC :=
 .seq (.reg [] (
 BW 4 false::[]) [0,1])
 (.seq (.seq (.reg [] (
 AP 5 0::[]) [0,1,5])
 (.block 0
 (.loop [] [0,1,5] [900000,900001,901000,901001]
 (.seq (.seq (.reg [] (
 AA 6 5::AA 7 0::AD 8 (.len false) 7::AB 9 (.bin .lss) 6 8::[]) [0,1,5,9])
 (.cond (.t 9)
 (.skip)
 (.exit 0)))
 (.seq (.block 1
 (.seq (.reg [] (
 AA 12 0::AA 13 5::AB 14 (.iaddrS 1) 12 13::AI 15 1 14::AJ 16 (.call 69) [.t 15,.k (.d (.int .i64 0)),.k (.d (.int .i64 15))]::AD 17 (.un .not) 16::[]) [0,1,5,17])
 (.cond (.t 17)
 (.seq (.reg [] (
 BW 4 false::[]) [4])
 (.ret))
 (.skip))))
 (.reg [] (
 AA 10 5::AU 11 (.bin .add) 10 1::AA 5 11::[]) [0,1,5]))))))
 (.seq (.reg [] (
 AA 18 0::AD 19 (.len false) 18::AA 20 1::AB 21 (.bin .eql) 19 20::AA 4 21::[]) [4])
 (.ret)))
theorem LI:Cm E0 Hn G2 [.t 4] 22:=AK (fl:=[]) (by kernel_rfl)
abbrev KK:Nat:=38
def I2:PC :=
 .seq (.reg [] (
 AJ 0 (.zero [.int .i64 0,.int .i64 0,.int .i64 0,.int .i64 0,.list true [],.list true [],.int .i64 0,.int .i64 0,.int .i64 0,.list true [],.int .i64 0,.int .i64 0]) []::AJ 1 .mov [.k (.d (.list true []))]::[]) [0])
 (.seq (.reg [] (
 AJ 3 (.call 70) []::AJ 4 (.build [.int .i64 0,.int .i64 0] [(0,1),(1,1)]) [.k (.d (.int .i64 3)),.k (.d (.int .i64 2))]::AU 5 (.build [.int .i64 0,.int .i64 0,.int .i64 0] [(0,2),(2,1)]) 4 1::AJ 6 (.mkrow 1 (.int .i64 0) 4 [0,1,2,3]) [.k (.d (.int .i64 1)),.k (.d (.int .i64 1)),.k (.d (.int .i64 1)),.k (.d (.int .i64 0))]::AJ 7 (.build [.int .i64 0,.int .i64 0,.int .i64 0,.int .i64 0,.list true [],.list true [],.int .i64 0,.int .i64 0,.int .i64 0,.list true [],.int .i64 0,.int .i64 0] [(0,6),(6,3),(9,1),(10,1)]) [.t 3,.t 5,.t 6,.k (.d (.int .i64 1))]::AJ 2 (.zero [.int .i64 0,.int .i64 0,.int .i64 0,.int .i64 0,.list true [],.list true [],.int .i64 0,.int .i64 0,.int .i64 0,.list true [],.int .i64 0,.int .i64 0]) []::B4 (.store 12) [.t 2,.t 7]::[]) [0,2])
 (.seq (.reg [] (
 AD 8 (.load true 12) 2::AJ 9 (.mkrowO 3 1 (.int .i64 0) 28 [0,1,2,3,4,5,6,7,8,9,10,11,12,13,14,15,16,17,18,19,20,21,22,23,24,25,26,27]) [.k (.d (.int .i64 1)),.k (.d (.int .i64 1)),.k (.d (.int .i64 1)),.k (.d (.int .i64 0)),.k (.d (.int .i64 1)),.k (.d (.int .i64 0)),.k (.d (.int .i64 1)),.k (.d (.int .i64 0)),.k (.d (.int .i64 1)),.k (.d (.int .i64 0)),.k (.d (.int .i64 0)),.k (.d (.int .i64 1)),.k (.d (.int .i64 1)),.k (.d (.int .i64 0)),.k (.d (.int .i64 1)),.k (.d (.int .i64 0)),.k (.d (.int .i64 1)),.k (.d (.int .i64 0)),.k (.d (.int .i64 0)),.k (.d (.int .i64 1)),.k (.d (.int .i64 1)),.k (.d (.int .i64 0)),.k (.d (.int .i64 1)),.k (.d (.int .i64 0)),.k (.d (.int .i64 0)),.k (.d (.int .i64 1)),.k (.d (.int .i64 0)),.k (.d (.int .i64 0))]::B4 (.store 12) [.t 0,.t 8]::AA 1 9::[]) [0,1])
 (.ret)))
theorem N1:Cm E0 KK I2 [.c 0 31 true 12,.t 1] 10:=AK (fl:=[]) (by kernel_rfl)
abbrev Lf:Nat:=39
def C4:PC :=
 .seq (.reg [] (
 AD 1 .box 0::AJ 2 .mov [.k (.d (.nilptr))]::AP 3 0::[]) [1])
 (.seq (.reg [] (
 AD 15 (.load true 12) 1::AD 16 (.build [.int .i64 0,.int .i64 0,.int .i64 0,.int .i64 0,.list true [],.list true [],.int .i64 0,.int .i64 0,.int .i64 0,.list true [],.int .i64 0,.int .i64 0,.list true [],.list true [],.list true [],.list true [],.list true [],.list true [],.list true [],.list true [],.list true [],.list true [],.list true [],.list true [],.list true [],.list true [],.list true [],.list true []] [(0,12)]) 15::AD 17 .box 16::AA 4 17::[]) [1,4])
 (.seq (.reg [] (
 AN 19 6 1::AD 20 (.load true 3) 19::AD 21 (.call 71) 20::AA 18 21::BU 22 0 18::BU 23 1 18::BU 24 2 18::AA 5 22::AA 6 23::AA 7 24::[]) [1,4,7])
 (.seq (.reg [] (
 AN 26 9 1::AI 27 1 26::AJ 28 (.call 72) [.t 27,.k (.d (.list true [])),.k (.d (.int .i64 0))]::AA 25 28::BU 29 0 25::BU 30 1 25::AA 8 29::AA 9 30::[]) [1,4,7,9])
 (.seq (.reg [] (
 AN 32 10 1::AI 33 1 32::AJ 34 (.call 73) [.t 33,.k (.d (.list true []))]::AA 31 34::BU 35 0 31::BU 36 1 31::AA 10 35::AA 11 36::[]) [1,4,7,9,11])
 (.seq (.block 0
 (.seq (.seq (.reg [] (
 AN 38 0 1::AD 39 (.load true 6) 38::AD 40 (.call 74) 39::AU 41 (.bin .neq) 40 0::AA 37 41::[]) [1,4,7,9,11,37])
 (.cond (.t 37)
 (.skip)
 (.seq (.reg [] (
 AA 42 7::AU 43 (.bin .neq) 42 0::AA 37 43::[]) [1,4,9,11,37])
 (.cond (.t 37)
 (.skip)
 (.seq (.reg [] (
 AA 44 9::AU 45 (.bin .neq) 44 0::AA 37 45::[]) [1,4,11,37])
 (.cond (.t 37)
 (.skip)
 (.reg [] (
 AA 46 11::AU 47 (.bin .neq) 46 0::AA 37 47::[]) [1,4,37])))))))
 (.cond (.t 37)
 (.seq (.reg [] (
 AJ 2 .mov [.k (.d (.nilptr))]::AP 3 130::[]) [2,3])
 (.ret))
 (.seq (.seq (.reg [] (
 AA 49 4::AD 50 (.call 64) 49::AU 51 (.bin .gtr) 50 32::AA 48 51::[]) [1,4,48])
 (.cond (.t 48)
 (.skip)
 (.seq (.reg [] (
 AN 52 11 1::AI 53 1 52::AU 54 (.bin .lss) 53 0::AA 48 54::[]) [1,4,48])
 (.cond (.t 48)
 (.skip)
 (.reg [] (
 AN 55 11 1::AI 56 1 55::AU 57 (.bin .gtr) 56 16::AA 48 57::[]) [1,4,48])))))
 (.cond (.t 48)
 (.seq (.reg [] (
 AJ 2 .mov [.k (.d (.nilptr))]::AP 3 130::[]) [2,3])
 (.ret))
 (.skip))))))
 (.seq (.seq (.reg [] (
 AP 58 0::[]) [1,4,58])
 (.block 1
 (.loop [] [1,4,58] [1,17,70,10070,900000,901000]
 (.seq (.reg [] (
 AU 59 (.bin .lss) 58 16::[]) [1,4,58,59])
 (.seq (.cond (.t 59)
 (.skip)
 (.exit 1))
 (.seq (.block 2
 (.seq (.reg [] (
 AA 60 58::AA 12 60::[]) [1,4,12,58])
 (.seq (.draw [] (
 (AA 62 4,[])::(AA 63 12,[])::(AN 64 0 1,[])::(AD 65 (.load true 6) 64,[])::(AN 66 0 1,[])::(AD 67 (.load true 6) 66,[])::(AA 68 12,[])::(AB 69 (.call 76) 67 68,[3])::(AJ 70 (.call 75) [.t 65,.k (.d (.int .i64 0)),.t 69],[])::(AA 61 70,[])::(BU 71 0 61,[])::(BU 72 1 61,[])::(BU 73 2 61,[])::(AD 74 .nilck 62,[])::(AN 75 12 74,[])::(AB 76 (.iaddrA 16 1) 75 63,[])::(B4 (.store 1) [.t 76,.t 71],[])::[]) [1,4,12,58])
 (.seq (.reg [] (
 AA 77 4::AD 78 .nilck 77::AN 79 12 78::AA 80 12::AJ 81 (.slice 1 true true true) [.t 79,.t 80,.k (.d (.int .i64 16))]::AD 82 (.len false) 81::AP 83 0::[]) [1,4,12,58,81,82,83])
 (.block 3
 (.loop [] [1,4,12,58,81,82,83] [1,17,70,10070,900000,901000]
 (.seq (.reg [] (
 AB 84 (.bin .lss) 83 82::[]) [1,4,12,58,81,82,83,84])
 (.seq (.cond (.t 84)
 (.skip)
 (.exit 3))
 (.seq (.block 4
 (.seq (.reg [] (
 AB 85 (.iaddrS 1) 81 83::AI 86 1 85::AA 14 86::[]) [1,4,12,14,58,81,82,83])
 (.seq (.reg [] (
 AA 87 14::AA 88 4::AA 89 12::AD 90 .nilck 88::AN 91 12 90::AB 92 (.iaddrA 16 1) 91 89::AI 93 1 92::AB 94 (.call 77) 87 93::[]) [1,4,12,58,81,82,83,94])
 (.cond (.t 94)
 (.seq (.reg [] (
 AJ 2 .mov [.k (.d (.nilptr))]::AP 3 130::[]) [2,3])
 (.ret))
 (.skip)))))
 (.reg [] (
 AU 95 (.bin .add) 83 1::AA 83 95::[]) [1,4,12,58,81,82,83]))))))))))
 (.reg [] (
 AU 96 (.bin .add) 58 1::AA 58 96::[]) [1,4,58])))))))
 (.seq (.reg [] (
 AA 97 4::AA 2 97::AP 3 0::[]) [2,3])
 (.ret))))))))
theorem DJ:Cm E0 Lf C4 [.t 2,.t 3] 98:=AK (fl:=[]) (by kernel_rfl)
abbrev JS:Nat:=40
def H5:PC :=
 .seq (.reg [] (
 AD 2 .box 0::AJ 4 .mov [.k (.d (.list true []))]::AP 5 0::[]) [1,2])
 (.seq (.reg [] (
 AD 11 (.load true 3) 2::AA 12 1::AJ 13 (.call 78) [.t 11,.t 12,.k (.fn 79 [])]::AA 10 13::BU 14 0 10::BU 15 1 10::AJ 6 (.zero [.int .i64 0,.int .i64 0,.int .i64 0]) []::B4 (.store 3) [.t 6,.t 14]::AA 7 15::[]) [1,6,7])
 (.seq (.seq (.reg [] (
 AA 16 7::AU 17 (.bin .neq) 16 0::[]) [1,6,7,17])
 (.cond (.t 17)
 (.seq (.reg [] (
 AA 18 7::AJ 4 .mov [.k (.d (.list true []))]::AA 5 18::[]) [4,5])
 (.ret))
 (.skip)))
 (.seq (.reg [] (
 AJ 8 .mov [.k (.d (.list true []))]::[]) [1,6,8])
 (.seq (.seq (.reg [] (
 AN 19 2 6::AI 20 1 19::AP 21 0::[]) [1,6,8,20,21])
 (.block 0
 (.loop [.own 8 33 110 1] [1,6,8,20,21] [6,13,33,10013,900001,901001]
 (.seq (.reg [] (
 AB 22 (.bin .lss) 21 20::[]) [1,6,8,20,21,22])
 (.seq (.cond (.t 22)
 (.skip)
 (.exit 0))
 (.seq (.block 1
 (.seq (.reg [] (
 AA 23 21::AA 9 23::[]) [1,6,8,9,20,21])
 (.draw [] (
 (AA 24 8,[])::(AN 25 0 6,[])::(AD 26 (.load true 2) 25,[])::(AD 27 (.load true 3) 6,[])::(AA 28 1,[])::(AA 29 9,[])::(AJ 30 (.call 81) [.t 27,.t 28,.t 29],[2])::(AB 31 (.call 80) 26 30,[])::(AD 32 (.mkrow 1 (.list true []) 1 [0]) 31,[])::(AB 33 (.app 110 1 none true) 24 32,[])::(AA 8 33,[])::[]) [1,6,8,20,21])))
 (.reg [] (
 AU 34 (.bin .add) 21 1::AA 21 34::[]) [1,6,8,20,21])))))))
 (.seq (.reg [.freeze 8] (
 AD 35 (.load true 3) 6::AA 36 8::AB 37 (.call 82) 35 36::AA 4 37::AP 5 0::[]) [4,5])
 (.ret))))))
theorem Ms:Cm E0 JS H5 [.t 4,.t 5] 38:=AK (fl:=[33]) (by kernel_rfl)
abbrev F3:Nat:=41
def FV:PC :=
 .seq (.reg [] (
 AJ 2 .mov [.k (.d (.list true []))]::[]) [0])
 (.seq (.seq (.reg [] (
 AA 3 0::AJ 4 (.eqnil false) [.t 3,.k (.d (.list true []))]::[]) [0,4])
 (.cond (.t 4)
 (.seq (.reg [] (
 AJ 2 .mov [.k (.d (.list true []))]::[]) [2])
 (.ret))
 (.skip)))
 (.seq (.reg [] (
 AJ 5 (.mkrow 1 (.int .i64 0) 0 []) []::AA 6 0::AB 7 (.app 3 1 none true) 5 6::AA 2 7::[]) [2])
 (.ret)))
theorem IY:Cm E0 F3 FV [.t 2] 8:=AK (fl:=[]) (by kernel_rfl)
abbrev Ev:Nat:=42
abbrev IM:Nat:=43
def HR:PC :=
 .seq (.reg [] (
 BW 2 false::[]) [0])
 (.seq (.reg [] (
 AA 3 0::AD 4 (.len false) 3::AU 5 (.bin .leq) 4 1000::AA 6 5::AH 7 6 true .mov [.t 0]::AH 8 6 true (.call 84) [.t 7,.k (.fn 85 [])]::AH 9 6 true (.un .not) [.t 8]::AJ 10 .pick [.t 6,.t 9,.k (.d (.bool false))]::AA 2 10::[]) [2])
 (.ret))
theorem L6:Cm E0 IM HR [.t 2] 11:=AK (fl:=[]) (by kernel_rfl)
abbrev F_:Nat:=44
def Fa:PC :=
 .seq (.reg [] (
 AD 2 .box 0::AP 4 0::AJ 5 (.zero [.list true []]) []::BW 6 false::[]) [1,2,4,5,6])
 (.seq (.block 0
 (.loop [] [1,2,4,5,6] [2,5,68,900000,900001,901000,901001,5000002,5000005,5000068]
 (.seq (.seq (.draw [] (
 (AA 10 4,[])::(AI 11 1 2,[])::(AD 12 .nilck 11,[])::(AN 13 0 12,[])::(AN 14 9 13,[])::(AI 15 1 14,[])::(AD 16 (.len false) 15,[])::(AB 17 (.bin .add) 10 16,[])::(AI 18 1 2,[])::(AD 19 (.call 55) 18,[1,5,6])::(AB 20 (.bin .add) 17 19,[])::(AA 21 1,[])::(AD 22 (.len false) 21,[9])::(AB 23 (.bin .leq) 20 22,[])::[]) [1,2,4,5,6,23])
 (.cond (.t 23)
 (.skip)
 (.exit 0)))
 (.seq (.block 1
 (.seq (.seq (.draw [] (
 (AI 26 1 2,[])::(AD 27 .nilck 26,[])::(AN 28 0 27,[])::(AN 29 9 28,[])::(AI 30 1 29,[])::(AA 31 1,[])::(AA 32 4,[])::(AB 33 (.slice 1 true false false) 31 32,[0,4])::(AB 34 (.call 62) 30 33,[])::(AI 35 1 2,[7,8])::(AD 36 .nilck 35,[])::(AN 37 0 36,[])::(AN 38 11 37,[])::(AI 39 1 38,[7,8])::(AB 40 (.bin .gtr) 34 39,[])::[]) [1,2,4,5,6,40])
 (.cond (.t 40)
 (.exit 1)
 (.skip)))
 (.seq (.draw [] (
 (AA 41 1,[])::(AA 42 4,[])::(AI 43 1 2,[])::(AD 44 .nilck 43,[])::(AN 45 0 44,[])::(AN 46 9 45,[])::(AI 47 1 46,[])::(AD 48 (.len false) 47,[])::(AB 49 (.bin .add) 42 48,[])::(AB 50 (.slice 1 true false false) 41 49,[])::(AI 51 1 2,[9])::(AD 52 (.call 55) 51,[2,6,7,9])::(AB 53 (.slice 1 false true false) 50 52,[])::(AA 7 53,[])::[]) [1,2,4,5,6,7])
 (.seq (.seq (.reg [] (
 AA 54 7::AI 55 1 2::AD 56 (.call 61) 55::AB 57 (.call 83) 54 56::[]) [1,2,4,5,6,57])
 (.block 2
 (.rngF [] (.t 57) [58] [1,2,4,5,6] [2,5,68,900000,900001,901000,901001,5000002,5000005,5000068]
 (.reg [] (
 AJ 8 (.zero [.list true []]) []::B4 (.store 1) [.t 8,.t 58]::[]) [2,5,8])
 [] [2,5,68,900000,900001,901000,901001,5000002,5000005,5000068]
 (.block 3
 (.seq (.reg [.frzP 8] (
 AD 59 (.mkfn 86) 8::AA 9 59::[]) [2,5,9])
 (.draw [] (
 (AI 60 1 5,[])::(AI 61 1 2,[])::(AD 62 .nilck 61,[])::(AN 63 12 62,[])::(AJ 64 (.slice 1 true true true) [.t 63,.k (.d (.int .i64 16)),.k (.d (.int .i64 16))],[0])::(AA 65 9,[])::(AB 66 (.call 87) 64 65,[0])::(AD 67 (.mkrow 1 (.int .i64 0) 1 [0]) 66,[])::(AB 68 (.app 3 1 none true) 60 67,[])::(B4 (.store 1) [.t 5,.t 68],[])::[]) []))))))
 (.seq (.draw [] (
 (AA 69 4,[])::(AI 70 1 5,[])::(AA 4 69,[])::(B4 (.store 1) [.t 5,.t 70],[])::(BW 6 true,[])::[]) [4,5,6])
 (.ret))))))
 (.reg [] (
 AA 24 4::AU 25 (.bin .add) 24 1::AA 4 25::[]) [1,2,4,5,6])))))
 (.seq (.reg [] (
 AP 4 0::B4 (.store 1) [.t 5,.k (.d (.list true []))]::BW 6 false::[]) [4,5,6])
 (.ret)))
theorem Ie:Cm E0 F_ Fa [.t 4,.c 5 29 false 1,.t 6] 71:=AK (fl:=[68]) (by kernel_rfl)
abbrev FM:Nat:=45
abbrev JQ:Nat:=46
def H3:PC :=
 .seq (.reg [] (
 AP 6 0::[]) [0,1,2])
 (.seq (.reg [] (
 AP 7 0::[]) [0,1,2,7])
 (.seq (.seq (.reg [] (
 AP 8 0::[]) [0,1,2,7,8])
 (.block 0
 (.loop [] [0,1,2,7,8] [900000,900001,900002,901000,901001,901002]
 (.seq (.seq (.reg [] (
 AA 9 8::AA 10 0::AD 11 (.len false) 10::AB 12 (.bin .lss) 9 11::[]) [0,1,2,7,8,12])
 (.cond (.t 12)
 (.skip)
 (.exit 0)))
 (.seq (.block 1
 (.seq (.draw [] (
 (AA 15 0,[])::(AA 16 8,[])::(AB 17 (.iaddrS 1) 15 16,[])::(AI 18 1 17,[])::(AA 19 1,[])::(AA 20 2,[])::(AA 21 8,[])::(AB 22 (.bin .add) 20 21,[])::(AB 23 (.iaddrS 1) 19 22,[])::(AI 24 1 23,[])::(AB 25 (.bin .neq) 18 24,[])::[]) [0,1,2,7,8,25])
 (.cond (.t 25)
 (.reg [] (
 AA 26 7::AU 27 (.bin .add) 26 1::AA 7 27::[]) [0,1,2,7,8])
 (.skip))))
 (.reg [] (
 AA 13 8::AU 14 (.bin .add) 13 1::AA 8 14::[]) [0,1,2,7,8]))))))
 (.seq (.reg [] (
 AA 28 7::AA 6 28::[]) [6])
 (.ret))))
theorem Mq:Cm E0 JQ H3 [.t 6] 29:=AK (fl:=[]) (by kernel_rfl)
abbrev KN:Nat:=47
def I6:PC :=
 .seq (.reg [] (
 AD 1 .box 0::AP 2 0::[]) [1])
 (.seq (.seq (.reg [] (
 AN 3 0 1::AI 4 1 3::AU 5 (.bin .lss) 4 2::AA 6 5::Br 7 6 0 1::B_ 8 6 1 7::CQ 9 6 (.bin .gtr) 8 15::Bv 10 6 9::AA 11 10::Br 12 11 1 1::B_ 13 11 1 12::CQ 14 11 (.bin .lss) 13 1::Bv 15 11 14::AA 16 15::Br 17 16 1 1::B_ 18 16 1 17::CQ 19 16 (.bin .gtr) 18 8::Bv 20 16 19::AA 21 20::Br 22 21 1 1::B_ 23 21 1 22::Br 24 21 0 1::B_ 25 21 1 24::AH 26 21 false (.bin .geq) [.t 23,.t 25]::Bv 27 21 26::[]) [27])
 (.cond (.t 27)
 (.seq (.reg [] (
 AP 2 50::[]) [2])
 (.ret))
 (.skip)))
 (.seq (.reg [] (
 AP 2 0::[]) [2])
 (.ret)))
theorem N5:Cm E0 KN I6 [.t 2] 28:=AK (fl:=[]) (by kernel_rfl)
abbrev Pq:Nat:=48
def Na:PC :=
 .seq (.reg [] (
 AD 1 .box 0::BW 2 false::[]) [1])
 (.seq (.seq (.reg [] (
 AN 5 4 1::AI 6 1 5::AD 7 (.len false) 6::AU 8 (.bin .gtr) 7 20::AA 9 8::Br 10 9 5 1::B_ 11 9 1 10::AH 12 9 false (.len false) [.t 11]::CQ 13 9 (.bin .gtr) 12 20::Bv 14 9 13::[]) [1,14])
 (.cond (.t 14)
 (.seq (.reg [] (
 BW 2 true::[]) [2])
 (.ret))
 (.skip)))
 (.seq (.seq (.reg [] (
 AP 3 0::[]) [1,3])
 (.block 0
 (.loop [] [1,3] [1,900000,901000]
 (.seq (.seq (.reg [] (
 AA 15 3::AN 16 4 1::AI 17 1 16::AD 18 (.len false) 17::AB 19 (.bin .lss) 15 18::[]) [1,3,19])
 (.cond (.t 19)
 (.skip)
 (.exit 0)))
 (.seq (.block 1
 (.seq (.reg [] (
 AN 22 4 1::AI 23 1 22::AA 24 3::AB 25 (.iaddrS 1) 23 24::AI 26 1 25::AD 27 (.len false) 26::AU 28 (.bin .gtr) 27 20::[]) [1,3,28])
 (.cond (.t 28)
 (.seq (.reg [] (
 BW 2 true::[]) [2])
 (.ret))
 (.skip))))
 (.reg [] (
 AA 20 3::AU 21 (.bin .add) 20 1::AA 3 21::[]) [1,3]))))))
 (.seq (.seq (.reg [] (
 AP 4 0::[]) [1,4])
 (.block 2
 (.loop [] [1,4] [1,900000,901000]
 (.seq (.seq (.reg [] (
 AA 29 4::AN 30 5 1::AI 31 1 30::AD 32 (.len false) 31::AB 33 (.bin .lss) 29 32::[]) [1,4,33])
 (.cond (.t 33)
 (.skip)
 (.exit 2)))
 (.seq (.block 3
 (.seq (.reg [] (
 AN 36 5 1::AI 37 1 36::AA 38 4::AB 39 (.iaddrS 1) 37 38::AI 40 1 39::AD 41 (.len false) 40::AU 42 (.bin .gtr) 41 20::[]) [1,4,42])
 (.cond (.t 42)
 (.seq (.reg [] (
 BW 2 true::[]) [2])
 (.ret))
 (.skip))))
 (.reg [] (
 AA 34 4::AU 35 (.bin .add) 34 1::AA 4 35::[]) [1,4]))))))
 (.seq (.reg [] (
 BW 2 false::[]) [2])
 (.ret)))))
theorem SP:Cm E0 Pq Na [.t 2] 43:=AK (fl:=[]) (by kernel_rfl)
abbrev OZ:Nat:=49
def MH:PC :=
 .seq (.reg [] (
 AD 1 .box 0::AJ 2 (.zero [.int .i64 0,.int .i64 0,.int .i64 0,.int .i64 0,.list true [],.list true []]) []::[]) [1,2])
 (.seq (.reg [] (
 AD 6 (.load true 6) 1::AJ 3 (.zero [.int .i64 0,.int .i64 0,.int .i64 0,.int .i64 0,.list true [],.list true []]) []::B4 (.store 6) [.t 3,.t 6]::[]) [1,2,3])
 (.seq (.reg [] (
 AN 7 4 3::B4 (.store 1) [.t 7,.k (.d (.list true []))]::AN 8 5 3::B4 (.store 1) [.t 8,.k (.d (.list true []))]::[]) [1,2,3])
 (.seq (.seq (.reg [] (
 AP 4 0::[]) [1,2,3,4])
 (.block 0
 (.loop [.ownC 3 4 26 29 1] [1,2,3,4] [1,2,3,26,45,900000,901000]
 (.seq (.seq (.reg [] (
 AA 9 4::AN 10 4 1::AI 11 1 10::AD 12 (.len false) 11::AB 13 (.bin .lss) 9 12::[]) [1,2,3,4,13])
 (.cond (.t 13)
 (.skip)
 (.exit 0)))
 (.seq (.block 1
 (.draw [] (
 (AN 16 4 3,[])::(AI 17 1 16,[])::(AJ 18 (.mkrow 1 (.int .i64 0) 0 []) [],[])::(AN 19 4 1,[])::(AI 20 1 19,[])::(AA 21 4,[])::(AB 22 (.iaddrS 1) 20 21,[])::(AI 23 1 22,[])::(AB 24 (.app 3 1 none false) 18 23,[1])::(AD 25 (.mkrow 1 (.list true []) 1 [0]) 24,[])::(AB 26 (.app 29 1 none true) 17 25,[])::(AN 27 4 3,[])::(B4 (.store 1) [.t 27,.t 26],[])::[]) [1,2,3,4]))
 (.reg [] (
 AA 14 4::AU 15 (.bin .add) 14 1::AA 4 15::[]) [1,2,3,4]))))))
 (.seq (.seq (.reg [] (
 AP 5 0::[]) [1,2,3,5])
 (.block 2
 (.loop [.ownC 3 5 45 29 1] [1,2,3,5] [1,2,3,26,45,900000,901000]
 (.seq (.seq (.reg [] (
 AA 28 5::AN 29 5 1::AI 30 1 29::AD 31 (.len false) 30::AB 32 (.bin .lss) 28 31::[]) [1,2,3,5,32])
 (.cond (.t 32)
 (.skip)
 (.exit 2)))
 (.seq (.block 3
 (.draw [] (
 (AN 35 5 3,[])::(AI 36 1 35,[])::(AJ 37 (.mkrow 1 (.int .i64 0) 0 []) [],[])::(AN 38 5 1,[])::(AI 39 1 38,[])::(AA 40 5,[])::(AB 41 (.iaddrS 1) 39 40,[])::(AI 42 1 41,[])::(AB 43 (.app 3 1 none false) 37 42,[1])::(AD 44 (.mkrow 1 (.list true []) 1 [0]) 43,[])::(AB 45 (.app 29 1 none true) 36 44,[])::(AN 46 5 3,[])::(B4 (.store 1) [.t 46,.t 45],[])::[]) [1,2,3,5]))
 (.reg [] (
 AA 33 5::AU 34 (.bin .add) 33 1::AA 5 34::[]) [1,2,3,5]))))))
 (.seq (.reg [] (
 AD 47 (.load true 6) 3::B4 (.store 6) [.t 2,.t 47]::[]) [2])
 (.ret))))))
theorem RU:Cm E0 OZ MH [.c 2 24 true 6] 48:=AK (fl:=[26,45]) (by kernel_rfl)
abbrev MW:Nat:=50
def Kz:PC :=
 .seq (.reg [] (
 AD 1 .box 0::AP 2 0::[]) [1])
 (.seq (.seq (.reg [] (
 AN 5 0 1::AI 6 1 5::AJ 7 (.call 89) [.t 6,.k (.d (.int .i64 1)),.k (.d (.int .i64 2))]::AD 8 (.un .not) 7::AA 9 8::Br 10 9 1 1::B_ 11 9 1 10::AH 12 9 false (.call 89) [.t 11,.k (.d (.int .i64 1)),.k (.d (.int .i64 5))]::AH 13 9 false (.un .not) [.t 12]::Bv 14 9 13::AA 15 14::Br 16 15 2 1::B_ 17 15 1 16::Br 18 15 3 1::B_ 19 15 1 18::AH 20 15 false (.call 89) [.t 17,.k (.d (.int .i64 0)),.t 19]::AH 21 15 false (.un .not) [.t 20]::Bv 22 15 21::AA 23 22::Br 24 23 3 1::B_ 25 23 1 24::CQ 26 23 (.bin .gtr) 25 12::Bv 27 23 26::AA 28 27::Br 29 28 4 1::B_ 30 28 1 29::AH 31 28 false (.len false) [.t 30]::AH 32 28 false (.call 89) [.t 31,.k (.d (.int .i64 1)),.k (.d (.int .i64 4))]::AH 33 28 false (.un .not) [.t 32]::Bv 34 28 33::AA 35 34::Br 36 35 5 1::B_ 37 35 1 36::AH 38 35 false (.len false) [.t 37]::Br 39 35 4 1::B_ 40 35 1 39::AH 41 35 false (.len false) [.t 40]::AH 42 35 false (.bin .neq) [.t 38,.t 41]::Bv 43 35 42::[]) [1,43])
 (.cond (.t 43)
 (.seq (.reg [] (
 AP 2 40::[]) [2])
 (.ret))
 (.skip)))
 (.seq (.seq (.reg [] (
 AP 3 0::[]) [1,3])
 (.block 0
 (.loop [] [1,3] [1,900000,901000]
 (.seq (.seq (.reg [] (
 AA 44 3::AN 45 4 1::AI 46 1 45::AD 47 (.len false) 46::AB 48 (.bin .lss) 44 47::[]) [1,3,48])
 (.cond (.t 48)
 (.skip)
 (.exit 0)))
 (.seq (.block 1
 (.seq (.seq (.draw [] (
 (AN 51 4 1,[])::(AI 52 1 51,[])::(AA 53 3,[])::(AB 54 (.iaddrS 1) 52 53,[])::(AI 55 1 54,[])::(AD 56 (.len false) 55,[])::(AN 57 0 1,[])::(AI 58 1 57,[])::(AD 59 (.conv .u64) 58,[])::(AJ 60 (.bin .shl) [.k (.d (.int .i64 1)),.t 59],[])::(AB 61 (.bin .neq) 56 60,[])::(AA 62 61,[])::(Br 63 62 5 1,[])::(B_ 64 62 1 63,[])::(AH 65 62 false .mov [.t 3],[])::(AH 66 62 false (.iaddrS 1) [.t 64,.t 65],[])::(B_ 67 62 1 66,[])::(AH 68 62 false (.len false) [.t 67],[])::(Br 69 62 0 1,[])::(B_ 70 62 1 69,[])::(AH 71 62 false (.conv .u64) [.t 70],[])::(AH 72 62 false (.bin .shl) [.k (.d (.int .i64 1)),.t 71],[])::(AH 73 62 false (.bin .neq) [.t 68,.t 72],[])::(Bv 74 62 73,[])::[]) [1,3,74])
 (.cond (.t 74)
 (.seq (.reg [] (
 AP 2 40::[]) [2])
 (.ret))
 (.skip)))
 (.seq (.reg [] (
 AP 4 0::[]) [1,3,4])
 (.block 2
 (.loop [] [1,3,4] [1,900000,901000]
 (.seq (.seq (.reg [] (
 AA 75 4::AN 76 4 1::AI 77 1 76::AA 78 3::AB 79 (.iaddrS 1) 77 78::AI 80 1 79::AD 81 (.len false) 80::AB 82 (.bin .lss) 75 81::[]) [1,3,4,82])
 (.cond (.t 82)
 (.skip)
 (.exit 2)))
 (.seq (.block 3
 (.seq (.draw [] (
 (AN 85 4 1,[])::(AI 86 1 85,[])::(AA 87 3,[])::(AB 88 (.iaddrS 1) 86 87,[])::(AI 89 1 88,[])::(AA 90 4,[])::(AB 91 (.iaddrS 1) 89 90,[])::(AI 92 1 91,[])::(AN 93 1 1,[])::(AI 94 1 93,[])::(AD 95 (.conv .u64) 94,[])::(AJ 96 (.bin .shl) [.k (.d (.int .i64 1)),.t 95],[])::(AU 97 (.bin .sub) 96 1,[])::(AJ 98 (.call 89) [.t 92,.k (.d (.int .i64 0)),.t 97],[])::(AD 99 (.un .not) 98,[])::(AA 100 99,[])::(Br 101 100 5 1,[])::(B_ 102 100 1 101,[])::(AH 103 100 false .mov [.t 3],[])::(AH 104 100 false (.iaddrS 1) [.t 102,.t 103],[])::(B_ 105 100 1 104,[])::(AH 106 100 false .mov [.t 4],[])::(AH 107 100 false (.iaddrS 1) [.t 105,.t 106],[])::(B_ 108 100 1 107,[])::(Br 109 100 4 1,[])::(B_ 110 100 1 109,[])::(AH 111 100 false (.len false) [.t 110],[])::(CQ 112 100 (.bin .sub) 111 1,[])::(AH 113 100 false (.call 89) [.t 108,.k (.d (.int .i64 0)),.t 112],[])::(AH 114 100 false (.un .not) [.t 113],[])::(Bv 115 100 114,[])::[]) [1,3,4,115])
 (.cond (.t 115)
 (.seq (.reg [] (
 AP 2 40::[]) [2])
 (.ret))
 (.skip))))
 (.reg [] (
 AA 83 4::AU 84 (.bin .add) 83 1::AA 4 84::[]) [1,3,4]))))))))
 (.reg [] (
 AA 49 3::AU 50 (.bin .add) 49 1::AA 3 50::[]) [1,3]))))))
 (.seq (.reg [] (
 AP 2 0::[]) [2])
 (.ret))))
theorem P7:Cm E0 MW Kz [.t 2] 116:=AK (fl:=[]) (by kernel_rfl)
abbrev Hm:Nat:=51
def G1:PC :=
 .seq (.reg [] (
 AD 1 .box 0::AP 2 0::[]) [1])
 (.seq (.seq (.reg [] (
 AN 3 0 1::AD 4 (.load true 2) 3::AD 5 (.call 90) 4::AU 6 (.bin .neq) 5 0::AA 7 6::Br 8 7 2 1::B_ 9 7 1 8::AH 10 7 false (.call 69) [.t 9,.k (.d (.int .i64 1)),.k (.d (.int .i64 8))]::AH 11 7 false (.un .not) [.t 10]::Bv 12 7 11::[]) [12])
 (.cond (.t 12)
 (.seq (.reg [] (
 AP 2 50::[]) [2])
 (.ret))
 (.skip)))
 (.seq (.reg [] (
 AP 2 0::[]) [2])
 (.ret)))
theorem LH:Cm E0 Hm G1 [.t 2] 13:=AK (fl:=[]) (by kernel_rfl)
abbrev La:Nat:=52
def J5:PC :=
 .seq (.reg [] (
 BW 2 false::[]) [0])
 (.seq (.reg [] (
 AA 3 0::AD 4 (.len false) 3::AJ 5 (.call 89) [.t 4,.k (.d (.int .i64 1)),.k (.d (.int .i64 16))]::AA 6 5::AH 7 6 true .mov [.t 0]::AH 8 6 true (.call 91) [.t 7]::AJ 9 .pick [.t 6,.t 8,.k (.d (.bool false))]::AA 2 9::[]) [2])
 (.ret))
theorem PB:Cm E0 La J5 [.t 2] 10:=AK (fl:=[]) (by kernel_rfl)
abbrev LU:Nat:=53
def Jy:PC :=
 .seq (.reg [] (
 BW 6 false::[]) [0,1,2])
 (.seq (.reg [] (
 AA 7 0::AA 8 1::AB 9 (.bin .geq) 7 8::AA 10 9::AH 11 10 true .mov [.t 0]::AH 12 10 true .mov [.t 2]::AH 13 10 true (.bin .leq) [.t 11,.t 12]::AJ 14 .pick [.t 10,.t 13,.k (.d (.bool false))]::AA 6 14::[]) [6])
 (.ret))
theorem O6:Cm E0 LU Jy [.t 6] 15:=AK (fl:=[]) (by kernel_rfl)
abbrev LW:Nat:=54
def J0:PC :=
 .seq (.reg [] (
 AD 2 .box 0::AJ 4 .mov [.k (.d (.list true []))]::[]) [1,2])
 (.seq (.reg [] (
 AA 9 1::AD 10 (.call 92) 9::AA 5 10::[]) [2,5])
 (.seq (.reg [] (
 AA 11 5::AA 6 11::[]) [2,5,6])
 (.seq (.seq (.reg [] (
 AN 12 0 2::AN 13 0 12::AI 14 1 13::AU 15 (.bin .eql) 14 2::[]) [2,5,6,15])
 (.cond (.t 15)
 (.draw [] (
 (AA 16 5,[])::(AU 17 (.iaddrS 1) 16 0,[])::(AI 18 1 17,[])::(AJ 19 (.bin .mul) [.k (.d (.int .i64 2)),.t 18],[])::(AA 20 5,[])::(AU 21 (.iaddrS 1) 20 1,[])::(AI 22 1 21,[])::(AB 23 (.bin .add) 19 22,[])::(AA 24 5,[])::(AU 25 (.iaddrS 1) 24 2,[])::(AI 26 1 25,[])::(AJ 27 (.bin .mul) [.k (.d (.int .i64 2)),.t 26],[])::(AA 28 5,[])::(AU 29 (.iaddrS 1) 28 3,[])::(AI 30 1 29,[])::(AB 31 (.bin .add) 27 30,[])::(AB 32 (.mkrow 1 (.int .i64 0) 2 [0,1]) 23 31,[])::(AA 6 32,[])::[]) [2,6])
 (.skip)))
 (.seq (.reg [] (
 AN 34 0 2::AD 35 (.load true 6) 34::AA 36 6::AJ 37 (.call 93) [.t 35,.k (.d (.int .i64 0)),.t 36]::AA 33 37::BU 38 0 33::BU 39 1 33::AA 7 38::AA 8 39::[]) [7])
 (.seq (.reg [] (
 AA 40 7::AA 4 40::[]) [4])
 (.ret))))))
theorem O8:Cm E0 LW J0 [.t 4] 41:=AK (fl:=[]) (by kernel_rfl)
abbrev GA:Nat:=55
def Fb:PC :=
 .seq (.reg [] (
 AP 2 0::[]) [0])
 (.seq (.reg [] (
 AA 3 0::AD 4 (.call 64) 3::AA 5 0::AD 6 (.call 61) 5::AB 7 (.bin .mul) 4 6::AA 2 7::[]) [2])
 (.ret))
theorem Ig:Cm E0 GA Fb [.t 2] 8:=AK (fl:=[]) (by kernel_rfl)
abbrev g0:Nat:=56
abbrev gw:Nat:=57
abbrev cg:Nat:=58
abbrev lS:Nat:=59
abbrev g6:Nat:=60
abbrev F9:Nat:=61
def FZ:PC :=
 .seq (.reg [] (
 AP 2 0::[]) [0])
 (.seq (.reg [] (
 AA 3 0::AD 4 .nilck 3::AN 5 12 4::AU 6 (.iaddrA 16 1) 5 0::AI 7 1 6::AD 8 (.len false) 7::AA 2 8::[]) [2])
 (.ret))
theorem Ic:Cm E0 F9 FZ [.t 2] 9:=AK (fl:=[]) (by kernel_rfl)
abbrev Hq:Nat:=62
def G6:PC :=
 .seq (.reg [] (
 AP 4 0::[]) [0,1,4])
 (.seq (.seq (.reg [] (
 AA 6 0::AD 7 (.len false) 6::AP 8 0::[]) [0,1,4,7,8])
 (.block 0
 (.loop [] [0,1,4,7,8] [900000,900001,901000,901001]
 (.seq (.reg [] (
 AB 9 (.bin .lss) 8 7::[]) [0,1,4,7,8,9])
 (.seq (.cond (.t 9)
 (.skip)
 (.exit 0))
 (.seq (.block 1
 (.seq (.reg [] (
 AA 10 8::AA 5 10::[]) [0,1,4,5,7,8])
 (.draw [] (
 (AA 11 4,[])::(AA 12 0,[])::(AA 13 5,[])::(AB 14 (.iaddrS 1) 12 13,[])::(AI 15 1 14,[])::(AA 16 1,[])::(AA 17 5,[])::(AB 18 (.iaddrS 1) 16 17,[])::(AI 19 1 18,[])::(AB 20 (.bin .xor) 15 19,[])::(AB 21 (.bin .add) 11 20,[])::(AA 4 21,[])::[]) [0,1,4,7,8])))
 (.reg [] (
 AU 22 (.bin .add) 8 1::AA 8 22::[]) [0,1,4,7,8])))))))
 (.seq (.reg [] (
 AA 23 4::AA 4 23::[]) [4])
 (.ret)))
theorem LM:Cm E0 Hq G6 [.t 4] 24:=AK (fl:=[]) (by kernel_rfl)
abbrev Ff:Nat:=63
def FG:PC :=
 .seq (.reg [] (
 AP 4 0::[]) [0,1,4])
 (.seq (.draw [] (
 (AA 12 0,[])::(AD 13 .nilck 12,[])::(AN 14 0 13,[])::(AN 15 9 14,[])::(AI 16 1 15,[])::(AD 17 (.len false) 16,[])::(AA 18 0,[])::(AD 19 (.call 55) 18,[4,5])::(AB 20 (.bin .add) 17 19,[])::(AA 5 20,[])::[]) [0,1,4,5])
 (.seq (.seq (.reg [] (
 AA 21 0::AD 22 .nilck 21::AN 23 0 22::AN 24 9 23::AI 25 1 24::AA 6 25::[]) [0,1,4,5,6])
 (.block 0
 (.loop [] [0,1,4,5,6] [900000,900001,901000,901001]
 (.seq (.seq (.reg [] (
 AA 26 6::AD 27 (.len false) 26::AU 28 (.bin .gtr) 27 0::[]) [0,1,4,5,6,28])
 (.cond (.t 28)
 (.skip)
 (.exit 0)))
 (.block 1
 (.seq (.reg [] (
 AA 29 1::AA 30 5::AB 31 (.bin .rem) 29 30::AA 7 31::[]) [0,1,4,5,6,7])
 (.seq (.reg [] (
 AA 32 6::AD 33 (.len false) 32::AA 34 0::AD 35 .nilck 34::AN 36 0 35::AN 37 9 36::AI 38 1 37::AD 39 (.len false) 38::AA 40 7::AB 41 (.bin .sub) 39 40::AB 42 (.minmax false) 33 41::AA 8 42::[]) [0,1,4,5,6,7,8])
 (.seq (.seq (.reg [] (
 AA 43 7::AA 44 0::AD 45 .nilck 44::AN 46 0 45::AN 47 9 46::AI 48 1 47::AD 49 (.len false) 48::AB 50 (.bin .lss) 43 49::[]) [0,1,4,5,6,7,8,50])
 (.cond (.t 50)
 (.draw [] (
 (AA 51 4,[])::(AA 52 6,[])::(AA 53 8,[])::(AB 54 (.slice 1 false true false) 52 53,[])::(AA 55 0,[])::(AD 56 .nilck 55,[])::(AN 57 0 56,[])::(AN 58 9 57,[])::(AI 59 1 58,[3])::(AA 60 7,[])::(AB 61 (.slice 1 true false false) 59 60,[3])::(AB 62 (.call 62) 54 61,[])::(AB 63 (.bin .add) 51 62,[])::(AA 4 63,[])::[]) [0,1,4,5,6,8])
 (.seq (.draw [] (
 (AA 64 7,[])::(AA 65 0,[])::(AD 66 .nilck 65,[])::(AN 67 0 66,[])::(AN 68 9 67,[])::(AI 69 1 68,[])::(AD 70 (.len false) 69,[])::(AB 71 (.bin .sub) 64 70,[])::(AA 72 0,[])::(AD 73 (.call 61) 72,[5,6])::(AB 74 (.bin .rem) 71 73,[])::(AA 7 74,[])::[]) [0,1,4,5,6,7])
 (.seq (.reg [] (
 AA 75 6::AD 76 (.len false) 75::AA 77 0::AD 78 (.call 61) 77::AA 79 7::AB 80 (.bin .sub) 78 79::AB 81 (.minmax false) 76 80::AA 8 81::[]) [0,1,4,5,6,7,8])
 (.seq (.reg [] (
 AA 82 8::AA 9 82::[]) [0,1,4,5,6,7,8,9])
 (.seq (.seq (.reg [] (
 AA 83 0::AD 84 .nilck 83::AN 85 12 84::AD 86 (.load true 16) 85::AP 87 0::[]) [0,1,4,5,6,7,8,9,86,87])
 (.block 2
 (.loop [] [0,1,4,5,6,7,8,9,86,87] [900000,900001,901000,901001]
 (.seq (.reg [] (
 AU 88 (.bin .lss) 87 16::[]) [0,1,4,5,6,7,8,9,86,87,88])
 (.seq (.cond (.t 88)
 (.skip)
 (.exit 2))
 (.seq (.block 3
 (.seq (.reg [] (
 AB 89 (.index 16 1 false) 86 87::AA 11 89::[]) [0,1,4,5,6,7,8,9,11,86,87])
 (.draw [] (
 (AA 90 9,[])::(AA 91 6,[])::(AA 92 8,[])::(AB 93 (.slice 1 false true false) 91 92,[])::(AA 94 11,[])::(AA 95 7,[])::(AB 96 (.slice 1 true false false) 94 95,[3])::(AB 97 (.call 62) 93 96,[])::(AB 98 (.minmax false) 90 97,[])::(AA 9 98,[])::[]) [0,1,4,5,6,7,8,9,86,87])))
 (.reg [] (
 AU 99 (.bin .add) 87 1::AA 87 99::[]) [0,1,4,5,6,7,8,9,86,87])))))))
 (.reg [] (
 AA 100 4::AA 101 9::AB 102 (.bin .add) 100 101::AA 4 102::[]) [0,1,4,5,6,8])))))))
 (.draw [] (
 (AA 103 1,[])::(AA 104 8,[])::(AB 105 (.bin .add) 103 104,[])::(AA 106 6,[])::(AA 107 8,[])::(AB 108 (.slice 1 true false false) 106 107,[])::(AA 1 105,[])::(AA 6 108,[])::[]) [0,1,4,5,6])))))))))
 (.seq (.reg [] (
 AA 109 4::AA 4 109::[]) [4])
 (.ret))))
theorem Hx:Cm E0 Ff FG [.t 4] 110:=AK (fl:=[]) (by kernel_rfl)
abbrev E8:Nat:=64
def Em:PC :=
 .seq (.reg [] (
 AP 2 0::[]) [0])
 (.seq (.draw [] (
 (AA 3 0,[])::(AD 4 .nilck 3,[])::(AN 5 0 4,[])::(AN 6 6 5,[])::(AN 7 2 6,[])::(AI 8 1 7,[])::(AA 9 0,[])::(AD 10 .nilck 9,[])::(AN 11 0 10,[])::(AN 12 6 11,[])::(AN 13 0 12,[])::(AN 14 0 13,[])::(AI 15 1 14,[])::(AB 16 (.bin .mul) 8 15,[])::(AA 2 16,[])::[]) [2])
 (.ret))
theorem HC:Cm E0 E8 Em [.t 2] 17:=AK (fl:=[]) (by kernel_rfl)
abbrev NC:Nat:=65
abbrev cW:Nat:=66
abbrev Uo:Nat:=67
abbrev oQ:Nat:=68
abbrev Hl:Nat:=69
def J1:PC :=
 .seq (.reg [] (
 BW 6 false::[]) [0,1,2])
 (.seq (.reg [] (
 AA 7 0::AA 8 1::AB 9 (.bin .geq) 7 8::AA 10 9::AH 11 10 true .mov [.t 0]::AH 12 10 true .mov [.t 2]::AH 13 10 true (.bin .leq) [.t 11,.t 12]::AJ 14 .pick [.t 10,.t 13,.k (.d (.bool false))]::AA 6 14::[]) [6])
 (.ret))
theorem O9:Cm E0 Hl J1 [.t 6] 15:=AK (fl:=[]) (by kernel_rfl)
abbrev KL:Nat:=70
def I3:PC :=
 .seq (.reg [] (
 AJ 0 (.zero [.int .i64 0,.int .i64 0,.int .i64 0,.int .i64 0,.list true [],.list true []]) []::[]) [0])
 (.seq (.reg [] (
 AJ 1 (.mkrow 1 (.int .i64 0) 2 [0,1]) [.k (.d (.int .i64 2)),.k (.d (.int .i64 1))]::AJ 2 (.mkrow 1 (.int .i64 0) 2 [0,1]) [.k (.d (.int .i64 0)),.k (.d (.int .i64 1))]::AB 3 (.mkrow 1 (.list true []) 2 [0,1]) 1 2::AJ 4 (.mkrow 1 (.int .i64 0) 2 [0,1]) [.k (.d (.int .i64 0)),.k (.d (.int .i64 1))]::AJ 5 (.mkrow 1 (.int .i64 0) 2 [0,1]) [.k (.d (.int .i64 0)),.k (.d (.int .i64 1))]::AB 6 (.mkrow 1 (.list true []) 2 [0,1]) 4 5::AJ 7 (.build [.int .i64 0,.int .i64 0,.int .i64 0,.int .i64 0,.list true [],.list true []] [(0,1),(1,1),(2,1),(3,1),(4,1),(5,1)]) [.k (.d (.int .i64 1)),.k (.d (.int .i64 2)),.k (.d (.int .i64 1)),.k (.d (.int .i64 3)),.t 3,.t 6]::B4 (.store 6) [.t 0,.t 7]::[]) [0])
 (.ret))
theorem N2:Cm E0 KL I3 [.c 0 24 true 6] 8:=AK (fl:=[]) (by kernel_rfl)
abbrev KO:Nat:=71
def I7:PC :=
 .seq (.reg [] (
 AD 1 .box 0::AP 2 0::AP 3 0::AP 4 0::[]) [1])
 (.seq (.reg [] (
 AD 7 (.load true 3) 1::AJ 8 (.call 78) [.t 7,.k (.d (.list true [])),.k (.fn 102 [])]::AA 6 8::BU 9 0 6::BU 10 1 6::AJ 5 (.zero [.int .i64 0,.int .i64 0,.int .i64 0]) []::B4 (.store 3) [.t 5,.t 9]::AA 4 10::[]) [4,5])
 (.seq (.seq (.reg [] (
 AA 11 4::AU 12 (.bin .neq) 11 0::[]) [4,5,12])
 (.cond (.t 12)
 (.seq (.reg [] (
 AA 13 4::AP 2 0::AP 3 0::AA 4 13::[]) [2,3,4])
 (.ret))
 (.skip)))
 (.seq (.draw [] (
 (AN 14 2 5,[])::(AI 15 1 14,[])::(AN 16 0 5,[])::(AN 17 0 16,[])::(AN 18 1 17,[])::(AI 19 1 18,[])::(AU 20 (.bin .quo) 19 2,[])::(AB 21 (.bin .mul) 15 20,[])::(AN 22 2 5,[])::(AI 23 1 22,[])::(AN 24 0 5,[])::(AN 25 0 24,[])::(AN 26 1 25,[])::(AI 27 1 26,[])::(AB 28 (.bin .mul) 23 27,[])::(AA 2 21,[])::(AA 3 28,[])::(AP 4 0,[])::[]) [2,3,4])
 (.ret))))
theorem N6:Cm E0 KO I7 [.t 2,.t 3,.t 4] 29:=AK (fl:=[]) (by kernel_rfl)
abbrev Ob:Nat:=72
def MJ:PC :=
 .seq (.reg [] (
 AJ 6 .mov [.k (.d (.list true []))]::AP 7 0::[]) [0,1,2])
 (.seq (.seq (.reg [] (
 AA 10 0::AD 11 (.call 103) 10::AD 12 (.un .not) 11::AA 13 12::AH 14 13 false .mov [.t 1]::AH 15 13 false (.len false) [.t 14]::CQ 16 13 (.bin .gtr) 15 128::Bv 17 13 16::AA 18 17::AH 19 18 false .mov [.t 1]::AH 20 18 false (.call 104) [.t 19]::AH 21 18 false (.un .not) [.t 20]::Bv 22 18 21::AA 23 22::AH 24 23 false .mov [.t 2]::AH 25 23 false (.call 105) [.t 24,.k (.d (.int .i64 0)),.k (.d (.int .i64 16))]::AH 26 23 false (.un .not) [.t 25]::Bv 27 23 26::[]) [0,1,2,27])
 (.cond (.t 27)
 (.seq (.reg [] (
 AJ 6 .mov [.k (.d (.list true []))]::AP 7 1::[]) [6,7])
 (.ret))
 (.skip)))
 (.seq (.reg [] (
 AJ 8 .mov [.k (.d (.list true []))]::[]) [0,1,2,8])
 (.seq (.seq (.reg [] (
 AA 28 1::AD 29 (.len false) 28::AA 30 0::AD 31 (.len false) 30::AB 32 (.bin .sub) 29 31::AU 33 (.bin .add) 32 1::AJ 34 (.minmax true) [.k (.d (.int .i64 0)),.t 33]::AP 35 0::[]) [0,1,2,8,34,35])
 (.block 0
 (.loop [.own 8 48 3 1] [0,1,2,8,34,35] [48,900000,900001,900002,901000,901001,901002]
 (.seq (.reg [] (
 AB 36 (.bin .lss) 35 34::[]) [0,1,2,8,34,35,36])
 (.seq (.cond (.t 36)
 (.skip)
 (.exit 0))
 (.seq (.block 1
 (.seq (.reg [] (
 AA 37 35::AA 9 37::[]) [0,1,2,8,9,34,35])
 (.seq (.reg [] (
 AA 38 0::AA 39 1::AA 40 9::AB 41 (.slice 1 true false false) 39 40::AB 42 (.call 106) 38 41::AA 43 2::AB 44 (.bin .leq) 42 43::[]) [0,1,2,8,9,34,35,44])
 (.cond (.t 44)
 (.reg [] (
 AA 45 8::AA 46 9::AD 47 (.mkrow 1 (.int .i64 0) 1 [0]) 46::AB 48 (.app 3 1 none true) 45 47::AA 8 48::[]) [0,1,2,8,34,35])
 (.skip)))))
 (.reg [] (
 AU 49 (.bin .add) 35 1::AA 35 49::[]) [0,1,2,8,34,35])))))))
 (.seq (.reg [] (
 AA 50 8::AA 6 50::AP 7 0::[]) [6,7])
 (.ret)))))
theorem RX:Cm E0 Ob MJ [.t 6,.t 7] 51:=AK (fl:=[]) (by kernel_rfl)
abbrev JW:Nat:=73
def H8:PC :=
 .seq (.reg [] (
 AJ 4 .mov [.k (.d (.list true []))]::AP 5 0::[]) [0,1])
 (.seq (.seq (.reg [] (
 AA 10 0::AJ 11 (.call 105) [.t 10,.k (.d (.int .i64 1)),.k (.d (.int .i64 127))]::AD 12 (.un .not) 11::AA 13 12::AH 14 13 false .mov [.t 1]::AH 15 13 false (.len false) [.t 14]::CQ 16 13 (.bin .gtr) 15 128::Bv 17 13 16::AA 18 17::AH 19 18 false .mov [.t 1]::AH 20 18 false (.call 104) [.t 19]::AH 21 18 false (.un .not) [.t 20]::Bv 22 18 21::[]) [0,1,22])
 (.cond (.t 22)
 (.seq (.reg [] (
 AJ 4 .mov [.k (.d (.list true []))]::AP 5 1::[]) [4,5])
 (.ret))
 (.skip)))
 (.seq (.reg [] (
 AJ 6 .mov [.k (.d (.list true []))]::[]) [0,1,6])
 (.seq (.seq (.reg [] (
 AA 23 1::AD 24 (.len false) 23::AP 25 0::[]) [0,6,23,24,25])
 (.block 0
 (.loop [.own 6 37 3 1] [0,6,23,24,25] [37,900000,900001,901000,901001]
 (.seq (.reg [] (
 AB 26 (.bin .lss) 25 24::[]) [0,6,23,24,25,26])
 (.seq (.cond (.t 26)
 (.skip)
 (.exit 0))
 (.seq (.block 1
 (.seq (.reg [] (
 AB 27 (.iaddrS 1) 23 25::AI 28 1 27::AA 8 28::[]) [0,6,8,23,24,25])
 (.seq (.reg [] (
 AA 29 0::AJ 30 (.bin .shr) [.t 29,.k (.d (.int .u64 6))]::AU 31 (.bin .and) 30 1::AA 9 31::[]) [0,6,8,9,23,24,25])
 (.seq (.reg [] (
 AA 32 6::AA 33 8::AA 34 9::AB 35 (.bin .xor) 33 34::AD 36 (.mkrow 1 (.int .i64 0) 1 [0]) 35::AB 37 (.app 3 1 none true) 32 36::AA 6 37::[]) [0,6,9,23,24,25])
 (.reg [] (
 AA 38 0::AJ 39 (.bin .shl) [.t 38,.k (.d (.int .u64 1))]::AU 40 (.bin .and) 39 127::AA 41 9::AA 42 0::AJ 43 (.bin .shr) [.t 42,.k (.d (.int .u64 5))]::AU 44 (.bin .and) 43 1::AB 45 (.bin .xor) 41 44::AB 46 (.bin .or) 40 45::AA 0 46::[]) [0,6,23,24,25])))))
 (.reg [] (
 AU 47 (.bin .add) 25 1::AA 25 47::[]) [0,6,23,24,25])))))))
 (.seq (.reg [] (
 AA 48 6::AA 4 48::AP 5 0::[]) [4,5])
 (.ret)))))
theorem Mv:Cm E0 JW H8 [.t 4,.t 5] 49:=AK (fl:=[]) (by kernel_rfl)
abbrev Ma:Nat:=74
def K4:PC :=
 .seq (.reg [] (
 AD 1 .box 0::AP 2 0::[]) [1])
 (.seq (.reg [] (
 AD 8 (.load true 6) 1::AD 9 (.build [.int .i64 0,.int .i64 0,.int .i64 0,.int .i64 0,.list true [],.list true []] [(0,6)]) 8::AJ 3 (.zero [.int .i64 0,.int .i64 0,.int .i64 0,.int .i64 0,.list true [],.list true []]) []::B4 (.store 6) [.t 3,.t 9]::[]) [3])
 (.seq (.seq (.reg [] (
 AN 10 0 3::AN 11 0 10::AI 12 1 11::AJ 13 (.call 105) [.t 12,.k (.d (.int .i64 1)),.k (.d (.int .i64 2))]::AD 14 (.un .not) 13::AA 15 14::Br 16 15 0 3::Br 17 15 1 16::B_ 18 15 1 17::AH 19 15 false (.call 105) [.t 18,.k (.d (.int .i64 1)),.k (.d (.int .i64 5))]::AH 20 15 false (.un .not) [.t 19]::Bv 21 15 20::AA 22 21::Br 23 22 0 3::Br 24 22 2 23::B_ 25 22 1 24::Br 26 22 0 3::Br 27 22 3 26::B_ 28 22 1 27::AH 29 22 false (.call 105) [.t 25,.k (.d (.int .i64 0)),.t 28]::AH 30 22 false (.un .not) [.t 29]::Bv 31 22 30::AA 32 31::Br 33 32 0 3::Br 34 32 3 33::B_ 35 32 1 34::CQ 36 32 (.bin .gtr) 35 12::Bv 37 32 36::AA 38 37::Br 39 38 0 3::Br 40 38 4 39::B_ 41 38 1 40::AH 42 38 false (.len false) [.t 41]::AH 43 38 false (.call 105) [.t 42,.k (.d (.int .i64 1)),.k (.d (.int .i64 4))]::AH 44 38 false (.un .not) [.t 43]::Bv 45 38 44::AA 46 45::Br 47 46 0 3::Br 48 46 5 47::B_ 49 46 1 48::AH 50 46 false (.len false) [.t 49]::Br 51 46 0 3::Br 52 46 4 51::B_ 53 46 1 52::AH 54 46 false (.len false) [.t 53]::AH 55 46 false (.bin .neq) [.t 50,.t 54]::Bv 56 46 55::[]) [3,56])
 (.cond (.t 56)
 (.seq (.reg [] (
 AP 2 40::[]) [2])
 (.ret))
 (.skip)))
 (.seq (.reg [.frzP 3] (
 AD 57 (.mkfn 107) 3::AA 4 57::[]) [3,4])
 (.seq (.reg [.frzP 3] (
 AD 58 (.mkfn 108) 3::AA 5 58::[]) [3,4,5])
 (.seq (.seq (.reg [] (
 AN 59 0 3::AN 60 4 59::AI 61 1 60::AD 62 (.len false) 61::AP 63 0::[]) [3,4,5,61,62,63])
 (.block 0
 (.loop [] [3,4,5,61,62,63] [3,900000,901000]
 (.seq (.reg [] (
 AB 64 (.bin .lss) 63 62::[]) [3,4,5,61,62,63,64])
 (.seq (.cond (.t 64)
 (.skip)
 (.exit 0))
 (.seq (.block 1
 (.seq (.reg [] (
 AA 65 63::AB 66 (.iaddrS 1) 61 63::AI 67 1 66::AA 6 65::AA 7 67::[]) [3,4,5,6,7,61,62,63])
 (.seq (.draw [] (
 (AA 68 7,[])::(AD 69 (.len false) 68,[])::(AD 70 (.load true 6) 3,[])::(AD 71 (.call 110) 70,[1])::(AB 72 (.bin .neq) 69 71,[])::(AA 73 72,[])::(Br 74 73 0 3,[])::(Br 75 73 5 74,[])::(B_ 76 73 1 75,[])::(AH 77 73 false .mov [.t 6],[])::(AH 78 73 false (.iaddrS 1) [.t 76,.t 77],[])::(B_ 79 73 1 78,[])::(AH 80 73 false (.len false) [.t 79],[])::(AH 81 73 false (.load true 6) [.t 3],[])::(AH 82 73 false (.call 110) [.t 81],[8,10,11,12])::(AH 83 73 false (.bin .neq) [.t 80,.t 82],[])::(Bv 84 73 83,[])::(AA 85 84,[])::(AH 86 85 false .mov [.t 7],[])::(AH 87 85 false .mov [.t 4],[])::(AH 88 85 false (.call 84) [.t 86,.t 87],[])::(Bv 89 85 88,[])::(AA 90 89,[])::(Br 91 90 0 3,[])::(Br 92 90 5 91,[])::(B_ 93 90 1 92,[])::(AH 94 90 false .mov [.t 6],[])::(AH 95 90 false (.iaddrS 1) [.t 93,.t 94],[])::(B_ 96 90 1 95,[])::(AH 97 90 false .mov [.t 5],[])::(AH 98 90 false (.call 84) [.t 96,.t 97],[])::(Bv 99 90 98,[])::[]) [3,4,5,61,62,63,99])
 (.cond (.t 99)
 (.seq (.reg [] (
 AP 2 40::[]) [2])
 (.ret))
 (.skip)))))
 (.reg [] (
 AU 100 (.bin .add) 63 1::AA 63 100::[]) [3,4,5,61,62,63])))))))
 (.seq (.reg [] (
 AP 2 0::[]) [2])
 (.ret)))))))
theorem QA:Cm E0 Ma K4 [.t 2] 101:=AK (fl:=[]) (by kernel_rfl)
abbrev Le:Nat:=75
def J9:PC :=
 .seq (.reg [] (
 AD 3 .box 0::AJ 6 .mov [.k (.d (.list true []))]::AP 7 0::AP 8 0::[]) [1,2,3,6])
 (.seq (.reg [] (
 AD 13 (.load true 6) 3::AA 14 1::AB 15 (.call 111) 13 14::AA 12 15::BU 16 0 12::BU 17 1 12::AJ 9 (.zero [.int .i64 0,.int .i64 0,.int .i64 0,.int .i64 0,.list true [],.list true []]) []::B4 (.store 6) [.t 9,.t 16]::AA 8 17::[]) [1,2,6,8,9])
 (.seq (.seq (.reg [] (
 AA 18 8::AU 19 (.bin .neq) 18 0::[]) [1,2,6,8,9,19])
 (.cond (.t 19)
 (.seq (.reg [] (
 AA 20 8::AJ 6 .mov [.k (.d (.list true []))]::AP 7 0::AA 8 20::[]) [6,7,8])
 (.ret))
 (.skip)))
 (.seq (.seq (.reg [.frzP 9] (
 AA 21 2::AD 22 (.len false) 21::AU 23 (.bin .gtr) 22 24::AA 24 23::AH 25 24 false .mov [.t 2]::AH 26 24 false (.mkfn 112) [.t 9]::AH 27 24 false (.call 84) [.t 25,.t 26]::Bv 28 24 27::[]) [1,2,6,9,28])
 (.cond (.t 28)
 (.seq (.reg [] (
 AJ 6 .mov [.k (.d (.list true []))]::AP 7 0::AP 8 42::[]) [6,7,8])
 (.ret))
 (.skip)))
 (.seq (.seq (.reg [] (
 AA 29 2::AD 30 (.len false) 29::AP 31 0::[]) [1,6,9,29,30,31])
 (.block 0
 (.loop [.own 6 40 3 1] [1,6,9,29,30,31] [9,15,40,10015,900001,900002,901001,901002]
 (.seq (.reg [] (
 AB 32 (.bin .lss) 31 30::[]) [1,6,9,29,30,31,32])
 (.seq (.cond (.t 32)
 (.skip)
 (.exit 0))
 (.seq (.block 1
 (.seq (.reg [] (
 AB 33 (.iaddrS 1) 29 31::AI 34 1 33::AA 11 34::[]) [1,6,9,11,29,30,31])
 (.seq (.reg [] (
 AA 35 6::AD 36 (.load true 6) 9::AA 37 1::AA 38 11::AJ 39 (.call 113) [.t 36,.t 37,.t 38]::AB 40 (.app 3 1 none true) 35 39::AA 6 40::[]) [1,6,9,11,29,30,31])
 (.reg [] (
 AN 41 0 9::AN 42 5 41::AI 43 1 42::AA 44 1::AB 45 (.iaddrS 1) 43 44::AI 46 1 45::AA 47 11::AB 48 (.iaddrS 1) 46 47::AI 49 1 48::AA 1 49::[]) [1,6,9,29,30,31]))))
 (.reg [] (
 AU 50 (.bin .add) 31 1::AA 31 50::[]) [1,6,9,29,30,31])))))))
 (.seq (.reg [] (
 AA 51 6::AA 52 1::AA 6 51::AA 7 52::AP 8 0::[]) [6,7,8])
 (.ret))))))
theorem PG:Cm E0 Le J9 [.t 6,.t 7,.t 8] 53:=AK (fl:=[]) (by kernel_rfl)
abbrev KP:Nat:=76
def I_:PC :=
 .seq (.reg [] (
 AD 2 .box 0::AJ 4 .mov [.k (.d (.list true []))]::[]) [1,2])
 (.seq (.reg [] (
 AJ 5 .mov [.k (.d (.list true []))]::[]) [1,2,5])
 (.seq (.seq (.reg [] (
 AN 7 0 2::AI 8 1 7::AJ 9 (.bin .sub) [.k (.d (.int .i64 4)),.t 8]::AA 6 9::[]) [1,2,5,6])
 (.block 0
 (.loop [.own 5 26 3 1] [1,2,5,6] [2,26,900000,900001,901000,901001]
 (.seq (.seq (.reg [] (
 AA 10 6::AU 11 (.bin .geq) 10 0::[]) [1,2,5,6,11])
 (.cond (.t 11)
 (.skip)
 (.exit 0)))
 (.seq (.block 1
 (.draw [] (
 (AA 16 5,[])::(AA 17 1,[])::(AA 18 6,[])::(AB 19 (.bin .shr) 17 18,[])::(AN 20 0 2,[])::(AI 21 1 20,[])::(AJ 22 (.bin .shl) [.k (.d (.int .i64 1)),.t 21],[])::(AU 23 (.bin .sub) 22 1,[])::(AB 24 (.bin .and) 19 23,[])::(AD 25 (.mkrow 1 (.int .i64 0) 1 [0]) 24,[])::(AB 26 (.app 3 1 none true) 16 25,[])::(AA 5 26,[])::[]) [1,2,5,6]))
 (.reg [] (
 AA 12 6::AN 13 0 2::AI 14 1 13::AB 15 (.bin .sub) 12 14::AA 6 15::[]) [1,2,5,6]))))))
 (.seq (.reg [] (
 AA 27 5::AA 4 27::[]) [4])
 (.ret))))
theorem N9:Cm E0 KP I_ [.t 4] 28:=AK (fl:=[26]) (by kernel_rfl)
abbrev F2:Nat:=77
def FU:PC :=
 .seq (.reg [] (
 BW 4 false::[]) [0,1])
 (.seq (.seq (.reg [] (
 AA 6 0::AD 7 (.len false) 6::AA 8 1::AD 9 (.len false) 8::AB 10 (.bin .neq) 7 9::[]) [0,1,10])
 (.cond (.t 10)
 (.seq (.reg [] (
 BW 4 false::[]) [4])
 (.ret))
 (.skip)))
 (.seq (.seq (.reg [] (
 AA 11 0::AD 12 (.len false) 11::AP 13 0::[]) [0,1,12,13])
 (.block 0
 (.loop [] [0,1,12,13] [900000,900001,901000,901001]
 (.seq (.reg [] (
 AB 14 (.bin .lss) 13 12::[]) [0,1,12,13,14])
 (.seq (.cond (.t 14)
 (.skip)
 (.exit 0))
 (.seq (.block 1
 (.seq (.reg [] (
 AA 15 13::AA 5 15::[]) [0,1,5,12,13])
 (.seq (.draw [] (
 (AA 16 0,[])::(AA 17 5,[])::(AB 18 (.iaddrS 1) 16 17,[])::(AI 19 1 18,[])::(AA 20 1,[])::(AA 21 5,[])::(AB 22 (.iaddrS 1) 20 21,[])::(AI 23 1 22,[])::(AB 24 (.bin .neq) 19 23,[])::[]) [0,1,12,13,24])
 (.cond (.t 24)
 (.seq (.reg [] (
 BW 4 false::[]) [4])
 (.ret))
 (.skip)))))
 (.reg [] (
 AU 25 (.bin .add) 13 1::AA 13 25::[]) [0,1,12,13])))))))
 (.seq (.reg [] (
 BW 4 true::[]) [4])
 (.ret))))
theorem IX:Cm E0 F2 FU [.t 4] 26:=AK (fl:=[]) (by kernel_rfl)
abbrev Lb:Nat:=78
def J6:PC :=
 .seq (.reg [] (
 AD 3 .box 0::AJ 6 (.zero [.int .i64 0,.int .i64 0,.int .i64 0]) []::AP 7 0::[]) [1,2,3,6])
 (.seq (.seq (.reg [] (
 AN 9 0 3::AD 10 (.load true 2) 9::AD 11 (.call 47) 10::AU 12 (.bin .neq) 11 0::AA 13 12::Br 14 13 2 3::B_ 15 13 1 14::CQ 16 13 (.bin .lss) 15 1::Bv 17 13 16::AA 18 17::Br 19 18 2 3::B_ 20 18 1 19::CQ 21 18 (.bin .gtr) 20 8::Bv 22 18 21::[]) [1,2,3,6,22])
 (.cond (.t 22)
 (.seq (.reg [] (
 AJ 23 (.build [.int .i64 0,.int .i64 0,.int .i64 0] []) []::B4 (.store 3) [.t 6,.t 23]::AP 7 50::[]) [6,7])
 (.ret))
 (.skip)))
 (.seq (.reg [] (
 AN 24 0 3::AD 25 (.load true 2) 24::AD 26 (.build [.int .i64 0,.int .i64 0] [(0,2)]) 25::AN 27 2 3::AI 28 1 27::AB 29 (.build [.int .i64 0,.int .i64 0,.int .i64 0] [(0,2),(2,1)]) 26 28::AJ 8 (.zero [.int .i64 0,.int .i64 0,.int .i64 0]) []::B4 (.store 3) [.t 8,.t 29]::[]) [1,2,3,6,8])
 (.seq (.seq (.draw [] (
 (AA 30 1,[])::(AN 31 2 3,[])::(AI 32 1 31,[])::(AA 33 2,[])::(AN 34 0 8,[])::(AD 35 (.load true 2) 34,[])::(AB 36 .callv 33 35,[2])::(AB 37 (.bin .mul) 32 36,[])::(AB 38 (.call 114) 30 37,[])::(AD 39 (.un .not) 38,[])::[]) [6,8,39])
 (.cond (.t 39)
 (.seq (.reg [] (
 AJ 40 (.build [.int .i64 0,.int .i64 0,.int .i64 0] []) []::B4 (.store 3) [.t 6,.t 40]::AP 7 51::[]) [6,7])
 (.ret))
 (.skip)))
 (.seq (.reg [] (
 AD 41 (.load true 3) 8::B4 (.store 3) [.t 6,.t 41]::AP 7 0::[]) [6,7])
 (.ret)))))
theorem PD:Cm E0 Lb J6 [.c 6 105 true 3,.t 7] 42:=AK (fl:=[]) (by kernel_rfl)
abbrev C9:Nat:=79
def Ga:PC :=
 .seq (.reg [] (
 AD 1 .box 0::AP 2 0::[]) [1])
 (.seq (.reg [] (
 AN 3 0 1::AN 4 0 3::AI 5 1 4::AN 6 0 1::AN 7 1 6::AI 8 1 7::AB 9 (.bin .sub) 5 8::AA 2 9::[]) [2])
 (.ret))
theorem KY:Cm E0 C9 Ga [.t 2] 10:=AK (fl:=[]) (by kernel_rfl)
abbrev GJ:Nat:=80
def Fo:PC :=
 .seq (.reg [] (
 AD 2 .box 0::AJ 4 .mov [.k (.d (.list true []))]::[]) [1,2])
 (.seq (.reg [] (
 AJ 15 (.mkrowO 135 1 (.int .u8 0) 1 [0]) [.k (.d (.int .u8 1))]::AA 5 15::[]) [1,2,5])
 (.seq (.seq (.reg [] (
 AN 16 0 2::AN 17 1 16::AI 18 1 17::AP 19 0::[]) [1,2,5,18,19])
 (.block 0
 (.loop [.freeze 5] [1,2,5,18,19] [2,900000,900001,901000,901001]
 (.seq (.reg [] (
 AB 20 (.bin .lss) 19 18::[]) [1,2,5,18,19,20])
 (.seq (.cond (.t 20)
 (.skip)
 (.exit 0))
 (.seq (.block 1
 (.seq (.reg [] (
 AA 21 19::AA 6 21::[]) [1,2,5,6,18,19])
 (.seq (.reg [.freeze 5] (
 AA 22 5::AD 23 (.call 115) 22::AJ 24 (.mkrow 1 (.int .u8 0) 1 [0]) [.k (.d (.int .u8 0))]::AB 25 (.app 135 1 none true) 23 24::AA 7 25::[]) [1,2,5,6,7,18,19])
 (.seq (.seq (.reg [] (
 AA 26 5::AD 27 (.len false) 26::AP 28 0::[]) [1,2,6,7,18,19,26,27,28])
 (.block 2
 (.loop [.freeze 26] [1,2,6,7,18,19,26,27,28] [2,23,25,10023,900000,900001,901000,901001]
 (.seq (.reg [] (
 AB 29 (.bin .lss) 28 27::[]) [1,2,6,7,18,19,26,27,28,29])
 (.seq (.cond (.t 29)
 (.skip)
 (.exit 2))
 (.seq (.block 3
 (.seq (.reg [] (
 AA 30 28::AB 31 (.iaddrS 1) 26 28::AI 32 1 31::AA 8 30::AA 9 32::[]) [1,2,6,7,8,9,18,19,26,27,28])
 (.draw [] (
 (AA 33 7,[])::(AA 34 8,[])::(AU 35 (.bin .add) 34 1,[])::(AB 36 (.iaddrS 1) 33 35,[])::(AI 37 1 36,[])::(AA 38 9,[])::(AA 39 6,[])::(AD 40 (.call 117) 39,[3,4])::(AB 41 (.call 116) 38 40,[3,4])::(AB 42 (.bin .xor) 37 41,[])::(AB 43 (.iaddrS 1) 33 35,[])::(B4 (.store 1) [.t 43,.t 42],[])::[]) [1,2,6,7,18,19,26,27,28])))
 (.reg [] (
 AU 44 (.bin .add) 28 1::AA 28 44::[]) [1,2,6,7,18,19,26,27,28])))))))
 (.reg [] (
 AA 45 7::AA 5 45::[]) [1,2,5,18,19])))))
 (.reg [] (
 AU 46 (.bin .add) 19 1::AA 19 46::[]) [1,2,5,18,19])))))))
 (.seq (.draw [] (
 (AA 47 1,[])::(AD 48 (.call 115) 47,[])::(AN 49 0 2,[])::(AN 50 1 49,[])::(AI 51 1 50,[1])::(AB 52 (.app 135 1 (some (.int .u8 0)) true) 48 51,[])::(AA 10 52,[])::[]) [1,5,10])
 (.seq (.seq (.reg [] (
 AA 53 1::AD 54 (.len false) 53::AP 55 0::[]) [1,5,10,54,55])
 (.block 4
 (.loop [.freeze 5] [1,5,10,54,55] [48,52,10048,900001,901001]
 (.seq (.reg [] (
 AB 56 (.bin .lss) 55 54::[]) [1,5,10,54,55,56])
 (.seq (.cond (.t 56)
 (.skip)
 (.exit 4))
 (.seq (.block 5
 (.seq (.reg [] (
 AA 57 55::AA 11 57::[]) [1,5,10,11,54,55])
 (.seq (.reg [] (
 AA 58 10::AA 59 11::AB 60 (.iaddrS 1) 58 59::AI 61 1 60::AA 12 61::[]) [1,5,10,11,12,54,55])
 (.seq (.reg [] (
 AA 62 5::AD 63 (.len false) 62::AP 64 0::[]) [1,5,10,11,12,54,55,62,63,64])
 (.block 6
 (.loop [.freeze 5,.freeze 62] [1,5,10,11,12,54,55,62,63,64] [48,52,10048,900001,901001]
 (.seq (.reg [] (
 AB 65 (.bin .lss) 64 63::[]) [1,5,10,11,12,54,55,62,63,64,65])
 (.seq (.cond (.t 65)
 (.skip)
 (.exit 6))
 (.seq (.block 7
 (.seq (.reg [] (
 AA 66 64::AB 67 (.iaddrS 1) 62 64::AI 68 1 67::AA 13 66::AA 14 68::[]) [1,5,10,11,12,13,14,54,55,62,63,64])
 (.draw [] (
 (AA 69 10,[])::(AA 70 11,[])::(AA 71 13,[])::(AB 72 (.bin .add) 70 71,[])::(AB 73 (.iaddrS 1) 69 72,[])::(AI 74 1 73,[])::(AA 75 12,[])::(AA 76 14,[])::(AB 77 (.call 116) 75 76,[4,5])::(AB 78 (.bin .xor) 74 77,[])::(AB 79 (.iaddrS 1) 69 72,[])::(B4 (.store 1) [.t 79,.t 78],[])::[]) [1,5,10,11,12,54,55,62,63,64])))
 (.reg [] (
 AU 80 (.bin .add) 64 1::AA 64 80::[]) [1,5,10,11,12,54,55,62,63,64]))))))))))
 (.reg [] (
 AU 81 (.bin .add) 55 1::AA 55 81::[]) [1,5,10,54,55])))))))
 (.seq (.reg [.freeze 10] (
 AA 82 1::AA 83 10::AA 84 1::AD 85 (.len false) 84::AB 86 (.slice 1 true false false) 83 85::AB 87 (.mkrow 1 (.list true []) 2 [0,1]) 82 86::AD 88 (.call 118) 87::AA 4 88::[]) [4])
 (.ret))))))
theorem JG:Cm E0 GJ Fo [.t 4] 89:=AK (fl:=[52]) (by kernel_rfl)
abbrev Gp:Nat:=81
def GE:PC :=
 .seq (.reg [] (
 AD 3 .box 0::AJ 6 .mov [.k (.d (.list true []))]::[]) [1,2,3])
 (.seq (.reg [] (
 AJ 7 .mov [.k (.d (.list true []))]::[]) [1,2,3,7])
 (.seq (.seq (.reg [] (
 AA 9 2::AA 8 9::[]) [1,3,7,8])
 (.block 0
 (.loop [.own 7 25 135 1] [1,3,7,8] [3,25,900000,900001,900002,901000,901001,901002]
 (.seq (.seq (.reg [] (
 AA 10 8::AA 11 1::AD 12 (.len false) 11::AB 13 (.bin .lss) 10 12::[]) [1,3,7,8,13])
 (.cond (.t 13)
 (.skip)
 (.exit 0)))
 (.seq (.block 1
 (.reg [] (
 AA 18 7::AA 19 1::AA 20 8::AB 21 (.iaddrS 1) 19 20::AI 22 1 21::AD 23 (.conv .u8) 22::AD 24 (.mkrow 1 (.int .u8 0) 1 [0]) 23::AB 25 (.app 135 1 none true) 18 24::AA 7 25::[]) [1,3,7,8]))
 (.reg [] (
 AA 14 8::AN 15 2 3::AI 16 1 15::AB 17 (.bin .add) 14 16::AA 8 17::[]) [1,3,7,8]))))))
 (.seq (.reg [] (
 AA 26 7::AA 6 26::[]) [6])
 (.ret))))
theorem Jm:Cm E0 Gp GE [.t 6] 27:=AK (fl:=[]) (by kernel_rfl)
abbrev Gq:Nat:=82
def GF:PC :=
 .seq (.reg [] (
 AD 2 .box 0::AJ 4 .mov [.k (.d (.list true []))]::[]) [1])
 (.seq (.reg [] (
 AJ 5 .mov [.k (.d (.list true []))]::[]) [1,5])
 (.seq (.seq (.reg [] (
 AA 9 1::AU 10 (.iaddrS 1) 9 0::AI 11 1 10::AD 12 (.len false) 11::AP 13 0::[]) [1,5,12,13])
 (.block 0
 (.loop [.own 5 29 3 1] [1,5,12,13] [29,900001,901001]
 (.seq (.reg [] (
 AB 14 (.bin .lss) 13 12::[]) [1,5,12,13,14])
 (.seq (.cond (.t 14)
 (.skip)
 (.exit 0))
 (.seq (.block 1
 (.seq (.reg [] (
 AA 15 13::AA 6 15::[]) [1,5,6,12,13])
 (.seq (.reg [] (
 AA 16 1::AD 17 (.len false) 16::AP 18 0::[]) [1,5,6,12,13,16,17,18])
 (.block 2
 (.loop [.own 5 29 3 1] [1,5,6,12,13,16,17,18] [29,900001,901001]
 (.seq (.reg [] (
 AB 19 (.bin .lss) 18 17::[]) [1,5,6,12,13,16,17,18,19])
 (.seq (.cond (.t 19)
 (.skip)
 (.exit 2))
 (.seq (.block 3
 (.seq (.reg [] (
 AB 20 (.iaddrS 1) 16 18::AI 21 1 20::AA 8 21::[]) [1,5,6,8,12,13,16,17,18])
 (.reg [] (
 AA 22 5::AA 23 8::AA 24 6::AB 25 (.iaddrS 1) 23 24::AI 26 1 25::AD 27 (.conv .i64) 26::AD 28 (.mkrow 1 (.int .i64 0) 1 [0]) 27::AB 29 (.app 3 1 none true) 22 28::AA 5 29::[]) [1,5,6,12,13,16,17,18])))
 (.reg [] (
 AU 30 (.bin .add) 18 1::AA 18 30::[]) [1,5,6,12,13,16,17,18])))))))))
 (.reg [] (
 AU 31 (.bin .add) 13 1::AA 13 31::[]) [1,5,12,13])))))))
 (.seq (.reg [] (
 AA 32 5::AA 4 32::[]) [4])
 (.ret))))
theorem Jn:Cm E0 Gq GF [.t 4] 33:=AK (fl:=[]) (by kernel_rfl)
abbrev F4:Nat:=83
def FW:PC :=
 .seq (.reg [] (
 AD 2 .box 0::AD 3 .box 1::AJ 4 .mov [.k (.d (.nilfn))]::[]) [2,3])
 (.seq (.seq (.reg [] (
 AI 5 1 3::AU 6 (.bin .lss) 5 1::[]) [2,3,6])
 (.cond (.t 6)
 (.dead)
 (.skip)))
 (.seq (.reg [.frzP 2,.frzP 3] (
 AB 8 (.mkfn 119) 2 3::AA 4 8::[]) [4])
 (.ret)))
theorem IZ:Cm E0 F4 FW [.t 4] 9:=AK (fl:=[]) (by kernel_rfl)
abbrev CB:Nat:=84
def Cj:PC :=
 .seq (.reg [] (
 BW 4 false::[]) [0,1])
 (.seq (.reg [] (
 AA 5 0::AA 6 1::AB 7 (.call 120) 5 6::AU 8 (.bin .geq) 7 0::AA 4 8::[]) [4])
 (.ret))
theorem Dn:Cm E0 CB Cj [.t 4] 9:=AK (fl:=[]) (by kernel_rfl)
abbrev FC:Nat:=85
def Gb:PC :=
 .seq (.reg [] (
 BW 2 false::[]) [0])
 (.seq (.reg [] (
 AA 3 0::AJ 4 (.bin .shr) [.t 3,.k (.d (.int .u64 1))]::AU 5 (.bin .neq) 4 0::AA 2 5::[]) [2])
 (.ret))
theorem KZ:Cm E0 FC Gb [.t 2] 6:=AK (fl:=[]) (by kernel_rfl)
abbrev Cq:Nat:=86
def E3:PC :=
 .seq (.reg [] (
 BW 3 false::[]) [0,1])
 (.seq (.reg [] (
 AA 4 0::AI 5 1 1::AB 6 (.call 77) 4 5::AA 3 6::[]) [3])
 (.ret))
theorem Hb:Cm E0 Cq E3 [.t 3] 7:=AK (fl:=[]) (by kernel_rfl)
abbrev Dp:Nat:=87
def DZ:PC :=
 .seq (.reg [] (
 AP 4 0::[]) [0,1])
 (.seq (.seq (.reg [] (
 AA 6 0::AD 7 (.len false) 6::AP 8 0::[]) [0,1,7,8])
 (.block 0
 (.loop [] [0,1,7,8] [900000,900001,901000,901001]
 (.seq (.reg [] (
 AB 9 (.bin .lss) 8 7::[]) [0,1,7,8,9])
 (.seq (.cond (.t 9)
 (.skip)
 (.exit 0))
 (.seq (.block 1
 (.seq (.reg [] (
 AA 10 8::AA 5 10::[]) [0,1,5,7,8])
 (.seq (.reg [] (
 AA 11 1::AA 12 0::AA 13 5::AB 14 (.iaddrS 1) 12 13::AI 15 1 14::AB 16 .callv 11 15::[]) [0,1,5,7,8,16])
 (.cond (.t 16)
 (.seq (.reg [] (
 AA 17 5::AA 4 17::[]) [4])
 (.ret))
 (.skip)))))
 (.reg [] (
 AU 18 (.bin .add) 8 1::AA 8 18::[]) [0,1,7,8])))))))
 (.seq (.reg [] (
 AP 4 (-1)::[]) [4])
 (.ret)))
theorem Fi:Cm E0 Dp DZ [.t 4] 19:=AK (fl:=[]) (by kernel_rfl)
abbrev JT:Nat:=88
abbrev LX:Nat:=89
def J2:PC :=
 .seq (.reg [] (
 BW 6 false::[]) [0,1,2])
 (.seq (.reg [] (
 AA 7 0::AA 8 1::AB 9 (.bin .geq) 7 8::AA 10 9::AH 11 10 true .mov [.t 0]::AH 12 10 true .mov [.t 2]::AH 13 10 true (.bin .leq) [.t 11,.t 12]::AJ 14 .pick [.t 10,.t 13,.k (.d (.bool false))]::AA 6 14::[]) [6])
 (.ret))
theorem O_:Cm E0 LX J2 [.t 6] 15:=AK (fl:=[]) (by kernel_rfl)
abbrev MV:Nat:=90
def Ky:PC :=
 .seq (.reg [] (
 AD 1 .box 0::AP 2 0::[]) [1])
 (.seq (.seq (.reg [] (
 AN 3 0 1::AI 4 1 3::AJ 5 (.call 69) [.t 4,.k (.d (.int .i64 2)),.k (.d (.int .i64 15))]::AD 6 (.un .not) 5::AA 7 6::Br 8 7 1 1::B_ 9 7 1 8::AH 10 7 false (.call 69) [.t 9,.k (.d (.int .i64 1)),.k (.d (.int .i64 8))]::AH 11 7 false (.un .not) [.t 10]::Bv 12 7 11::AA 13 12::Br 14 13 1 1::B_ 15 13 1 14::Br 16 13 0 1::B_ 17 13 1 16::AH 18 13 false (.bin .geq) [.t 15,.t 17]::Bv 19 13 18::[]) [19])
 (.cond (.t 19)
 (.seq (.reg [] (
 AP 2 50::[]) [2])
 (.ret))
 (.skip)))
 (.seq (.reg [] (
 AP 2 0::[]) [2])
 (.ret)))
theorem P6:Cm E0 MV Ky [.t 2] 20:=AK (fl:=[]) (by kernel_rfl)
abbrev KH:Nat:=91
def Iz:PC :=
 .seq (.reg [] (
 BW 2 false::[]) [0])
 (.seq (.seq (.reg [] (
 AP 3 0::[]) [0,3])
 (.block 0
 (.loop [] [0,3] [900000,901000]
 (.seq (.seq (.reg [] (
 AA 4 3::AA 5 0::AD 6 (.len false) 5::AB 7 (.bin .lss) 4 6::[]) [0,3,7])
 (.cond (.t 7)
 (.skip)
 (.exit 0)))
 (.seq (.block 1
 (.seq (.reg [] (
 AA 10 0::AA 11 3::AB 12 (.iaddrS 1) 10 11::AI 13 1 12::AJ 14 (.call 89) [.t 13,.k (.d (.int .i64 0)),.k (.d (.int .i64 1))]::AD 15 (.un .not) 14::[]) [0,3,15])
 (.cond (.t 15)
 (.seq (.reg [] (
 BW 2 false::[]) [2])
 (.ret))
 (.skip))))
 (.reg [] (
 AA 8 3::AU 9 (.bin .add) 8 1::AA 3 9::[]) [0,3]))))))
 (.seq (.reg [] (
 BW 2 true::[]) [2])
 (.ret)))
theorem Ny:Cm E0 KH Iz [.t 2] 16:=AK (fl:=[]) (by kernel_rfl)
abbrev LV:Nat:=92
def Jz:PC :=
 .seq (.reg [] (
 AJ 2 .mov [.k (.d (.list true []))]::[]) [0])
 (.seq (.reg [] (
 AA 3 0::AU 4 (.bin .quo) 3 8::AA 5 0::AU 6 (.bin .quo) 5 4::AU 7 (.bin .rem) 6 2::AA 8 0::AU 9 (.bin .quo) 8 2::AU 10 (.bin .rem) 9 2::AA 11 0::AU 12 (.bin .rem) 11 2::AJ 13 (.mkrowO 3 1 (.int .i64 0) 4 [0,1,2,3]) [.t 4,.t 7,.t 10,.t 12]::AA 2 13::[]) [2])
 (.ret))
theorem O7:Cm E0 LV Jz [.t 2] 14:=AK (fl:=[]) (by kernel_rfl)
abbrev LY:Nat:=93
def J3:PC :=
 .seq (.reg [] (
 AD 3 .box 0::AJ 6 .mov [.k (.d (.list true []))]::AP 7 0::[]) [1,2,3,6])
 (.seq (.seq (.reg [] (
 AP 8 0::[]) [1,2,3,6,8])
 (.block 0
 (.loop [.own 6 29 3 1] [1,2,3,6,8] [3,29,900000,900001,900002,901000,901001,901002]
 (.seq (.seq (.reg [] (
 AA 9 8::AA 10 2::AD 11 (.len false) 10::AB 12 (.bin .lss) 9 11::[]) [1,2,3,6,8,12])
 (.cond (.t 12)
 (.skip)
 (.exit 0)))
 (.seq (.block 1
 (.seq (.draw [] (
 (AA 15 6,[])::(AD 16 (.load true 6) 3,[])::(AN 17 4 3,[])::(AI 18 1 17,[])::(AA 19 1,[])::(AB 20 (.iaddrS 1) 18 19,[])::(AI 21 1 20,[])::(AA 22 2,[])::(AA 23 8,[])::(AB 24 (.iaddrS 1) 22 23,[])::(AI 25 1 24,[])::(AB 26 (.iaddrS 1) 21 25,[])::(AI 27 1 26,[])::(AB 28 (.call 124) 16 27,[])::(AB 29 (.app 3 1 none true) 15 28,[])::(AA 6 29,[])::[]) [1,2,3,6,8])
 (.draw [] (
 (AN 30 5 3,[])::(AI 31 1 30,[])::(AA 32 1,[])::(AB 33 (.iaddrS 1) 31 32,[])::(AI 34 1 33,[])::(AA 35 2,[])::(AA 36 8,[])::(AB 37 (.iaddrS 1) 35 36,[])::(AI 38 1 37,[])::(AB 39 (.iaddrS 1) 34 38,[])::(AI 40 1 39,[])::(AA 1 40,[])::[]) [1,2,3,6,8])))
 (.reg [] (
 AA 13 8::AU 14 (.bin .add) 13 1::AA 8 14::[]) [1,2,3,6,8]))))))
 (.seq (.reg [] (
 AA 41 6::AA 42 1::AA 6 41::AA 7 42::[]) [6,7])
 (.ret)))
theorem O':Cm E0 LY J3 [.t 6,.t 7] 43:=AK (fl:=[29]) (by kernel_rfl)
abbrev gx:Nat:=94
abbrev lY:Nat:=95
abbrev Zl:Nat:=96
abbrev gv:Nat:=97
abbrev cQ:Nat:=98
abbrev gy:Nat:=99
abbrev W7:Nat:=100
abbrev F1:Nat:=101
def FT:PC :=
 .seq (.reg [] (
 AP 4 0::[]) [0,1])
 (.seq (.seq (.reg [] (
 AA 6 0::AD 7 (.len false) 6::AP 8 0::[]) [0,1,7,8])
 (.block 0
 (.loop [] [0,1,7,8] [900000,900001,901000,901001]
 (.seq (.reg [] (
 AB 9 (.bin .lss) 8 7::[]) [0,1,7,8,9])
 (.seq (.cond (.t 9)
 (.skip)
 (.exit 0))
 (.seq (.block 1
 (.seq (.reg [] (
 AA 10 8::AA 5 10::[]) [0,1,5,7,8])
 (.seq (.reg [] (
 AA 11 1::AA 12 0::AA 13 5::AB 14 (.iaddrS 1) 12 13::AI 15 1 14::AB 16 (.bin .eql) 11 15::[]) [0,1,5,7,8,16])
 (.cond (.t 16)
 (.seq (.reg [] (
 AA 17 5::AA 4 17::[]) [4])
 (.ret))
 (.skip)))))
 (.reg [] (
 AU 18 (.bin .add) 8 1::AA 8 18::[]) [0,1,7,8])))))))
 (.seq (.reg [] (
 AP 4 (-1)::[]) [4])
 (.ret)))
theorem IW:Cm E0 F1 FT [.t 4] 19:=AK (fl:=[]) (by kernel_rfl)
abbrev Ef:Nat:=102
def HP:PC :=
 .seq (.reg [] (
 AD 1 .box 0::AP 2 0::[]) [])
 (.seq (.reg [] (
 AP 2 0::[]) [2])
 (.ret))
theorem L4:Cm E0 Ef HP [.t 2] 3:=AK (fl:=[]) (by kernel_rfl)
abbrev Ld:Nat:=103
def J8:PC :=
 .seq (.reg [] (
 BW 2 false::[]) [0])
 (.seq (.reg [] (
 AA 3 0::AD 4 (.len false) 3::AJ 5 (.call 105) [.t 4,.k (.d (.int .i64 1)),.k (.d (.int .i64 16))]::AA 6 5::AH 7 6 true .mov [.t 0]::AH 8 6 true (.call 104) [.t 7]::AJ 9 .pick [.t 6,.t 8,.k (.d (.bool false))]::AA 2 9::[]) [2])
 (.ret))
theorem PF:Cm E0 Ld J8 [.t 2] 10:=AK (fl:=[]) (by kernel_rfl)
abbrev Pr:Nat:=104
def Nb:PC :=
 .seq (.reg [] (
 BW 2 false::[]) [0])
 (.seq (.reg [] (
 AA 3 0::AJ 4 (.call 84) [.t 3,.k (.fn 129 [])]::AD 5 (.un .not) 4::AA 2 5::[]) [2])
 (.ret))
theorem SQ:Cm E0 Pr Nb [.t 2] 6:=AK (fl:=[]) (by kernel_rfl)
abbrev Lc:Nat:=105
def J7:PC :=
 .seq (.reg [] (
 BW 6 false::[]) [0,1,2])
 (.seq (.reg [] (
 AA 7 1::AA 8 0::AB 9 (.bin .leq) 7 8::AA 10 9::AH 11 10 true .mov [.t 0]::AH 12 10 true .mov [.t 2]::AH 13 10 true (.bin .leq) [.t 11,.t 12]::AJ 14 .pick [.t 10,.t 13,.k (.d (.bool false))]::AA 6 14::[]) [6])
 (.ret))
theorem PE:Cm E0 Lc J7 [.t 6] 15:=AK (fl:=[]) (by kernel_rfl)
abbrev JV:Nat:=106
def H7:PC :=
 .seq (.reg [] (
 AP 4 0::[]) [0,1,4])
 (.seq (.seq (.reg [] (
 AA 7 0::AD 8 (.len false) 7::AP 9 0::[]) [1,4,7,8,9])
 (.block 0
 (.loop [] [1,4,7,8,9] [900000,900001,901000,901001]
 (.seq (.reg [] (
 AB 10 (.bin .lss) 9 8::[]) [1,4,7,8,9,10])
 (.seq (.cond (.t 10)
 (.skip)
 (.exit 0))
 (.seq (.block 1
 (.seq (.reg [] (
 AA 11 9::AB 12 (.iaddrS 1) 7 9::AI 13 1 12::AA 5 11::AA 6 13::[]) [1,4,5,6,7,8,9])
 (.reg [] (
 AA 14 4::AA 15 6::AA 16 1::AA 17 5::AB 18 (.iaddrS 1) 16 17::AI 19 1 18::AB 20 (.bin .xor) 15 19::AB 21 (.bin .add) 14 20::AA 4 21::[]) [1,4,7,8,9])))
 (.reg [] (
 AU 22 (.bin .add) 9 1::AA 9 22::[]) [1,4,7,8,9])))))))
 (.seq (.reg [] (
 AA 23 4::AA 4 23::[]) [4])
 (.ret)))
theorem Mu:Cm E0 JV H7 [.t 4] 24:=AK (fl:=[]) (by kernel_rfl)
abbrev Gz:Nat:=107
def I9:PC :=
 .seq (.reg [] (
 BW 3 false::[]) [0,1])
 (.seq (.reg [] (
 AA 4 0::AN 5 0 1::AN 6 1 5::AI 7 1 6::AJ 8 (.bin .shl) [.k (.d (.int .i64 1)),.t 7]::AU 9 (.bin .sub) 8 1::AJ 10 (.call 105) [.t 4,.k (.d (.int .i64 0)),.t 9]::AD 11 (.un .not) 10::AA 3 11::[]) [3])
 (.ret))
theorem N8:Cm E0 Gz I9 [.t 3] 12:=AK (fl:=[]) (by kernel_rfl)
abbrev Gy:Nat:=108
def I8:PC :=
 .seq (.reg [] (
 BW 3 false::[]) [0,1])
 (.seq (.reg [] (
 AD 4 (.load true 6) 1::AA 5 0::AB 6 (.call 109) 4 5::AD 7 (.un .not) 6::AA 3 7::[]) [3])
 (.ret))
theorem N7:Cm E0 Gy I8 [.t 3] 8:=AK (fl:=[]) (by kernel_rfl)
abbrev Hp:Nat:=109
def G5:PC :=
 .seq (.reg [] (
 AD 2 .box 0::BW 4 false::[]) [1,2])
 (.seq (.reg [] (
 AA 5 1::AN 6 0 2::AN 7 4 6::AI 8 1 7::AD 9 (.len false) 8::AU 10 (.bin .sub) 9 1::AJ 11 (.call 105) [.t 5,.k (.d (.int .i64 0)),.t 10]::AA 4 11::[]) [4])
 (.ret))
theorem LL:Cm E0 Hp G5 [.t 4] 12:=AK (fl:=[]) (by kernel_rfl)
abbrev Ho:Nat:=110
def G4:PC :=
 .seq (.reg [] (
 AD 1 .box 0::AP 2 0::[]) [1])
 (.seq (.reg [] (
 AN 3 0 1::AN 4 0 3::AI 5 1 4::AJ 6 (.bin .shl) [.k (.d (.int .i64 1)),.t 5]::AA 2 6::[]) [2])
 (.ret))
theorem LK:Cm E0 Ho G4 [.t 2] 7:=AK (fl:=[]) (by kernel_rfl)
abbrev Oa:Nat:=111
def MI:PC :=
 .seq (.reg [] (
 AD 2 .box 0::AJ 4 (.zero [.int .i64 0,.int .i64 0,.int .i64 0,.int .i64 0,.list true [],.list true []]) []::AP 5 0::[]) [1,2,4])
 (.seq (.reg [] (
 AD 8 (.load true 6) 2::AD 9 (.build [.int .i64 0,.int .i64 0,.int .i64 0,.int .i64 0,.list true [],.list true []] [(0,6)]) 8::AJ 6 (.zero [.int .i64 0,.int .i64 0,.int .i64 0,.int .i64 0,.list true [],.list true []]) []::B4 (.store 6) [.t 6,.t 9]::[]) [1,2,4,6])
 (.seq (.seq (.reg [] (
 AD 10 (.load true 6) 2::AD 11 (.call 74) 10::AA 7 11::[]) [1,4,6,7])
 (.seq (.reg [] (
 AA 12 7::AU 13 (.bin .neq) 12 0::[]) [1,4,6,7,13])
 (.cond (.t 13)
 (.seq (.reg [] (
 AD 14 (.load true 6) 6::AA 15 7::B4 (.store 6) [.t 4,.t 14]::AA 5 15::[]) [4,5])
 (.ret))
 (.skip))))
 (.seq (.seq (.reg [] (
 AD 16 (.load true 6) 6::AA 17 1::AB 18 (.call 109) 16 17::AD 19 (.un .not) 18::[]) [4,6,19])
 (.cond (.t 19)
 (.seq (.reg [] (
 AD 20 (.load true 6) 6::B4 (.store 6) [.t 4,.t 20]::AP 5 41::[]) [4,5])
 (.ret))
 (.skip)))
 (.seq (.reg [] (
 AD 21 (.load true 6) 6::B4 (.store 6) [.t 4,.t 21]::AP 5 0::[]) [4,5])
 (.ret)))))
theorem RV:Cm E0 Oa MI [.c 4 131 true 6,.t 5] 22:=AK (fl:=[]) (by kernel_rfl)
abbrev GQ:Nat:=112
def H9:PC :=
 .seq (.reg [] (
 BW 3 false::[]) [0,1])
 (.seq (.reg [] (
 AA 4 0::AD 5 (.load true 6) 1::AD 6 (.call 110) 5::AU 7 (.bin .sub) 6 1::AJ 8 (.call 105) [.t 4,.k (.d (.int .i64 0)),.t 7]::AD 9 (.un .not) 8::AA 3 9::[]) [3])
 (.ret))
theorem Mw:Cm E0 GQ H9 [.t 3] 10:=AK (fl:=[]) (by kernel_rfl)
abbrev F8:Nat:=113
def HQ:PC :=
 .seq (.reg [] (
 AD 3 .box 0::AJ 6 .mov [.k (.d (.list true []))]::[]) [1,2,3])
 (.seq (.reg [] (
 AJ 7 .mov [.k (.d (.list true []))]::[]) [1,2,3,7])
 (.seq (.seq (.reg [] (
 AN 9 0 3::AN 10 1 9::AI 11 1 10::AU 12 (.bin .sub) 11 1::AA 8 12::[]) [1,2,3,7,8])
 (.block 0
 (.loop [.own 7 31 3 1] [1,2,3,7,8] [3,31,900000,900001,900002,901000,901001,901002]
 (.seq (.seq (.reg [] (
 AA 13 8::AU 14 (.bin .geq) 13 0::[]) [1,2,3,7,8,14])
 (.cond (.t 14)
 (.skip)
 (.exit 0)))
 (.seq (.block 1
 (.reg [] (
 AA 17 7::AN 18 0 3::AN 19 4 18::AI 20 1 19::AA 21 1::AB 22 (.iaddrS 1) 20 21::AI 23 1 22::AA 24 2::AB 25 (.iaddrS 1) 23 24::AI 26 1 25::AA 27 8::AB 28 (.bin .shr) 26 27::AU 29 (.bin .and) 28 1::AD 30 (.mkrow 1 (.int .i64 0) 1 [0]) 29::AB 31 (.app 3 1 none true) 17 30::AA 7 31::[]) [1,2,3,7,8]))
 (.reg [] (
 AA 15 8::AU 16 (.bin .sub) 15 1::AA 8 16::[]) [1,2,3,7,8]))))))
 (.seq (.reg [] (
 AA 32 7::AA 6 32::[]) [6])
 (.ret))))
theorem L5:Cm E0 F8 HQ [.t 6] 33:=AK (fl:=[]) (by kernel_rfl)
abbrev MZ:Nat:=114
def K2:PC :=
 .seq (.reg [] (
 BW 4 false::[]) [0,1])
 (.seq (.reg [] (
 AA 5 0::AD 6 (.len false) 5::AA 7 1::AB 8 (.bin .eql) 6 7::AA 9 8::AH 10 9 true .mov [.t 0]::AH 11 9 true (.call 84) [.t 10,.k (.fn 130 [])]::AH 12 9 true (.un .not) [.t 11]::AJ 13 .pick [.t 9,.t 12,.k (.d (.bool false))]::AA 4 13::[]) [4])
 (.ret))
theorem P_:Cm E0 MZ K2 [.t 4] 14:=AK (fl:=[]) (by kernel_rfl)
abbrev CN:Nat:=115
def CE:PC :=
 .seq (.reg [] (
 AJ 2 .mov [.k (.d (.list true []))]::[]) [0])
 (.seq (.seq (.reg [] (
 AA 3 0::AJ 4 (.eqnil false) [.t 3,.k (.d (.list true []))]::[]) [0,4])
 (.cond (.t 4)
 (.seq (.reg [] (
 AJ 2 .mov [.k (.d (.list true []))]::[]) [2])
 (.ret))
 (.skip)))
 (.seq (.reg [] (
 AJ 5 (.mkrow 1 (.int .u8 0) 0 []) []::AA 6 0::AB 7 (.app 135 1 none true) 5 6::AA 2 7::[]) [2])
 (.ret)))
theorem Dk:Cm E0 CN CE [.t 2] 8:=AK (fl:=[]) (by kernel_rfl)
abbrev F5:Nat:=116
def FX:PC :=
 .seq (.reg [] (
 AJ 4 .mov [.k (.d (.int .u8 0))]::[]) [0,1])
 (.seq (.seq (.reg [] (
 AA 5 0::AJ 6 (.bin .eql) [.t 5,.k (.d (.int .u8 0))]::AA 7 6::AH 8 7 false .mov [.t 1]::AH 9 7 false (.bin .eql) [.t 8,.k (.d (.int .u8 0))]::Bv 10 7 9::[]) [0,1,10])
 (.cond (.t 10)
 (.seq (.reg [] (
 AJ 4 .mov [.k (.d (.int .u8 0))]::[]) [4])
 (.ret))
 (.skip)))
 (.seq (.draw [] (
 (AA 11 0,[])::(AJ 12 (.iaddrA 16 1) [.k (.d (.ptr [.int .i64 0,.int .i64 0,.int .i64 1,.int .i64 4,.int .i64 2,.int .i64 8,.int .i64 5,.int .i64 10,.int .i64 3,.int .i64 14,.int .i64 9,.int .i64 7,.int .i64 6,.int .i64 13,.int .i64 11,.int .i64 12])),.t 11],[])::(AI 13 1 12,[])::(AA 14 1,[])::(AJ 15 (.iaddrA 16 1) [.k (.d (.ptr [.int .i64 0,.int .i64 0,.int .i64 1,.int .i64 4,.int .i64 2,.int .i64 8,.int .i64 5,.int .i64 10,.int .i64 3,.int .i64 14,.int .i64 9,.int .i64 7,.int .i64 6,.int .i64 13,.int .i64 11,.int .i64 12])),.t 14],[])::(AI 16 1 15,[])::(AB 17 (.bin .add) 13 16,[])::(AD 18 (.call 117) 17,[])::(AA 4 18,[])::[]) [4])
 (.ret)))
theorem Ia:Cm E0 F5 FX [.t 4] 19:=AK (fl:=[]) (by kernel_rfl)
abbrev KM:Nat:=117
def I4:PC :=
 .seq (.reg [] (
 AJ 2 .mov [.k (.d (.int .u8 0))]::[]) [0])
 (.seq (.reg [] (
 AA 3 0::AU 4 (.bin .rem) 3 15::AJ 5 (.iaddrA 15 1) [.k (.d (.ptr [.int .u8 1,.int .u8 2,.int .u8 4,.int .u8 8,.int .u8 3,.int .u8 6,.int .u8 12,.int .u8 11,.int .u8 5,.int .u8 10,.int .u8 7,.int .u8 14,.int .u8 15,.int .u8 13,.int .u8 9])),.t 4]::AI 6 1 5::AA 2 6::[]) [2])
 (.ret))
theorem N3:Cm E0 KM I4 [.t 2] 7:=AK (fl:=[]) (by kernel_rfl)
abbrev CI:Nat:=118
def CC:PC :=
 .seq (.reg [] (
 AJ 2 .mov [.k (.d (.list true []))]::[]) [0])
 (.seq (.reg [] (
 AP 3 0::[]) [0,3])
 (.seq (.seq (.reg [] (
 AA 9 0::AD 10 (.len false) 9::AP 11 0::[]) [0,3,9,10,11])
 (.block 0
 (.loop [] [0,3,9,10,11] [900000,901000]
 (.seq (.reg [] (
 AB 12 (.bin .lss) 11 10::[]) [0,3,9,10,11,12])
 (.seq (.cond (.t 12)
 (.skip)
 (.exit 0))
 (.seq (.block 1
 (.seq (.reg [] (
 AB 13 (.iaddrS 1) 9 11::AI 14 1 13::AA 5 14::[]) [0,3,5,9,10,11])
 (.seq (.reg [] (
 AA 15 3::AA 16 5::AD 17 (.len false) 16::AB 18 (.bin .add) 15 17::AA 3 18::[]) [0,3,9,10,11])
 (.seq (.reg [] (
 AA 19 3::AU 20 (.bin .lss) 19 0::[]) [0,3,9,10,11,20])
 (.cond (.t 20)
 (.dead)
 (.skip))))))
 (.reg [] (
 AU 22 (.bin .add) 11 1::AA 11 22::[]) [0,3,9,10,11])))))))
 (.seq (.reg [] (
 AA 23 3::AJ 24 (.call 131) [.k (.d (.list true [])),.t 23]::AA 6 24::[]) [0,6])
 (.seq (.seq (.reg [] (
 AA 25 0::AD 26 (.len false) 25::AP 27 0::[]) [6,25,26,27])
 (.block 2
 (.loop [.own 6 33 135 1] [6,25,26,27] [24,33,10024,900000,901000]
 (.seq (.reg [] (
 AB 28 (.bin .lss) 27 26::[]) [6,25,26,27,28])
 (.seq (.cond (.t 28)
 (.skip)
 (.exit 2))
 (.seq (.block 3
 (.seq (.reg [] (
 AB 29 (.iaddrS 1) 25 27::AI 30 1 29::AA 8 30::[]) [6,8,25,26,27])
 (.reg [] (
 AA 31 6::AA 32 8::AB 33 (.app 135 1 none true) 31 32::AA 6 33::[]) [6,25,26,27])))
 (.reg [] (
 AU 34 (.bin .add) 27 1::AA 27 34::[]) [6,25,26,27])))))))
 (.seq (.reg [] (
 AA 35 6::AA 2 35::[]) [2])
 (.ret))))))
theorem Dc:Cm E0 CI CC [.t 2] 36:=AK (fl:=[]) (by kernel_rfl)
abbrev Cp:Nat:=119
def DT:PC :=
 .seq (.reg [] (
 AP 4 0::[]) [0,1,2,4])
 (.block 0
 (.loop [] [0,1,2,4] [900000,900001,900002,901000,901001,901002]
 (.seq (.seq (.reg [] (
 AA 6 4::AI 7 1 1::AD 8 (.len false) 7::AB 9 (.bin .lss) 6 8::[]) [0,1,2,4,9])
 (.cond (.t 9)
 (.skip)
 (.exit 0)))
 (.seq (.block 1
 (.seq (.draw [] (
 (AI 13 1 2,[])::(AI 14 1 1,[])::(AA 15 4,[])::(AB 16 (.slice 1 true false false) 14 15,[0])::(AD 17 (.len false) 16,[])::(AB 18 (.minmax false) 13 17,[])::(AA 5 18,[])::[]) [0,1,2,4,5])
 (.seq (.yld [] (
 AA 19 0::AI 20 1 1::AA 21 4::AA 22 4::AA 23 5::AB 24 (.bin .add) 22 23::AA 25 4::AA 26 5::AB 27 (.bin .add) 25 26::AJ 28 (.slice 1 true true true) [.t 20,.t 21,.t 24,.t 27]::[]) (some 29) (.t 19) [.t 28] (
 AD 30 (.un .not) 29::[]) [0,1,2,4,30])
 (.cond (.t 30)
 (.ret)
 (.skip)))))
 (.reg [] (
 AA 10 4::AI 11 1 2::AB 12 (.bin .add) 10 11::AA 4 12::[]) [0,1,2,4])))))
theorem HY:Cm E0 Cp DT [] 31:=AK (fl:=[1000029]) (by kernel_rfl)
theorem Ee:Bz E0.P Cp=true:=by kernel_rfl
abbrev DQ:Nat:=120
def DB:PC :=
 .seq (.reg [] (
 AP 4 0::[]) [0,1])
 (.seq (.seq (.reg [] (
 AA 6 0::AD 7 (.len false) 6::AP 8 0::[]) [0,1,7,8])
 (.block 0
 (.loop [] [0,1,7,8] [900000,900001,901000,901001]
 (.seq (.reg [] (
 AB 9 (.bin .lss) 8 7::[]) [0,1,7,8,9])
 (.seq (.cond (.t 9)
 (.skip)
 (.exit 0))
 (.seq (.block 1
 (.seq (.reg [] (
 AA 10 8::AA 5 10::[]) [0,1,5,7,8])
 (.seq (.reg [] (
 AA 11 1::AA 12 0::AA 13 5::AB 14 (.iaddrS 1) 12 13::AI 15 1 14::AB 16 .callv 11 15::[]) [0,1,5,7,8,16])
 (.cond (.t 16)
 (.seq (.reg [] (
 AA 17 5::AA 4 17::[]) [4])
 (.ret))
 (.skip)))))
 (.reg [] (
 AU 18 (.bin .add) 8 1::AA 8 18::[]) [0,1,7,8])))))))
 (.seq (.reg [] (
 AP 4 (-1)::[]) [4])
 (.ret)))
theorem EM:Cm E0 DQ DB [.t 4] 19:=AK (fl:=[]) (by kernel_rfl)
abbrev DR:Nat:=121
def G3:PC :=
 .seq (.reg [] (
 AD 1 .box 0::AP 2 0::[]) [1])
 (.seq (.reg [] (
 AN 3 0 1::AN 4 0 3::AI 5 1 4::AA 2 5::[]) [2])
 (.ret))
theorem LJ:Cm E0 DR G3 [.t 2] 6:=AK (fl:=[]) (by kernel_rfl)
abbrev JR:Nat:=122
def H4:PC :=
 .seq (.reg [] (
 BW 4 false::[]) [0,1])
 (.seq (.seq (.reg [] (
 AA 7 0::AD 8 (.len false) 7::AP 9 0::[]) [0,1,7,8,9])
 (.block 0
 (.loop [] [0,1,7,8,9] [900000,900001,901000,901001]
 (.seq (.reg [] (
 AB 10 (.bin .lss) 9 8::[]) [0,1,7,8,9,10])
 (.seq (.cond (.t 10)
 (.skip)
 (.exit 0))
 (.seq (.block 1
 (.seq (.reg [] (
 AA 11 9::AB 12 (.iaddrS 1) 7 9::AI 13 1 12::AA 5 11::AA 6 13::[]) [0,1,5,6,7,8,9])
 (.seq (.reg [] (
 AA 14 6::AU 15 (.bin .lss) 14 0::AA 16 15::AH 17 16 false .mov [.t 6]::AH 18 16 false .mov [.t 1]::AH 19 16 false (.bin .geq) [.t 17,.t 18]::Bv 20 16 19::AA 21 20::AH 22 21 false .mov [.t 5]::CQ 23 21 (.bin .gtr) 22 0::AH 24 21 false .mov [.t 23]::AH 25 24 true .mov [.t 6]::AH 26 24 true .mov [.t 0]::AH 27 24 true .mov [.t 5]::AH 28 24 true (.bin .sub) [.t 27,.k (.d (.int .i64 1))]::AH 29 24 true (.iaddrS 1) [.t 26,.t 28]::AH 30 24 true (.load false 1) [.t 29]::AH 31 24 true (.bin .leq) [.t 25,.t 30]::AH 32 21 false .pick [.t 24,.t 31,.k (.d (.bool false))]::Bv 33 21 32::[]) [0,1,7,8,9,33])
 (.cond (.t 33)
 (.seq (.reg [] (
 BW 4 false::[]) [4])
 (.ret))
 (.skip)))))
 (.reg [] (
 AU 34 (.bin .add) 9 1::AA 9 34::[]) [0,1,7,8,9])))))))
 (.seq (.reg [] (
 BW 4 true::[]) [4])
 (.ret)))
theorem Mr:Cm E0 JR H4 [.t 4] 35:=AK (fl:=[]) (by kernel_rfl)
abbrev GK:Nat:=123
def Fp:PC :=
 .seq (.reg [] (
 AD 3 .box 0::AD 4 .box 1::AD 5 .box 2::AJ 6 (.zero [.list true []]) []::AJ 7 (.zero [.bool false]) []::[]) [3,4,5,6,7])
 (.seq (.reg [] (
 AD 10 (.load true 2) 3::AI 11 1 4::AB 12 (.call 132) 10 11::AJ 8 (.zero [.list true []]) []::B4 (.store 1) [.t 8,.t 12]::[]) [3,4,5,6,7,8])
 (.seq (.seq (.reg [.frzP 3,.frzP 4,.frzP 5,.frzP 8] (
 AP 9 0::[]) [3,4,5,6,7,8,9])
 (.block 0
 (.loop [] [3,4,5,6,7,8,9] [3,4,5,6,7,8,12,10012,900000,900001,900002,901000,901001,901002]
 (.seq (.seq (.reg [] (
 AA 13 9::AJ 14 (.bin .mul) [.k (.d (.int .i64 2)),.t 13]::AI 15 1 5::AD 16 (.len false) 15::AB 17 (.bin .add) 14 16::AN 18 0 3::AN 19 1 18::AI 20 1 19::AB 21 (.bin .leq) 17 20::AA 22 21::AH 23 22 true (.load false 1) [.t 7]::AH 24 22 true (.un .not) [.t 23]::AJ 25 .pick [.t 22,.t 24,.k (.d (.bool false))]::[]) [3,4,5,6,7,8,9,25])
 (.cond (.t 25)
 (.skip)
 (.exit 0)))
 (.seq (.block 1
 (.reg [] (
 AD 28 (.load true 2) 3::AI 29 1 5::AA 30 9::AJ 31 (.mkfn 134) [.t 5,.t 3,.t 8,.t 4,.t 6,.t 7]::AJ 32 (.call 133) [.t 28,.t 29,.k (.d (.int .i64 0)),.t 30,.t 31]::[]) [3,4,5,6,7,8,9]))
 (.reg [] (
 AA 26 9::AU 27 (.bin .add) 26 1::AA 9 27::[]) [3,4,5,6,7,8,9]))))))
 (.seq (.draw [] (
 (AI 33 1 6,[])::(AI 34 1 7,[])::(B4 (.store 1) [.t 6,.t 33],[1])::(B4 (.store 1) [.t 7,.t 34],[])::[]) [6,7])
 (.ret))))
theorem JH:Cm E0 GK Fp [.c 6 110 false 1,.c 7 4 false 1] 35:=AK (fl:=[]) (by kernel_rfl)
abbrev LZ:Nat:=124
def J4:PC :=
 .seq (.reg [] (
 AD 2 .box 0::AJ 4 .mov [.k (.d (.list true []))]::[]) [1,2])
 (.seq (.reg [] (
 AJ 5 .mov [.k (.d (.list true []))]::[]) [1,2,5])
 (.seq (.seq (.reg [] (
 AN 7 1 2::AI 8 1 7::AU 9 (.bin .sub) 8 1::AA 6 9::[]) [1,5,6])
 (.block 0
 (.loop [.own 5 21 3 1] [1,5,6] [21,900001,901001]
 (.seq (.seq (.reg [] (
 AA 10 6::AU 11 (.bin .geq) 10 0::[]) [1,5,6,11])
 (.cond (.t 11)
 (.skip)
 (.exit 0)))
 (.seq (.block 1
 (.reg [] (
 AA 14 5::AA 15 1::AA 16 6::AD 17 (.conv .u64) 16::AB 18 (.bin .shr) 15 17::AU 19 (.bin .and) 18 1::AD 20 (.mkrow 1 (.int .i64 0) 1 [0]) 19::AB 21 (.app 3 1 none true) 14 20::AA 5 21::[]) [1,5,6]))
 (.reg [] (
 AA 12 6::AU 13 (.bin .sub) 12 1::AA 6 13::[]) [1,5,6]))))))
 (.seq (.reg [] (
 AA 22 5::AA 4 22::[]) [4])
 (.ret))))
theorem PA:Cm E0 LZ J4 [.t 4] 23:=AK (fl:=[]) (by kernel_rfl)
abbrev iA:Nat:=125
abbrev lW:Nat:=126
abbrev cR:Nat:=127
abbrev lX:Nat:=128
abbrev Io:Nat:=129
def K3:PC :=
 .seq (.reg [] (
 BW 2 false::[]) [0])
 (.seq (.reg [] (
 AA 3 0::AU 4 (.bin .neq) 3 0::AA 5 4::AH 6 5 true .mov [.t 0]::AH 7 5 true (.bin .neq) [.t 6,.k (.d (.int .i64 1))]::AJ 8 .pick [.t 5,.t 7,.k (.d (.bool false))]::AA 2 8::[]) [2])
 (.ret))
theorem P':Cm E0 Io K3 [.t 2] 9:=AK (fl:=[]) (by kernel_rfl)
abbrev EN:Nat:=130
def I5:PC :=
 .seq (.reg [] (
 BW 2 false::[]) [0])
 (.seq (.reg [] (
 AA 3 0::AU 4 (.bin .lss) 3 0::AA 5 4::AH 6 5 false .mov [.t 0]::CQ 7 5 (.bin .gtr) 6 15::Bv 8 5 7::AA 2 8::[]) [2])
 (.ret))
theorem N4:Cm E0 EN I5 [.t 2] 9:=AK (fl:=[]) (by kernel_rfl)
abbrev Bd:Nat:=131
def Bq:PC :=
 .seq (.reg [] (
 AJ 4 .mov [.k (.d (.list true []))]::[]) [0,1])
 (.seq (.seq (.reg [] (
 AA 5 1::AU 6 (.bin .lss) 5 0::[]) [0,1,6])
 (.cond (.t 6)
 (.dead)
 (.skip)))
 (.seq (.seq (.reg [] (
 AA 8 1::AA 9 0::AD 10 .cap 9::AA 11 0::AD 12 (.len false) 11::AB 13 (.bin .sub) 10 12::AB 14 (.bin .sub) 8 13::AA 1 14::[]) [0,1])
 (.seq (.reg [] (
 AA 15 1::AU 16 (.bin .gtr) 15 0::[]) [0,1,16])
 (.cond (.t 16)
 (.reg [] (
 AA 17 0::AA 18 0::AD 19 .cap 18::AB 20 (.slice 1 false true false) 17 19::AA 21 1::AB 22 (.app 135 1 (some (.int .u8 0)) true) 20 21::AA 23 0::AD 24 (.len false) 23::AB 25 (.slice 1 false true false) 22 24::AA 0 25::[]) [0])
 (.skip))))
 (.seq (.reg [] (
 AA 26 0::AA 4 26::[]) [4])
 (.ret))))
theorem CG:Cm E0 Bd Bq [.t 4] 27:=AK (fl:=[]) (by kernel_rfl)
abbrev G8:Nat:=132
def GZ:PC :=
 .seq (.reg [] (
 AD 2 .box 0::AJ 4 .mov [.k (.d (.list true []))]::[]) [1,2])
 (.seq (.reg [] (
 AN 9 0 2::AN 10 1 9::AI 11 1 10::AB 12 (.mksl 135 1 (.int .u8 0) true) 11 11::AA 5 12::[]) [1,2,5])
 (.seq (.seq (.reg [] (
 AA 13 5::AD 14 (.len false) 13::AP 15 0::[]) [1,2,5,14,15])
 (.block 0
 (.loop [] [1,2,5,14,15] [2,12,900000,900001,901000,901001]
 (.seq (.reg [] (
 AB 16 (.bin .lss) 15 14::[]) [1,2,5,14,15,16])
 (.seq (.cond (.t 16)
 (.skip)
 (.exit 0))
 (.seq (.block 1
 (.seq (.reg [] (
 AA 17 15::AA 6 17::[]) [1,2,5,6,14,15])
 (.seq (.reg [] (
 AA 18 1::AD 19 (.len false) 18::AP 20 0::[]) [1,2,5,6,14,15,18,19,20])
 (.block 2
 (.loop [] [1,2,5,6,14,15,18,19,20] [2,12,900000,900001,901000,901001]
 (.seq (.reg [] (
 AB 21 (.bin .lss) 20 19::[]) [1,2,5,6,14,15,18,19,20,21])
 (.seq (.cond (.t 21)
 (.skip)
 (.exit 2))
 (.seq (.block 3
 (.seq (.reg [] (
 AA 22 20::AB 23 (.iaddrS 1) 18 20::AI 24 1 23::AA 7 22::AA 8 24::[]) [1,2,5,6,7,8,14,15,18,19,20])
 (.draw [] (
 (AA 25 5,[])::(AA 26 6,[])::(AB 27 (.iaddrS 1) 25 26,[])::(AI 28 1 27,[])::(AA 29 8,[])::(AD 30 (.load true 2) 2,[])::(AA 31 6,[])::(AA 32 7,[])::(AJ 33 (.call 141) [.t 30,.t 31,.t 32],[2,3])::(AB 34 (.call 116) 29 33,[2,3])::(AB 35 (.bin .xor) 28 34,[])::(AB 36 (.iaddrS 1) 25 26,[])::(B4 (.store 1) [.t 36,.t 35],[])::[]) [1,2,5,6,14,15,18,19,20])))
 (.reg [] (
 AU 37 (.bin .add) 20 1::AA 20 37::[]) [1,2,5,6,14,15,18,19,20])))))))))
 (.reg [] (
 AU 38 (.bin .add) 15 1::AA 15 38::[]) [1,2,5,14,15])))))))
 (.seq (.reg [] (
 AA 39 5::AA 4 39::[]) [4])
 (.ret))))
theorem KX:Cm E0 G8 GZ [.t 4] 40:=AK (fl:=[]) (by kernel_rfl)
abbrev F7:Nat:=133
def Dz:PC :=
 .seq (.reg [] (
 AD 5 .box 0::AD 9 .box 4::BW 10 false::[]) [1,2,3,5,9])
 (.seq (.seq (.reg [] (
 AA 12 3::AU 13 (.bin .eql) 12 0::[]) [1,2,3,5,9,13])
 (.cond (.t 13)
 (.seq (.reg [] (
 AI 14 1 9::AJ 15 .callv [.t 14,.k (.d (.list true []))]::AA 10 15::[]) [10])
 (.ret))
 (.skip)))
 (.seq (.seq (.reg [.frzP 5,.frzA 9] (
 AA 16 2::AJ 11 (.zero [.int .i64 0]) []::B4 (.store 1) [.t 11,.t 16]::[]) [1,3,5,9,11])
 (.block 0
 (.loop [] [1,3,5,9,11] [5,9,11,900000,900001,900002,900003,900004,901000,901001,901002,901003,901004]
 (.seq (.seq (.reg [] (
 AI 17 1 11::AN 18 0 5::AN 19 0 18::AI 20 1 19::AB 21 (.bin .lss) 17 20::[]) [1,3,5,9,11,21])
 (.cond (.t 21)
 (.skip)
 (.exit 0)))
 (.seq (.block 1
 (.seq (.seq (.reg [] (
 AA 24 1::AI 25 1 11::AB 26 (.call 142) 24 25::[]) [1,3,5,9,11,26])
 (.cond (.t 26)
 (.exit 1)
 (.skip)))
 (.seq (.reg [.frzP 11] (
 AD 27 (.load true 2) 5::AA 28 1::AI 29 1 11::AU 30 (.bin .add) 29 1::AA 31 3::AU 32 (.bin .sub) 31 1::AB 33 (.mkfn 143) 9 11::AJ 34 (.call 133) [.t 27,.t 28,.t 30,.t 32,.t 33]::AD 35 (.un .not) 34::[]) [1,3,5,9,11,35])
 (.cond (.t 35)
 (.seq (.reg [] (
 BW 10 false::[]) [10])
 (.ret))
 (.skip)))))
 (.seq (.seq (.reg [] (
 AI 36 1 11::[]) [1,3,5,9,36])
 (.reg [] (
 AJ 11 (.zero [.int .i64 0]) []::B4 (.store 1) [.t 11,.t 36]::[]) [1,3,5,9,11]))
 (.reg [] (
 AI 22 1 11::AU 23 (.bin .add) 22 1::B4 (.store 1) [.t 11,.t 23]::[]) [1,3,5,9,11])))))))
 (.seq (.reg [] (
 BW 10 true::[]) [10])
 (.ret))))
theorem FI:Cm E0 F7 Dz [.t 10] 37:=AK (fl:=[]) (by kernel_rfl)
abbrev C2:Nat:=134
def FF:PC :=
 .seq (.reg [] (
 BW 8 false::[]) [0,1,2,3,4,5,6])
 (.seq (.reg [] (
 AI 14 1 1::AA 15 0::AB 16 (.mkrow 1 (.list true []) 2 [0,1]) 14 15::AD 17 (.call 135) 16::AA 9 17::[]) [2,3,4,5,6,9])
 (.seq (.reg [] (
 AD 19 (.load true 2) 2::AI 20 1 3::AA 21 9::AJ 22 (.call 136) [.t 19,.t 20,.t 21]::AA 18 22::BU 23 0 18::BU 24 1 18::AA 10 23::AA 11 24::[]) [4,5,6,9,10,11])
 (.seq (.seq (.reg [] (
 AA 25 11::[]) [4,5,6,9,10,11,25])
 (.cond (.t 25)
 (.seq (.reg [] (
 AI 26 1 4::AD 27 (.call 115) 26::B4 (.store 1) [.t 5,.t 27]::B4 (.store 1) [.t 6,.k (.d (.bool true))]::[]) [5,9,10,11])
 (.seq (.reg [] (
 AA 28 9::AD 29 (.len false) 28::AP 30 0::[]) [5,10,11,28,29,30])
 (.block 0
 (.loop [] [5,10,11,28,29,30] [17,22,27,10017,10022,10027,900004,901004]
 (.seq (.reg [] (
 AB 31 (.bin .lss) 30 29::[]) [5,10,11,28,29,30,31])
 (.seq (.cond (.t 31)
 (.skip)
 (.exit 0))
 (.seq (.block 1
 (.seq (.reg [] (
 AA 32 30::AB 33 (.iaddrS 1) 28 30::AI 34 1 33::AA 12 32::AA 13 34::[]) [5,10,11,12,13,28,29,30])
 (.draw [] (
 (AI 35 1 5,[])::(AA 36 13,[])::(AB 37 (.iaddrS 1) 35 36,[])::(AI 38 1 37,[])::(AA 39 10,[])::(AA 40 12,[])::(AB 41 (.iaddrS 1) 39 40,[])::(AI 42 1 41,[])::(AB 43 (.bin .xor) 38 42,[])::(AB 44 (.iaddrS 1) 35 36,[])::(B4 (.store 1) [.t 44,.t 43],[])::[]) [5,10,11,28,29,30])))
 (.reg [] (
 AU 45 (.bin .add) 30 1::AA 30 45::[]) [5,10,11,28,29,30]))))))))
 (.skip)))
 (.seq (.reg [.frzC 5 0] (
 AA 46 11::AD 47 (.un .not) 46::AA 8 47::[]) [8])
 (.ret)))))
theorem Hw:Cm E0 C2 FF [.t 8] 48:=AK (fl:=[]) (by kernel_rfl)
abbrev Fe:Nat:=135
def FE:PC :=
 .seq (.reg [] (
 AJ 2 .mov [.k (.d (.list true []))]::[]) [0])
 (.seq (.reg [] (
 AP 3 0::[]) [0,3])
 (.seq (.seq (.reg [] (
 AA 9 0::AD 10 (.len false) 9::AP 11 0::[]) [0,3,9,10,11])
 (.block 0
 (.loop [] [0,3,9,10,11] [900000,901000]
 (.seq (.reg [] (
 AB 12 (.bin .lss) 11 10::[]) [0,3,9,10,11,12])
 (.seq (.cond (.t 12)
 (.skip)
 (.exit 0))
 (.seq (.block 1
 (.seq (.reg [] (
 AB 13 (.iaddrS 1) 9 11::AI 14 1 13::AA 5 14::[]) [0,3,5,9,10,11])
 (.seq (.reg [] (
 AA 15 3::AA 16 5::AD 17 (.len false) 16::AB 18 (.bin .add) 15 17::AA 3 18::[]) [0,3,9,10,11])
 (.seq (.reg [] (
 AA 19 3::AU 20 (.bin .lss) 19 0::[]) [0,3,9,10,11,20])
 (.cond (.t 20)
 (.dead)
 (.skip))))))
 (.reg [] (
 AU 22 (.bin .add) 11 1::AA 11 22::[]) [0,3,9,10,11])))))))
 (.seq (.reg [] (
 AA 23 3::AJ 24 (.call 144) [.k (.d (.list true [])),.t 23]::AA 6 24::[]) [0,6])
 (.seq (.seq (.reg [] (
 AA 25 0::AD 26 (.len false) 25::AP 27 0::[]) [6,25,26,27])
 (.block 2
 (.loop [.own 6 33 3 1] [6,25,26,27] [24,33,10024,900000,901000]
 (.seq (.reg [] (
 AB 28 (.bin .lss) 27 26::[]) [6,25,26,27,28])
 (.seq (.cond (.t 28)
 (.skip)
 (.exit 2))
 (.seq (.block 3
 (.seq (.reg [] (
 AB 29 (.iaddrS 1) 25 27::AI 30 1 29::AA 8 30::[]) [6,8,25,26,27])
 (.reg [] (
 AA 31 6::AA 32 8::AB 33 (.app 3 1 none true) 31 32::AA 6 33::[]) [6,25,26,27])))
 (.reg [] (
 AU 34 (.bin .add) 27 1::AA 27 34::[]) [6,25,26,27])))))))
 (.seq (.reg [] (
 AA 35 6::AA 2 35::[]) [2])
 (.ret))))))
theorem Hv:Cm E0 Fe FE [.t 2] 36:=AK (fl:=[]) (by kernel_rfl)
abbrev Gr:Nat:=136
def GG:PC :=
 .seq (.reg [] (
 AD 3 .box 0::AD 5 .box 2::AJ 6 .mov [.k (.d (.list true []))]::BW 7 false::[]) [1,3,5])
 (.seq (.reg [] (
 AJ 8 .mov [.k (.d (.list true []))]::[]) [1,3,5,8])
 (.seq (.seq (.reg [.frzP 3,.frzP 5] (
 AA 23 1::AD 24 (.len false) 23::AP 25 0::[]) [3,5,8,23,24,25])
 (.block 0
 (.loop [.ownM 8 50 152 135] [3,5,8,23,24,25] [3,5,50,900000,900001,900002,901000,901001,901002]
 (.seq (.reg [] (
 AB 26 (.bin .lss) 25 24::[]) [3,5,8,23,24,25,26])
 (.seq (.cond (.t 26)
 (.skip)
 (.exit 0))
 (.seq (.block 1
 (.seq (.reg [] (
 AA 27 25::AB 28 (.iaddrS 1) 23 25::AI 29 1 28::AA 9 27::AA 10 29::[]) [3,5,8,9,10,23,24,25])
 (.seq (.reg [] (
 AJ 11 .mov [.k (.d (.list true []))]::[]) [3,5,8,9,10,11,23,24,25])
 (.seq (.seq (.reg [] (
 AI 30 1 5::AD 31 (.len false) 30::AP 32 0::[]) [3,5,8,9,10,11,23,24,25,30,31,32])
 (.block 2
 (.loop [.ownM 8 50 152 135,.own 11 42 135 1] [3,5,8,9,10,11,23,24,25,30,31,32] [3,5,42,50,900000,900001,900002,901000,901001,901002]
 (.seq (.reg [] (
 AB 33 (.bin .lss) 32 31::[]) [3,5,8,9,10,11,23,24,25,30,31,32,33])
 (.seq (.cond (.t 33)
 (.skip)
 (.exit 2))
 (.seq (.block 3
 (.seq (.reg [] (
 AB 34 (.iaddrS 1) 30 32::AI 35 1 34::AA 13 35::[]) [3,5,8,9,10,11,13,23,24,25,30,31,32])
 (.reg [] (
 AA 36 11::AD 37 (.load true 2) 3::AA 38 9::AA 39 13::AJ 40 (.call 141) [.t 37,.t 38,.t 39]::AD 41 (.mkrow 1 (.int .u8 0) 1 [0]) 40::AB 42 (.app 135 1 none true) 36 41::AA 11 42::[]) [3,5,8,9,10,11,23,24,25,30,31,32])))
 (.reg [] (
 AU 43 (.bin .add) 32 1::AA 32 43::[]) [3,5,8,9,10,11,23,24,25,30,31,32])))))))
 (.reg [] (
 AA 44 8::AA 45 11::AA 46 10::AD 47 (.mkrow 1 (.int .u8 0) 1 [0]) 46::AB 48 (.app 135 1 none false) 45 47::AD 49 (.mkrow 1 (.list true []) 1 [0]) 48::AB 50 (.app 152 1 none true) 44 49::AA 8 50::[]) [3,5,8,23,24,25])))))
 (.reg [] (
 AU 51 (.bin .add) 25 1::AA 25 51::[]) [3,5,8,23,24,25])))))))
 (.seq (.seq (.reg [] (
 AI 52 1 5::AD 53 (.len false) 52::AP 54 0::[]) [5,8,53,54])
 (.block 4
 (.loop [.ownM 8 50 152 135] [5,8,53,54] [5,50,900002,901002]
 (.seq (.reg [] (
 AB 55 (.bin .lss) 54 53::[]) [5,8,53,54,55])
 (.seq (.cond (.t 55)
 (.skip)
 (.exit 4))
 (.seq (.block 5
 (.seq (.reg [] (
 AA 56 54::AA 14 56::[]) [5,8,14,53,54])
 (.seq (.reg [] (
 AA 57 14::AA 15 57::[]) [5,8,14,15,53,54])
 (.seq (.block 6
 (.loop [.ownM 8 50 152 135] [5,8,14,15,53,54] [5,50,900002,901002]
 (.seq (.seq (.reg [] (
 AA 58 15::AA 59 8::AD 60 (.len false) 59::AB 61 (.bin .lss) 58 60::AA 62 61::AH 63 62 true .mov [.t 8]::AH 64 62 true .mov [.t 15]::AH 65 62 true (.iaddrS 1) [.t 63,.t 64]::AH 66 62 true (.load false 1) [.t 65]::AH 67 62 true .mov [.t 14]::AH 68 62 true (.iaddrS 1) [.t 66,.t 67]::AH 69 62 true (.load false 1) [.t 68]::AH 70 62 true (.bin .eql) [.t 69,.k (.d (.int .u8 0))]::AJ 71 .pick [.t 62,.t 70,.k (.d (.bool false))]::[]) [5,8,14,15,53,54,71])
 (.cond (.t 71)
 (.skip)
 (.exit 6)))
 (.block 7
 (.reg [] (
 AA 72 15::AU 73 (.bin .add) 72 1::AA 15 73::[]) [5,8,14,15,53,54])))))
 (.seq (.seq (.reg [] (
 AA 74 15::AA 75 8::AD 76 (.len false) 75::AB 77 (.bin .eql) 74 76::[]) [5,8,14,15,53,54,77])
 (.cond (.t 77)
 (.seq (.reg [] (
 AJ 6 .mov [.k (.d (.list true []))]::BW 7 false::[]) [6,7])
 (.ret))
 (.skip)))
 (.seq (.draw [] (
 (AA 78 8,[])::(AA 79 14,[])::(AA 80 8,[])::(AA 81 15,[])::(AA 82 8,[])::(AA 83 15,[])::(AB 84 (.iaddrS 1) 82 83,[])::(AI 85 1 84,[])::(AA 86 8,[])::(AA 87 14,[])::(AB 88 (.iaddrS 1) 86 87,[])::(AI 89 1 88,[])::(AB 90 (.iaddrS 1) 78 79,[])::(B4 (.store 1) [.t 90,.t 85],[])::(AB 91 (.iaddrS 1) 80 81,[])::(B4 (.store 1) [.t 91,.t 89],[])::[]) [5,8,14,53,54])
 (.seq (.reg [] (
 AA 92 8::AA 93 14::AB 94 (.iaddrS 1) 92 93::AI 95 1 94::AA 96 14::AB 97 (.iaddrS 1) 95 96::AI 98 1 97::AD 99 (.call 145) 98::AA 16 99::[]) [5,8,14,16,53,54])
 (.seq (.seq (.reg [] (
 AA 100 8::AA 101 14::AB 102 (.iaddrS 1) 100 101::AI 103 1 102::AD 104 (.len false) 103::AP 105 0::[]) [5,8,14,16,53,54,103,104,105])
 (.block 8
 (.loop [.ownM 8 50 152 135] [5,8,14,16,53,54,103,104,105] [5,50,99,10099,900002,901002]
 (.seq (.reg [] (
 AB 106 (.bin .lss) 105 104::[]) [5,8,14,16,53,54,103,104,105,106])
 (.seq (.cond (.t 106)
 (.skip)
 (.exit 8))
 (.seq (.block 9
 (.seq (.reg [] (
 AA 107 105::AB 108 (.iaddrS 1) 103 105::AI 109 1 108::AA 17 107::AA 18 109::[]) [5,8,14,16,17,18,53,54,103,104,105])
 (.draw [] (
 (AA 110 8,[])::(AA 111 14,[])::(AB 112 (.iaddrS 1) 110 111,[])::(AI 113 1 112,[])::(AA 114 17,[])::(AA 115 18,[])::(AA 116 16,[])::(AB 117 (.call 116) 115 116,[2,3])::(AB 118 (.iaddrS 1) 113 114,[])::(B4 (.store 1) [.t 118,.t 117],[])::[]) [5,8,14,16,53,54,103,104,105])))
 (.reg [] (
 AU 119 (.bin .add) 105 1::AA 105 119::[]) [5,8,14,16,53,54,103,104,105])))))))
 (.seq (.reg [] (
 AA 120 8::AD 121 (.len false) 120::AP 122 0::[]) [5,8,14,53,54,120,121,122])
 (.block 10
 (.loop [.ownM 8 50 152 135] [5,8,14,53,54,120,121,122] [5,50,900002,901002]
 (.seq (.reg [] (
 AB 123 (.bin .lss) 122 121::[]) [5,8,14,53,54,120,121,122,123])
 (.seq (.cond (.t 123)
 (.skip)
 (.exit 10))
 (.seq (.block 11
 (.seq (.reg [] (
 AA 124 122::AB 125 (.iaddrS 1) 120 122::AI 126 1 125::AA 19 124::AA 20 126::[]) [5,8,14,19,20,53,54,120,121,122])
 (.seq (.reg [] (
 AA 127 19::AA 128 14::AB 129 (.bin .neq) 127 128::[]) [5,8,14,20,53,54,120,121,122,129])
 (.cond (.t 129)
 (.draw [] (
 (AA 130 20,[])::(AA 131 8,[])::(AA 132 14,[])::(AB 133 (.iaddrS 1) 131 132,[])::(AI 134 1 133,[])::(AA 135 20,[])::(AA 136 14,[])::(AB 137 (.iaddrS 1) 135 136,[])::(AI 138 1 137,[])::(AJ 139 (.call 146) [.t 130,.t 134,.t 138],[])::[]) [5,8,14,53,54,120,121,122])
 (.skip)))))
 (.reg [] (
 AU 140 (.bin .add) 122 1::AA 122 140::[]) [5,8,14,53,54,120,121,122])))))))))))))))
 (.reg [] (
 AU 141 (.bin .add) 54 1::AA 54 141::[]) [5,8,53,54])))))))
 (.seq (.seq (.reg [.frzM 8] (
 AA 142 8::AI 143 1 5::AD 144 (.len false) 143::AB 145 (.slice 1 true false false) 142 144::AD 146 (.len false) 145::AP 147 0::[]) [5,8,145,146,147])
 (.block 12
 (.loop [] [5,8,145,146,147] [5,900002,901002]
 (.seq (.reg [] (
 AB 148 (.bin .lss) 147 146::[]) [5,8,145,146,147,148])
 (.seq (.cond (.t 148)
 (.skip)
 (.exit 12))
 (.seq (.block 13
 (.seq (.reg [] (
 AB 149 (.iaddrS 1) 145 147::AI 150 1 149::AA 22 150::[]) [5,8,22,145,146,147])
 (.seq (.reg [] (
 AA 151 22::AI 152 1 5::AD 153 (.len false) 152::AB 154 (.iaddrS 1) 151 153::AI 155 1 154::AJ 156 (.bin .neq) [.t 155,.k (.d (.int .u8 0))]::[]) [5,8,145,146,147,156])
 (.cond (.t 156)
 (.seq (.reg [] (
 AJ 6 .mov [.k (.d (.list true []))]::BW 7 false::[]) [6,7])
 (.ret))
 (.skip)))))
 (.reg [] (
 AU 157 (.bin .add) 147 1::AA 147 157::[]) [5,8,145,146,147])))))))
 (.seq (.reg [] (
 AA 158 8::AI 159 1 5::AD 160 (.len false) 159::AB 161 (.slice 1 false true false) 158 160::AD 162 (.mkfn 148) 5::AB 163 (.call 147) 161 162::AA 6 163::BW 7 true::[]) [6,7])
 (.ret))))))
theorem Jo:Cm E0 Gr GG [.t 6,.t 7] 164:=AK (fl:=[48]) (by kernel_rfl)
abbrev iC:Nat:=137
abbrev iB:Nat:=138
abbrev lZ:Nat:=139
abbrev oS:Nat:=140
abbrev GI:Nat:=141
def Fn:PC :=
 .seq (.reg [] (
 AD 3 .box 0::AJ 6 .mov [.k (.d (.int .u8 0))]::[]) [1,2,3])
 (.seq (.reg [] (
 AA 7 1::AN 8 0 3::AN 9 0 8::AI 10 1 9::AU 11 (.bin .sub) 10 1::AA 12 2::AB 13 (.bin .sub) 11 12::AB 14 (.bin .mul) 7 13::AD 15 (.call 117) 14::AA 6 15::[]) [6])
 (.ret))
theorem JF:Cm E0 GI Fn [.t 6] 16:=AK (fl:=[]) (by kernel_rfl)
abbrev E7:Nat:=142
def El:PC :=
 .seq (.reg [] (
 BW 4 false::[]) [0,1])
 (.seq (.reg [] (
 AA 5 0::AA 6 1::AB 7 (.call 101) 5 6::AU 8 (.bin .geq) 7 0::AA 4 8::[]) [4])
 (.ret))
theorem HB:Cm E0 E7 El [.t 4] 9:=AK (fl:=[]) (by kernel_rfl)
abbrev B0:Nat:=143
def E2:PC :=
 .seq (.reg [] (
 BW 4 false::[]) [0,1,2])
 (.seq (.draw [] (
 (AI 5 1 1,[])::(AI 6 1 2,[])::(AD 7 (.mkrow 1 (.int .i64 0) 1 [0]) 6,[])::(AA 8 0,[])::(AB 9 (.app 3 1 none false) 7 8,[0])::(AB 10 .callv 5 9,[])::(AA 4 10,[])::[]) [4])
 (.ret))
theorem Ha:Cm E0 B0 E2 [.t 4] 11:=AK (fl:=[]) (by kernel_rfl)
abbrev DS:Nat:=144
def ED:PC :=
 .seq (.reg [] (
 AJ 4 .mov [.k (.d (.list true []))]::[]) [0,1])
 (.seq (.seq (.reg [] (
 AA 5 1::AU 6 (.bin .lss) 5 0::[]) [0,1,6])
 (.cond (.t 6)
 (.dead)
 (.skip)))
 (.seq (.seq (.reg [] (
 AA 8 1::AA 9 0::AD 10 .cap 9::AA 11 0::AD 12 (.len false) 11::AB 13 (.bin .sub) 10 12::AB 14 (.bin .sub) 8 13::AA 1 14::[]) [0,1])
 (.seq (.reg [] (
 AA 15 1::AU 16 (.bin .gtr) 15 0::[]) [0,1,16])
 (.cond (.t 16)
 (.reg [] (
 AA 17 0::AA 18 0::AD 19 .cap 18::AB 20 (.slice 1 false true false) 17 19::AA 21 1::AB 22 (.app 3 1 (some (.int .i64 0)) true) 20 21::AA 23 0::AD 24 (.len false) 23::AB 25 (.slice 1 false true false) 22 24::AA 0 25::[]) [0])
 (.skip))))
 (.seq (.reg [] (
 AA 26 0::AA 4 26::[]) [4])
 (.ret))))
theorem Fd:Cm E0 DS ED [.t 4] 27:=AK (fl:=[]) (by kernel_rfl)
abbrev FL:Nat:=145
def E1:PC :=
 .seq (.reg [] (
 AJ 2 .mov [.k (.d (.int .u8 0))]::[]) [0])
 (.seq (.reg [] (
 AA 3 0::AJ 4 (.iaddrA 16 1) [.k (.d (.ptr [.int .i64 0,.int .i64 0,.int .i64 1,.int .i64 4,.int .i64 2,.int .i64 8,.int .i64 5,.int .i64 10,.int .i64 3,.int .i64 14,.int .i64 9,.int .i64 7,.int .i64 6,.int .i64 13,.int .i64 11,.int .i64 12])),.t 3]::AI 5 1 4::AJ 6 (.bin .sub) [.k (.d (.int .i64 15)),.t 5]::AD 7 (.call 117) 6::AA 2 7::[]) [2])
 (.ret))
theorem HZ:Cm E0 FL E1 [.t 2] 8:=AK (fl:=[]) (by kernel_rfl)
abbrev F6:Nat:=146
def HN:PC :=
 .seq (.reg [] (
 AA 8 1::AD 9 (.len false) 8::AP 10 0::[]) [0,2,8,9,10])
 (.block 0
 (.loop [] [0,2,8,9,10] [900000,900001,900002,901000,901001,901002]
 (.seq (.reg [] (
 AB 11 (.bin .lss) 10 9::[]) [0,2,8,9,10,11])
 (.seq (.cond (.t 11)
 (.skip)
 (.exit 0))
 (.seq (.block 1
 (.seq (.reg [] (
 AA 12 10::AB 13 (.iaddrS 1) 8 10::AI 14 1 13::AA 6 12::AA 7 14::[]) [0,2,6,7,8,9,10])
 (.draw [] (
 (AA 15 0,[])::(AA 16 6,[])::(AB 17 (.iaddrS 1) 15 16,[])::(AI 18 1 17,[])::(AA 19 7,[])::(AA 20 2,[])::(AB 21 (.call 116) 19 20,[2,3])::(AB 22 (.bin .xor) 18 21,[])::(AB 23 (.iaddrS 1) 15 16,[])::(B4 (.store 1) [.t 23,.t 22],[])::[]) [0,2,8,9,10])))
 (.reg [] (
 AU 24 (.bin .add) 10 1::AA 10 24::[]) [0,2,8,9,10]))))))
theorem L1:Cm E0 F6 HN [] 25:=AK (fl:=[]) (by kernel_rfl)
abbrev CO:Nat:=147
def CF:PC :=
 .seq (.reg [] (
 AJ 4 .mov [.k (.d (.list true []))]::[]) [0,1])
 (.seq (.reg [] (
 AJ 5 .mov [.k (.d (.list true []))]::[]) [0,1,5])
 (.seq (.seq (.reg [] (
 AA 8 0::AD 9 (.len false) 8::AP 10 0::[]) [1,5,8,9,10])
 (.block 0
 (.loop [.own 5 19 135 1] [1,5,8,9,10] [19,900000,900001,901000,901001]
 (.seq (.reg [] (
 AB 11 (.bin .lss) 10 9::[]) [1,5,8,9,10,11])
 (.seq (.cond (.t 11)
 (.skip)
 (.exit 0))
 (.seq (.block 1
 (.seq (.reg [] (
 AB 12 (.iaddrS 1) 8 10::AI 13 1 12::AA 7 13::[]) [1,5,7,8,9,10])
 (.reg [] (
 AA 14 5::AA 15 1::AA 16 7::AB 17 .callv 15 16::AD 18 (.mkrow 1 (.int .u8 0) 1 [0]) 17::AB 19 (.app 135 1 none true) 14 18::AA 5 19::[]) [1,5,8,9,10])))
 (.reg [] (
 AU 20 (.bin .add) 10 1::AA 10 20::[]) [1,5,8,9,10])))))))
 (.seq (.reg [] (
 AA 21 5::AA 4 21::[]) [4])
 (.ret))))
theorem Dl:Cm E0 CO CF [.t 4] 22:=AK (fl:=[]) (by kernel_rfl)
abbrev DG:Nat:=148
def FY:PC :=
 .seq (.reg [] (
 AJ 3 .mov [.k (.d (.int .u8 0))]::[]) [0,1])
 (.seq (.reg [] (
 AA 4 0::AI 5 1 1::AD 6 (.len false) 5::AB 7 (.iaddrS 1) 4 6::AI 8 1 7::AA 3 8::[]) [3])
 (.ret))
theorem Ib:Cm E0 DG FY [.t 3] 9:=AK (fl:=[]) (by kernel_rfl)
abbrev h_:Nat:=149
abbrev cU:Nat:=170
end Go.Pw
