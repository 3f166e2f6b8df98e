/- A part of the proof. -/
import Derived.Test.YtibkjeolahobbaaDoorPwVC
import Derived.Test.YtibkjeolahobbaaDoorProg
import Derived.KernelRfl
set_option linter.all false
open Go Go.Pw Go.Proofs
namespace Go.Pw
set_option maxRecDepth 100000
def G0:Nat->Option (List D):=fun g=>if g=1 then some [.int .u8 1,.int .u8 2,.int .u8 4,.int .u8 8,.int .u8 3,.int .u8 6,.int .u8 12,.int .u8 11,.int .u8 5,.int .u8 10,.int .u8 7,.int .u8 14,.int .u8 15,.int .u8 13,.int .u8 9] else if g=0 then some [.int .i64 0,.int .i64 0,.int .i64 1,.int .i64 4,.int .i64 2,.int .i64 8,.int .i64 5,.int .i64 10,.int .i64 3,.int .i64 14,.int .i64 9,.int .i64 7,.int .i64 6,.int .i64 13,.int .i64 11,.int .i64 12] else none
noncomputable def E0:Co:=⟨Tryd.prog,G0⟩
theorem A0:E0.P.follows .mixedOrders=true:=by kernel_rfl
abbrev SZ:Nat:=3
abbrev AA (d a:Nat):Ez:=⟨some d,none,.mov,[.t a]⟩
abbrev BR (d i a:Nat):Ez:=⟨some d,none,.extract i,[.t a]⟩
abbrev AR (d i a:Nat):Ez:=⟨some d,none,.faddr i,[.t a]⟩
abbrev AG (d n a:Nat):Ez:=⟨some d,none,.load false n,[.t a]⟩
abbrev AP (d:Nat) (n:Int):Ez:=⟨some d,none,.mov,[.k (.d (.int .i64 n))]⟩
abbrev BW (d:Nat) (b:Bool):Ez:=⟨some d,none,.mov,[.k (.d (.bool b))]⟩
abbrev Bp (d a b:Nat):Ez:=⟨some d,none,.pick,[.t a,.k (.d (.bool true)),.t b]⟩
abbrev AD (d:Nat) (o:B7) (a:Nat):Ez:=⟨some d,none,o,[.t a]⟩
abbrev AB (d:Nat) (o:B7) (a b:Nat):Ez:=⟨some d,none,o,[.t a,.t b]⟩
abbrev AW (d:Nat) (o:B7) (a:Nat) (n:Int):Ez:=⟨some d,none,o,[.t a,.k (.d (.int .i64 n))]⟩
abbrev AK (d:Nat) (o:B7) (x:List J1):Ez:=⟨some d,none,o,x⟩
abbrev CJ (o:B7) (x:List J1):Ez:=⟨none,none,o,x⟩
abbrev Bk (d c i a:Nat):Ez:=⟨some d,some (c,false),.faddr i,[.t a]⟩
abbrev B0 (d c n a:Nat):Ez:=⟨some d,some (c,false),.load false n,[.t a]⟩
abbrev CO (d c:Nat) (o:B7) (a:Nat) (n:Int):Ez:=⟨some d,some (c,false),o,[.t a,.k (.d (.int .i64 n))]⟩
abbrev AF (d c:Nat) (b:Bool) (o:B7) (x:List J1):Ez:=⟨some d,some (c,b),o,x⟩
abbrev ao:Nat:=2
abbrev Gy:Nat:=3
def GQ:PC :=
 .seq (.reg [] (
 AD 2 .box 0::AD 3 .box 1::BW 4 false::[]) [2,3])
 (.seq (.seq (.reg [] (
 AD 15 (.load true 12) 2::AR 16 0 3::AG 17 1 16::AB 18 (.call 6) 15 17::AD 19 (.un .not) 18::AA 20 19::AF 21 20 false (.load true 12) [.t 2]::Bk 22 20 1 3::B0 23 20 1 22::AF 24 20 false (.call 6) [.t 21,.t 23]::AF 25 20 false (.un .not) [.t 24]::Bp 26 20 25::AA 27 26::Bk 28 27 2 3::B0 29 27 1 28::AF 30 27 false (.len false) [.t 29]::Bk 31 27 11 2::B0 32 27 1 31::AF 33 27 false (.bin .gtr) [.t 30,.t 32]::Bp 34 27 33::[]) [2,3,34])
 (.cond (.t 34)
 (.seq (.reg [] (
 AK 35 (.call 7) []::AA 4 35::[]) [4])
 (.ret))
 (.skip)))
 (.seq (.reg [] (
 AD 37 (.load true 12) 2::AD 38 (.call 8) 37::AA 36 38::BR 39 0 36::BR 40 1 36::AA 5 39::AA 6 40::[]) [2,3,5,6])
 (.seq (.reg [] (
 AD 42 (.load true 12) 2::AR 43 0 3::AG 44 1 43::AB 45 (.call 9) 42 44::AA 41 45::BR 46 0 41::BR 47 1 41::AA 7 46::AA 8 47::[]) [2,3,5,6,7,8])
 (.seq (.reg [] (
 AD 49 (.load true 12) 2::AR 50 1 3::AG 51 1 50::AB 52 (.call 9) 49 51::AA 48 52::BR 53 0 48::BR 54 1 48::AA 9 53::AA 10 54::[]) [2,3,5,6,7,8,9,10])
 (.seq (.seq (.reg [] (
 AA 55 6::AW 56 (.bin .neq) 55 0::AA 57 56::AF 58 57 false .mov [.t 8]::CO 59 57 (.bin .neq) 58 0::Bp 60 57 59::AA 61 60::AF 62 61 false .mov [.t 10]::CO 63 61 (.bin .neq) 62 0::Bp 64 61 63::AA 65 64::AF 66 65 false .mov [.t 7]::AF 67 65 false (.len false) [.t 66]::AF 68 65 false (.load true 12) [.t 2]::AF 69 65 false (.call 10) [.t 68]::AF 70 65 false (.bin .neq) [.t 67,.t 69]::Bp 71 65 70::AA 72 71::AF 73 72 false .mov [.t 9]::AF 74 72 false (.len false) [.t 73]::AF 75 72 false .mov [.t 7]::AF 76 72 false (.len false) [.t 75]::AF 77 72 false (.bin .neq) [.t 74,.t 76]::Bp 78 72 77::AA 79 78::AF 80 79 false .mov [.t 5]::CO 81 79 (.bin .lss) 80 0::Bp 82 79 81::AA 83 82::AF 84 83 false .mov [.t 5]::Bk 85 83 9 2::B0 86 83 1 85::AF 87 83 false (.len false) [.t 86]::AF 88 83 false (.bin .gtr) [.t 84,.t 87]::Bp 89 83 88::[]) [2,3,5,7,9,89])
 (.cond (.t 89)
 (.seq (.reg [] (
 BW 4 false::[]) [4])
 (.ret))
 (.skip)))
 (.seq (.seq (.reg [] (
 AA 90 5::AR 91 11 2::AG 92 1 91::AK 93 (.bin .mul) [.k (.d (.int .i64 2)),.t 92]::AB 94 (.bin .leq) 90 93::AA 95 94::Bk 96 95 3 3::B0 97 95 1 96::CO 98 95 (.bin .lss) 97 1::Bp 99 95 98::AA 100 99::Bk 101 100 3 3::B0 102 100 1 101::AF 103 100 false .mov [.t 7]::AF 104 100 false (.len false) [.t 103]::AF 105 100 false (.bin .gtr) [.t 102,.t 104]::Bp 106 100 105::[]) [2,3,7,9,106])
 (.cond (.t 106)
 (.seq (.reg [] (
 AK 107 (.call 7) []::AA 4 107::[]) [4])
 (.ret))
 (.skip)))
 (.seq (.draw [] (
 (AK 108 (.mkrow 1 (.int .i64 0) 0 []) [],[])::(AA 109 7,[])::(AB 110 (.app 3 1 none true) 108 109,[])::(AA 111 9,[])::(AB 112 (.app 3 1 none false) 110 111,[])::(AR 113 2 3,[])::(AG 114 1 113,[2,4])::(AB 115 (.call 11) 112 114,[])::(AA 11 115,[])::[]) [2,3,7,11])
 (.seq (.draw [] (
 (AD 117 (.load true 12) 2,[])::(AA 118 11,[])::(AR 119 3 3,[])::(AG 120 1 119,[])::(AB 121 (.slice 1 true false false) 118 120,[0])::(AB 122 (.call 12) 117 121,[])::(AA 116 122,[])::(BR 123 0 116,[])::(BR 124 1 116,[])::(BR 125 2 116,[])::(AA 12 123,[])::(AA 13 124,[])::(AA 14 125,[])::[]) [3,7,13,14])
 (.seq (.reg [] (
 AA 126 14::AW 127 (.bin .eql) 126 0::AA 128 127::AF 129 128 true .mov [.t 13]::AF 130 128 true .mov [.t 7]::AF 131 128 true (.len false) [.t 130]::AF 132 128 true (.faddr 3) [.t 3]::AF 133 128 true (.load false 1) [.t 132]::AF 134 128 true (.bin .sub) [.t 131,.t 133]::AF 135 128 true (.bin .eql) [.t 129,.t 134]::AK 136 .pick [.t 128,.t 135,.k (.d (.bool false))]::AA 137 136::AF 138 137 false .mov [.t 14]::CO 139 137 (.bin .eql) 138 52::Bp 140 137 139::AA 141 140::AF 142 141 true (.call 7) []::AK 143 .pick [.t 141,.t 142,.k (.d (.bool false))]::AA 4 143::[]) [4])
 (.ret))))))))))
theorem KG:Ct E0 Gy GQ [.t 4] 144:=AL (fl:=[110]) (by kernel_rfl)
abbrev Je:Nat:=4
abbrev Jf:Nat:=5
abbrev L_:Nat:=6
def Kh:PC :=
 .seq (.reg [] (
 AD 2 .box 0::BW 4 false::[]) [1,2])
 (.seq (.reg [] (
 AD 5 (.load true 12) 2::AD 6 (.call 22) 5::AD 7 (.un .not) 6::AA 8 7::AF 9 8 true (.load true 12) [.t 2]::AF 10 8 true (.call 23) [.t 9]::AF 11 8 true (.bin .eql) [.t 10,.k (.d (.int .i64 0))]::AK 12 .pick [.t 8,.t 11,.k (.d (.bool false))]::AA 13 12::AF 14 13 true .mov [.t 1]::AF 15 13 true (.len false) [.t 14]::AF 16 13 true (.bin .leq) [.t 15,.k (.d (.int .i64 100))]::AK 17 .pick [.t 13,.t 16,.k (.d (.bool false))]::AA 18 17::AF 19 18 true .mov [.t 1]::AF 20 18 true (.faddr 6) [.t 2]::AF 21 18 true (.faddr 2) [.t 20]::AF 22 18 true (.load false 1) [.t 21]::AF 23 18 true (.faddr 6) [.t 2]::AF 24 18 true (.faddr 0) [.t 23]::AF 25 18 true (.faddr 0) [.t 24]::AF 26 18 true (.load false 1) [.t 25]::AF 27 18 true (.faddr 6) [.t 2]::AF 28 18 true (.faddr 0) [.t 27]::AF 29 18 true (.faddr 1) [.t 28]::AF 30 18 true (.load false 1) [.t 29]::AF 31 18 true (.bin .sub) [.t 26,.t 30]::AF 32 18 true (.bin .mul) [.t 22,.t 31]::AF 33 18 true (.call 24) [.t 19,.t 32]::AK 34 .pick [.t 18,.t 33,.k (.d (.bool false))]::AA 4 34::[]) [4])
 (.ret))
theorem PY:Ct E0 L_ Kh [.t 4] 35:=AL (fl:=[]) (by kernel_rfl)
abbrev L9:Nat:=7
def Kg:PC :=
 .seq (.reg [] (
 BW 0 false::[]) [])
 (.seq (.reg [] (
 AK 11 (.call 25) []::AA 10 11::BR 12 0 10::BR 13 1 10::AK 1 (.zero [.int .i64 0,.int .i64 0,.int .i64 0,.int .i64 0,.list true [],.list true [],.int .i64 0,.int .i64 0,.int .i64 0,.list true [],.int .i64 0,.int .i64 0]) []::CJ (.store 12) [.t 1,.t 12]::AA 2 13::[]) [1,2])
 (.seq (.reg [] (
 AD 15 (.load true 12) 1::AK 16 (.mkrow 1 (.int .i64 0) 1 [0]) [.k (.d (.int .i64 1))]::AB 17 (.call 9) 15 16::AA 14 17::BR 18 0 14::BR 19 1 14::AA 3 18::AA 4 19::[]) [1,2,3,4])
 (.seq (.reg [] (
 AD 21 (.load true 12) 1::AA 22 2::AB 23 (.call 12) 21 22::AA 20 23::BR 24 0 20::BR 25 1 20::BR 26 2 20::AA 5 24::AA 6 25::AA 7 26::[]) [1,2,3,4,5,6,7])
 (.seq (.reg [] (
 AD 28 (.load true 12) 1::AD 29 (.call 8) 28::AA 27 29::BR 30 0 27::BR 31 1 27::AA 8 30::AA 9 31::[]) [2,3,4,5,6,7,8,9])
 (.seq (.reg [] (
 AA 32 4::AW 33 (.bin .eql) 32 0::AA 34 33::AF 35 34 true .mov [.t 7]::AF 36 34 true (.bin .eql) [.t 35,.k (.d (.int .i64 0))]::AK 37 .pick [.t 34,.t 36,.k (.d (.bool false))]::AA 38 37::AF 39 38 true .mov [.t 9]::AF 40 38 true (.bin .eql) [.t 39,.k (.d (.int .i64 0))]::AK 41 .pick [.t 38,.t 40,.k (.d (.bool false))]::AA 42 41::AF 43 42 true .mov [.t 3]::AF 44 42 true .mov [.t 2]::AF 45 42 true (.call 18) [.t 43,.t 44]::AK 46 .pick [.t 42,.t 45,.k (.d (.bool false))]::AA 47 46::AF 48 47 true .mov [.t 5]::AF 49 47 true (.len false) [.t 48]::AF 50 47 true (.bin .eql) [.t 49,.k (.d (.int .i64 1))]::AK 51 .pick [.t 47,.t 50,.k (.d (.bool false))]::AA 52 51::AF 53 52 true .mov [.t 5]::AF 54 52 true (.iaddrS 1) [.t 53,.k (.d (.int .i64 0))]::AF 55 52 true (.load false 1) [.t 54]::AF 56 52 true (.bin .eql) [.t 55,.k (.d (.int .i64 1))]::AK 57 .pick [.t 52,.t 56,.k (.d (.bool false))]::AA 58 57::AF 59 58 true .mov [.t 6]::AF 60 58 true (.bin .eql) [.t 59,.k (.d (.int .i64 0))]::AK 61 .pick [.t 58,.t 60,.k (.d (.bool false))]::AA 62 61::AF 63 62 true .mov [.t 8]::AF 64 62 true (.bin .eql) [.t 63,.k (.d (.int .i64 1))]::AK 65 .pick [.t 62,.t 64,.k (.d (.bool false))]::AA 0 65::[]) [0])
 (.ret))))))
theorem PX:Ct E0 L9 Kg [.t 0] 66:=AL (fl:=[]) (by kernel_rfl)
abbrev KC:Nat:=8
def Ix:PC :=
 .seq (.reg [] (
 AD 1 .box 0::AP 2 0::AP 3 0::[]) [1])
 (.seq (.reg [] (
 AD 9 (.load true 12) 1::AD 10 (.call 26) 9::AA 8 10::BR 11 0 8::BR 12 1 8::AA 4 11::AA 5 12::[]) [4,5])
 (.seq (.seq (.reg [] (
 AA 13 5::AW 14 (.bin .neq) 13 0::[]) [4,5,14])
 (.cond (.t 14)
 (.seq (.reg [] (
 AA 15 5::AP 2 0::AA 3 15::[]) [2,3])
 (.ret))
 (.skip)))
 (.seq (.reg [] (
 AA 16 4::AD 17 .nilck 16::AR 18 0 17::AR 19 9 18::AG 20 1 19::AD 21 (.len false) 20::AA 6 21::[]) [4,6])
 (.seq (.seq (.reg [] (
 AP 7 1::[]) [4,6,7])
 (.block 0
 (.loop [] [4,6,7] [10,10010]
 (.seq (.seq (.draw [] (
 (AA 22 7,[])::(AA 23 4,[])::(AD 24 .nilck 23,[])::(AR 25 0 24,[])::(AR 26 9 25,[])::(AG 27 1 26,[])::(AD 28 (.len false) 27,[])::(AA 29 4,[])::(AD 30 (.call 27) 29,[5,6])::(AB 31 (.bin .add) 28 30,[])::(AB 32 (.bin .lss) 22 31,[])::[]) [4,6,7,32])
 (.cond (.t 32)
 (.skip)
 (.exit 0)))
 (.seq (.block 1
 (.reg [] (
 AA 35 6::AA 36 4::AA 37 7::AB 38 (.call 28) 36 37::AB 39 (.minmax false) 35 38::AA 6 39::[]) [4,6,7]))
 (.reg [] (
 AA 33 7::AW 34 (.bin .add) 33 1::AA 7 34::[]) [4,6,7]))))))
 (.seq (.reg [] (
 AA 40 6::AA 2 40::AP 3 0::[]) [2,3])
 (.ret))))))
theorem Nj:Ct E0 KC Ix [.t 2,.t 3] 41:=AL (fl:=[]) (by kernel_rfl)
abbrev KA:Nat:=9
def Iv:PC :=
 .seq (.reg [] (
 AD 2 .box 0::AK 4 .mov [.k (.d (.list true []))]::AP 5 0::[]) [1,2])
 (.seq (.reg [] (
 AD 13 (.load true 12) 2::AD 14 (.call 26) 13::AA 12 14::BR 15 0 12::BR 16 1 12::AA 6 15::AA 7 16::[]) [1,6,7])
 (.seq (.seq (.reg [] (
 AA 17 7::AW 18 (.bin .neq) 17 0::[]) [1,6,7,18])
 (.cond (.t 18)
 (.seq (.reg [] (
 AA 19 7::AK 4 .mov [.k (.d (.list true []))]::AA 5 19::[]) [4,5])
 (.ret))
 (.skip)))
 (.seq (.reg [] (
 AA 21 6::AD 22 .nilck 21::AR 23 0 22::AR 24 6 23::AD 25 (.load true 3) 24::AA 26 1::AB 27 (.call 15) 25 26::AA 20 27::BR 28 0 20::BR 29 1 20::AA 8 28::AA 7 29::[]) [6,7,8])
 (.seq (.seq (.reg [] (
 AA 30 7::AW 31 (.bin .neq) 30 0::[]) [6,8,31])
 (.cond (.t 31)
 (.seq (.reg [] (
 AK 4 .mov [.k (.d (.list true []))]::AP 5 51::[]) [4,5])
 (.ret))
 (.skip)))
 (.seq (.reg [] (
 AA 32 6::AD 33 .nilck 32::AR 34 0 33::AR 35 9 34::AG 36 1 35::AD 37 (.call 29) 36::AA 9 37::[]) [6,8,9])
 (.seq (.seq (.reg [] (
 AA 38 6::AA 39 8::AB 40 (.call 30) 38 39::AD 41 (.len false) 40::AP 42 0::[]) [6,9,40,41,42])
 (.block 0
 (.loop [] [6,9,40,41,42] [14,37,40,53,10014,10037,10040]
 (.seq (.reg [] (
 AB 43 (.bin .lss) 42 41::[]) [6,9,40,41,42,43])
 (.seq (.cond (.t 43)
 (.skip)
 (.exit 0))
 (.seq (.block 1
 (.seq (.reg [] (
 AB 44 (.iaddrS 1) 40 42::AG 45 1 44::AA 11 45::[]) [6,9,11,40,41,42])
 (.reg [] (
 AA 46 9::AA 47 6::AA 48 11::AD 49 .nilck 47::AR 50 12 49::AB 51 (.iaddrA 16 1) 50 48::AG 52 1 51::AB 53 (.app 3 1 none true) 46 52::AA 9 53::[]) [6,9,40,41,42])))
 (.reg [] (
 AW 54 (.bin .add) 42 1::AA 42 54::[]) [6,9,40,41,42])))))))
 (.seq (.reg [] (
 AA 55 9::AA 4 55::AP 5 0::[]) [4,5])
 (.ret))))))))
theorem Nh:Ct E0 KA Iv [.t 4,.t 5] 56:=AL (fl:=[]) (by kernel_rfl)
abbrev L5:Nat:=10
def Kb:PC :=
 .seq (.reg [] (
 AD 1 .box 0::AP 2 0::[]) [1])
 (.seq (.draw [] (
 (AR 3 9 1,[])::(AG 4 1 3,[])::(AD 5 (.len false) 4,[])::(AD 6 (.load true 12) 1,[])::(AD 7 (.call 16) 6,[1,2])::(AD 8 (.load true 12) 1,[4])::(AD 9 (.call 20) 8,[1,2])::(AB 10 (.bin .mul) 7 9,[])::(AB 11 (.bin .add) 5 10,[])::(AA 2 11,[])::[]) [2])
 (.ret))
theorem PT:Ct E0 L5 Kb [.t 2] 12:=AL (fl:=[]) (by kernel_rfl)
abbrev J5:Nat:=11
def Ig:PC :=
 .seq (.reg [] (
 AK 4 .mov [.k (.d (.list true []))]::[]) [0,1])
 (.seq (.reg [] (
 AK 7 (.mkrow 1 (.int .i64 0) 0 []) []::AA 8 0::AB 9 (.app 3 1 none true) 7 8::AA 5 9::[]) [1,5])
 (.seq (.seq (.reg [] (
 AP 6 0::[]) [1,5,6])
 (.block 0
 (.loop [] [1,5,6] [9,900001,901001]
 (.seq (.seq (.reg [] (
 AA 10 6::AA 11 1::AD 12 (.len false) 11::AB 13 (.bin .lss) 10 12::[]) [1,5,6,13])
 (.cond (.t 13)
 (.skip)
 (.exit 0)))
 (.seq (.block 1
 (.seq (.reg [] (
 AA 16 1::AA 17 6::AB 18 (.iaddrS 1) 16 17::AG 19 1 18::AW 20 (.bin .geq) 19 0::AA 21 20::AF 22 21 true .mov [.t 1]::AF 23 21 true .mov [.t 6]::AF 24 21 true (.iaddrS 1) [.t 22,.t 23]::AF 25 21 true (.load false 1) [.t 24]::AF 26 21 true .mov [.t 5]::AF 27 21 true (.len false) [.t 26]::AF 28 21 true (.bin .lss) [.t 25,.t 27]::AK 29 .pick [.t 21,.t 28,.k (.d (.bool false))]::[]) [1,5,6,29])
 (.cond (.t 29)
 (.draw [] (
 (AA 30 5,[])::(AA 31 1,[])::(AA 32 6,[])::(AB 33 (.iaddrS 1) 31 32,[])::(AG 34 1 33,[])::(AA 35 5,[])::(AA 36 1,[])::(AA 37 6,[])::(AB 38 (.iaddrS 1) 36 37,[])::(AG 39 1 38,[])::(AB 40 (.iaddrS 1) 35 39,[])::(AG 41 1 40,[])::(AK 42 (.bin .sub) [.k (.d (.int .i64 1)),.t 41],[])::(AB 43 (.iaddrS 1) 30 34,[])::(CJ (.store 1) [.t 43,.t 42],[])::[]) [1,5,6])
 (.skip))))
 (.reg [] (
 AA 14 6::AW 15 (.bin .add) 14 1::AA 6 15::[]) [1,5,6]))))))
 (.seq (.reg [] (
 AA 44 5::AA 4 44::[]) [4])
 (.ret))))
theorem NW:Ct E0 J5 Ig [.t 4] 45:=AL (fl:=[]) (by kernel_rfl)
abbrev LN:Nat:=12
def Jv:PC :=
 .seq (.reg [] (
 AD 2 .box 0::AK 4 .mov [.k (.d (.list true []))]::AP 5 0::AP 6 0::[]) [1,2])
 (.seq (.reg [] (
 AD 11 (.load true 12) 2::AD 12 (.call 26) 11::AA 10 12::BR 13 0 10::BR 14 1 10::AA 7 13::AA 6 14::[]) [1,6,7])
 (.seq (.seq (.reg [] (
 AA 15 6::AW 16 (.bin .neq) 15 0::[]) [1,6,7,16])
 (.cond (.t 16)
 (.seq (.reg [] (
 AA 17 6::AK 4 .mov [.k (.d (.list true []))]::AP 5 0::AA 6 17::[]) [4,5,6])
 (.ret))
 (.skip)))
 (.seq (.seq (.reg [] (
 AA 18 1::AD 19 (.call 31) 18::AD 20 (.un .not) 19::[]) [1,7,20])
 (.cond (.t 20)
 (.seq (.reg [] (
 AK 4 .mov [.k (.d (.list true []))]::AP 5 0::AP 6 131::[]) [4,5,6])
 (.ret))
 (.skip)))
 (.seq (.reg [] (
 AA 22 7::AA 23 1::AB 24 (.call 32) 22 23::AA 21 24::BR 25 0 21::BR 26 1 21::BR 27 2 21::AA 5 25::AA 8 26::AA 9 27::[]) [5,7,8,9])
 (.seq (.seq (.reg [] (
 AA 28 9::AD 29 (.un .not) 28::[]) [5,7,8,29])
 (.cond (.t 29)
 (.seq (.reg [] (
 AK 4 .mov [.k (.d (.list true []))]::AP 5 0::AP 6 3::[]) [4,5,6])
 (.ret))
 (.skip)))
 (.seq (.seq (.reg [] (
 AA 31 7::AA 32 8::AB 33 (.call 33) 31 32::AA 30 33::BR 34 0 30::BR 35 1 30::AA 4 34::AA 6 35::[]) [4,5,6])
 (.seq (.reg [] (
 AA 36 6::AW 37 (.bin .neq) 36 0::[]) [4,5,6,37])
 (.cond (.t 37)
 (.seq (.reg [] (
 AA 38 6::AK 4 .mov [.k (.d (.list true []))]::AP 5 0::AA 6 38::[]) [4,5,6])
 (.ret))
 (.skip))))
 (.seq (.reg [] (
 AA 39 4::AA 40 5::AA 4 39::AA 5 40::AP 6 0::[]) [4,5,6])
 (.ret))))))))
theorem Oj:Ct E0 LN Jv [.t 4,.t 5,.t 6] 41:=AL (fl:=[]) (by kernel_rfl)
abbrev J3:Nat:=13
def Ic:PC :=
 .seq (.reg [] (
 BW 2 false::[]) [0])
 (.seq (.reg [] (
 AA 3 0::AD 4 (.len false) 3::AW 5 (.bin .leq) 4 1000::AA 6 5::AF 7 6 true .mov [.t 0]::AF 8 6 true (.call 34) [.t 7]::AK 9 .pick [.t 6,.t 8,.k (.d (.bool false))]::AA 2 9::[]) [2])
 (.ret))
theorem NU:Ct E0 J3 Ic [.t 2] 10:=AL (fl:=[]) (by kernel_rfl)
abbrev LO:Nat:=14
def Jw:PC :=
 .seq (.reg [] (
 AD 1 .box 0::AP 2 0::AP 3 0::[]) [1])
 (.seq (.reg [] (
 AD 7 (.load true 12) 1::AD 8 (.call 26) 7::AA 6 8::BR 9 0 6::BR 10 1 6::AA 4 9::AA 5 10::[]) [4,5])
 (.seq (.seq (.reg [] (
 AA 11 5::AW 12 (.bin .neq) 11 0::[]) [4,5,12])
 (.cond (.t 12)
 (.seq (.reg [] (
 AA 13 5::AP 2 0::AA 3 13::[]) [2,3])
 (.ret))
 (.skip)))
 (.seq (.draw [] (
 (AA 14 4,[])::(AD 15 .nilck 14,[])::(AR 16 0 15,[])::(AR 17 9 16,[])::(AG 18 1 17,[])::(AD 19 (.len false) 18,[])::(AA 20 4,[])::(AD 21 (.call 27) 20,[4,5])::(AB 22 (.bin .add) 19 21,[])::(AA 2 22,[])::(AP 3 0,[])::[]) [2,3])
 (.ret))))
theorem Ok:Ct E0 LO Jw [.t 2,.t 3] 23:=AL (fl:=[]) (by kernel_rfl)
abbrev I':Nat:=15
def Hx:PC :=
 .seq (.reg [] (
 AD 2 .box 0::AK 4 .mov [.k (.d (.list true []))]::AP 5 0::[]) [1,2])
 (.seq (.reg [] (
 AD 11 (.load true 3) 2::AA 12 1::AK 13 (.call 35) [.t 11,.t 12,.k (.fn 36 [])]::AA 10 13::BR 14 0 10::BR 15 1 10::AK 6 (.zero [.int .i64 0,.int .i64 0,.int .i64 0]) []::CJ (.store 3) [.t 6,.t 14]::AA 7 15::[]) [1,6,7])
 (.seq (.seq (.reg [] (
 AA 16 7::AW 17 (.bin .neq) 16 0::[]) [1,6,7,17])
 (.cond (.t 17)
 (.seq (.reg [] (
 AA 18 7::AK 4 .mov [.k (.d (.list true []))]::AA 5 18::[]) [4,5])
 (.ret))
 (.skip)))
 (.seq (.reg [] (
 AK 8 .mov [.k (.d (.list true []))]::[]) [1,6,8])
 (.seq (.seq (.reg [] (
 AR 19 2 6::AG 20 1 19::AP 21 0::[]) [1,6,8,20,21])
 (.block 0
 (.loop [.own 8 33 83 1] [1,6,8,20,21] [6,13,33,10013,900001,901001]
 (.seq (.reg [] (
 AB 22 (.bin .lss) 21 20::[]) [1,6,8,20,21,22])
 (.seq (.cond (.t 22)
 (.skip)
 (.exit 0))
 (.seq (.block 1
 (.seq (.reg [] (
 AA 23 21::AA 9 23::[]) [1,6,8,9,20,21])
 (.draw [] (
 (AA 24 8,[])::(AR 25 0 6,[])::(AD 26 (.load true 2) 25,[])::(AD 27 (.load true 3) 6,[])::(AA 28 1,[])::(AA 29 9,[])::(AK 30 (.call 38) [.t 27,.t 28,.t 29],[2])::(AB 31 (.call 37) 26 30,[])::(AD 32 (.mkrow 1 (.list true []) 1 [0]) 31,[])::(AB 33 (.app 83 1 none true) 24 32,[])::(AA 8 33,[])::[]) [1,6,8,20,21])))
 (.reg [] (
 AW 34 (.bin .add) 21 1::AA 21 34::[]) [1,6,8,20,21])))))))
 (.seq (.reg [.freeze 8] (
 AD 35 (.load true 3) 6::AA 36 8::AB 37 (.call 39) 35 36::AA 4 37::AP 5 0::[]) [4,5])
 (.ret))))))
theorem MT:Ct E0 I' Hx [.t 4,.t 5] 38:=AL (fl:=[33]) (by kernel_rfl)
abbrev J2:Nat:=16
def Ib:PC :=
 .seq (.reg [] (
 AD 1 .box 0::AP 2 0::[]) [1])
 (.seq (.reg [] (
 AR 3 6 1::AR 4 2 3::AG 5 1 4::AR 6 6 1::AR 7 0 6::AR 8 0 7::AG 9 1 8::AB 10 (.bin .mul) 5 9::AA 2 10::[]) [2])
 (.ret))
theorem NT:Ct E0 J2 Ib [.t 2] 11:=AL (fl:=[]) (by kernel_rfl)
abbrev JC:Nat:=17
def Hz:PC :=
 .seq (.reg [] (
 AK 4 .mov [.k (.d (.list true []))]::AP 5 0::[]) [0,1])
 (.seq (.seq (.reg [] (
 AA 10 0::AK 11 (.call 40) [.t 10,.k (.d (.int .i64 1)),.k (.d (.int .i64 127))]::AD 12 (.un .not) 11::AA 13 12::AF 14 13 false .mov [.t 1]::AF 15 13 false (.len false) [.t 14]::CO 16 13 (.bin .gtr) 15 128::Bp 17 13 16::AA 18 17::AF 19 18 false .mov [.t 1]::AF 20 18 false (.call 41) [.t 19]::AF 21 18 false (.un .not) [.t 20]::Bp 22 18 21::[]) [0,1,22])
 (.cond (.t 22)
 (.seq (.reg [] (
 AK 4 .mov [.k (.d (.list true []))]::AP 5 1::[]) [4,5])
 (.ret))
 (.skip)))
 (.seq (.reg [] (
 AK 6 .mov [.k (.d (.list true []))]::[]) [0,1,6])
 (.seq (.seq (.reg [] (
 AA 23 1::AD 24 (.len false) 23::AP 25 0::[]) [0,6,23,24,25])
 (.block 0
 (.loop [.own 6 37 3 1] [0,6,23,24,25] [37,900000,900001,901000,901001]
 (.seq (.reg [] (
 AB 26 (.bin .lss) 25 24::[]) [0,6,23,24,25,26])
 (.seq (.cond (.t 26)
 (.skip)
 (.exit 0))
 (.seq (.block 1
 (.seq (.reg [] (
 AB 27 (.iaddrS 1) 23 25::AG 28 1 27::AA 8 28::[]) [0,6,8,23,24,25])
 (.seq (.reg [] (
 AA 29 0::AK 30 (.bin .shr) [.t 29,.k (.d (.int .u64 6))]::AW 31 (.bin .and) 30 1::AA 9 31::[]) [0,6,8,9,23,24,25])
 (.seq (.reg [] (
 AA 32 6::AA 33 8::AA 34 9::AB 35 (.bin .xor) 33 34::AD 36 (.mkrow 1 (.int .i64 0) 1 [0]) 35::AB 37 (.app 3 1 none true) 32 36::AA 6 37::[]) [0,6,9,23,24,25])
 (.reg [] (
 AA 38 0::AK 39 (.bin .shl) [.t 38,.k (.d (.int .u64 1))]::AW 40 (.bin .and) 39 127::AA 41 9::AA 42 0::AK 43 (.bin .shr) [.t 42,.k (.d (.int .u64 5))]::AW 44 (.bin .and) 43 1::AB 45 (.bin .xor) 41 44::AB 46 (.bin .or) 40 45::AA 0 46::[]) [0,6,23,24,25])))))
 (.reg [] (
 AW 47 (.bin .add) 25 1::AA 25 47::[]) [0,6,23,24,25])))))))
 (.seq (.reg [] (
 AA 48 6::AA 4 48::AP 5 0::[]) [4,5])
 (.ret)))))
theorem MV:Ct E0 JC Hz [.t 4,.t 5] 49:=AL (fl:=[]) (by kernel_rfl)
abbrev N5:Nat:=18
def Lv:PC :=
 .seq (.reg [] (
 BW 4 false::[]) [0,1])
 (.seq (.seq (.reg [] (
 AP 5 0::[]) [0,1,5])
 (.block 0
 (.loop [] [0,1,5] [900000,900001,901000,901001]
 (.seq (.seq (.reg [] (
 AA 6 5::AA 7 0::AD 8 (.len false) 7::AB 9 (.bin .lss) 6 8::AA 10 9::AF 11 10 true .mov [.t 5]::AF 12 10 true .mov [.t 1]::AF 13 10 true (.len false) [.t 12]::AF 14 10 true (.bin .lss) [.t 11,.t 13]::AK 15 .pick [.t 10,.t 14,.k (.d (.bool false))]::[]) [0,1,5,15])
 (.cond (.t 15)
 (.skip)
 (.exit 0)))
 (.seq (.block 1
 (.seq (.draw [] (
 (AA 18 0,[])::(AA 19 5,[])::(AB 20 (.iaddrS 1) 18 19,[])::(AG 21 1 20,[])::(AA 22 1,[])::(AA 23 5,[])::(AB 24 (.iaddrS 1) 22 23,[])::(AG 25 1 24,[])::(AB 26 (.bin .neq) 21 25,[])::[]) [0,1,5,26])
 (.cond (.t 26)
 (.seq (.reg [] (
 BW 4 false::[]) [4])
 (.ret))
 (.skip))))
 (.reg [] (
 AA 16 5::AW 17 (.bin .add) 16 1::AA 5 17::[]) [0,1,5]))))))
 (.seq (.reg [] (
 AA 27 0::AD 28 (.len false) 27::AA 29 1::AD 30 (.len false) 29::AB 31 (.bin .eql) 28 30::AA 4 31::[]) [4])
 (.ret)))
theorem Qf:Ct E0 N5 Lv [.t 4] 32:=AL (fl:=[]) (by kernel_rfl)
abbrev LL:Nat:=19
def Ju:PC :=
 .seq (.reg [] (
 AD 3 .box 0::AK 6 .mov [.k (.d (.list true []))]::AP 7 0::AP 8 0::[]) [1,2,3,6])
 (.seq (.reg [] (
 AD 13 (.load true 6) 3::AA 14 1::AB 15 (.call 42) 13 14::AA 12 15::BR 16 0 12::BR 17 1 12::AK 9 (.zero [.int .i64 0,.int .i64 0,.int .i64 0,.int .i64 0,.list true [],.list true []]) []::CJ (.store 6) [.t 9,.t 16]::AA 8 17::[]) [1,2,6,8,9])
 (.seq (.seq (.reg [] (
 AA 18 8::AW 19 (.bin .neq) 18 0::[]) [1,2,6,8,9,19])
 (.cond (.t 19)
 (.seq (.reg [] (
 AA 20 8::AK 6 .mov [.k (.d (.list true []))]::AP 7 0::AA 8 20::[]) [6,7,8])
 (.ret))
 (.skip)))
 (.seq (.seq (.reg [.frzP 9] (
 AA 21 2::AD 22 (.len false) 21::AW 23 (.bin .gtr) 22 24::AA 24 23::AF 25 24 false .mov [.t 2]::AF 26 24 false (.mkfn 44) [.t 9]::AF 27 24 false (.call 43) [.t 25,.t 26]::Bp 28 24 27::[]) [1,2,6,9,28])
 (.cond (.t 28)
 (.seq (.reg [] (
 AK 6 .mov [.k (.d (.list true []))]::AP 7 0::AP 8 42::[]) [6,7,8])
 (.ret))
 (.skip)))
 (.seq (.seq (.reg [] (
 AA 29 2::AD 30 (.len false) 29::AP 31 0::[]) [1,6,9,29,30,31])
 (.block 0
 (.loop [.own 6 40 3 1] [1,6,9,29,30,31] [9,15,40,10015,900001,900002,901001,901002]
 (.seq (.reg [] (
 AB 32 (.bin .lss) 31 30::[]) [1,6,9,29,30,31,32])
 (.seq (.cond (.t 32)
 (.skip)
 (.exit 0))
 (.seq (.block 1
 (.seq (.reg [] (
 AB 33 (.iaddrS 1) 29 31::AG 34 1 33::AA 11 34::[]) [1,6,9,11,29,30,31])
 (.seq (.reg [] (
 AA 35 6::AD 36 (.load true 6) 9::AA 37 1::AA 38 11::AK 39 (.call 46) [.t 36,.t 37,.t 38]::AB 40 (.app 3 1 none true) 35 39::AA 6 40::[]) [1,6,9,11,29,30,31])
 (.reg [] (
 AR 41 0 9::AR 42 5 41::AG 43 1 42::AA 44 1::AB 45 (.iaddrS 1) 43 44::AG 46 1 45::AA 47 11::AB 48 (.iaddrS 1) 46 47::AG 49 1 48::AA 1 49::[]) [1,6,9,29,30,31]))))
 (.reg [] (
 AW 50 (.bin .add) 31 1::AA 31 50::[]) [1,6,9,29,30,31])))))))
 (.seq (.reg [] (
 AA 51 6::AA 52 1::AA 6 51::AA 7 52::AP 8 0::[]) [6,7,8])
 (.ret))))))
theorem Oi:Ct E0 LL Ju [.t 6,.t 7,.t 8] 53:=AL (fl:=[]) (by kernel_rfl)
abbrev N4:Nat:=20
def Lu:PC :=
 .seq (.reg [] (
 AD 1 .box 0::AP 2 0::[]) [1])
 (.seq (.draw [] (
 (AR 3 0 1,[])::(AR 4 0 3,[])::(AG 5 1 4,[])::(AK 6 (.bin .quo) [.k (.d (.int .i64 4)),.t 5],[])::(AR 7 0 1,[])::(AR 8 1 7,[])::(AG 9 1 8,[])::(AB 10 (.bin .mul) 6 9,[])::(AA 2 10,[])::[]) [2])
 (.ret))
theorem Qe:Ct E0 N4 Lu [.t 2] 11:=AL (fl:=[]) (by kernel_rfl)
abbrev KB:Nat:=21
def Iw:PC :=
 .seq (.reg [] (
 AD 1 .box 0::AP 2 0::AP 3 0::[]) [1])
 (.seq (.reg [] (
 AD 8 (.load true 12) 1::AD 9 (.call 26) 8::AA 7 9::BR 10 0 7::BR 11 1 7::AA 4 10::AA 5 11::[]) [4,5])
 (.seq (.seq (.reg [] (
 AA 12 5::AW 13 (.bin .neq) 12 0::[]) [4,5,13])
 (.cond (.t 13)
 (.seq (.reg [] (
 AA 14 5::AP 2 0::AA 3 14::[]) [2,3])
 (.ret))
 (.skip)))
 (.seq (.draw [] (
 (AA 15 4,[])::(AD 16 .nilck 15,[])::(AR 17 0 16,[])::(AR 18 6 17,[])::(AR 19 2 18,[])::(AG 20 1 19,[])::(AA 21 4,[])::(AD 22 .nilck 21,[])::(AR 23 0 22,[])::(AR 24 6 23,[])::(AR 25 0 24,[])::(AR 26 1 25,[])::(AG 27 1 26,[])::(AW 28 (.bin .quo) 27 2,[])::(AB 29 (.bin .mul) 20 28,[])::(AA 6 29,[])::[]) [4,6])
 (.seq (.block 0
 (.seq (.reg [] (
 AA 31 6::AW 32 (.bin .eql) 31 0::AA 30 32::[]) [4,6,30])
 (.cond (.t 30)
 (.seq (.reg [] (
 AP 2 0::AP 3 0::[]) [2,3])
 (.ret))
 (.seq (.reg [] (
 AA 34 6::AA 35 4::AD 36 (.call 47) 35::AB 37 (.bin .geq) 34 36::AA 33 37::[]) [4,6,33])
 (.cond (.t 33)
 (.seq (.reg [] (
 AA 38 4::AD 39 (.call 27) 38::AA 2 39::AP 3 0::[]) [2,3])
 (.ret))
 (.skip))))))
 (.seq (.reg [] (
 AA 40 6::AW 41 (.bin .sub) 40 1::AA 42 4::AD 43 (.call 48) 42::AB 44 (.bin .mul) 41 43::AW 45 (.bin .add) 44 1::AA 2 45::AP 3 0::[]) [2,3])
 (.ret))))))
theorem Ni:Ct E0 KB Iw [.t 2,.t 3] 46:=AL (fl:=[]) (by kernel_rfl)
abbrev PJ:Nat:=22
def M6:PC :=
 .seq (.reg [] (
 AD 1 .box 0::BW 2 false::[]) [1])
 (.seq (.reg [] (
 AR 3 0 1::AD 4 (.load true 6) 3::AD 5 (.call 49) 4::AA 6 5::Bk 7 6 9 1::B0 8 6 1 7::AF 9 6 false (.len false) [.t 8]::CO 10 6 (.bin .gtr) 9 40::Bp 11 6 10::AA 12 11::Bk 13 12 6 1::Bk 14 12 2 13::B0 15 12 1 14::CO 16 12 (.bin .gtr) 15 8::Bp 17 12 16::AA 18 17::Bk 19 18 6 1::Bk 20 18 0 19::Bk 21 18 0 20::B0 22 18 1 21::CO 23 18 (.bin .gtr) 22 15::Bp 24 18 23::AA 25 24::AF 26 25 false (.load true 12) [.t 1]::AF 27 25 false (.call 23) [.t 26]::CO 28 25 (.bin .eql) 27 0::AF 29 25 false .mov [.t 28]::AF 30 29 true (.load true 12) [.t 1]::AF 31 29 true (.call 16) [.t 30]::AF 32 29 true (.bin .gtr) [.t 31,.k (.d (.int .i64 8))]::AF 33 25 false .pick [.t 29,.t 32,.k (.d (.bool false))]::Bp 34 25 33::AA 2 34::[]) [2])
 (.ret))
theorem RY:Ct E0 PJ M6 [.t 2] 35:=AL (fl:=[]) (by kernel_rfl)
abbrev L6:Nat:=23
def Kd:PC :=
 .seq (.reg [] (
 AD 1 .box 0::AP 2 0::[]) [1])
 (.seq (.seq (.reg [] (
 AR 5 0 1::AD 6 (.load true 6) 5::AD 7 (.call 50) 6::AW 8 (.bin .neq) 7 0::AA 9 8::Bk 10 9 6 1::AF 11 9 false (.load true 3) [.t 10]::AF 12 9 false (.call 51) [.t 11]::CO 13 9 (.bin .neq) 12 0::Bp 14 9 13::AA 15 14::AF 16 15 false (.load true 12) [.t 1]::AF 17 15 false (.call 16) [.t 16]::CO 18 15 (.bin .gtr) 17 32::Bp 19 15 18::AA 20 19::Bk 21 20 9 1::B0 22 20 1 21::AF 23 20 false (.call 52) [.t 22]::AF 24 20 false (.un .not) [.t 23]::Bp 25 20 24::AA 26 25::Bk 27 26 10 1::B0 28 26 1 27::AF 29 26 false (.call 53) [.t 28,.k (.d (.int .i64 1)),.k (.d (.int .i64 127))]::AF 30 26 false (.un .not) [.t 29]::Bp 31 26 30::AA 32 31::Bk 33 32 11 1::B0 34 32 1 33::AF 35 32 false (.call 53) [.t 34,.k (.d (.int .i64 0)),.k (.d (.int .i64 16))]::AF 36 32 false (.un .not) [.t 35]::Bp 37 32 36::[]) [1,37])
 (.cond (.t 37)
 (.seq (.reg [] (
 AP 2 130::[]) [2])
 (.ret))
 (.skip)))
 (.seq (.seq (.reg [] (
 AP 3 0::[]) [1,3])
 (.block 0
 (.loop [] [1,3] [1,900000,901000]
 (.seq (.seq (.reg [] (
 AA 38 3::AW 39 (.bin .lss) 38 16::[]) [1,3,39])
 (.cond (.t 39)
 (.skip)
 (.exit 0)))
 (.seq (.block 1
 (.seq (.reg [] (
 AP 4 0::[]) [1,3,4])
 (.block 2
 (.loop [] [1,3,4] [1,900000,901000]
 (.seq (.seq (.reg [] (
 AA 42 4::AA 43 3::AB 44 (.bin .lss) 42 43::[]) [1,3,4,44])
 (.cond (.t 44)
 (.skip)
 (.exit 2)))
 (.seq (.block 3
 (.seq (.draw [] (
 (AD 47 (.load true 12) 1,[])::(AA 48 3,[])::(AB 49 (.call 54) 47 48,[])::(AD 50 (.load true 12) 1,[2])::(AA 51 4,[])::(AB 52 (.call 54) 50 51,[])::(AB 53 (.call 18) 49 52,[])::[]) [1,3,4,53])
 (.cond (.t 53)
 (.seq (.reg [] (
 AP 2 130::[]) [2])
 (.ret))
 (.skip))))
 (.reg [] (
 AA 45 4::AW 46 (.bin .add) 45 1::AA 4 46::[]) [1,3,4])))))))
 (.reg [] (
 AA 40 3::AW 41 (.bin .add) 40 1::AA 3 41::[]) [1,3]))))))
 (.seq (.reg [] (
 AP 2 0::[]) [2])
 (.ret))))
theorem PU:Ct E0 L6 Kd [.t 2] 54:=AL (fl:=[]) (by kernel_rfl)
abbrev Hc:Nat:=24
def Gt:PC :=
 .seq (.reg [] (
 BW 4 false::[]) [0,1])
 (.seq (.seq (.reg [] (
 AP 5 0::[]) [0,1,5])
 (.block 0
 (.loop [] [0,1,5] [900000,900001,901000,901001]
 (.seq (.seq (.reg [] (
 AA 6 5::AA 7 0::AD 8 (.len false) 7::AB 9 (.bin .lss) 6 8::[]) [0,1,5,9])
 (.cond (.t 9)
 (.skip)
 (.exit 0)))
 (.seq (.block 1
 (.seq (.reg [] (
 AA 12 0::AA 13 5::AB 14 (.iaddrS 1) 12 13::AG 15 1 14::AK 16 (.call 55) [.t 15,.k (.d (.int .i64 0)),.k (.d (.int .i64 15))]::AD 17 (.un .not) 16::[]) [0,1,5,17])
 (.cond (.t 17)
 (.seq (.reg [] (
 BW 4 false::[]) [4])
 (.ret))
 (.skip))))
 (.reg [] (
 AA 10 5::AW 11 (.bin .add) 10 1::AA 5 11::[]) [0,1,5]))))))
 (.seq (.reg [] (
 AA 18 0::AD 19 (.len false) 18::AA 20 1::AB 21 (.bin .eql) 19 20::AA 4 21::[]) [4])
 (.ret)))
theorem K1:Ct E0 Hc Gt [.t 4] 22:=AL (fl:=[]) (by kernel_rfl)
abbrev J6:Nat:=25
def Ih:PC :=
 .seq (.reg [] (
 AK 0 (.zero [.int .i64 0,.int .i64 0,.int .i64 0,.int .i64 0,.list true [],.list true [],.int .i64 0,.int .i64 0,.int .i64 0,.list true [],.int .i64 0,.int .i64 0]) []::AK 1 .mov [.k (.d (.list true []))]::[]) [0])
 (.seq (.reg [] (
 AK 3 (.call 56) []::AK 4 (.build [.int .i64 0,.int .i64 0] [(0,1),(1,1)]) [.k (.d (.int .i64 3)),.k (.d (.int .i64 2))]::AW 5 (.build [.int .i64 0,.int .i64 0,.int .i64 0] [(0,2),(2,1)]) 4 1::AK 6 (.mkrow 1 (.int .i64 0) 4 [0,1,2,3]) [.k (.d (.int .i64 1)),.k (.d (.int .i64 1)),.k (.d (.int .i64 1)),.k (.d (.int .i64 0))]::AK 7 (.build [.int .i64 0,.int .i64 0,.int .i64 0,.int .i64 0,.list true [],.list true [],.int .i64 0,.int .i64 0,.int .i64 0,.list true [],.int .i64 0,.int .i64 0] [(0,6),(6,3),(9,1),(10,1)]) [.t 3,.t 5,.t 6,.k (.d (.int .i64 1))]::AK 2 (.zero [.int .i64 0,.int .i64 0,.int .i64 0,.int .i64 0,.list true [],.list true [],.int .i64 0,.int .i64 0,.int .i64 0,.list true [],.int .i64 0,.int .i64 0]) []::CJ (.store 12) [.t 2,.t 7]::[]) [0,2])
 (.seq (.reg [] (
 AD 8 (.load true 12) 2::AK 9 (.mkrowO 3 1 (.int .i64 0) 28 [0,1,2,3,4,5,6,7,8,9,10,11,12,13,14,15,16,17,18,19,20,21,22,23,24,25,26,27]) [.k (.d (.int .i64 1)),.k (.d (.int .i64 1)),.k (.d (.int .i64 1)),.k (.d (.int .i64 0)),.k (.d (.int .i64 1)),.k (.d (.int .i64 0)),.k (.d (.int .i64 1)),.k (.d (.int .i64 0)),.k (.d (.int .i64 1)),.k (.d (.int .i64 0)),.k (.d (.int .i64 0)),.k (.d (.int .i64 1)),.k (.d (.int .i64 1)),.k (.d (.int .i64 0)),.k (.d (.int .i64 1)),.k (.d (.int .i64 0)),.k (.d (.int .i64 1)),.k (.d (.int .i64 0)),.k (.d (.int .i64 0)),.k (.d (.int .i64 1)),.k (.d (.int .i64 1)),.k (.d (.int .i64 0)),.k (.d (.int .i64 1)),.k (.d (.int .i64 0)),.k (.d (.int .i64 0)),.k (.d (.int .i64 1)),.k (.d (.int .i64 0)),.k (.d (.int .i64 0))]::CJ (.store 12) [.t 0,.t 8]::AA 1 9::[]) [0,1])
 (.ret)))
theorem NX:Ct E0 J6 Ih [.c 0 31 true 12,.t 1] 10:=AL (fl:=[]) (by kernel_rfl)
abbrev LM:Nat:=26
def C0:PC :=
 .seq (.reg [] (
 AD 1 .box 0::AK 2 .mov [.k (.d (.nilptr))]::AP 3 0::[]) [1])
 (.seq (.reg [] (
 AD 15 (.load true 12) 1::AD 16 (.build [.int .i64 0,.int .i64 0,.int .i64 0,.int .i64 0,.list true [],.list true [],.int .i64 0,.int .i64 0,.int .i64 0,.list true [],.int .i64 0,.int .i64 0,.list true [],.list true [],.list true [],.list true [],.list true [],.list true [],.list true [],.list true [],.list true [],.list true [],.list true [],.list true [],.list true [],.list true [],.list true [],.list true []] [(0,12)]) 15::AD 17 .box 16::AA 4 17::[]) [1,4])
 (.seq (.reg [] (
 AR 19 6 1::AD 20 (.load true 3) 19::AD 21 (.call 57) 20::AA 18 21::BR 22 0 18::BR 23 1 18::BR 24 2 18::AA 5 22::AA 6 23::AA 7 24::[]) [1,4,7])
 (.seq (.reg [] (
 AR 26 9 1::AG 27 1 26::AK 28 (.call 58) [.t 27,.k (.d (.list true [])),.k (.d (.int .i64 0))]::AA 25 28::BR 29 0 25::BR 30 1 25::AA 8 29::AA 9 30::[]) [1,4,7,9])
 (.seq (.reg [] (
 AR 32 10 1::AG 33 1 32::AK 34 (.call 17) [.t 33,.k (.d (.list true []))]::AA 31 34::BR 35 0 31::BR 36 1 31::AA 10 35::AA 11 36::[]) [1,4,7,9,11])
 (.seq (.block 0
 (.seq (.seq (.reg [] (
 AR 38 0 1::AD 39 (.load true 6) 38::AD 40 (.call 59) 39::AW 41 (.bin .neq) 40 0::AA 37 41::[]) [1,4,7,9,11,37])
 (.cond (.t 37)
 (.skip)
 (.seq (.reg [] (
 AA 42 7::AW 43 (.bin .neq) 42 0::AA 37 43::[]) [1,4,9,11,37])
 (.cond (.t 37)
 (.skip)
 (.seq (.reg [] (
 AA 44 9::AW 45 (.bin .neq) 44 0::AA 37 45::[]) [1,4,11,37])
 (.cond (.t 37)
 (.skip)
 (.reg [] (
 AA 46 11::AW 47 (.bin .neq) 46 0::AA 37 47::[]) [1,4,37])))))))
 (.cond (.t 37)
 (.seq (.reg [] (
 AK 2 .mov [.k (.d (.nilptr))]::AP 3 130::[]) [2,3])
 (.ret))
 (.seq (.seq (.reg [] (
 AA 49 4::AD 50 (.call 47) 49::AW 51 (.bin .gtr) 50 32::AA 48 51::[]) [1,4,48])
 (.cond (.t 48)
 (.skip)
 (.seq (.reg [] (
 AR 52 11 1::AG 53 1 52::AW 54 (.bin .lss) 53 0::AA 48 54::[]) [1,4,48])
 (.cond (.t 48)
 (.skip)
 (.reg [] (
 AR 55 11 1::AG 56 1 55::AW 57 (.bin .gtr) 56 16::AA 48 57::[]) [1,4,48])))))
 (.cond (.t 48)
 (.seq (.reg [] (
 AK 2 .mov [.k (.d (.nilptr))]::AP 3 130::[]) [2,3])
 (.ret))
 (.skip))))))
 (.seq (.seq (.reg [] (
 AP 58 0::[]) [1,4,58])
 (.block 1
 (.loop [] [1,4,58] [1,17,70,10070,900000,901000]
 (.seq (.reg [] (
 AW 59 (.bin .lss) 58 16::[]) [1,4,58,59])
 (.seq (.cond (.t 59)
 (.skip)
 (.exit 1))
 (.seq (.block 2
 (.seq (.reg [] (
 AA 60 58::AA 12 60::[]) [1,4,12,58])
 (.seq (.draw [] (
 (AA 62 4,[])::(AA 63 12,[])::(AR 64 0 1,[])::(AD 65 (.load true 6) 64,[])::(AR 66 0 1,[])::(AD 67 (.load true 6) 66,[])::(AA 68 12,[])::(AB 69 (.call 60) 67 68,[3])::(AK 70 (.call 19) [.t 65,.k (.d (.int .i64 0)),.t 69],[])::(AA 61 70,[])::(BR 71 0 61,[])::(BR 72 1 61,[])::(BR 73 2 61,[])::(AD 74 .nilck 62,[])::(AR 75 12 74,[])::(AB 76 (.iaddrA 16 1) 75 63,[])::(CJ (.store 1) [.t 76,.t 71],[])::[]) [1,4,12,58])
 (.seq (.reg [] (
 AA 77 4::AD 78 .nilck 77::AR 79 12 78::AA 80 12::AK 81 (.slice 1 true true true) [.t 79,.t 80,.k (.d (.int .i64 16))]::AD 82 (.len false) 81::AP 83 0::[]) [1,4,12,58,81,82,83])
 (.block 3
 (.loop [] [1,4,12,58,81,82,83] [1,17,70,10070,900000,901000]
 (.seq (.reg [] (
 AB 84 (.bin .lss) 83 82::[]) [1,4,12,58,81,82,83,84])
 (.seq (.cond (.t 84)
 (.skip)
 (.exit 3))
 (.seq (.block 4
 (.seq (.reg [] (
 AB 85 (.iaddrS 1) 81 83::AG 86 1 85::AA 14 86::[]) [1,4,12,14,58,81,82,83])
 (.seq (.reg [] (
 AA 87 14::AA 88 4::AA 89 12::AD 90 .nilck 88::AR 91 12 90::AB 92 (.iaddrA 16 1) 91 89::AG 93 1 92::AB 94 (.call 61) 87 93::[]) [1,4,12,58,81,82,83,94])
 (.cond (.t 94)
 (.seq (.reg [] (
 AK 2 .mov [.k (.d (.nilptr))]::AP 3 130::[]) [2,3])
 (.ret))
 (.skip)))))
 (.reg [] (
 AW 95 (.bin .add) 83 1::AA 83 95::[]) [1,4,12,58,81,82,83]))))))))))
 (.reg [] (
 AW 96 (.bin .add) 58 1::AA 58 96::[]) [1,4,58])))))))
 (.seq (.reg [] (
 AA 97 4::AA 2 97::AP 3 0::[]) [2,3])
 (.ret))))))))
theorem DA:Ct E0 LM C0 [.t 2,.t 3] 98:=AL (fl:=[]) (by kernel_rfl)
abbrev F1:Nat:=27
def FY:PC :=
 .seq (.reg [] (
 AP 2 0::[]) [0])
 (.seq (.reg [] (
 AA 3 0::AD 4 (.call 47) 3::AA 5 0::AD 6 (.call 48) 5::AB 7 (.bin .mul) 4 6::AA 2 7::[]) [2])
 (.ret))
theorem IM:Ct E0 F1 FY [.t 2] 8:=AL (fl:=[]) (by kernel_rfl)
abbrev Fc:Nat:=28
def FB:PC :=
 .seq (.reg [] (
 AP 4 0::[]) [0,1,4])
 (.seq (.draw [] (
 (AA 12 0,[])::(AD 13 .nilck 12,[])::(AR 14 0 13,[])::(AR 15 9 14,[])::(AG 16 1 15,[])::(AD 17 (.len false) 16,[])::(AA 18 0,[])::(AD 19 (.call 27) 18,[4,5])::(AB 20 (.bin .add) 17 19,[])::(AA 5 20,[])::[]) [0,1,4,5])
 (.seq (.seq (.reg [] (
 AA 21 0::AD 22 .nilck 21::AR 23 0 22::AR 24 9 23::AG 25 1 24::AA 6 25::[]) [0,1,4,5,6])
 (.block 0
 (.loop [] [0,1,4,5,6] [900000,900001,901000,901001]
 (.seq (.seq (.reg [] (
 AA 26 6::AD 27 (.len false) 26::AW 28 (.bin .gtr) 27 0::[]) [0,1,4,5,6,28])
 (.cond (.t 28)
 (.skip)
 (.exit 0)))
 (.block 1
 (.seq (.reg [] (
 AA 29 1::AA 30 5::AB 31 (.bin .rem) 29 30::AA 7 31::[]) [0,1,4,5,6,7])
 (.seq (.reg [] (
 AA 32 6::AD 33 (.len false) 32::AA 34 0::AD 35 .nilck 34::AR 36 0 35::AR 37 9 36::AG 38 1 37::AD 39 (.len false) 38::AA 40 7::AB 41 (.bin .sub) 39 40::AB 42 (.minmax false) 33 41::AA 8 42::[]) [0,1,4,5,6,7,8])
 (.seq (.seq (.reg [] (
 AA 43 7::AA 44 0::AD 45 .nilck 44::AR 46 0 45::AR 47 9 46::AG 48 1 47::AD 49 (.len false) 48::AB 50 (.bin .lss) 43 49::[]) [0,1,4,5,6,7,8,50])
 (.cond (.t 50)
 (.draw [] (
 (AA 51 4,[])::(AA 52 6,[])::(AA 53 8,[])::(AB 54 (.slice 1 false true false) 52 53,[])::(AA 55 0,[])::(AD 56 .nilck 55,[])::(AR 57 0 56,[])::(AR 58 9 57,[])::(AG 59 1 58,[3])::(AA 60 7,[])::(AB 61 (.slice 1 true false false) 59 60,[3])::(AB 62 (.call 62) 54 61,[])::(AB 63 (.bin .add) 51 62,[])::(AA 4 63,[])::[]) [0,1,4,5,6,8])
 (.seq (.draw [] (
 (AA 64 7,[])::(AA 65 0,[])::(AD 66 .nilck 65,[])::(AR 67 0 66,[])::(AR 68 9 67,[])::(AG 69 1 68,[])::(AD 70 (.len false) 69,[])::(AB 71 (.bin .sub) 64 70,[])::(AA 72 0,[])::(AD 73 (.call 48) 72,[5,6])::(AB 74 (.bin .rem) 71 73,[])::(AA 7 74,[])::[]) [0,1,4,5,6,7])
 (.seq (.reg [] (
 AA 75 6::AD 76 (.len false) 75::AA 77 0::AD 78 (.call 48) 77::AA 79 7::AB 80 (.bin .sub) 78 79::AB 81 (.minmax false) 76 80::AA 8 81::[]) [0,1,4,5,6,7,8])
 (.seq (.reg [] (
 AA 82 8::AA 9 82::[]) [0,1,4,5,6,7,8,9])
 (.seq (.seq (.reg [] (
 AA 83 0::AD 84 .nilck 83::AR 85 12 84::AD 86 (.load true 16) 85::AP 87 0::[]) [0,1,4,5,6,7,8,9,86,87])
 (.block 2
 (.loop [] [0,1,4,5,6,7,8,9,86,87] [900000,900001,901000,901001]
 (.seq (.reg [] (
 AW 88 (.bin .lss) 87 16::[]) [0,1,4,5,6,7,8,9,86,87,88])
 (.seq (.cond (.t 88)
 (.skip)
 (.exit 2))
 (.seq (.block 3
 (.seq (.reg [] (
 AB 89 (.index 16 1 false) 86 87::AA 11 89::[]) [0,1,4,5,6,7,8,9,11,86,87])
 (.draw [] (
 (AA 90 9,[])::(AA 91 6,[])::(AA 92 8,[])::(AB 93 (.slice 1 false true false) 91 92,[])::(AA 94 11,[])::(AA 95 7,[])::(AB 96 (.slice 1 true false false) 94 95,[3])::(AB 97 (.call 62) 93 96,[])::(AB 98 (.minmax false) 90 97,[])::(AA 9 98,[])::[]) [0,1,4,5,6,7,8,9,86,87])))
 (.reg [] (
 AW 99 (.bin .add) 87 1::AA 87 99::[]) [0,1,4,5,6,7,8,9,86,87])))))))
 (.reg [] (
 AA 100 4::AA 101 9::AB 102 (.bin .add) 100 101::AA 4 102::[]) [0,1,4,5,6,8])))))))
 (.draw [] (
 (AA 103 1,[])::(AA 104 8,[])::(AB 105 (.bin .add) 103 104,[])::(AA 106 6,[])::(AA 107 8,[])::(AB 108 (.slice 1 true false false) 106 107,[])::(AA 1 105,[])::(AA 6 108,[])::[]) [0,1,4,5,6])))))))))
 (.seq (.reg [] (
 AA 109 4::AA 4 109::[]) [4])
 (.ret))))
theorem Hm:Ct E0 Fc FB [.t 4] 110:=AL (fl:=[]) (by kernel_rfl)
abbrev Ft:Nat:=29
def FS:PC :=
 .seq (.reg [] (
 AK 2 .mov [.k (.d (.list true []))]::[]) [0])
 (.seq (.seq (.reg [] (
 AA 3 0::AK 4 (.eqnil false) [.t 3,.k (.d (.list true []))]::[]) [0,4])
 (.cond (.t 4)
 (.seq (.reg [] (
 AK 2 .mov [.k (.d (.list true []))]::[]) [2])
 (.ret))
 (.skip)))
 (.seq (.reg [] (
 AK 5 (.mkrow 1 (.int .i64 0) 0 []) []::AA 6 0::AB 7 (.app 3 1 none true) 5 6::AA 2 7::[]) [2])
 (.ret)))
theorem IG:Ct E0 Ft FS [.t 2] 8:=AL (fl:=[]) (by kernel_rfl)
abbrev En:Nat:=30
abbrev H9:Nat:=31
def HG:PC :=
 .seq (.reg [] (
 BW 2 false::[]) [0])
 (.seq (.reg [] (
 AA 3 0::AD 4 (.len false) 3::AW 5 (.bin .leq) 4 1000::AA 6 5::AF 7 6 true .mov [.t 0]::AF 8 6 true (.call 43) [.t 7,.k (.fn 64 [])]::AF 9 6 true (.un .not) [.t 8]::AK 10 .pick [.t 6,.t 9,.k (.d (.bool false))]::AA 2 10::[]) [2])
 (.ret))
theorem Ll:Ct E0 H9 HG [.t 2] 11:=AL (fl:=[]) (by kernel_rfl)
abbrev F0:Nat:=32
def FX:PC :=
 .seq (.reg [] (
 AD 2 .box 0::AP 4 0::AK 5 (.zero [.list true []]) []::BW 6 false::[]) [1,2,4,5,6])
 (.seq (.block 0
 (.loop [] [1,2,4,5,6] [2,5,68,900000,900001,901000,901001,5000002,5000005,5000068]
 (.seq (.seq (.draw [] (
 (AA 10 4,[])::(AG 11 1 2,[])::(AD 12 .nilck 11,[])::(AR 13 0 12,[])::(AR 14 9 13,[])::(AG 15 1 14,[])::(AD 16 (.len false) 15,[])::(AB 17 (.bin .add) 10 16,[])::(AG 18 1 2,[])::(AD 19 (.call 27) 18,[1,5,6])::(AB 20 (.bin .add) 17 19,[])::(AA 21 1,[])::(AD 22 (.len false) 21,[9])::(AB 23 (.bin .leq) 20 22,[])::[]) [1,2,4,5,6,23])
 (.cond (.t 23)
 (.skip)
 (.exit 0)))
 (.seq (.block 1
 (.seq (.seq (.draw [] (
 (AG 26 1 2,[])::(AD 27 .nilck 26,[])::(AR 28 0 27,[])::(AR 29 9 28,[])::(AG 30 1 29,[])::(AA 31 1,[])::(AA 32 4,[])::(AB 33 (.slice 1 true false false) 31 32,[0,4])::(AB 34 (.call 62) 30 33,[])::(AG 35 1 2,[7,8])::(AD 36 .nilck 35,[])::(AR 37 0 36,[])::(AR 38 11 37,[])::(AG 39 1 38,[7,8])::(AB 40 (.bin .gtr) 34 39,[])::[]) [1,2,4,5,6,40])
 (.cond (.t 40)
 (.exit 1)
 (.skip)))
 (.seq (.draw [] (
 (AA 41 1,[])::(AA 42 4,[])::(AG 43 1 2,[])::(AD 44 .nilck 43,[])::(AR 45 0 44,[])::(AR 46 9 45,[])::(AG 47 1 46,[])::(AD 48 (.len false) 47,[])::(AB 49 (.bin .add) 42 48,[])::(AB 50 (.slice 1 true false false) 41 49,[])::(AG 51 1 2,[9])::(AD 52 (.call 27) 51,[2,6,7,9])::(AB 53 (.slice 1 false true false) 50 52,[])::(AA 7 53,[])::[]) [1,2,4,5,6,7])
 (.seq (.seq (.reg [] (
 AA 54 7::AG 55 1 2::AD 56 (.call 48) 55::AB 57 (.call 63) 54 56::[]) [1,2,4,5,6,57])
 (.block 2
 (.rngF [] (.t 57) [58] [1,2,4,5,6] [2,5,68,900000,900001,901000,901001,5000002,5000005,5000068]
 (.reg [] (
 AK 8 (.zero [.list true []]) []::CJ (.store 1) [.t 8,.t 58]::[]) [2,5,8])
 [] [2,5,68,900000,900001,901000,901001,5000002,5000005,5000068]
 (.block 3
 (.seq (.reg [.frzP 8] (
 AD 59 (.mkfn 65) 8::AA 9 59::[]) [2,5,9])
 (.draw [] (
 (AG 60 1 5,[])::(AG 61 1 2,[])::(AD 62 .nilck 61,[])::(AR 63 12 62,[])::(AK 64 (.slice 1 true true true) [.t 63,.k (.d (.int .i64 16)),.k (.d (.int .i64 16))],[0])::(AA 65 9,[])::(AB 66 (.call 66) 64 65,[0])::(AD 67 (.mkrow 1 (.int .i64 0) 1 [0]) 66,[])::(AB 68 (.app 3 1 none true) 60 67,[])::(CJ (.store 1) [.t 5,.t 68],[])::[]) []))))))
 (.seq (.draw [] (
 (AA 69 4,[])::(AG 70 1 5,[])::(AA 4 69,[])::(CJ (.store 1) [.t 5,.t 70],[])::(BW 6 true,[])::[]) [4,5,6])
 (.ret))))))
 (.reg [] (
 AA 24 4::AW 25 (.bin .add) 24 1::AA 4 25::[]) [1,2,4,5,6])))))
 (.seq (.reg [] (
 AP 4 0::CJ (.store 1) [.t 5,.k (.d (.list true []))]::BW 6 false::[]) [4,5,6])
 (.ret)))
theorem IL:Ct E0 F0 FX [.t 4,.c 5 29 false 1,.t 6] 71:=AL (fl:=[68]) (by kernel_rfl)
abbrev FK:Nat:=33
abbrev J4:Nat:=34
def Ie:PC :=
 .seq (.reg [] (
 BW 2 false::[]) [0])
 (.seq (.seq (.reg [] (
 AP 3 0::[]) [0,3])
 (.block 0
 (.loop [] [0,3] [900000,901000]
 (.seq (.seq (.reg [] (
 AA 4 3::AA 5 0::AD 6 (.len false) 5::AB 7 (.bin .lss) 4 6::[]) [0,3,7])
 (.cond (.t 7)
 (.skip)
 (.exit 0)))
 (.seq (.block 1
 (.seq (.reg [] (
 AA 10 0::AA 11 3::AB 12 (.iaddrS 1) 10 11::AG 13 1 12::AK 14 (.call 68) [.t 13,.k (.d (.int .i64 0)),.k (.d (.int .i64 1))]::AD 15 (.un .not) 14::[]) [0,3,15])
 (.cond (.t 15)
 (.seq (.reg [] (
 BW 2 false::[]) [2])
 (.ret))
 (.skip))))
 (.reg [] (
 AA 8 3::AW 9 (.bin .add) 8 1::AA 3 9::[]) [0,3]))))))
 (.seq (.reg [] (
 BW 2 true::[]) [2])
 (.ret)))
theorem NV:Ct E0 J4 Ie [.t 2] 16:=AL (fl:=[]) (by kernel_rfl)
abbrev LI:Nat:=35
def Jr:PC :=
 .seq (.reg [] (
 AD 3 .box 0::AK 6 (.zero [.int .i64 0,.int .i64 0,.int .i64 0]) []::AP 7 0::[]) [1,2,3,6])
 (.seq (.seq (.reg [] (
 AR 9 0 3::AD 10 (.load true 2) 9::AD 11 (.call 69) 10::AW 12 (.bin .neq) 11 0::AA 13 12::Bk 14 13 2 3::B0 15 13 1 14::CO 16 13 (.bin .lss) 15 1::Bp 17 13 16::AA 18 17::Bk 19 18 2 3::B0 20 18 1 19::CO 21 18 (.bin .gtr) 20 8::Bp 22 18 21::[]) [1,2,3,6,22])
 (.cond (.t 22)
 (.seq (.reg [] (
 AK 23 (.build [.int .i64 0,.int .i64 0,.int .i64 0] []) []::CJ (.store 3) [.t 6,.t 23]::AP 7 50::[]) [6,7])
 (.ret))
 (.skip)))
 (.seq (.reg [] (
 AR 24 0 3::AD 25 (.load true 2) 24::AD 26 (.build [.int .i64 0,.int .i64 0] [(0,2)]) 25::AR 27 2 3::AG 28 1 27::AB 29 (.build [.int .i64 0,.int .i64 0,.int .i64 0] [(0,2),(2,1)]) 26 28::AK 8 (.zero [.int .i64 0,.int .i64 0,.int .i64 0]) []::CJ (.store 3) [.t 8,.t 29]::[]) [1,2,3,6,8])
 (.seq (.seq (.draw [] (
 (AA 30 1,[])::(AR 31 2 3,[])::(AG 32 1 31,[])::(AA 33 2,[])::(AR 34 0 8,[])::(AD 35 (.load true 2) 34,[])::(AB 36 .callv 33 35,[2])::(AB 37 (.bin .mul) 32 36,[])::(AB 38 (.call 70) 30 37,[])::(AD 39 (.un .not) 38,[])::[]) [6,8,39])
 (.cond (.t 39)
 (.seq (.reg [] (
 AK 40 (.build [.int .i64 0,.int .i64 0,.int .i64 0] []) []::CJ (.store 3) [.t 6,.t 40]::AP 7 51::[]) [6,7])
 (.ret))
 (.skip)))
 (.seq (.reg [] (
 AD 41 (.load true 3) 8::CJ (.store 3) [.t 6,.t 41]::AP 7 0::[]) [6,7])
 (.ret)))))
theorem Oe:Ct E0 LI Jr [.c 6 78 true 3,.t 7] 42:=AL (fl:=[]) (by kernel_rfl)
abbrev C3:Nat:=36
def GS:PC :=
 .seq (.reg [] (
 AD 1 .box 0::AP 2 0::[]) [1])
 (.seq (.reg [] (
 AR 3 0 1::AR 4 0 3::AG 5 1 4::AR 6 0 1::AR 7 1 6::AG 8 1 7::AB 9 (.bin .sub) 5 8::AA 2 9::[]) [2])
 (.ret))
theorem KI:Ct E0 C3 GS [.t 2] 10:=AL (fl:=[]) (by kernel_rfl)
abbrev F_:Nat:=37
def Fj:PC :=
 .seq (.reg [] (
 AD 2 .box 0::AK 4 .mov [.k (.d (.list true []))]::[]) [1,2])
 (.seq (.reg [] (
 AK 15 (.mkrowO 111 1 (.int .u8 0) 1 [0]) [.k (.d (.int .u8 1))]::AA 5 15::[]) [1,2,5])
 (.seq (.seq (.reg [] (
 AR 16 0 2::AR 17 1 16::AG 18 1 17::AP 19 0::[]) [1,2,5,18,19])
 (.block 0
 (.loop [.freeze 5] [1,2,5,18,19] [2,900000,900001,901000,901001]
 (.seq (.reg [] (
 AB 20 (.bin .lss) 19 18::[]) [1,2,5,18,19,20])
 (.seq (.cond (.t 20)
 (.skip)
 (.exit 0))
 (.seq (.block 1
 (.seq (.reg [] (
 AA 21 19::AA 6 21::[]) [1,2,5,6,18,19])
 (.seq (.reg [.freeze 5] (
 AA 22 5::AD 23 (.call 71) 22::AK 24 (.mkrow 1 (.int .u8 0) 1 [0]) [.k (.d (.int .u8 0))]::AB 25 (.app 111 1 none true) 23 24::AA 7 25::[]) [1,2,5,6,7,18,19])
 (.seq (.seq (.reg [] (
 AA 26 5::AD 27 (.len false) 26::AP 28 0::[]) [1,2,6,7,18,19,26,27,28])
 (.block 2
 (.loop [.freeze 26] [1,2,6,7,18,19,26,27,28] [2,23,25,10023,900000,900001,901000,901001]
 (.seq (.reg [] (
 AB 29 (.bin .lss) 28 27::[]) [1,2,6,7,18,19,26,27,28,29])
 (.seq (.cond (.t 29)
 (.skip)
 (.exit 2))
 (.seq (.block 3
 (.seq (.reg [] (
 AA 30 28::AB 31 (.iaddrS 1) 26 28::AG 32 1 31::AA 8 30::AA 9 32::[]) [1,2,6,7,8,9,18,19,26,27,28])
 (.draw [] (
 (AA 33 7,[])::(AA 34 8,[])::(AW 35 (.bin .add) 34 1,[])::(AB 36 (.iaddrS 1) 33 35,[])::(AG 37 1 36,[])::(AA 38 9,[])::(AA 39 6,[])::(AD 40 (.call 73) 39,[3,4])::(AB 41 (.call 72) 38 40,[3,4])::(AB 42 (.bin .xor) 37 41,[])::(AB 43 (.iaddrS 1) 33 35,[])::(CJ (.store 1) [.t 43,.t 42],[])::[]) [1,2,6,7,18,19,26,27,28])))
 (.reg [] (
 AW 44 (.bin .add) 28 1::AA 28 44::[]) [1,2,6,7,18,19,26,27,28])))))))
 (.reg [] (
 AA 45 7::AA 5 45::[]) [1,2,5,18,19])))))
 (.reg [] (
 AW 46 (.bin .add) 19 1::AA 19 46::[]) [1,2,5,18,19])))))))
 (.seq (.draw [] (
 (AA 47 1,[])::(AD 48 (.call 71) 47,[])::(AR 49 0 2,[])::(AR 50 1 49,[])::(AG 51 1 50,[1])::(AB 52 (.app 111 1 (some (.int .u8 0)) true) 48 51,[])::(AA 10 52,[])::[]) [1,5,10])
 (.seq (.seq (.reg [] (
 AA 53 1::AD 54 (.len false) 53::AP 55 0::[]) [1,5,10,54,55])
 (.block 4
 (.loop [.freeze 5] [1,5,10,54,55] [48,52,10048,900001,901001]
 (.seq (.reg [] (
 AB 56 (.bin .lss) 55 54::[]) [1,5,10,54,55,56])
 (.seq (.cond (.t 56)
 (.skip)
 (.exit 4))
 (.seq (.block 5
 (.seq (.reg [] (
 AA 57 55::AA 11 57::[]) [1,5,10,11,54,55])
 (.seq (.reg [] (
 AA 58 10::AA 59 11::AB 60 (.iaddrS 1) 58 59::AG 61 1 60::AA 12 61::[]) [1,5,10,11,12,54,55])
 (.seq (.reg [] (
 AA 62 5::AD 63 (.len false) 62::AP 64 0::[]) [1,5,10,11,12,54,55,62,63,64])
 (.block 6
 (.loop [.freeze 5,.freeze 62] [1,5,10,11,12,54,55,62,63,64] [48,52,10048,900001,901001]
 (.seq (.reg [] (
 AB 65 (.bin .lss) 64 63::[]) [1,5,10,11,12,54,55,62,63,64,65])
 (.seq (.cond (.t 65)
 (.skip)
 (.exit 6))
 (.seq (.block 7
 (.seq (.reg [] (
 AA 66 64::AB 67 (.iaddrS 1) 62 64::AG 68 1 67::AA 13 66::AA 14 68::[]) [1,5,10,11,12,13,14,54,55,62,63,64])
 (.draw [] (
 (AA 69 10,[])::(AA 70 11,[])::(AA 71 13,[])::(AB 72 (.bin .add) 70 71,[])::(AB 73 (.iaddrS 1) 69 72,[])::(AG 74 1 73,[])::(AA 75 12,[])::(AA 76 14,[])::(AB 77 (.call 72) 75 76,[4,5])::(AB 78 (.bin .xor) 74 77,[])::(AB 79 (.iaddrS 1) 69 72,[])::(CJ (.store 1) [.t 79,.t 78],[])::[]) [1,5,10,11,12,54,55,62,63,64])))
 (.reg [] (
 AW 80 (.bin .add) 64 1::AA 64 80::[]) [1,5,10,11,12,54,55,62,63,64]))))))))))
 (.reg [] (
 AW 81 (.bin .add) 55 1::AA 55 81::[]) [1,5,10,54,55])))))))
 (.seq (.reg [.freeze 10] (
 AA 82 1::AA 83 10::AA 84 1::AD 85 (.len false) 84::AB 86 (.slice 1 true false false) 83 85::AB 87 (.mkrow 1 (.list true []) 2 [0,1]) 82 86::AD 88 (.call 74) 87::AA 4 88::[]) [4])
 (.ret))))))
theorem I1:Ct E0 F_ Fj [.t 4] 89:=AL (fl:=[52]) (by kernel_rfl)
abbrev Gf:Nat:=38
def F5:PC :=
 .seq (.reg [] (
 AD 3 .box 0::AK 6 .mov [.k (.d (.list true []))]::[]) [1,2,3])
 (.seq (.reg [] (
 AK 7 .mov [.k (.d (.list true []))]::[]) [1,2,3,7])
 (.seq (.seq (.reg [] (
 AA 9 2::AA 8 9::[]) [1,3,7,8])
 (.block 0
 (.loop [.own 7 25 111 1] [1,3,7,8] [3,25,900000,900001,900002,901000,901001,901002]
 (.seq (.seq (.reg [] (
 AA 10 8::AA 11 1::AD 12 (.len false) 11::AB 13 (.bin .lss) 10 12::[]) [1,3,7,8,13])
 (.cond (.t 13)
 (.skip)
 (.exit 0)))
 (.seq (.block 1
 (.reg [] (
 AA 18 7::AA 19 1::AA 20 8::AB 21 (.iaddrS 1) 19 20::AG 22 1 21::AD 23 (.conv .u8) 22::AD 24 (.mkrow 1 (.int .u8 0) 1 [0]) 23::AB 25 (.app 111 1 none true) 18 24::AA 7 25::[]) [1,3,7,8]))
 (.reg [] (
 AA 14 8::AR 15 2 3::AG 16 1 15::AB 17 (.bin .add) 14 16::AA 8 17::[]) [1,3,7,8]))))))
 (.seq (.reg [] (
 AA 26 7::AA 6 26::[]) [6])
 (.ret))))
theorem JU:Ct E0 Gf F5 [.t 6] 27:=AL (fl:=[]) (by kernel_rfl)
abbrev Gg:Nat:=39
def F6:PC :=
 .seq (.reg [] (
 AD 2 .box 0::AK 4 .mov [.k (.d (.list true []))]::[]) [1])
 (.seq (.reg [] (
 AK 5 .mov [.k (.d (.list true []))]::[]) [1,5])
 (.seq (.seq (.reg [] (
 AA 9 1::AW 10 (.iaddrS 1) 9 0::AG 11 1 10::AD 12 (.len false) 11::AP 13 0::[]) [1,5,12,13])
 (.block 0
 (.loop [.own 5 29 3 1] [1,5,12,13] [29,900001,901001]
 (.seq (.reg [] (
 AB 14 (.bin .lss) 13 12::[]) [1,5,12,13,14])
 (.seq (.cond (.t 14)
 (.skip)
 (.exit 0))
 (.seq (.block 1
 (.seq (.reg [] (
 AA 15 13::AA 6 15::[]) [1,5,6,12,13])
 (.seq (.reg [] (
 AA 16 1::AD 17 (.len false) 16::AP 18 0::[]) [1,5,6,12,13,16,17,18])
 (.block 2
 (.loop [.own 5 29 3 1] [1,5,6,12,13,16,17,18] [29,900001,901001]
 (.seq (.reg [] (
 AB 19 (.bin .lss) 18 17::[]) [1,5,6,12,13,16,17,18,19])
 (.seq (.cond (.t 19)
 (.skip)
 (.exit 2))
 (.seq (.block 3
 (.seq (.reg [] (
 AB 20 (.iaddrS 1) 16 18::AG 21 1 20::AA 8 21::[]) [1,5,6,8,12,13,16,17,18])
 (.reg [] (
 AA 22 5::AA 23 8::AA 24 6::AB 25 (.iaddrS 1) 23 24::AG 26 1 25::AD 27 (.conv .i64) 26::AD 28 (.mkrow 1 (.int .i64 0) 1 [0]) 27::AB 29 (.app 3 1 none true) 22 28::AA 5 29::[]) [1,5,6,12,13,16,17,18])))
 (.reg [] (
 AW 30 (.bin .add) 18 1::AA 18 30::[]) [1,5,6,12,13,16,17,18])))))))))
 (.reg [] (
 AW 31 (.bin .add) 13 1::AA 13 31::[]) [1,5,12,13])))))))
 (.seq (.reg [] (
 AA 32 5::AA 4 32::[]) [4])
 (.ret))))
theorem JV:Ct E0 Gg F6 [.t 4] 33:=AL (fl:=[]) (by kernel_rfl)
abbrev LJ:Nat:=40
def Js:PC :=
 .seq (.reg [] (
 BW 6 false::[]) [0,1,2])
 (.seq (.reg [] (
 AA 7 1::AA 8 0::AB 9 (.bin .leq) 7 8::AA 10 9::AF 11 10 true .mov [.t 0]::AF 12 10 true .mov [.t 2]::AF 13 10 true (.bin .leq) [.t 11,.t 12]::AK 14 .pick [.t 10,.t 13,.k (.d (.bool false))]::AA 6 14::[]) [6])
 (.ret))
theorem Og:Ct E0 LJ Js [.t 6] 15:=AL (fl:=[]) (by kernel_rfl)
abbrev PL:Nat:=41
def M8:PC :=
 .seq (.reg [] (
 BW 2 false::[]) [0])
 (.seq (.reg [] (
 AA 3 0::AK 4 (.call 43) [.t 3,.k (.fn 75 [])]::AD 5 (.un .not) 4::AA 2 5::[]) [2])
 (.ret))
theorem Ra:Ct E0 PL M8 [.t 2] 6:=AL (fl:=[]) (by kernel_rfl)
abbrev N6:Nat:=42
def Lw:PC :=
 .seq (.reg [] (
 AD 2 .box 0::AK 4 (.zero [.int .i64 0,.int .i64 0,.int .i64 0,.int .i64 0,.list true [],.list true []]) []::AP 5 0::[]) [1,2,4])
 (.seq (.reg [] (
 AD 8 (.load true 6) 2::AD 9 (.build [.int .i64 0,.int .i64 0,.int .i64 0,.int .i64 0,.list true [],.list true []] [(0,6)]) 8::AK 6 (.zero [.int .i64 0,.int .i64 0,.int .i64 0,.int .i64 0,.list true [],.list true []]) []::CJ (.store 6) [.t 6,.t 9]::[]) [1,2,4,6])
 (.seq (.seq (.reg [] (
 AD 10 (.load true 6) 2::AD 11 (.call 59) 10::AA 7 11::[]) [1,4,6,7])
 (.seq (.reg [] (
 AA 12 7::AW 13 (.bin .neq) 12 0::[]) [1,4,6,7,13])
 (.cond (.t 13)
 (.seq (.reg [] (
 AD 14 (.load true 6) 6::AA 15 7::CJ (.store 6) [.t 4,.t 14]::AA 5 15::[]) [4,5])
 (.ret))
 (.skip))))
 (.seq (.seq (.reg [] (
 AD 16 (.load true 6) 6::AA 17 1::AB 18 (.call 76) 16 17::AD 19 (.un .not) 18::[]) [4,6,19])
 (.cond (.t 19)
 (.seq (.reg [] (
 AD 20 (.load true 6) 6::CJ (.store 6) [.t 4,.t 20]::AP 5 41::[]) [4,5])
 (.ret))
 (.skip)))
 (.seq (.reg [] (
 AD 21 (.load true 6) 6::CJ (.store 6) [.t 4,.t 21]::AP 5 0::[]) [4,5])
 (.ret)))))
theorem Qg:Ct E0 N6 Lw [.c 4 89 true 6,.t 5] 22:=AL (fl:=[]) (by kernel_rfl)
abbrev B9:Nat:=43
def Ch:PC :=
 .seq (.reg [] (
 BW 4 false::[]) [0,1])
 (.seq (.reg [] (
 AA 5 0::AA 6 1::AB 7 (.call 77) 5 6::AW 8 (.bin .geq) 7 0::AA 4 8::[]) [4])
 (.ret))
theorem Dn:Ct E0 B9 Ch [.t 4] 9:=AL (fl:=[]) (by kernel_rfl)
abbrev GG:Nat:=44
def H0:PC :=
 .seq (.reg [] (
 BW 3 false::[]) [0,1])
 (.seq (.reg [] (
 AA 4 0::AD 5 (.load true 6) 1::AD 6 (.call 45) 5::AW 7 (.bin .sub) 6 1::AK 8 (.call 40) [.t 4,.k (.d (.int .i64 0)),.t 7]::AD 9 (.un .not) 8::AA 3 9::[]) [3])
 (.ret))
theorem MW:Ct E0 GG H0 [.t 3] 10:=AL (fl:=[]) (by kernel_rfl)
abbrev Hd:Nat:=45
def Gv:PC :=
 .seq (.reg [] (
 AD 1 .box 0::AP 2 0::[]) [1])
 (.seq (.reg [] (
 AR 3 0 1::AR 4 0 3::AG 5 1 4::AK 6 (.bin .shl) [.k (.d (.int .i64 1)),.t 5]::AA 2 6::[]) [2])
 (.ret))
theorem K3:Ct E0 Hd Gv [.t 2] 7:=AL (fl:=[]) (by kernel_rfl)
abbrev Fy:Nat:=46
def HF:PC :=
 .seq (.reg [] (
 AD 3 .box 0::AK 6 .mov [.k (.d (.list true []))]::[]) [1,2,3])
 (.seq (.reg [] (
 AK 7 .mov [.k (.d (.list true []))]::[]) [1,2,3,7])
 (.seq (.seq (.reg [] (
 AR 9 0 3::AR 10 1 9::AG 11 1 10::AW 12 (.bin .sub) 11 1::AA 8 12::[]) [1,2,3,7,8])
 (.block 0
 (.loop [.own 7 31 3 1] [1,2,3,7,8] [3,31,900000,900001,900002,901000,901001,901002]
 (.seq (.seq (.reg [] (
 AA 13 8::AW 14 (.bin .geq) 13 0::[]) [1,2,3,7,8,14])
 (.cond (.t 14)
 (.skip)
 (.exit 0)))
 (.seq (.block 1
 (.reg [] (
 AA 17 7::AR 18 0 3::AR 19 4 18::AG 20 1 19::AA 21 1::AB 22 (.iaddrS 1) 20 21::AG 23 1 22::AA 24 2::AB 25 (.iaddrS 1) 23 24::AG 26 1 25::AA 27 8::AB 28 (.bin .shr) 26 27::AW 29 (.bin .and) 28 1::AD 30 (.mkrow 1 (.int .i64 0) 1 [0]) 29::AB 31 (.app 3 1 none true) 17 30::AA 7 31::[]) [1,2,3,7,8]))
 (.reg [] (
 AA 15 8::AW 16 (.bin .sub) 15 1::AA 8 16::[]) [1,2,3,7,8]))))))
 (.seq (.reg [] (
 AA 32 7::AA 6 32::[]) [6])
 (.ret))))
theorem Lk:Ct E0 Fy HF [.t 6] 33:=AL (fl:=[]) (by kernel_rfl)
abbrev E2:Nat:=47
def Eh:PC :=
 .seq (.reg [] (
 AP 2 0::[]) [0])
 (.seq (.draw [] (
 (AA 3 0,[])::(AD 4 .nilck 3,[])::(AR 5 0 4,[])::(AR 6 6 5,[])::(AR 7 2 6,[])::(AG 8 1 7,[])::(AA 9 0,[])::(AD 10 .nilck 9,[])::(AR 11 0 10,[])::(AR 12 6 11,[])::(AR 13 0 12,[])::(AR 14 0 13,[])::(AG 15 1 14,[])::(AB 16 (.bin .mul) 8 15,[])::(AA 2 16,[])::[]) [2])
 (.ret))
theorem G4:Ct E0 E2 Eh [.t 2] 17:=AL (fl:=[]) (by kernel_rfl)
abbrev Fz:Nat:=48
def FW:PC :=
 .seq (.reg [] (
 AP 2 0::[]) [0])
 (.seq (.reg [] (
 AA 3 0::AD 4 .nilck 3::AR 5 12 4::AW 6 (.iaddrA 16 1) 5 0::AG 7 1 6::AD 8 (.len false) 7::AA 2 8::[]) [2])
 (.ret))
theorem IK:Ct E0 Fz FW [.t 2] 9:=AL (fl:=[]) (by kernel_rfl)
abbrev PK:Nat:=49
def M7:PC :=
 .seq (.reg [] (
 AD 1 .box 0::BW 2 false::[]) [1])
 (.seq (.seq (.reg [] (
 AR 5 4 1::AG 6 1 5::AD 7 (.len false) 6::AW 8 (.bin .gtr) 7 20::AA 9 8::Bk 10 9 5 1::B0 11 9 1 10::AF 12 9 false (.len false) [.t 11]::CO 13 9 (.bin .gtr) 12 20::Bp 14 9 13::[]) [1,14])
 (.cond (.t 14)
 (.seq (.reg [] (
 BW 2 true::[]) [2])
 (.ret))
 (.skip)))
 (.seq (.seq (.reg [] (
 AP 3 0::[]) [1,3])
 (.block 0
 (.loop [] [1,3] [1,900000,901000]
 (.seq (.seq (.reg [] (
 AA 15 3::AR 16 4 1::AG 17 1 16::AD 18 (.len false) 17::AB 19 (.bin .lss) 15 18::[]) [1,3,19])
 (.cond (.t 19)
 (.skip)
 (.exit 0)))
 (.seq (.block 1
 (.seq (.reg [] (
 AR 22 4 1::AG 23 1 22::AA 24 3::AB 25 (.iaddrS 1) 23 24::AG 26 1 25::AD 27 (.len false) 26::AW 28 (.bin .gtr) 27 20::[]) [1,3,28])
 (.cond (.t 28)
 (.seq (.reg [] (
 BW 2 true::[]) [2])
 (.ret))
 (.skip))))
 (.reg [] (
 AA 20 3::AW 21 (.bin .add) 20 1::AA 3 21::[]) [1,3]))))))
 (.seq (.seq (.reg [] (
 AP 4 0::[]) [1,4])
 (.block 2
 (.loop [] [1,4] [1,900000,901000]
 (.seq (.seq (.reg [] (
 AA 29 4::AR 30 5 1::AG 31 1 30::AD 32 (.len false) 31::AB 33 (.bin .lss) 29 32::[]) [1,4,33])
 (.cond (.t 33)
 (.skip)
 (.exit 2)))
 (.seq (.block 3
 (.seq (.reg [] (
 AR 36 5 1::AG 37 1 36::AA 38 4::AB 39 (.iaddrS 1) 37 38::AG 40 1 39::AD 41 (.len false) 40::AW 42 (.bin .gtr) 41 20::[]) [1,4,42])
 (.cond (.t 42)
 (.seq (.reg [] (
 BW 2 true::[]) [2])
 (.ret))
 (.skip))))
 (.reg [] (
 AA 34 4::AW 35 (.bin .add) 34 1::AA 4 35::[]) [1,4]))))))
 (.seq (.reg [] (
 BW 2 false::[]) [2])
 (.ret)))))
theorem RZ:Ct E0 PK M7 [.t 2] 43:=AL (fl:=[]) (by kernel_rfl)
abbrev L8:Nat:=50
def Kf:PC :=
 .seq (.reg [] (
 AD 1 .box 0::AP 2 0::[]) [1])
 (.seq (.seq (.reg [] (
 AR 5 0 1::AG 6 1 5::AK 7 (.call 68) [.t 6,.k (.d (.int .i64 1)),.k (.d (.int .i64 2))]::AD 8 (.un .not) 7::AA 9 8::Bk 10 9 1 1::B0 11 9 1 10::AF 12 9 false (.call 68) [.t 11,.k (.d (.int .i64 1)),.k (.d (.int .i64 5))]::AF 13 9 false (.un .not) [.t 12]::Bp 14 9 13::AA 15 14::Bk 16 15 2 1::B0 17 15 1 16::Bk 18 15 3 1::B0 19 15 1 18::AF 20 15 false (.call 68) [.t 17,.k (.d (.int .i64 0)),.t 19]::AF 21 15 false (.un .not) [.t 20]::Bp 22 15 21::AA 23 22::Bk 24 23 3 1::B0 25 23 1 24::CO 26 23 (.bin .gtr) 25 12::Bp 27 23 26::AA 28 27::Bk 29 28 4 1::B0 30 28 1 29::AF 31 28 false (.len false) [.t 30]::AF 32 28 false (.call 68) [.t 31,.k (.d (.int .i64 1)),.k (.d (.int .i64 4))]::AF 33 28 false (.un .not) [.t 32]::Bp 34 28 33::AA 35 34::Bk 36 35 5 1::B0 37 35 1 36::AF 38 35 false (.len false) [.t 37]::Bk 39 35 4 1::B0 40 35 1 39::AF 41 35 false (.len false) [.t 40]::AF 42 35 false (.bin .neq) [.t 38,.t 41]::Bp 43 35 42::[]) [1,43])
 (.cond (.t 43)
 (.seq (.reg [] (
 AP 2 40::[]) [2])
 (.ret))
 (.skip)))
 (.seq (.seq (.reg [] (
 AP 3 0::[]) [1,3])
 (.block 0
 (.loop [] [1,3] [1,900000,901000]
 (.seq (.seq (.reg [] (
 AA 44 3::AR 45 4 1::AG 46 1 45::AD 47 (.len false) 46::AB 48 (.bin .lss) 44 47::[]) [1,3,48])
 (.cond (.t 48)
 (.skip)
 (.exit 0)))
 (.seq (.block 1
 (.seq (.seq (.draw [] (
 (AR 51 4 1,[])::(AG 52 1 51,[])::(AA 53 3,[])::(AB 54 (.iaddrS 1) 52 53,[])::(AG 55 1 54,[])::(AD 56 (.len false) 55,[])::(AR 57 0 1,[])::(AG 58 1 57,[])::(AD 59 (.conv .u64) 58,[])::(AK 60 (.bin .shl) [.k (.d (.int .i64 1)),.t 59],[])::(AB 61 (.bin .neq) 56 60,[])::(AA 62 61,[])::(Bk 63 62 5 1,[])::(B0 64 62 1 63,[])::(AF 65 62 false .mov [.t 3],[])::(AF 66 62 false (.iaddrS 1) [.t 64,.t 65],[])::(B0 67 62 1 66,[])::(AF 68 62 false (.len false) [.t 67],[])::(Bk 69 62 0 1,[])::(B0 70 62 1 69,[])::(AF 71 62 false (.conv .u64) [.t 70],[])::(AF 72 62 false (.bin .shl) [.k (.d (.int .i64 1)),.t 71],[])::(AF 73 62 false (.bin .neq) [.t 68,.t 72],[])::(Bp 74 62 73,[])::[]) [1,3,74])
 (.cond (.t 74)
 (.seq (.reg [] (
 AP 2 40::[]) [2])
 (.ret))
 (.skip)))
 (.seq (.reg [] (
 AP 4 0::[]) [1,3,4])
 (.block 2
 (.loop [] [1,3,4] [1,900000,901000]
 (.seq (.seq (.reg [] (
 AA 75 4::AR 76 4 1::AG 77 1 76::AA 78 3::AB 79 (.iaddrS 1) 77 78::AG 80 1 79::AD 81 (.len false) 80::AB 82 (.bin .lss) 75 81::[]) [1,3,4,82])
 (.cond (.t 82)
 (.skip)
 (.exit 2)))
 (.seq (.block 3
 (.seq (.draw [] (
 (AR 85 4 1,[])::(AG 86 1 85,[])::(AA 87 3,[])::(AB 88 (.iaddrS 1) 86 87,[])::(AG 89 1 88,[])::(AA 90 4,[])::(AB 91 (.iaddrS 1) 89 90,[])::(AG 92 1 91,[])::(AR 93 1 1,[])::(AG 94 1 93,[])::(AD 95 (.conv .u64) 94,[])::(AK 96 (.bin .shl) [.k (.d (.int .i64 1)),.t 95],[])::(AW 97 (.bin .sub) 96 1,[])::(AK 98 (.call 68) [.t 92,.k (.d (.int .i64 0)),.t 97],[])::(AD 99 (.un .not) 98,[])::(AA 100 99,[])::(Bk 101 100 5 1,[])::(B0 102 100 1 101,[])::(AF 103 100 false .mov [.t 3],[])::(AF 104 100 false (.iaddrS 1) [.t 102,.t 103],[])::(B0 105 100 1 104,[])::(AF 106 100 false .mov [.t 4],[])::(AF 107 100 false (.iaddrS 1) [.t 105,.t 106],[])::(B0 108 100 1 107,[])::(Bk 109 100 4 1,[])::(B0 110 100 1 109,[])::(AF 111 100 false (.len false) [.t 110],[])::(CO 112 100 (.bin .sub) 111 1,[])::(AF 113 100 false (.call 68) [.t 108,.k (.d (.int .i64 0)),.t 112],[])::(AF 114 100 false (.un .not) [.t 113],[])::(Bp 115 100 114,[])::[]) [1,3,4,115])
 (.cond (.t 115)
 (.seq (.reg [] (
 AP 2 40::[]) [2])
 (.ret))
 (.skip))))
 (.reg [] (
 AA 83 4::AW 84 (.bin .add) 83 1::AA 4 84::[]) [1,3,4]))))))))
 (.reg [] (
 AA 49 3::AW 50 (.bin .add) 49 1::AA 3 50::[]) [1,3]))))))
 (.seq (.reg [] (
 AP 2 0::[]) [2])
 (.ret))))
theorem PW:Ct E0 L8 Kf [.t 2] 116:=AL (fl:=[]) (by kernel_rfl)
abbrev Hb:Nat:=51
def Gs:PC :=
 .seq (.reg [] (
 AD 1 .box 0::AP 2 0::[]) [1])
 (.seq (.seq (.reg [] (
 AR 3 0 1::AD 4 (.load true 2) 3::AD 5 (.call 78) 4::AW 6 (.bin .neq) 5 0::AA 7 6::Bk 8 7 2 1::B0 9 7 1 8::AF 10 7 false (.call 55) [.t 9,.k (.d (.int .i64 1)),.k (.d (.int .i64 8))]::AF 11 7 false (.un .not) [.t 10]::Bp 12 7 11::[]) [12])
 (.cond (.t 12)
 (.seq (.reg [] (
 AP 2 50::[]) [2])
 (.ret))
 (.skip)))
 (.seq (.reg [] (
 AP 2 0::[]) [2])
 (.ret)))
theorem K0:Ct E0 Hb Gs [.t 2] 13:=AL (fl:=[]) (by kernel_rfl)
abbrev LH:Nat:=52
def Jq:PC :=
 .seq (.reg [] (
 BW 2 false::[]) [0])
 (.seq (.reg [] (
 AA 3 0::AD 4 (.len false) 3::AK 5 (.call 68) [.t 4,.k (.d (.int .i64 1)),.k (.d (.int .i64 16))]::AA 6 5::AF 7 6 true .mov [.t 0]::AF 8 6 true (.call 34) [.t 7]::AK 9 .pick [.t 6,.t 8,.k (.d (.bool false))]::AA 2 9::[]) [2])
 (.ret))
theorem Od:Ct E0 LH Jq [.t 2] 10:=AL (fl:=[]) (by kernel_rfl)
abbrev LB:Nat:=53
def Jj:PC :=
 .seq (.reg [] (
 BW 6 false::[]) [0,1,2])
 (.seq (.reg [] (
 AA 7 0::AA 8 1::AB 9 (.bin .geq) 7 8::AA 10 9::AF 11 10 true .mov [.t 0]::AF 12 10 true .mov [.t 2]::AF 13 10 true (.bin .leq) [.t 11,.t 12]::AK 14 .pick [.t 10,.t 13,.k (.d (.bool false))]::AA 6 14::[]) [6])
 (.ret))
theorem OW:Ct E0 LB Jj [.t 6] 15:=AL (fl:=[]) (by kernel_rfl)
abbrev LD:Nat:=54
def Jl:PC :=
 .seq (.reg [] (
 AD 2 .box 0::AK 4 .mov [.k (.d (.list true []))]::[]) [1,2])
 (.seq (.reg [] (
 AA 9 1::AD 10 (.call 79) 9::AA 5 10::[]) [2,5])
 (.seq (.reg [] (
 AA 11 5::AA 6 11::[]) [2,5,6])
 (.seq (.seq (.reg [] (
 AR 12 0 2::AR 13 0 12::AG 14 1 13::AW 15 (.bin .eql) 14 2::[]) [2,5,6,15])
 (.cond (.t 15)
 (.draw [] (
 (AA 16 5,[])::(AW 17 (.iaddrS 1) 16 0,[])::(AG 18 1 17,[])::(AK 19 (.bin .mul) [.k (.d (.int .i64 2)),.t 18],[])::(AA 20 5,[])::(AW 21 (.iaddrS 1) 20 1,[])::(AG 22 1 21,[])::(AB 23 (.bin .add) 19 22,[])::(AA 24 5,[])::(AW 25 (.iaddrS 1) 24 2,[])::(AG 26 1 25,[])::(AK 27 (.bin .mul) [.k (.d (.int .i64 2)),.t 26],[])::(AA 28 5,[])::(AW 29 (.iaddrS 1) 28 3,[])::(AG 30 1 29,[])::(AB 31 (.bin .add) 27 30,[])::(AB 32 (.mkrow 1 (.int .i64 0) 2 [0,1]) 23 31,[])::(AA 6 32,[])::[]) [2,6])
 (.skip)))
 (.seq (.reg [] (
 AR 34 0 2::AD 35 (.load true 6) 34::AA 36 6::AK 37 (.call 80) [.t 35,.k (.d (.int .i64 0)),.t 36]::AA 33 37::BR 38 0 33::BR 39 1 33::AA 7 38::AA 8 39::[]) [7])
 (.seq (.reg [] (
 AA 40 7::AA 4 40::[]) [4])
 (.ret))))))
theorem OY:Ct E0 LD Jl [.t 4] 41:=AL (fl:=[]) (by kernel_rfl)
abbrev Ha:Nat:=55
def Jm:PC :=
 .seq (.reg [] (
 BW 6 false::[]) [0,1,2])
 (.seq (.reg [] (
 AA 7 0::AA 8 1::AB 9 (.bin .geq) 7 8::AA 10 9::AF 11 10 true .mov [.t 0]::AF 12 10 true .mov [.t 2]::AF 13 10 true (.bin .leq) [.t 11,.t 12]::AK 14 .pick [.t 10,.t 13,.k (.d (.bool false))]::AA 6 14::[]) [6])
 (.ret))
theorem OZ:Ct E0 Ha Jm [.t 6] 15:=AL (fl:=[]) (by kernel_rfl)
abbrev J7:Nat:=56
def Il:PC :=
 .seq (.reg [] (
 AK 0 (.zero [.int .i64 0,.int .i64 0,.int .i64 0,.int .i64 0,.list true [],.list true []]) []::[]) [0])
 (.seq (.reg [] (
 AK 1 (.mkrow 1 (.int .i64 0) 2 [0,1]) [.k (.d (.int .i64 2)),.k (.d (.int .i64 1))]::AK 2 (.mkrow 1 (.int .i64 0) 2 [0,1]) [.k (.d (.int .i64 0)),.k (.d (.int .i64 1))]::AB 3 (.mkrow 1 (.list true []) 2 [0,1]) 1 2::AK 4 (.mkrow 1 (.int .i64 0) 2 [0,1]) [.k (.d (.int .i64 0)),.k (.d (.int .i64 1))]::AK 5 (.mkrow 1 (.int .i64 0) 2 [0,1]) [.k (.d (.int .i64 0)),.k (.d (.int .i64 1))]::AB 6 (.mkrow 1 (.list true []) 2 [0,1]) 4 5::AK 7 (.build [.int .i64 0,.int .i64 0,.int .i64 0,.int .i64 0,.list true [],.list true []] [(0,1),(1,1),(2,1),(3,1),(4,1),(5,1)]) [.k (.d (.int .i64 1)),.k (.d (.int .i64 2)),.k (.d (.int .i64 1)),.k (.d (.int .i64 3)),.t 3,.t 6]::CJ (.store 6) [.t 0,.t 7]::[]) [0])
 (.ret))
theorem NY:Ct E0 J7 Il [.c 0 24 true 6] 8:=AL (fl:=[]) (by kernel_rfl)
abbrev J_:Nat:=57
def Iq:PC :=
 .seq (.reg [] (
 AD 1 .box 0::AP 2 0::AP 3 0::AP 4 0::[]) [1])
 (.seq (.reg [] (
 AD 7 (.load true 3) 1::AK 8 (.call 35) [.t 7,.k (.d (.list true [])),.k (.fn 81 [])]::AA 6 8::BR 9 0 6::BR 10 1 6::AK 5 (.zero [.int .i64 0,.int .i64 0,.int .i64 0]) []::CJ (.store 3) [.t 5,.t 9]::AA 4 10::[]) [4,5])
 (.seq (.seq (.reg [] (
 AA 11 4::AW 12 (.bin .neq) 11 0::[]) [4,5,12])
 (.cond (.t 12)
 (.seq (.reg [] (
 AA 13 4::AP 2 0::AP 3 0::AA 4 13::[]) [2,3,4])
 (.ret))
 (.skip)))
 (.seq (.draw [] (
 (AR 14 2 5,[])::(AG 15 1 14,[])::(AR 16 0 5,[])::(AR 17 0 16,[])::(AR 18 1 17,[])::(AG 19 1 18,[])::(AW 20 (.bin .quo) 19 2,[])::(AB 21 (.bin .mul) 15 20,[])::(AR 22 2 5,[])::(AG 23 1 22,[])::(AR 24 0 5,[])::(AR 25 0 24,[])::(AR 26 1 25,[])::(AG 27 1 26,[])::(AB 28 (.bin .mul) 23 27,[])::(AA 2 21,[])::(AA 3 28,[])::(AP 4 0,[])::[]) [2,3,4])
 (.ret))))
theorem Nc:Ct E0 J_ Iq [.t 2,.t 3,.t 4] 29:=AL (fl:=[]) (by kernel_rfl)
abbrev N7:Nat:=58
def Lx:PC :=
 .seq (.reg [] (
 AK 6 .mov [.k (.d (.list true []))]::AP 7 0::[]) [0,1,2])
 (.seq (.seq (.reg [] (
 AA 10 0::AD 11 (.call 82) 10::AD 12 (.un .not) 11::AA 13 12::AF 14 13 false .mov [.t 1]::AF 15 13 false (.len false) [.t 14]::CO 16 13 (.bin .gtr) 15 128::Bp 17 13 16::AA 18 17::AF 19 18 false .mov [.t 1]::AF 20 18 false (.call 41) [.t 19]::AF 21 18 false (.un .not) [.t 20]::Bp 22 18 21::AA 23 22::AF 24 23 false .mov [.t 2]::AF 25 23 false (.call 40) [.t 24,.k (.d (.int .i64 0)),.k (.d (.int .i64 16))]::AF 26 23 false (.un .not) [.t 25]::Bp 27 23 26::[]) [0,1,2,27])
 (.cond (.t 27)
 (.seq (.reg [] (
 AK 6 .mov [.k (.d (.list true []))]::AP 7 1::[]) [6,7])
 (.ret))
 (.skip)))
 (.seq (.reg [] (
 AK 8 .mov [.k (.d (.list true []))]::[]) [0,1,2,8])
 (.seq (.seq (.reg [] (
 AA 28 1::AD 29 (.len false) 28::AA 30 0::AD 31 (.len false) 30::AB 32 (.bin .sub) 29 31::AW 33 (.bin .add) 32 1::AK 34 (.minmax true) [.k (.d (.int .i64 0)),.t 33]::AP 35 0::[]) [0,1,2,8,34,35])
 (.block 0
 (.loop [.own 8 48 3 1] [0,1,2,8,34,35] [48,900000,900001,900002,901000,901001,901002]
 (.seq (.reg [] (
 AB 36 (.bin .lss) 35 34::[]) [0,1,2,8,34,35,36])
 (.seq (.cond (.t 36)
 (.skip)
 (.exit 0))
 (.seq (.block 1
 (.seq (.reg [] (
 AA 37 35::AA 9 37::[]) [0,1,2,8,9,34,35])
 (.seq (.reg [] (
 AA 38 0::AA 39 1::AA 40 9::AB 41 (.slice 1 true false false) 39 40::AB 42 (.call 83) 38 41::AA 43 2::AB 44 (.bin .leq) 42 43::[]) [0,1,2,8,9,34,35,44])
 (.cond (.t 44)
 (.reg [] (
 AA 45 8::AA 46 9::AD 47 (.mkrow 1 (.int .i64 0) 1 [0]) 46::AB 48 (.app 3 1 none true) 45 47::AA 8 48::[]) [0,1,2,8,34,35])
 (.skip)))))
 (.reg [] (
 AW 49 (.bin .add) 35 1::AA 35 49::[]) [0,1,2,8,34,35])))))))
 (.seq (.reg [] (
 AA 50 8::AA 6 50::AP 7 0::[]) [6,7])
 (.ret)))))
theorem Qh:Ct E0 N7 Lx [.t 6,.t 7] 51:=AL (fl:=[]) (by kernel_rfl)
abbrev MB:Nat:=59
def Kk:PC :=
 .seq (.reg [] (
 AD 1 .box 0::AP 2 0::[]) [1])
 (.seq (.reg [] (
 AD 8 (.load true 6) 1::AD 9 (.build [.int .i64 0,.int .i64 0,.int .i64 0,.int .i64 0,.list true [],.list true []] [(0,6)]) 8::AK 3 (.zero [.int .i64 0,.int .i64 0,.int .i64 0,.int .i64 0,.list true [],.list true []]) []::CJ (.store 6) [.t 3,.t 9]::[]) [3])
 (.seq (.seq (.reg [] (
 AR 10 0 3::AR 11 0 10::AG 12 1 11::AK 13 (.call 40) [.t 12,.k (.d (.int .i64 1)),.k (.d (.int .i64 2))]::AD 14 (.un .not) 13::AA 15 14::Bk 16 15 0 3::Bk 17 15 1 16::B0 18 15 1 17::AF 19 15 false (.call 40) [.t 18,.k (.d (.int .i64 1)),.k (.d (.int .i64 5))]::AF 20 15 false (.un .not) [.t 19]::Bp 21 15 20::AA 22 21::Bk 23 22 0 3::Bk 24 22 2 23::B0 25 22 1 24::Bk 26 22 0 3::Bk 27 22 3 26::B0 28 22 1 27::AF 29 22 false (.call 40) [.t 25,.k (.d (.int .i64 0)),.t 28]::AF 30 22 false (.un .not) [.t 29]::Bp 31 22 30::AA 32 31::Bk 33 32 0 3::Bk 34 32 3 33::B0 35 32 1 34::CO 36 32 (.bin .gtr) 35 12::Bp 37 32 36::AA 38 37::Bk 39 38 0 3::Bk 40 38 4 39::B0 41 38 1 40::AF 42 38 false (.len false) [.t 41]::AF 43 38 false (.call 40) [.t 42,.k (.d (.int .i64 1)),.k (.d (.int .i64 4))]::AF 44 38 false (.un .not) [.t 43]::Bp 45 38 44::AA 46 45::Bk 47 46 0 3::Bk 48 46 5 47::B0 49 46 1 48::AF 50 46 false (.len false) [.t 49]::Bk 51 46 0 3::Bk 52 46 4 51::B0 53 46 1 52::AF 54 46 false (.len false) [.t 53]::AF 55 46 false (.bin .neq) [.t 50,.t 54]::Bp 56 46 55::[]) [3,56])
 (.cond (.t 56)
 (.seq (.reg [] (
 AP 2 40::[]) [2])
 (.ret))
 (.skip)))
 (.seq (.reg [.frzP 3] (
 AD 57 (.mkfn 84) 3::AA 4 57::[]) [3,4])
 (.seq (.reg [.frzP 3] (
 AD 58 (.mkfn 85) 3::AA 5 58::[]) [3,4,5])
 (.seq (.seq (.reg [] (
 AR 59 0 3::AR 60 4 59::AG 61 1 60::AD 62 (.len false) 61::AP 63 0::[]) [3,4,5,61,62,63])
 (.block 0
 (.loop [] [3,4,5,61,62,63] [3,900000,901000]
 (.seq (.reg [] (
 AB 64 (.bin .lss) 63 62::[]) [3,4,5,61,62,63,64])
 (.seq (.cond (.t 64)
 (.skip)
 (.exit 0))
 (.seq (.block 1
 (.seq (.reg [] (
 AA 65 63::AB 66 (.iaddrS 1) 61 63::AG 67 1 66::AA 6 65::AA 7 67::[]) [3,4,5,6,7,61,62,63])
 (.seq (.draw [] (
 (AA 68 7,[])::(AD 69 (.len false) 68,[])::(AD 70 (.load true 6) 3,[])::(AD 71 (.call 45) 70,[1])::(AB 72 (.bin .neq) 69 71,[])::(AA 73 72,[])::(Bk 74 73 0 3,[])::(Bk 75 73 5 74,[])::(B0 76 73 1 75,[])::(AF 77 73 false .mov [.t 6],[])::(AF 78 73 false (.iaddrS 1) [.t 76,.t 77],[])::(B0 79 73 1 78,[])::(AF 80 73 false (.len false) [.t 79],[])::(AF 81 73 false (.load true 6) [.t 3],[])::(AF 82 73 false (.call 45) [.t 81],[8,10,11,12])::(AF 83 73 false (.bin .neq) [.t 80,.t 82],[])::(Bp 84 73 83,[])::(AA 85 84,[])::(AF 86 85 false .mov [.t 7],[])::(AF 87 85 false .mov [.t 4],[])::(AF 88 85 false (.call 43) [.t 86,.t 87],[])::(Bp 89 85 88,[])::(AA 90 89,[])::(Bk 91 90 0 3,[])::(Bk 92 90 5 91,[])::(B0 93 90 1 92,[])::(AF 94 90 false .mov [.t 6],[])::(AF 95 90 false (.iaddrS 1) [.t 93,.t 94],[])::(B0 96 90 1 95,[])::(AF 97 90 false .mov [.t 5],[])::(AF 98 90 false (.call 43) [.t 96,.t 97],[])::(Bp 99 90 98,[])::[]) [3,4,5,61,62,63,99])
 (.cond (.t 99)
 (.seq (.reg [] (
 AP 2 40::[]) [2])
 (.ret))
 (.skip)))))
 (.reg [] (
 AW 100 (.bin .add) 63 1::AA 63 100::[]) [3,4,5,61,62,63])))))))
 (.seq (.reg [] (
 AP 2 0::[]) [2])
 (.ret)))))))
theorem Pb:Ct E0 MB Kk [.t 2] 101:=AL (fl:=[]) (by kernel_rfl)
abbrev J':Nat:=60
def Iu:PC :=
 .seq (.reg [] (
 AD 2 .box 0::AK 4 .mov [.k (.d (.list true []))]::[]) [1,2])
 (.seq (.reg [] (
 AK 5 .mov [.k (.d (.list true []))]::[]) [1,2,5])
 (.seq (.seq (.reg [] (
 AR 7 0 2::AG 8 1 7::AK 9 (.bin .sub) [.k (.d (.int .i64 4)),.t 8]::AA 6 9::[]) [1,2,5,6])
 (.block 0
 (.loop [.own 5 26 3 1] [1,2,5,6] [2,26,900000,900001,901000,901001]
 (.seq (.seq (.reg [] (
 AA 10 6::AW 11 (.bin .geq) 10 0::[]) [1,2,5,6,11])
 (.cond (.t 11)
 (.skip)
 (.exit 0)))
 (.seq (.block 1
 (.draw [] (
 (AA 16 5,[])::(AA 17 1,[])::(AA 18 6,[])::(AB 19 (.bin .shr) 17 18,[])::(AR 20 0 2,[])::(AG 21 1 20,[])::(AK 22 (.bin .shl) [.k (.d (.int .i64 1)),.t 21],[])::(AW 23 (.bin .sub) 22 1,[])::(AB 24 (.bin .and) 19 23,[])::(AD 25 (.mkrow 1 (.int .i64 0) 1 [0]) 24,[])::(AB 26 (.app 3 1 none true) 16 25,[])::(AA 5 26,[])::[]) [1,2,5,6]))
 (.reg [] (
 AA 12 6::AR 13 0 2::AG 14 1 13::AB 15 (.bin .sub) 12 14::AA 6 15::[]) [1,2,5,6]))))))
 (.seq (.reg [] (
 AA 27 5::AA 4 27::[]) [4])
 (.ret))))
theorem Ng:Ct E0 J' Iu [.t 4] 28:=AL (fl:=[26]) (by kernel_rfl)
abbrev Fs:Nat:=61
def FR:PC :=
 .seq (.reg [] (
 BW 4 false::[]) [0,1])
 (.seq (.seq (.reg [] (
 AA 6 0::AD 7 (.len false) 6::AA 8 1::AD 9 (.len false) 8::AB 10 (.bin .neq) 7 9::[]) [0,1,10])
 (.cond (.t 10)
 (.seq (.reg [] (
 BW 4 false::[]) [4])
 (.ret))
 (.skip)))
 (.seq (.seq (.reg [] (
 AA 11 0::AD 12 (.len false) 11::AP 13 0::[]) [0,1,12,13])
 (.block 0
 (.loop [] [0,1,12,13] [900000,900001,901000,901001]
 (.seq (.reg [] (
 AB 14 (.bin .lss) 13 12::[]) [0,1,12,13,14])
 (.seq (.cond (.t 14)
 (.skip)
 (.exit 0))
 (.seq (.block 1
 (.seq (.reg [] (
 AA 15 13::AA 5 15::[]) [0,1,5,12,13])
 (.seq (.draw [] (
 (AA 16 0,[])::(AA 17 5,[])::(AB 18 (.iaddrS 1) 16 17,[])::(AG 19 1 18,[])::(AA 20 1,[])::(AA 21 5,[])::(AB 22 (.iaddrS 1) 20 21,[])::(AG 23 1 22,[])::(AB 24 (.bin .neq) 19 23,[])::[]) [0,1,12,13,24])
 (.cond (.t 24)
 (.seq (.reg [] (
 BW 4 false::[]) [4])
 (.ret))
 (.skip)))))
 (.reg [] (
 AW 25 (.bin .add) 13 1::AA 13 25::[]) [0,1,12,13])))))))
 (.seq (.reg [] (
 BW 4 true::[]) [4])
 (.ret))))
theorem IE:Ct E0 Fs FR [.t 4] 26:=AL (fl:=[]) (by kernel_rfl)
abbrev Hf:Nat:=62
def Gx:PC :=
 .seq (.reg [] (
 AP 4 0::[]) [0,1,4])
 (.seq (.seq (.reg [] (
 AA 6 0::AD 7 (.len false) 6::AP 8 0::[]) [0,1,4,7,8])
 (.block 0
 (.loop [] [0,1,4,7,8] [900000,900001,901000,901001]
 (.seq (.reg [] (
 AB 9 (.bin .lss) 8 7::[]) [0,1,4,7,8,9])
 (.seq (.cond (.t 9)
 (.skip)
 (.exit 0))
 (.seq (.block 1
 (.seq (.reg [] (
 AA 10 8::AA 5 10::[]) [0,1,4,5,7,8])
 (.draw [] (
 (AA 11 4,[])::(AA 12 0,[])::(AA 13 5,[])::(AB 14 (.iaddrS 1) 12 13,[])::(AG 15 1 14,[])::(AA 16 1,[])::(AA 17 5,[])::(AB 18 (.iaddrS 1) 16 17,[])::(AG 19 1 18,[])::(AB 20 (.bin .xor) 15 19,[])::(AB 21 (.bin .add) 11 20,[])::(AA 4 21,[])::[]) [0,1,4,7,8])))
 (.reg [] (
 AW 22 (.bin .add) 8 1::AA 8 22::[]) [0,1,4,7,8])))))))
 (.seq (.reg [] (
 AA 23 4::AA 4 23::[]) [4])
 (.ret)))
theorem K5:Ct E0 Hf Gx [.t 4] 24:=AL (fl:=[]) (by kernel_rfl)
abbrev Fu:Nat:=63
def FT:PC :=
 .seq (.reg [] (
 AD 2 .box 0::AD 3 .box 1::AK 4 .mov [.k (.d (.nilfn))]::[]) [2,3])
 (.seq (.seq (.reg [] (
 AG 5 1 3::AW 6 (.bin .lss) 5 1::[]) [2,3,6])
 (.cond (.t 6)
 (.dead)
 (.skip)))
 (.seq (.reg [.frzP 2,.frzP 3] (
 AB 8 (.mkfn 86) 2 3::AA 4 8::[]) [4])
 (.ret)))
theorem IH:Ct E0 Fu FT [.t 4] 9:=AL (fl:=[]) (by kernel_rfl)
abbrev E9:Nat:=64
def GT:PC :=
 .seq (.reg [] (
 BW 2 false::[]) [0])
 (.seq (.reg [] (
 AA 3 0::AK 4 (.bin .shr) [.t 3,.k (.d (.int .u64 1))]::AW 5 (.bin .neq) 4 0::AA 2 5::[]) [2])
 (.ret))
theorem KJ:Ct E0 E9 GT [.t 2] 6:=AL (fl:=[]) (by kernel_rfl)
abbrev Cn:Nat:=65
def Ew:PC :=
 .seq (.reg [] (
 BW 3 false::[]) [0,1])
 (.seq (.reg [] (
 AA 4 0::AG 5 1 1::AB 6 (.call 61) 4 5::AA 3 6::[]) [3])
 (.ret))
theorem HQ:Ct E0 Cn Ew [.t 3] 7:=AL (fl:=[]) (by kernel_rfl)
abbrev Dp:Nat:=66
def DX:PC :=
 .seq (.reg [] (
 AP 4 0::[]) [0,1])
 (.seq (.seq (.reg [] (
 AA 6 0::AD 7 (.len false) 6::AP 8 0::[]) [0,1,7,8])
 (.block 0
 (.loop [] [0,1,7,8] [900000,900001,901000,901001]
 (.seq (.reg [] (
 AB 9 (.bin .lss) 8 7::[]) [0,1,7,8,9])
 (.seq (.cond (.t 9)
 (.skip)
 (.exit 0))
 (.seq (.block 1
 (.seq (.reg [] (
 AA 10 8::AA 5 10::[]) [0,1,5,7,8])
 (.seq (.reg [] (
 AA 11 1::AA 12 0::AA 13 5::AB 14 (.iaddrS 1) 12 13::AG 15 1 14::AB 16 .callv 11 15::[]) [0,1,5,7,8,16])
 (.cond (.t 16)
 (.seq (.reg [] (
 AA 17 5::AA 4 17::[]) [4])
 (.ret))
 (.skip)))))
 (.reg [] (
 AW 18 (.bin .add) 8 1::AA 8 18::[]) [0,1,7,8])))))))
 (.seq (.reg [] (
 AP 4 (-1)::[]) [4])
 (.ret)))
theorem Fe:Ct E0 Dp DX [.t 4] 19:=AL (fl:=[]) (by kernel_rfl)
abbrev JA:Nat:=67
abbrev LE:Nat:=68
def Jn:PC :=
 .seq (.reg [] (
 BW 6 false::[]) [0,1,2])
 (.seq (.reg [] (
 AA 7 0::AA 8 1::AB 9 (.bin .geq) 7 8::AA 10 9::AF 11 10 true .mov [.t 0]::AF 12 10 true .mov [.t 2]::AF 13 10 true (.bin .leq) [.t 11,.t 12]::AK 14 .pick [.t 10,.t 13,.k (.d (.bool false))]::AA 6 14::[]) [6])
 (.ret))
theorem Oa:Ct E0 LE Jn [.t 6] 15:=AL (fl:=[]) (by kernel_rfl)
abbrev J9:Nat:=69
def Ip:PC :=
 .seq (.reg [] (
 AD 1 .box 0::AP 2 0::[]) [1])
 (.seq (.seq (.reg [] (
 AR 3 0 1::AG 4 1 3::AW 5 (.bin .lss) 4 2::AA 6 5::Bk 7 6 0 1::B0 8 6 1 7::CO 9 6 (.bin .gtr) 8 15::Bp 10 6 9::AA 11 10::Bk 12 11 1 1::B0 13 11 1 12::CO 14 11 (.bin .lss) 13 1::Bp 15 11 14::AA 16 15::Bk 17 16 1 1::B0 18 16 1 17::CO 19 16 (.bin .gtr) 18 8::Bp 20 16 19::AA 21 20::Bk 22 21 1 1::B0 23 21 1 22::Bk 24 21 0 1::B0 25 21 1 24::AF 26 21 false (.bin .geq) [.t 23,.t 25]::Bp 27 21 26::[]) [27])
 (.cond (.t 27)
 (.seq (.reg [] (
 AP 2 50::[]) [2])
 (.ret))
 (.skip)))
 (.seq (.reg [] (
 AP 2 0::[]) [2])
 (.ret)))
theorem Nb:Ct E0 J9 Ip [.t 2] 28:=AL (fl:=[]) (by kernel_rfl)
abbrev MA:Nat:=70
def Ki:PC :=
 .seq (.reg [] (
 BW 4 false::[]) [0,1])
 (.seq (.reg [] (
 AA 5 0::AD 6 (.len false) 5::AA 7 1::AB 8 (.bin .eql) 6 7::AA 9 8::AF 10 9 true .mov [.t 0]::AF 11 9 true (.call 43) [.t 10,.k (.fn 90 [])]::AF 12 9 true (.un .not) [.t 11]::AK 13 .pick [.t 9,.t 12,.k (.d (.bool false))]::AA 4 13::[]) [4])
 (.ret))
theorem PZ:Ct E0 MA Ki [.t 4] 14:=AL (fl:=[]) (by kernel_rfl)
abbrev CL:Nat:=71
def CC:PC :=
 .seq (.reg [] (
 AK 2 .mov [.k (.d (.list true []))]::[]) [0])
 (.seq (.seq (.reg [] (
 AA 3 0::AK 4 (.eqnil false) [.t 3,.k (.d (.list true []))]::[]) [0,4])
 (.cond (.t 4)
 (.seq (.reg [] (
 AK 2 .mov [.k (.d (.list true []))]::[]) [2])
 (.ret))
 (.skip)))
 (.seq (.reg [] (
 AK 5 (.mkrow 1 (.int .u8 0) 0 []) []::AA 6 0::AB 7 (.app 111 1 none true) 5 6::AA 2 7::[]) [2])
 (.ret)))
theorem Dk:Ct E0 CL CC [.t 2] 8:=AL (fl:=[]) (by kernel_rfl)
abbrev Fv:Nat:=72
def FU:PC :=
 .seq (.reg [] (
 AK 4 .mov [.k (.d (.int .u8 0))]::[]) [0,1])
 (.seq (.seq (.reg [] (
 AA 5 0::AK 6 (.bin .eql) [.t 5,.k (.d (.int .u8 0))]::AA 7 6::AF 8 7 false .mov [.t 1]::AF 9 7 false (.bin .eql) [.t 8,.k (.d (.int .u8 0))]::Bp 10 7 9::[]) [0,1,10])
 (.cond (.t 10)
 (.seq (.reg [] (
 AK 4 .mov [.k (.d (.int .u8 0))]::[]) [4])
 (.ret))
 (.skip)))
 (.seq (.draw [] (
 (AA 11 0,[])::(AK 12 (.iaddrA 16 1) [.k (.d (.ptr [.int .i64 0,.int .i64 0,.int .i64 1,.int .i64 4,.int .i64 2,.int .i64 8,.int .i64 5,.int .i64 10,.int .i64 3,.int .i64 14,.int .i64 9,.int .i64 7,.int .i64 6,.int .i64 13,.int .i64 11,.int .i64 12])),.t 11],[])::(AG 13 1 12,[])::(AA 14 1,[])::(AK 15 (.iaddrA 16 1) [.k (.d (.ptr [.int .i64 0,.int .i64 0,.int .i64 1,.int .i64 4,.int .i64 2,.int .i64 8,.int .i64 5,.int .i64 10,.int .i64 3,.int .i64 14,.int .i64 9,.int .i64 7,.int .i64 6,.int .i64 13,.int .i64 11,.int .i64 12])),.t 14],[])::(AG 16 1 15,[])::(AB 17 (.bin .add) 13 16,[])::(AD 18 (.call 73) 17,[])::(AA 4 18,[])::[]) [4])
 (.ret)))
theorem II:Ct E0 Fv FU [.t 4] 19:=AL (fl:=[]) (by kernel_rfl)
abbrev J8:Nat:=73
def Im:PC :=
 .seq (.reg [] (
 AK 2 .mov [.k (.d (.int .u8 0))]::[]) [0])
 (.seq (.reg [] (
 AA 3 0::AW 4 (.bin .rem) 3 15::AK 5 (.iaddrA 15 1) [.k (.d (.ptr [.int .u8 1,.int .u8 2,.int .u8 4,.int .u8 8,.int .u8 3,.int .u8 6,.int .u8 12,.int .u8 11,.int .u8 5,.int .u8 10,.int .u8 7,.int .u8 14,.int .u8 15,.int .u8 13,.int .u8 9])),.t 4]::AG 6 1 5::AA 2 6::[]) [2])
 (.ret))
theorem NZ:Ct E0 J8 Im [.t 2] 7:=AL (fl:=[]) (by kernel_rfl)
abbrev CF:Nat:=74
def CA:PC :=
 .seq (.reg [] (
 AK 2 .mov [.k (.d (.list true []))]::[]) [0])
 (.seq (.reg [] (
 AP 3 0::[]) [0,3])
 (.seq (.seq (.reg [] (
 AA 9 0::AD 10 (.len false) 9::AP 11 0::[]) [0,3,9,10,11])
 (.block 0
 (.loop [] [0,3,9,10,11] [900000,901000]
 (.seq (.reg [] (
 AB 12 (.bin .lss) 11 10::[]) [0,3,9,10,11,12])
 (.seq (.cond (.t 12)
 (.skip)
 (.exit 0))
 (.seq (.block 1
 (.seq (.reg [] (
 AB 13 (.iaddrS 1) 9 11::AG 14 1 13::AA 5 14::[]) [0,3,5,9,10,11])
 (.seq (.reg [] (
 AA 15 3::AA 16 5::AD 17 (.len false) 16::AB 18 (.bin .add) 15 17::AA 3 18::[]) [0,3,9,10,11])
 (.seq (.reg [] (
 AA 19 3::AW 20 (.bin .lss) 19 0::[]) [0,3,9,10,11,20])
 (.cond (.t 20)
 (.dead)
 (.skip))))))
 (.reg [] (
 AW 22 (.bin .add) 11 1::AA 11 22::[]) [0,3,9,10,11])))))))
 (.seq (.reg [] (
 AA 23 3::AK 24 (.call 91) [.k (.d (.list true [])),.t 23]::AA 6 24::[]) [0,6])
 (.seq (.seq (.reg [] (
 AA 25 0::AD 26 (.len false) 25::AP 27 0::[]) [6,25,26,27])
 (.block 2
 (.loop [.own 6 33 111 1] [6,25,26,27] [24,33,10024,900000,901000]
 (.seq (.reg [] (
 AB 28 (.bin .lss) 27 26::[]) [6,25,26,27,28])
 (.seq (.cond (.t 28)
 (.skip)
 (.exit 2))
 (.seq (.block 3
 (.seq (.reg [] (
 AB 29 (.iaddrS 1) 25 27::AG 30 1 29::AA 8 30::[]) [6,8,25,26,27])
 (.reg [] (
 AA 31 6::AA 32 8::AB 33 (.app 111 1 none true) 31 32::AA 6 33::[]) [6,25,26,27])))
 (.reg [] (
 AW 34 (.bin .add) 27 1::AA 27 34::[]) [6,25,26,27])))))))
 (.seq (.reg [] (
 AA 35 6::AA 2 35::[]) [2])
 (.ret))))))
theorem Db:Ct E0 CF CA [.t 2] 36:=AL (fl:=[]) (by kernel_rfl)
abbrev IU:Nat:=75
def Kj:PC :=
 .seq (.reg [] (
 BW 2 false::[]) [0])
 (.seq (.reg [] (
 AA 3 0::AW 4 (.bin .neq) 3 0::AA 5 4::AF 6 5 true .mov [.t 0]::AF 7 5 true (.bin .neq) [.t 6,.k (.d (.int .i64 1))]::AK 8 .pick [.t 5,.t 7,.k (.d (.bool false))]::AA 2 8::[]) [2])
 (.ret))
theorem Pa:Ct E0 IU Kj [.t 2] 9:=AL (fl:=[]) (by kernel_rfl)
abbrev He:Nat:=76
def Gw:PC :=
 .seq (.reg [] (
 AD 2 .box 0::BW 4 false::[]) [1,2])
 (.seq (.reg [] (
 AA 5 1::AR 6 0 2::AR 7 4 6::AG 8 1 7::AD 9 (.len false) 8::AW 10 (.bin .sub) 9 1::AK 11 (.call 40) [.t 5,.k (.d (.int .i64 0)),.t 10]::AA 4 11::[]) [4])
 (.ret))
theorem K4:Ct E0 He Gw [.t 4] 12:=AL (fl:=[]) (by kernel_rfl)
abbrev DG:Nat:=77
def C4:PC :=
 .seq (.reg [] (
 AP 4 0::[]) [0,1])
 (.seq (.seq (.reg [] (
 AA 6 0::AD 7 (.len false) 6::AP 8 0::[]) [0,1,7,8])
 (.block 0
 (.loop [] [0,1,7,8] [900000,900001,901000,901001]
 (.seq (.reg [] (
 AB 9 (.bin .lss) 8 7::[]) [0,1,7,8,9])
 (.seq (.cond (.t 9)
 (.skip)
 (.exit 0))
 (.seq (.block 1
 (.seq (.reg [] (
 AA 10 8::AA 5 10::[]) [0,1,5,7,8])
 (.seq (.reg [] (
 AA 11 1::AA 12 0::AA 13 5::AB 14 (.iaddrS 1) 12 13::AG 15 1 14::AB 16 .callv 11 15::[]) [0,1,5,7,8,16])
 (.cond (.t 16)
 (.seq (.reg [] (
 AA 17 5::AA 4 17::[]) [4])
 (.ret))
 (.skip)))))
 (.reg [] (
 AW 18 (.bin .add) 8 1::AA 8 18::[]) [0,1,7,8])))))))
 (.seq (.reg [] (
 AP 4 (-1)::[]) [4])
 (.ret)))
theorem EC:Ct E0 DG C4 [.t 4] 19:=AL (fl:=[]) (by kernel_rfl)
abbrev L7:Nat:=78
def Ke:PC :=
 .seq (.reg [] (
 AD 1 .box 0::AP 2 0::[]) [1])
 (.seq (.seq (.reg [] (
 AR 3 0 1::AG 4 1 3::AK 5 (.call 55) [.t 4,.k (.d (.int .i64 2)),.k (.d (.int .i64 15))]::AD 6 (.un .not) 5::AA 7 6::Bk 8 7 1 1::B0 9 7 1 8::AF 10 7 false (.call 55) [.t 9,.k (.d (.int .i64 1)),.k (.d (.int .i64 8))]::AF 11 7 false (.un .not) [.t 10]::Bp 12 7 11::AA 13 12::Bk 14 13 1 1::B0 15 13 1 14::Bk 16 13 0 1::B0 17 13 1 16::AF 18 13 false (.bin .geq) [.t 15,.t 17]::Bp 19 13 18::[]) [19])
 (.cond (.t 19)
 (.seq (.reg [] (
 AP 2 50::[]) [2])
 (.ret))
 (.skip)))
 (.seq (.reg [] (
 AP 2 0::[]) [2])
 (.ret)))
theorem PV:Ct E0 L7 Ke [.t 2] 20:=AL (fl:=[]) (by kernel_rfl)
abbrev LC:Nat:=79
def Jk:PC :=
 .seq (.reg [] (
 AK 2 .mov [.k (.d (.list true []))]::[]) [0])
 (.seq (.reg [] (
 AA 3 0::AW 4 (.bin .quo) 3 8::AA 5 0::AW 6 (.bin .quo) 5 4::AW 7 (.bin .rem) 6 2::AA 8 0::AW 9 (.bin .quo) 8 2::AW 10 (.bin .rem) 9 2::AA 11 0::AW 12 (.bin .rem) 11 2::AK 13 (.mkrowO 3 1 (.int .i64 0) 4 [0,1,2,3]) [.t 4,.t 7,.t 10,.t 12]::AA 2 13::[]) [2])
 (.ret))
theorem OX:Ct E0 LC Jk [.t 2] 14:=AL (fl:=[]) (by kernel_rfl)
abbrev LF:Nat:=80
def Jo:PC :=
 .seq (.reg [] (
 AD 3 .box 0::AK 6 .mov [.k (.d (.list true []))]::AP 7 0::[]) [1,2,3,6])
 (.seq (.seq (.reg [] (
 AP 8 0::[]) [1,2,3,6,8])
 (.block 0
 (.loop [.own 6 29 3 1] [1,2,3,6,8] [3,29,900000,900001,900002,901000,901001,901002]
 (.seq (.seq (.reg [] (
 AA 9 8::AA 10 2::AD 11 (.len false) 10::AB 12 (.bin .lss) 9 11::[]) [1,2,3,6,8,12])
 (.cond (.t 12)
 (.skip)
 (.exit 0)))
 (.seq (.block 1
 (.seq (.draw [] (
 (AA 15 6,[])::(AD 16 (.load true 6) 3,[])::(AR 17 4 3,[])::(AG 18 1 17,[])::(AA 19 1,[])::(AB 20 (.iaddrS 1) 18 19,[])::(AG 21 1 20,[])::(AA 22 2,[])::(AA 23 8,[])::(AB 24 (.iaddrS 1) 22 23,[])::(AG 25 1 24,[])::(AB 26 (.iaddrS 1) 21 25,[])::(AG 27 1 26,[])::(AB 28 (.call 92) 16 27,[])::(AB 29 (.app 3 1 none true) 15 28,[])::(AA 6 29,[])::[]) [1,2,3,6,8])
 (.draw [] (
 (AR 30 5 3,[])::(AG 31 1 30,[])::(AA 32 1,[])::(AB 33 (.iaddrS 1) 31 32,[])::(AG 34 1 33,[])::(AA 35 2,[])::(AA 36 8,[])::(AB 37 (.iaddrS 1) 35 36,[])::(AG 38 1 37,[])::(AB 39 (.iaddrS 1) 34 38,[])::(AG 40 1 39,[])::(AA 1 40,[])::[]) [1,2,3,6,8])))
 (.reg [] (
 AA 13 8::AW 14 (.bin .add) 13 1::AA 8 14::[]) [1,2,3,6,8]))))))
 (.seq (.reg [] (
 AA 41 6::AA 42 1::AA 6 41::AA 7 42::[]) [6,7])
 (.ret)))
theorem Ob:Ct E0 LF Jo [.t 6,.t 7] 43:=AL (fl:=[29]) (by kernel_rfl)
abbrev EY:Nat:=81
def HE:PC :=
 .seq (.reg [] (
 AD 1 .box 0::AP 2 0::[]) [])
 (.seq (.reg [] (
 AP 2 0::[]) [2])
 (.ret))
theorem Lj:Ct E0 EY HE [.t 2] 3:=AL (fl:=[]) (by kernel_rfl)
abbrev LK:Nat:=82
def Jt:PC :=
 .seq (.reg [] (
 BW 2 false::[]) [0])
 (.seq (.reg [] (
 AA 3 0::AD 4 (.len false) 3::AK 5 (.call 40) [.t 4,.k (.d (.int .i64 1)),.k (.d (.int .i64 16))]::AA 6 5::AF 7 6 true .mov [.t 0]::AF 8 6 true (.call 41) [.t 7]::AK 9 .pick [.t 6,.t 8,.k (.d (.bool false))]::AA 2 9::[]) [2])
 (.ret))
theorem Oh:Ct E0 LK Jt [.t 2] 10:=AL (fl:=[]) (by kernel_rfl)
abbrev JB:Nat:=83
def Hy:PC :=
 .seq (.reg [] (
 AP 4 0::[]) [0,1,4])
 (.seq (.seq (.reg [] (
 AA 7 0::AD 8 (.len false) 7::AP 9 0::[]) [1,4,7,8,9])
 (.block 0
 (.loop [] [1,4,7,8,9] [900000,900001,901000,901001]
 (.seq (.reg [] (
 AB 10 (.bin .lss) 9 8::[]) [1,4,7,8,9,10])
 (.seq (.cond (.t 10)
 (.skip)
 (.exit 0))
 (.seq (.block 1
 (.seq (.reg [] (
 AA 11 9::AB 12 (.iaddrS 1) 7 9::AG 13 1 12::AA 5 11::AA 6 13::[]) [1,4,5,6,7,8,9])
 (.reg [] (
 AA 14 4::AA 15 6::AA 16 1::AA 17 5::AB 18 (.iaddrS 1) 16 17::AG 19 1 18::AB 20 (.bin .xor) 15 19::AB 21 (.bin .add) 14 20::AA 4 21::[]) [1,4,7,8,9])))
 (.reg [] (
 AW 22 (.bin .add) 9 1::AA 9 22::[]) [1,4,7,8,9])))))))
 (.seq (.reg [] (
 AA 23 4::AA 4 23::[]) [4])
 (.ret)))
theorem MU:Ct E0 JB Hy [.t 4] 24:=AL (fl:=[]) (by kernel_rfl)
abbrev Gr:Nat:=84
def It:PC :=
 .seq (.reg [] (
 BW 3 false::[]) [0,1])
 (.seq (.reg [] (
 AA 4 0::AR 5 0 1::AR 6 1 5::AG 7 1 6::AK 8 (.bin .shl) [.k (.d (.int .i64 1)),.t 7]::AW 9 (.bin .sub) 8 1::AK 10 (.call 40) [.t 4,.k (.d (.int .i64 0)),.t 9]::AD 11 (.un .not) 10::AA 3 11::[]) [3])
 (.ret))
theorem Nf:Ct E0 Gr It [.t 3] 12:=AL (fl:=[]) (by kernel_rfl)
abbrev Gq:Nat:=85
def Ir:PC :=
 .seq (.reg [] (
 BW 3 false::[]) [0,1])
 (.seq (.reg [] (
 AD 4 (.load true 6) 1::AA 5 0::AB 6 (.call 76) 4 5::AD 7 (.un .not) 6::AA 3 7::[]) [3])
 (.ret))
theorem Nd:Ct E0 Gq Ir [.t 3] 8:=AL (fl:=[]) (by kernel_rfl)
abbrev Cm:Nat:=86
def DM:PC :=
 .seq (.reg [] (
 AP 4 0::[]) [0,1,2,4])
 (.block 0
 (.loop [] [0,1,2,4] [900000,900001,900002,901000,901001,901002]
 (.seq (.seq (.reg [] (
 AA 6 4::AG 7 1 1::AD 8 (.len false) 7::AB 9 (.bin .lss) 6 8::[]) [0,1,2,4,9])
 (.cond (.t 9)
 (.skip)
 (.exit 0)))
 (.seq (.block 1
 (.seq (.draw [] (
 (AG 13 1 2,[])::(AG 14 1 1,[])::(AA 15 4,[])::(AB 16 (.slice 1 true false false) 14 15,[0])::(AD 17 (.len false) 16,[])::(AB 18 (.minmax false) 13 17,[])::(AA 5 18,[])::[]) [0,1,2,4,5])
 (.seq (.yld [] (
 AA 19 0::AG 20 1 1::AA 21 4::AA 22 4::AA 23 5::AB 24 (.bin .add) 22 23::AA 25 4::AA 26 5::AB 27 (.bin .add) 25 26::AK 28 (.slice 1 true true true) [.t 20,.t 21,.t 24,.t 27]::[]) (some 29) (.t 19) [.t 28] (
 AD 30 (.un .not) 29::[]) [0,1,2,4,30])
 (.cond (.t 30)
 (.ret)
 (.skip)))))
 (.reg [] (
 AA 10 4::AG 11 1 2::AB 12 (.bin .add) 10 11::AA 4 12::[]) [0,1,2,4])))))
theorem HN:Ct E0 Cm DM [] 31:=AL (fl:=[1000029]) (by kernel_rfl)
theorem EX:Bu E0.P Cm=true:=by kernel_rfl
abbrev DH:Nat:=87
def Gu:PC :=
 .seq (.reg [] (
 AD 1 .box 0::AP 2 0::[]) [1])
 (.seq (.reg [] (
 AR 3 0 1::AR 4 0 3::AG 5 1 4::AA 2 5::[]) [2])
 (.ret))
theorem K2:Ct E0 DH Gu [.t 2] 6:=AL (fl:=[]) (by kernel_rfl)
abbrev I_:Nat:=88
def Hw:PC :=
 .seq (.reg [] (
 BW 4 false::[]) [0,1])
 (.seq (.seq (.reg [] (
 AA 7 0::AD 8 (.len false) 7::AP 9 0::[]) [0,1,7,8,9])
 (.block 0
 (.loop [] [0,1,7,8,9] [900000,900001,901000,901001]
 (.seq (.reg [] (
 AB 10 (.bin .lss) 9 8::[]) [0,1,7,8,9,10])
 (.seq (.cond (.t 10)
 (.skip)
 (.exit 0))
 (.seq (.block 1
 (.seq (.reg [] (
 AA 11 9::AB 12 (.iaddrS 1) 7 9::AG 13 1 12::AA 5 11::AA 6 13::[]) [0,1,5,6,7,8,9])
 (.seq (.reg [] (
 AA 14 6::AW 15 (.bin .lss) 14 0::AA 16 15::AF 17 16 false .mov [.t 6]::AF 18 16 false .mov [.t 1]::AF 19 16 false (.bin .geq) [.t 17,.t 18]::Bp 20 16 19::AA 21 20::AF 22 21 false .mov [.t 5]::CO 23 21 (.bin .gtr) 22 0::AF 24 21 false .mov [.t 23]::AF 25 24 true .mov [.t 6]::AF 26 24 true .mov [.t 0]::AF 27 24 true .mov [.t 5]::AF 28 24 true (.bin .sub) [.t 27,.k (.d (.int .i64 1))]::AF 29 24 true (.iaddrS 1) [.t 26,.t 28]::AF 30 24 true (.load false 1) [.t 29]::AF 31 24 true (.bin .leq) [.t 25,.t 30]::AF 32 21 false .pick [.t 24,.t 31,.k (.d (.bool false))]::Bp 33 21 32::[]) [0,1,7,8,9,33])
 (.cond (.t 33)
 (.seq (.reg [] (
 BW 4 false::[]) [4])
 (.ret))
 (.skip)))))
 (.reg [] (
 AW 34 (.bin .add) 9 1::AA 9 34::[]) [0,1,7,8,9])))))))
 (.seq (.reg [] (
 BW 4 true::[]) [4])
 (.ret)))
theorem MS:Ct E0 I_ Hw [.t 4] 35:=AL (fl:=[]) (by kernel_rfl)
abbrev GA:Nat:=89
def Fk:PC :=
 .seq (.reg [] (
 AD 3 .box 0::AD 4 .box 1::AD 5 .box 2::AK 6 (.zero [.list true []]) []::AK 7 (.zero [.bool false]) []::[]) [3,4,5,6,7])
 (.seq (.reg [] (
 AD 10 (.load true 2) 3::AG 11 1 4::AB 12 (.call 93) 10 11::AK 8 (.zero [.list true []]) []::CJ (.store 1) [.t 8,.t 12]::[]) [3,4,5,6,7,8])
 (.seq (.seq (.reg [.frzP 3,.frzP 4,.frzP 5,.frzP 8] (
 AP 9 0::[]) [3,4,5,6,7,8,9])
 (.block 0
 (.loop [] [3,4,5,6,7,8,9] [3,4,5,6,7,8,12,10012,900000,900001,900002,901000,901001,901002]
 (.seq (.seq (.reg [] (
 AA 13 9::AK 14 (.bin .mul) [.k (.d (.int .i64 2)),.t 13]::AG 15 1 5::AD 16 (.len false) 15::AB 17 (.bin .add) 14 16::AR 18 0 3::AR 19 1 18::AG 20 1 19::AB 21 (.bin .leq) 17 20::AA 22 21::AF 23 22 true (.load false 1) [.t 7]::AF 24 22 true (.un .not) [.t 23]::AK 25 .pick [.t 22,.t 24,.k (.d (.bool false))]::[]) [3,4,5,6,7,8,9,25])
 (.cond (.t 25)
 (.skip)
 (.exit 0)))
 (.seq (.block 1
 (.reg [] (
 AD 28 (.load true 2) 3::AG 29 1 5::AA 30 9::AK 31 (.mkfn 95) [.t 5,.t 3,.t 8,.t 4,.t 6,.t 7]::AK 32 (.call 94) [.t 28,.t 29,.k (.d (.int .i64 0)),.t 30,.t 31]::[]) [3,4,5,6,7,8,9]))
 (.reg [] (
 AA 26 9::AW 27 (.bin .add) 26 1::AA 9 27::[]) [3,4,5,6,7,8,9]))))))
 (.seq (.draw [] (
 (AG 33 1 6,[])::(AG 34 1 7,[])::(CJ (.store 1) [.t 6,.t 33],[1])::(CJ (.store 1) [.t 7,.t 34],[])::[]) [6,7])
 (.ret))))
theorem I2:Ct E0 GA Fk [.c 6 83 false 1,.c 7 4 false 1] 35:=AL (fl:=[]) (by kernel_rfl)
abbrev EE:Nat:=90
def Io:PC :=
 .seq (.reg [] (
 BW 2 false::[]) [0])
 (.seq (.reg [] (
 AA 3 0::AW 4 (.bin .lss) 3 0::AA 5 4::AF 6 5 false .mov [.t 0]::CO 7 5 (.bin .gtr) 6 15::Bp 8 5 7::AA 2 8::[]) [2])
 (.ret))
theorem Na:Ct E0 EE Io [.t 2] 9:=AL (fl:=[]) (by kernel_rfl)
abbrev Bb:Nat:=91
def Bo:PC :=
 .seq (.reg [] (
 AK 4 .mov [.k (.d (.list true []))]::[]) [0,1])
 (.seq (.seq (.reg [] (
 AA 5 1::AW 6 (.bin .lss) 5 0::[]) [0,1,6])
 (.cond (.t 6)
 (.dead)
 (.skip)))
 (.seq (.seq (.reg [] (
 AA 8 1::AA 9 0::AD 10 .cap 9::AA 11 0::AD 12 (.len false) 11::AB 13 (.bin .sub) 10 12::AB 14 (.bin .sub) 8 13::AA 1 14::[]) [0,1])
 (.seq (.reg [] (
 AA 15 1::AW 16 (.bin .gtr) 15 0::[]) [0,1,16])
 (.cond (.t 16)
 (.reg [] (
 AA 17 0::AA 18 0::AD 19 .cap 18::AB 20 (.slice 1 false true false) 17 19::AA 21 1::AB 22 (.app 111 1 (some (.int .u8 0)) true) 20 21::AA 23 0::AD 24 (.len false) 23::AB 25 (.slice 1 false true false) 22 24::AA 0 25::[]) [0])
 (.skip))))
 (.seq (.reg [] (
 AA 26 0::AA 4 26::[]) [4])
 (.ret))))
theorem CE:Ct E0 Bb Bo [.t 4] 27:=AL (fl:=[]) (by kernel_rfl)
abbrev LG:Nat:=92
def Jp:PC :=
 .seq (.reg [] (
 AD 2 .box 0::AK 4 .mov [.k (.d (.list true []))]::[]) [1,2])
 (.seq (.reg [] (
 AK 5 .mov [.k (.d (.list true []))]::[]) [1,2,5])
 (.seq (.seq (.reg [] (
 AR 7 1 2::AG 8 1 7::AW 9 (.bin .sub) 8 1::AA 6 9::[]) [1,5,6])
 (.block 0
 (.loop [.own 5 21 3 1] [1,5,6] [21,900001,901001]
 (.seq (.seq (.reg [] (
 AA 10 6::AW 11 (.bin .geq) 10 0::[]) [1,5,6,11])
 (.cond (.t 11)
 (.skip)
 (.exit 0)))
 (.seq (.block 1
 (.reg [] (
 AA 14 5::AA 15 1::AA 16 6::AD 17 (.conv .u64) 16::AB 18 (.bin .shr) 15 17::AW 19 (.bin .and) 18 1::AD 20 (.mkrow 1 (.int .i64 0) 1 [0]) 19::AB 21 (.app 3 1 none true) 14 20::AA 5 21::[]) [1,5,6]))
 (.reg [] (
 AA 12 6::AW 13 (.bin .sub) 12 1::AA 6 13::[]) [1,5,6]))))))
 (.seq (.reg [] (
 AA 22 5::AA 4 22::[]) [4])
 (.ret))))
theorem Oc:Ct E0 LG Jp [.t 4] 23:=AL (fl:=[]) (by kernel_rfl)
abbrev Gz:Nat:=93
def GR:PC :=
 .seq (.reg [] (
 AD 2 .box 0::AK 4 .mov [.k (.d (.list true []))]::[]) [1,2])
 (.seq (.reg [] (
 AR 9 0 2::AR 10 1 9::AG 11 1 10::AB 12 (.mksl 111 1 (.int .u8 0) true) 11 11::AA 5 12::[]) [1,2,5])
 (.seq (.seq (.reg [] (
 AA 13 5::AD 14 (.len false) 13::AP 15 0::[]) [1,2,5,14,15])
 (.block 0
 (.loop [] [1,2,5,14,15] [2,12,900000,900001,901000,901001]
 (.seq (.reg [] (
 AB 16 (.bin .lss) 15 14::[]) [1,2,5,14,15,16])
 (.seq (.cond (.t 16)
 (.skip)
 (.exit 0))
 (.seq (.block 1
 (.seq (.reg [] (
 AA 17 15::AA 6 17::[]) [1,2,5,6,14,15])
 (.seq (.reg [] (
 AA 18 1::AD 19 (.len false) 18::AP 20 0::[]) [1,2,5,6,14,15,18,19,20])
 (.block 2
 (.loop [] [1,2,5,6,14,15,18,19,20] [2,12,900000,900001,901000,901001]
 (.seq (.reg [] (
 AB 21 (.bin .lss) 20 19::[]) [1,2,5,6,14,15,18,19,20,21])
 (.seq (.cond (.t 21)
 (.skip)
 (.exit 2))
 (.seq (.block 3
 (.seq (.reg [] (
 AA 22 20::AB 23 (.iaddrS 1) 18 20::AG 24 1 23::AA 7 22::AA 8 24::[]) [1,2,5,6,7,8,14,15,18,19,20])
 (.draw [] (
 (AA 25 5,[])::(AA 26 6,[])::(AB 27 (.iaddrS 1) 25 26,[])::(AG 28 1 27,[])::(AA 29 8,[])::(AD 30 (.load true 2) 2,[])::(AA 31 6,[])::(AA 32 7,[])::(AK 33 (.call 98) [.t 30,.t 31,.t 32],[2,3])::(AB 34 (.call 72) 29 33,[2,3])::(AB 35 (.bin .xor) 28 34,[])::(AB 36 (.iaddrS 1) 25 26,[])::(CJ (.store 1) [.t 36,.t 35],[])::[]) [1,2,5,6,14,15,18,19,20])))
 (.reg [] (
 AW 37 (.bin .add) 20 1::AA 20 37::[]) [1,2,5,6,14,15,18,19,20])))))))))
 (.reg [] (
 AW 38 (.bin .add) 15 1::AA 15 38::[]) [1,2,5,14,15])))))))
 (.seq (.reg [] (
 AA 39 5::AA 4 39::[]) [4])
 (.ret))))
theorem KH:Ct E0 Gz GR [.t 4] 40:=AL (fl:=[]) (by kernel_rfl)
abbrev Fx:Nat:=94
def Dv:PC :=
 .seq (.reg [] (
 AD 5 .box 0::AD 9 .box 4::BW 10 false::[]) [1,2,3,5,9])
 (.seq (.seq (.reg [] (
 AA 12 3::AW 13 (.bin .eql) 12 0::[]) [1,2,3,5,9,13])
 (.cond (.t 13)
 (.seq (.reg [] (
 AG 14 1 9::AK 15 .callv [.t 14,.k (.d (.list true []))]::AA 10 15::[]) [10])
 (.ret))
 (.skip)))
 (.seq (.seq (.reg [.frzP 5,.frzA 9] (
 AA 16 2::AK 11 (.zero [.int .i64 0]) []::CJ (.store 1) [.t 11,.t 16]::[]) [1,3,5,9,11])
 (.block 0
 (.loop [] [1,3,5,9,11] [5,9,11,900000,900001,900002,900003,900004,901000,901001,901002,901003,901004]
 (.seq (.seq (.reg [] (
 AG 17 1 11::AR 18 0 5::AR 19 0 18::AG 20 1 19::AB 21 (.bin .lss) 17 20::[]) [1,3,5,9,11,21])
 (.cond (.t 21)
 (.skip)
 (.exit 0)))
 (.seq (.block 1
 (.seq (.seq (.reg [] (
 AA 24 1::AG 25 1 11::AB 26 (.call 99) 24 25::[]) [1,3,5,9,11,26])
 (.cond (.t 26)
 (.exit 1)
 (.skip)))
 (.seq (.reg [.frzP 11] (
 AD 27 (.load true 2) 5::AA 28 1::AG 29 1 11::AW 30 (.bin .add) 29 1::AA 31 3::AW 32 (.bin .sub) 31 1::AB 33 (.mkfn 100) 9 11::AK 34 (.call 94) [.t 27,.t 28,.t 30,.t 32,.t 33]::AD 35 (.un .not) 34::[]) [1,3,5,9,11,35])
 (.cond (.t 35)
 (.seq (.reg [] (
 BW 10 false::[]) [10])
 (.ret))
 (.skip)))))
 (.seq (.seq (.reg [] (
 AG 36 1 11::[]) [1,3,5,9,36])
 (.reg [] (
 AK 11 (.zero [.int .i64 0]) []::CJ (.store 1) [.t 11,.t 36]::[]) [1,3,5,9,11]))
 (.reg [] (
 AG 22 1 11::AW 23 (.bin .add) 22 1::CJ (.store 1) [.t 11,.t 23]::[]) [1,3,5,9,11])))))))
 (.seq (.reg [] (
 BW 10 true::[]) [10])
 (.ret))))
theorem FE:Ct E0 Fx Dv [.t 10] 37:=AL (fl:=[]) (by kernel_rfl)
abbrev Cy:Nat:=95
def FA:PC :=
 .seq (.reg [] (
 BW 8 false::[]) [0,1,2,3,4,5,6])
 (.seq (.reg [] (
 AG 14 1 1::AA 15 0::AB 16 (.mkrow 1 (.list true []) 2 [0,1]) 14 15::AD 17 (.call 96) 16::AA 9 17::[]) [2,3,4,5,6,9])
 (.seq (.reg [] (
 AD 19 (.load true 2) 2::AG 20 1 3::AA 21 9::AK 22 (.call 97) [.t 19,.t 20,.t 21]::AA 18 22::BR 23 0 18::BR 24 1 18::AA 10 23::AA 11 24::[]) [4,5,6,9,10,11])
 (.seq (.seq (.reg [] (
 AA 25 11::[]) [4,5,6,9,10,11,25])
 (.cond (.t 25)
 (.seq (.reg [] (
 AG 26 1 4::AD 27 (.call 71) 26::CJ (.store 1) [.t 5,.t 27]::CJ (.store 1) [.t 6,.k (.d (.bool true))]::[]) [5,9,10,11])
 (.seq (.reg [] (
 AA 28 9::AD 29 (.len false) 28::AP 30 0::[]) [5,10,11,28,29,30])
 (.block 0
 (.loop [] [5,10,11,28,29,30] [17,22,27,10017,10022,10027,900004,901004]
 (.seq (.reg [] (
 AB 31 (.bin .lss) 30 29::[]) [5,10,11,28,29,30,31])
 (.seq (.cond (.t 31)
 (.skip)
 (.exit 0))
 (.seq (.block 1
 (.seq (.reg [] (
 AA 32 30::AB 33 (.iaddrS 1) 28 30::AG 34 1 33::AA 12 32::AA 13 34::[]) [5,10,11,12,13,28,29,30])
 (.draw [] (
 (AG 35 1 5,[])::(AA 36 13,[])::(AB 37 (.iaddrS 1) 35 36,[])::(AG 38 1 37,[])::(AA 39 10,[])::(AA 40 12,[])::(AB 41 (.iaddrS 1) 39 40,[])::(AG 42 1 41,[])::(AB 43 (.bin .xor) 38 42,[])::(AB 44 (.iaddrS 1) 35 36,[])::(CJ (.store 1) [.t 44,.t 43],[])::[]) [5,10,11,28,29,30])))
 (.reg [] (
 AW 45 (.bin .add) 30 1::AA 30 45::[]) [5,10,11,28,29,30]))))))))
 (.skip)))
 (.seq (.reg [.frzC 5 0] (
 AA 46 11::AD 47 (.un .not) 46::AA 8 47::[]) [8])
 (.ret)))))
theorem Hl:Ct E0 Cy FA [.t 8] 48:=AL (fl:=[]) (by kernel_rfl)
abbrev Fb:Nat:=96
def E':PC :=
 .seq (.reg [] (
 AK 2 .mov [.k (.d (.list true []))]::[]) [0])
 (.seq (.reg [] (
 AP 3 0::[]) [0,3])
 (.seq (.seq (.reg [] (
 AA 9 0::AD 10 (.len false) 9::AP 11 0::[]) [0,3,9,10,11])
 (.block 0
 (.loop [] [0,3,9,10,11] [900000,901000]
 (.seq (.reg [] (
 AB 12 (.bin .lss) 11 10::[]) [0,3,9,10,11,12])
 (.seq (.cond (.t 12)
 (.skip)
 (.exit 0))
 (.seq (.block 1
 (.seq (.reg [] (
 AB 13 (.iaddrS 1) 9 11::AG 14 1 13::AA 5 14::[]) [0,3,5,9,10,11])
 (.seq (.reg [] (
 AA 15 3::AA 16 5::AD 17 (.len false) 16::AB 18 (.bin .add) 15 17::AA 3 18::[]) [0,3,9,10,11])
 (.seq (.reg [] (
 AA 19 3::AW 20 (.bin .lss) 19 0::[]) [0,3,9,10,11,20])
 (.cond (.t 20)
 (.dead)
 (.skip))))))
 (.reg [] (
 AW 22 (.bin .add) 11 1::AA 11 22::[]) [0,3,9,10,11])))))))
 (.seq (.reg [] (
 AA 23 3::AK 24 (.call 101) [.k (.d (.list true [])),.t 23]::AA 6 24::[]) [0,6])
 (.seq (.seq (.reg [] (
 AA 25 0::AD 26 (.len false) 25::AP 27 0::[]) [6,25,26,27])
 (.block 2
 (.loop [.own 6 33 3 1] [6,25,26,27] [24,33,10024,900000,901000]
 (.seq (.reg [] (
 AB 28 (.bin .lss) 27 26::[]) [6,25,26,27,28])
 (.seq (.cond (.t 28)
 (.skip)
 (.exit 2))
 (.seq (.block 3
 (.seq (.reg [] (
 AB 29 (.iaddrS 1) 25 27::AG 30 1 29::AA 8 30::[]) [6,8,25,26,27])
 (.reg [] (
 AA 31 6::AA 32 8::AB 33 (.app 3 1 none true) 31 32::AA 6 33::[]) [6,25,26,27])))
 (.reg [] (
 AW 34 (.bin .add) 27 1::AA 27 34::[]) [6,25,26,27])))))))
 (.seq (.reg [] (
 AA 35 6::AA 2 35::[]) [2])
 (.ret))))))
theorem Hk:Ct E0 Fb E' [.t 2] 36:=AL (fl:=[]) (by kernel_rfl)
abbrev Gh:Nat:=97
def F7:PC :=
 .seq (.reg [] (
 AD 3 .box 0::AD 5 .box 2::AK 6 .mov [.k (.d (.list true []))]::BW 7 false::[]) [1,3,5])
 (.seq (.reg [] (
 AK 8 .mov [.k (.d (.list true []))]::[]) [1,3,5,8])
 (.seq (.seq (.reg [.frzP 3,.frzP 5] (
 AA 23 1::AD 24 (.len false) 23::AP 25 0::[]) [3,5,8,23,24,25])
 (.block 0
 (.loop [.ownM 8 50 129 111] [3,5,8,23,24,25] [3,5,50,900000,900001,900002,901000,901001,901002]
 (.seq (.reg [] (
 AB 26 (.bin .lss) 25 24::[]) [3,5,8,23,24,25,26])
 (.seq (.cond (.t 26)
 (.skip)
 (.exit 0))
 (.seq (.block 1
 (.seq (.reg [] (
 AA 27 25::AB 28 (.iaddrS 1) 23 25::AG 29 1 28::AA 9 27::AA 10 29::[]) [3,5,8,9,10,23,24,25])
 (.seq (.reg [] (
 AK 11 .mov [.k (.d (.list true []))]::[]) [3,5,8,9,10,11,23,24,25])
 (.seq (.seq (.reg [] (
 AG 30 1 5::AD 31 (.len false) 30::AP 32 0::[]) [3,5,8,9,10,11,23,24,25,30,31,32])
 (.block 2
 (.loop [.ownM 8 50 129 111,.own 11 42 111 1] [3,5,8,9,10,11,23,24,25,30,31,32] [3,5,42,50,900000,900001,900002,901000,901001,901002]
 (.seq (.reg [] (
 AB 33 (.bin .lss) 32 31::[]) [3,5,8,9,10,11,23,24,25,30,31,32,33])
 (.seq (.cond (.t 33)
 (.skip)
 (.exit 2))
 (.seq (.block 3
 (.seq (.reg [] (
 AB 34 (.iaddrS 1) 30 32::AG 35 1 34::AA 13 35::[]) [3,5,8,9,10,11,13,23,24,25,30,31,32])
 (.reg [] (
 AA 36 11::AD 37 (.load true 2) 3::AA 38 9::AA 39 13::AK 40 (.call 98) [.t 37,.t 38,.t 39]::AD 41 (.mkrow 1 (.int .u8 0) 1 [0]) 40::AB 42 (.app 111 1 none true) 36 41::AA 11 42::[]) [3,5,8,9,10,11,23,24,25,30,31,32])))
 (.reg [] (
 AW 43 (.bin .add) 32 1::AA 32 43::[]) [3,5,8,9,10,11,23,24,25,30,31,32])))))))
 (.reg [] (
 AA 44 8::AA 45 11::AA 46 10::AD 47 (.mkrow 1 (.int .u8 0) 1 [0]) 46::AB 48 (.app 111 1 none false) 45 47::AD 49 (.mkrow 1 (.list true []) 1 [0]) 48::AB 50 (.app 129 1 none true) 44 49::AA 8 50::[]) [3,5,8,23,24,25])))))
 (.reg [] (
 AW 51 (.bin .add) 25 1::AA 25 51::[]) [3,5,8,23,24,25])))))))
 (.seq (.seq (.reg [] (
 AG 52 1 5::AD 53 (.len false) 52::AP 54 0::[]) [5,8,53,54])
 (.block 4
 (.loop [.ownM 8 50 129 111] [5,8,53,54] [5,50,900002,901002]
 (.seq (.reg [] (
 AB 55 (.bin .lss) 54 53::[]) [5,8,53,54,55])
 (.seq (.cond (.t 55)
 (.skip)
 (.exit 4))
 (.seq (.block 5
 (.seq (.reg [] (
 AA 56 54::AA 14 56::[]) [5,8,14,53,54])
 (.seq (.reg [] (
 AA 57 14::AA 15 57::[]) [5,8,14,15,53,54])
 (.seq (.block 6
 (.loop [.ownM 8 50 129 111] [5,8,14,15,53,54] [5,50,900002,901002]
 (.seq (.seq (.reg [] (
 AA 58 15::AA 59 8::AD 60 (.len false) 59::AB 61 (.bin .lss) 58 60::AA 62 61::AF 63 62 true .mov [.t 8]::AF 64 62 true .mov [.t 15]::AF 65 62 true (.iaddrS 1) [.t 63,.t 64]::AF 66 62 true (.load false 1) [.t 65]::AF 67 62 true .mov [.t 14]::AF 68 62 true (.iaddrS 1) [.t 66,.t 67]::AF 69 62 true (.load false 1) [.t 68]::AF 70 62 true (.bin .eql) [.t 69,.k (.d (.int .u8 0))]::AK 71 .pick [.t 62,.t 70,.k (.d (.bool false))]::[]) [5,8,14,15,53,54,71])
 (.cond (.t 71)
 (.skip)
 (.exit 6)))
 (.block 7
 (.reg [] (
 AA 72 15::AW 73 (.bin .add) 72 1::AA 15 73::[]) [5,8,14,15,53,54])))))
 (.seq (.seq (.reg [] (
 AA 74 15::AA 75 8::AD 76 (.len false) 75::AB 77 (.bin .eql) 74 76::[]) [5,8,14,15,53,54,77])
 (.cond (.t 77)
 (.seq (.reg [] (
 AK 6 .mov [.k (.d (.list true []))]::BW 7 false::[]) [6,7])
 (.ret))
 (.skip)))
 (.seq (.draw [] (
 (AA 78 8,[])::(AA 79 14,[])::(AA 80 8,[])::(AA 81 15,[])::(AA 82 8,[])::(AA 83 15,[])::(AB 84 (.iaddrS 1) 82 83,[])::(AG 85 1 84,[])::(AA 86 8,[])::(AA 87 14,[])::(AB 88 (.iaddrS 1) 86 87,[])::(AG 89 1 88,[])::(AB 90 (.iaddrS 1) 78 79,[])::(CJ (.store 1) [.t 90,.t 85],[])::(AB 91 (.iaddrS 1) 80 81,[])::(CJ (.store 1) [.t 91,.t 89],[])::[]) [5,8,14,53,54])
 (.seq (.reg [] (
 AA 92 8::AA 93 14::AB 94 (.iaddrS 1) 92 93::AG 95 1 94::AA 96 14::AB 97 (.iaddrS 1) 95 96::AG 98 1 97::AD 99 (.call 102) 98::AA 16 99::[]) [5,8,14,16,53,54])
 (.seq (.seq (.reg [] (
 AA 100 8::AA 101 14::AB 102 (.iaddrS 1) 100 101::AG 103 1 102::AD 104 (.len false) 103::AP 105 0::[]) [5,8,14,16,53,54,103,104,105])
 (.block 8
 (.loop [.ownM 8 50 129 111] [5,8,14,16,53,54,103,104,105] [5,50,99,10099,900002,901002]
 (.seq (.reg [] (
 AB 106 (.bin .lss) 105 104::[]) [5,8,14,16,53,54,103,104,105,106])
 (.seq (.cond (.t 106)
 (.skip)
 (.exit 8))
 (.seq (.block 9
 (.seq (.reg [] (
 AA 107 105::AB 108 (.iaddrS 1) 103 105::AG 109 1 108::AA 17 107::AA 18 109::[]) [5,8,14,16,17,18,53,54,103,104,105])
 (.draw [] (
 (AA 110 8,[])::(AA 111 14,[])::(AB 112 (.iaddrS 1) 110 111,[])::(AG 113 1 112,[])::(AA 114 17,[])::(AA 115 18,[])::(AA 116 16,[])::(AB 117 (.call 72) 115 116,[2,3])::(AB 118 (.iaddrS 1) 113 114,[])::(CJ (.store 1) [.t 118,.t 117],[])::[]) [5,8,14,16,53,54,103,104,105])))
 (.reg [] (
 AW 119 (.bin .add) 105 1::AA 105 119::[]) [5,8,14,16,53,54,103,104,105])))))))
 (.seq (.reg [] (
 AA 120 8::AD 121 (.len false) 120::AP 122 0::[]) [5,8,14,53,54,120,121,122])
 (.block 10
 (.loop [.ownM 8 50 129 111] [5,8,14,53,54,120,121,122] [5,50,900002,901002]
 (.seq (.reg [] (
 AB 123 (.bin .lss) 122 121::[]) [5,8,14,53,54,120,121,122,123])
 (.seq (.cond (.t 123)
 (.skip)
 (.exit 10))
 (.seq (.block 11
 (.seq (.reg [] (
 AA 124 122::AB 125 (.iaddrS 1) 120 122::AG 126 1 125::AA 19 124::AA 20 126::[]) [5,8,14,19,20,53,54,120,121,122])
 (.seq (.reg [] (
 AA 127 19::AA 128 14::AB 129 (.bin .neq) 127 128::[]) [5,8,14,20,53,54,120,121,122,129])
 (.cond (.t 129)
 (.draw [] (
 (AA 130 20,[])::(AA 131 8,[])::(AA 132 14,[])::(AB 133 (.iaddrS 1) 131 132,[])::(AG 134 1 133,[])::(AA 135 20,[])::(AA 136 14,[])::(AB 137 (.iaddrS 1) 135 136,[])::(AG 138 1 137,[])::(AK 139 (.call 103) [.t 130,.t 134,.t 138],[])::[]) [5,8,14,53,54,120,121,122])
 (.skip)))))
 (.reg [] (
 AW 140 (.bin .add) 122 1::AA 122 140::[]) [5,8,14,53,54,120,121,122])))))))))))))))
 (.reg [] (
 AW 141 (.bin .add) 54 1::AA 54 141::[]) [5,8,53,54])))))))
 (.seq (.seq (.reg [.frzM 8] (
 AA 142 8::AG 143 1 5::AD 144 (.len false) 143::AB 145 (.slice 1 true false false) 142 144::AD 146 (.len false) 145::AP 147 0::[]) [5,8,145,146,147])
 (.block 12
 (.loop [] [5,8,145,146,147] [5,900002,901002]
 (.seq (.reg [] (
 AB 148 (.bin .lss) 147 146::[]) [5,8,145,146,147,148])
 (.seq (.cond (.t 148)
 (.skip)
 (.exit 12))
 (.seq (.block 13
 (.seq (.reg [] (
 AB 149 (.iaddrS 1) 145 147::AG 150 1 149::AA 22 150::[]) [5,8,22,145,146,147])
 (.seq (.reg [] (
 AA 151 22::AG 152 1 5::AD 153 (.len false) 152::AB 154 (.iaddrS 1) 151 153::AG 155 1 154::AK 156 (.bin .neq) [.t 155,.k (.d (.int .u8 0))]::[]) [5,8,145,146,147,156])
 (.cond (.t 156)
 (.seq (.reg [] (
 AK 6 .mov [.k (.d (.list true []))]::BW 7 false::[]) [6,7])
 (.ret))
 (.skip)))))
 (.reg [] (
 AW 157 (.bin .add) 147 1::AA 147 157::[]) [5,8,145,146,147])))))))
 (.seq (.reg [] (
 AA 158 8::AG 159 1 5::AD 160 (.len false) 159::AB 161 (.slice 1 false true false) 158 160::AD 162 (.mkfn 105) 5::AB 163 (.call 104) 161 162::AA 6 163::BW 7 true::[]) [6,7])
 (.ret))))))
theorem JW:Ct E0 Gh F7 [.t 6,.t 7] 164:=AL (fl:=[48]) (by kernel_rfl)
abbrev F9:Nat:=98
def Fi:PC :=
 .seq (.reg [] (
 AD 3 .box 0::AK 6 .mov [.k (.d (.int .u8 0))]::[]) [1,2,3])
 (.seq (.reg [] (
 AA 7 1::AR 8 0 3::AR 9 0 8::AG 10 1 9::AW 11 (.bin .sub) 10 1::AA 12 2::AB 13 (.bin .sub) 11 12::AB 14 (.bin .mul) 7 13::AD 15 (.call 73) 14::AA 6 15::[]) [6])
 (.ret))
theorem I0:Ct E0 F9 Fi [.t 6] 16:=AL (fl:=[]) (by kernel_rfl)
abbrev E1:Nat:=99
def Eg:PC :=
 .seq (.reg [] (
 BW 4 false::[]) [0,1])
 (.seq (.reg [] (
 AA 5 0::AA 6 1::AB 7 (.call 106) 5 6::AW 8 (.bin .geq) 7 0::AA 4 8::[]) [4])
 (.ret))
theorem G3:Ct E0 E1 Eg [.t 4] 9:=AL (fl:=[]) (by kernel_rfl)
abbrev Bw:Nat:=100
def Ev:PC :=
 .seq (.reg [] (
 BW 4 false::[]) [0,1,2])
 (.seq (.draw [] (
 (AG 5 1 1,[])::(AG 6 1 2,[])::(AD 7 (.mkrow 1 (.int .i64 0) 1 [0]) 6,[])::(AA 8 0,[])::(AB 9 (.app 3 1 none false) 7 8,[0])::(AB 10 .callv 5 9,[])::(AA 4 10,[])::[]) [4])
 (.ret))
theorem HP:Ct E0 Bw Ev [.t 4] 11:=AL (fl:=[]) (by kernel_rfl)
abbrev DK:Nat:=101
def D5:PC :=
 .seq (.reg [] (
 AK 4 .mov [.k (.d (.list true []))]::[]) [0,1])
 (.seq (.seq (.reg [] (
 AA 5 1::AW 6 (.bin .lss) 5 0::[]) [0,1,6])
 (.cond (.t 6)
 (.dead)
 (.skip)))
 (.seq (.seq (.reg [] (
 AA 8 1::AA 9 0::AD 10 .cap 9::AA 11 0::AD 12 (.len false) 11::AB 13 (.bin .sub) 10 12::AB 14 (.bin .sub) 8 13::AA 1 14::[]) [0,1])
 (.seq (.reg [] (
 AA 15 1::AW 16 (.bin .gtr) 15 0::[]) [0,1,16])
 (.cond (.t 16)
 (.reg [] (
 AA 17 0::AA 18 0::AD 19 .cap 18::AB 20 (.slice 1 false true false) 17 19::AA 21 1::AB 22 (.app 3 1 (some (.int .i64 0)) true) 20 21::AA 23 0::AD 24 (.len false) 23::AB 25 (.slice 1 false true false) 22 24::AA 0 25::[]) [0])
 (.skip))))
 (.seq (.reg [] (
 AA 26 0::AA 4 26::[]) [4])
 (.ret))))
theorem Fa:Ct E0 DK D5 [.t 4] 27:=AL (fl:=[]) (by kernel_rfl)
abbrev FJ:Nat:=102
def Eu:PC :=
 .seq (.reg [] (
 AK 2 .mov [.k (.d (.int .u8 0))]::[]) [0])
 (.seq (.reg [] (
 AA 3 0::AK 4 (.iaddrA 16 1) [.k (.d (.ptr [.int .i64 0,.int .i64 0,.int .i64 1,.int .i64 4,.int .i64 2,.int .i64 8,.int .i64 5,.int .i64 10,.int .i64 3,.int .i64 14,.int .i64 9,.int .i64 7,.int .i64 6,.int .i64 13,.int .i64 11,.int .i64 12])),.t 3]::AG 5 1 4::AK 6 (.bin .sub) [.k (.d (.int .i64 15)),.t 5]::AD 7 (.call 73) 6::AA 2 7::[]) [2])
 (.ret))
theorem HO:Ct E0 FJ Eu [.t 2] 8:=AL (fl:=[]) (by kernel_rfl)
abbrev Fw:Nat:=103
def HC:PC :=
 .seq (.reg [] (
 AA 8 1::AD 9 (.len false) 8::AP 10 0::[]) [0,2,8,9,10])
 (.block 0
 (.loop [] [0,2,8,9,10] [900000,900001,900002,901000,901001,901002]
 (.seq (.reg [] (
 AB 11 (.bin .lss) 10 9::[]) [0,2,8,9,10,11])
 (.seq (.cond (.t 11)
 (.skip)
 (.exit 0))
 (.seq (.block 1
 (.seq (.reg [] (
 AA 12 10::AB 13 (.iaddrS 1) 8 10::AG 14 1 13::AA 6 12::AA 7 14::[]) [0,2,6,7,8,9,10])
 (.draw [] (
 (AA 15 0,[])::(AA 16 6,[])::(AB 17 (.iaddrS 1) 15 16,[])::(AG 18 1 17,[])::(AA 19 7,[])::(AA 20 2,[])::(AB 21 (.call 72) 19 20,[2,3])::(AB 22 (.bin .xor) 18 21,[])::(AB 23 (.iaddrS 1) 15 16,[])::(CJ (.store 1) [.t 23,.t 22],[])::[]) [0,2,8,9,10])))
 (.reg [] (
 AW 24 (.bin .add) 10 1::AA 10 24::[]) [0,2,8,9,10]))))))
theorem Lh:Ct E0 Fw HC [] 25:=AL (fl:=[]) (by kernel_rfl)
abbrev CM:Nat:=104
def CD:PC :=
 .seq (.reg [] (
 AK 4 .mov [.k (.d (.list true []))]::[]) [0,1])
 (.seq (.reg [] (
 AK 5 .mov [.k (.d (.list true []))]::[]) [0,1,5])
 (.seq (.seq (.reg [] (
 AA 8 0::AD 9 (.len false) 8::AP 10 0::[]) [1,5,8,9,10])
 (.block 0
 (.loop [.own 5 19 111 1] [1,5,8,9,10] [19,900000,900001,901000,901001]
 (.seq (.reg [] (
 AB 11 (.bin .lss) 10 9::[]) [1,5,8,9,10,11])
 (.seq (.cond (.t 11)
 (.skip)
 (.exit 0))
 (.seq (.block 1
 (.seq (.reg [] (
 AB 12 (.iaddrS 1) 8 10::AG 13 1 12::AA 7 13::[]) [1,5,7,8,9,10])
 (.reg [] (
 AA 14 5::AA 15 1::AA 16 7::AB 17 .callv 15 16::AD 18 (.mkrow 1 (.int .u8 0) 1 [0]) 17::AB 19 (.app 111 1 none true) 14 18::AA 5 19::[]) [1,5,8,9,10])))
 (.reg [] (
 AW 20 (.bin .add) 10 1::AA 10 20::[]) [1,5,8,9,10])))))))
 (.seq (.reg [] (
 AA 21 5::AA 4 21::[]) [4])
 (.ret))))
theorem Dl:Ct E0 CM CD [.t 4] 22:=AL (fl:=[]) (by kernel_rfl)
abbrev C8:Nat:=105
def FV:PC :=
 .seq (.reg [] (
 AK 3 .mov [.k (.d (.int .u8 0))]::[]) [0,1])
 (.seq (.reg [] (
 AA 4 0::AG 5 1 1::AD 6 (.len false) 5::AB 7 (.iaddrS 1) 4 6::AG 8 1 7::AA 3 8::[]) [3])
 (.ret))
theorem IJ:Ct E0 C8 FV [.t 3] 9:=AL (fl:=[]) (by kernel_rfl)
abbrev Fr:Nat:=106
def FQ:PC :=
 .seq (.reg [] (
 AP 4 0::[]) [0,1])
 (.seq (.seq (.reg [] (
 AA 6 0::AD 7 (.len false) 6::AP 8 0::[]) [0,1,7,8])
 (.block 0
 (.loop [] [0,1,7,8] [900000,900001,901000,901001]
 (.seq (.reg [] (
 AB 9 (.bin .lss) 8 7::[]) [0,1,7,8,9])
 (.seq (.cond (.t 9)
 (.skip)
 (.exit 0))
 (.seq (.block 1
 (.seq (.reg [] (
 AA 10 8::AA 5 10::[]) [0,1,5,7,8])
 (.seq (.reg [] (
 AA 11 1::AA 12 0::AA 13 5::AB 14 (.iaddrS 1) 12 13::AG 15 1 14::AB 16 (.bin .eql) 11 15::[]) [0,1,5,7,8,16])
 (.cond (.t 16)
 (.seq (.reg [] (
 AA 17 5::AA 4 17::[]) [4])
 (.ret))
 (.skip)))))
 (.reg [] (
 AW 18 (.bin .add) 8 1::AA 8 18::[]) [0,1,7,8])))))))
 (.seq (.reg [] (
 AP 4 (-1)::[]) [4])
 (.ret)))
theorem IC:Ct E0 Fr FQ [.t 4] 19:=AL (fl:=[]) (by kernel_rfl)
abbrev an:Nat:=127
end Go.Pw
