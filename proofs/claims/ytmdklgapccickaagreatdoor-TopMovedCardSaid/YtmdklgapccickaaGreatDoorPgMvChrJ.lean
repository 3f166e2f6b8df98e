/- Part. -/
import Derived.Test.YtmdklgapccickaaGreatDoorPgCorrectVan
import Derived.Test.YtmdklgapccickaaGreatDoorMvPC
set_option linter.all false
open List renaming replicate->aa,take_of_length_le->ax,getElem?_eq_getElem->ay,length_replicate->az,length_set->ck
open Go Go.Pw Go.Proofs
namespace Go.Pw
set_option maxRecDepth 100000
set_option maxHeartbeats 3200000
section
theorem rg(S:List F)(i n:Nat)(h:i<n)(e:S.length=n):(S.take i++aa (n-i) (0:F))[i]?.getD 0=0:=by
 rw[List.getElem?_append_right (by simp;omega)];simp only[List.length_take,List.getElem?_replicate];split<;>rfl
theorem rf(S:List F)(i n:Nat)(h:i<n)(e:S.length=n):(S.take i++aa (n-i) (0:F)).set i (S[i]?.getD 0)=S.take (i+1)++aa (n-(i+1)) 0:=by
 have h1:(S.take i).length=i:=by simp;omega
 rw[List.set_append_right _ _ (by omega),h1,Nat.sub_self,show n-i=(n-(i+1))+1 by omega,List.replicate_succ,List.set_cons_zero,←Bu S 0 i (by omega),List.append_assoc];rfl
theorem nZ(l:List F)(i:Nat)(h:i<l.length):l.set i (l[i]?.getD 0)=l:=by
 rw[ay h];simp
theorem s_(l:List F)(i:Nat)(x:F)(h:i<l.length):(l.set i x)[i]?.getD 0=x:=by simp[h]
def FY:List F->List Nat->List F->List F
 |w,j::js,x::xs=>FY (w.set j x) js xs
 |w,_,_=>w
theorem SP:∀(at_:List Nat) (w xs:List F),(FY w at_ xs).length=w.length
 |[],w,xs=>by cases xs<;>rfl
 |j::js,w,[]=>rfl
 |j::js,w,x::xs=>by show(FY (w.set j x) js xs).length=_;rw[SP];simp
theorem Uy(j:Nat)(y:F):∀(at_:List Nat) (w xs:List F),at_.length=xs.length->FY w (at_++[j]) (xs++[y])=(FY w at_ xs).set j y
 |[],w,[],_=>rfl
 |k::js,w,z::xs,h=>by
  show FY (w.set k z) (js++[j]) (xs++[y])=_;rw[Uy j y js (w.set k z) xs (by simpa using h)];rfl
theorem SO(w xs:List F):FY w [] xs=w:=by cases xs<;>rfl
theorem SQ:∀(at_:List Nat) (w xs:List F) (j:Nat),j∉at_->(FY w at_ xs)[j]?.getD 0=w[j]?.getD 0
 |[],w,xs,j,_=>by rw[SO]
 |k::js,w,[],j,_=>rfl
 |k::js,w,x::xs,j,h=>by
  show(FY (w.set k x) js xs)[j]?.getD 0=_;rw[SQ js _ xs j (fun e=>h (by simp[e])),List.getElem?_set_ne (fun e=>h (by simp[e]))]
theorem aX{α β:Type}(a:List α)(b:List β)(i:Nat)(h:a.length=b.length):(a.take i).length=(b.take i).length:=by simp[h]
attribute [local irreducible] IntKind.wrap Ah Option.getD and or
theorem TC(L P:Nat)(n1:Bool)(w:List F)(hL:L<=15)(Z:1<=L)(hP:1<=P)(U:P<=15)(hw:w.length=L):BU E0 IW [Ze L P,.list n1 (us w)] (.list false (us (Mu L P w))):=by
 obtain⟨S,M⟩:∃S,Mu L P w=S:=⟨_,rfl⟩
 have m:S.length=P:=by rw[←M];exact aY L P w
 rw[M];refine AL Mz AR (by simp) fun Y=>?_
 rw[AN];unfold Hr;refine' MX @DC @az.{0}
 all_goals try exact BL
 refine AZ (α:=Nat) (fun x=>[(15,.d (.int .i64 (x:Int)))]) (fun x=>[(12,.row 180 1 false (us (S.take x++aa (P-x) 0)))]) (fun x=>x<=P) (fun x=>P-x) 0 ?hI1 ?step1
 case' step1=>(rintro i X;try dsimp only at X)
 case' hI1=>try dsimp only
 ·exact Nat.zero_le _
 ·have l:(S.take i++aa (P-i) (0:F)).length=P:=by simp;omega
  by_cases h:i<P
  ·have h':(i:Int)<(P:Int):=by omega
   have J:=HE (i:=i) (by omega);have u:=rg S i P h m;have r:=rf S i P h m;obtain⟨B,T⟩:∃B,S.take i++aa (P-i) (0:F)=B:=⟨_,rfl⟩
   rw[T]at l u r ⊢;have A:B.set i 0=B:=by have:=nZ B i (by omega);rwa [u]at this
   have N:us B=us (B.set i 0):=by rw[A]
   refine' Ta h' @DC l @az.{0}
   all_goals try exact BL
   rw[N];refine AZ (α:=Nat×F) (fun x=>[(20,.d (.int .i64 (x.1:Int)))]) (fun x=>[(12,.row 180 1 false (us (B.set i x.2)))]) (fun x=>x.1<=L/\x.2=Gi (w.take x.1) ((X_ L i).take x.1)) (fun x=>L-x.1) (0,0) ?hI2 ?step2
   case' step2=>(rintro⟨j,acc⟩ hI2;try dsimp only at hI2)
   case' hI2=>try dsimp only
   ·exact⟨by omega,rfl⟩
   ·obtain⟨q1,R⟩:=hI2
    by_cases O:j<L
    ·have e:(j:Int)<(w.length:Int):=by omega
     have p:=HE (i:=j) (by omega);have c1:=JK L P i j (by omega) (by omega) O;have c2:=ED (w[j]?.getD 0) (gp (i*(L-1-j)))
     have hk:fa acc (fm (w[j]?.getD 0) (gp (i*(L-1-j))))=Gi (w.take (j+1)) ((X_ L i).take (j+1)):=by
      rw[R,←qv w (X_ L i) j (by omega) (by rw[Um];omega),Zd L i j O];rfl
     have o:(B.set i acc)[i]?.getD 0=acc:=s_ B i acc (by omega);have q:∀y,(B.set i acc).set i y=B.set i y:=fun y=>List.set_set ..
     rw[DC]at c1;refine' mt e p o q @ck.{0} l h;repeat' first|(refine' BJ;(first|refine AF c1 ?_|refine AF c2 ?_)<;>refine' mt e p o q @ck.{0} l h)|refine' BI|done
     all_goals try exact BL
     all_goals first|exact hk|(simp at *;done)|(simp at *;omega)|skip
    ·have e:¬(j:Int)<(w.length:Int):=by omega
     have G:j=L:=by omega
     have n:acc=S[i]?.getD 0:=by
      rw[R,G,←M,M6 L P w i h,ax (by omega),ax (by rw[Um];omega)]
     rw[n];refine' LV e J r
     all_goals try exact BL
     all_goals first|rfl|omega|skip
  ·have h':¬(i:Int)<(P:Int):=by omega
   have z:i=P:=by omega
   subst z;have t:S.take i++aa (i-i) (0:F)=S:=by rw[ax (by omega)];simp
   rw[t];refine' LV h' @az.{0} m
   all_goals try exact BL
   all_goals first|rfl|skip
end
def F5:PC :=
 .seq (.reg [] (Al 8 false::[]) [0,1,2,3,4,5,6]) (.seq (.reg [] (AH 14 1 1::AA 15 0::AD 16 (.mkrow 1 (.list true []) 2 [0,1]) 14 15::AB 17 (.call 152) 16::AA 9 17::[]) [2,3,4,5,6,9]) (.seq (.reg [] (AB 19 (.load true 2) 2::AH 20 1 3::AA 21 9::AG 22 (.call 153) [.t 19,.t 20,.t 21]::AA 18 22::AW 23 0 18::AW 24 1 18::AA 10 23::AA 11 24::[]) [4,5,6,9,10,11]) (.seq (.seq (.reg [] (AA 25 11::[]) [4,5,6,9,10,11,25]) (.cond (.t 25) (.seq (.reg [] (AH 26 1 4::AB 27 (.call 115) 26::Ae (.store 1) [.t 5,.t 27]::Ae (.store 1) [.t 6,.k (.d (.bool true))]::[]) [5,9,10,11]) (.seq (.reg [] (AA 28 9::AB 29 (.len false) 28::AM 30 0::[]) [5,10,11,28,29,30]) (.block 0 (.loop [] [5,10,11,28,29,30] [17,22,27,10017,10022,10027,900004,901004,900005,901005,800005,801005,902005,903005] (.seq (.reg [] (AD 31 (.bin .lss) 30 29::[]) [5,10,11,28,29,30,31]) (.seq (.cond (.t 31) (.skip) (.exit 0)) (.seq (.block 1 (.seq (.reg [] (AA 32 30::AD 33 (.iaddrS 1) 28 30::AH 34 1 33::AA 12 32::AA 13 34::[]) [5,10,11,12,13,28,29,30]) (.draw [] ((AH 35 1 5,[])::(AA 36 13,[])::(AD 37 (.iaddrS 1) 35 36,[])::(AH 38 1 37,[])::(AA 39 10,[])::(AA 40 12,[])::(AD 41 (.iaddrS 1) 39 40,[])::(AH 42 1 41,[])::(AD 43 (.bin .xor) 38 42,[])::(AD 44 (.iaddrS 1) 35 36,[])::(Ae (.store 1) [.t 44,.t 43],[])::[]) [5,10,11,28,29,30]))) (.reg [] (AK 45 (.bin .add) 30 1::AA 30 45::[]) [5,10,11,28,29,30])))))))) (.skip))) (.seq (.reg [.frzC 5 0] (AA 46 11::AB 47 (.un .not) 46::AA 8 47::[]) [8]) (.ret)))))
theorem Jg:Br E0 DT F5 [.t 8] 48:=AI (fl:=[]) (by kernel_rfl)
def MB:PC :=
 .seq (.reg [] (AB 3 .box 0::AB 4 .box 1::AB 5 .box 2::Al 6 false::[]) [3,4,5]) (.seq (.seq (.reg [] (AB 38 (.load true 12) 3::AB 39 (.call 5) 38::AA 40 39::AE 41 40 false (.load true 12) [.t 3]::AE 42 40 false (.call 6) [.t 41]::BE 43 40 (.bin .neq) 42 0::A0 44 40 43::AA 45 44::AE 46 45 false (.load true 12) [.t 4]::AE 47 45 false (.call 16) [.t 46]::A0 48 45 47::AA 49 48::Ay 50 49 11 4::A' 51 49 1 50::AE 52 49 false (.len false) [.t 51]::BE 53 49 (.bin .gtr) 52 0::A0 54 49 53::AA 55 54::AE 56 55 false (.load true 12) [.t 4]::AE 57 55 false (.call 17) [.t 56]::BE 58 55 (.bin .neq) 57 0::A0 59 55 58::AA 60 59::Ay 61 60 0 5::A' 62 60 1 61::AE 63 60 false (.len false) [.t 62]::BE 64 60 (.bin .gtr) 63 4::A0 65 60 64::AA 66 65::Ay 67 66 1 5::A' 68 66 1 67::AE 69 66 false (.len false) [.t 68]::BE 70 66 (.bin .gtr) 69 8::A0 71 66 70::AA 72 71::Ay 73 72 2 5::A' 74 72 1 73::BE 75 72 (.bin .lss) 74 0::A0 76 72 75::AA 77 76::Ay 78 77 2 5::A' 79 77 1 78::BE 80 77 (.bin .gtr) 79 1000::A0 81 77 80::AA 82 81::Ay 83 82 3 5::A' 84 82 1 83::AE 85 82 false (.len false) [.t 84]::BE 86 82 (.bin .gtr) 85 200::A0 87 82 86::AA 88 87::Ay 89 88 3 5::A' 90 88 1 89::AE 91 88 false (.call 18) [.t 90]::AE 92 88 false (.un .not) [.t 91]::A0 93 88 92::[]) [3,4,5,93]) (.cond (.t 93) (.seq (.reg [] (AG 94 (.call 7) []::AA 6 94::[]) [6]) (.ret)) (.skip))) (.seq (.reg [] (AB 96 (.load true 12) 4::AB 97 (.call 19) 96::AA 95 97::AW 98 0 95::AW 99 1 95::AA 7 98::AA 8 99::[]) [3,4,5,7,8]) (.seq (.reg [] (AB 101 (.load true 12) 3::AB 102 (.call 20) 101::AA 100 102::AW 103 0 100::AW 104 1 100::AA 9 103::AA 10 104::[]) [3,4,5,7,8,9,10]) (.seq (.seq (.reg [] (AA 105 8::AK 106 (.bin .neq) 105 0::AA 107 106::AE 108 107 false .mov [.t 10]::BE 109 107 (.bin .neq) 108 0::A0 110 107 109::[]) [3,4,5,7,9,110]) (.cond (.t 110) (.seq (.reg [] (Al 6 false::[]) [6]) (.ret)) (.skip))) (.seq (.seq (.draw [] ((AJ 111 0 5,[])::(AH 112 1 111,[])::(AB 113 (.len false) 112,[])::(AA 114 7,[])::(AD 115 (.bin .gtr) 113 114,[])::(AA 116 115,[])::(Ay 117 116 3 5,[])::(A' 118 116 1 117,[])::(AE 119 116 false (.len false) [.t 118],[])::(AE 120 116 false .mov [.t 9],[])::(AE 121 116 false (.bin .gtr) [.t 119,.t 120],[])::(A0 122 116 121,[])::(AA 123 122,[])::(Ay 124 123 2 5,[])::(A' 125 123 1 124,[])::(Ay 126 123 3 5,[])::(A' 127 123 1 126,[])::(AE 128 123 false (.len false) [.t 127],[])::(AE 129 123 false (.bin .add) [.t 125,.t 128],[])::(AE 130 123 false (.load true 12) [.t 3],[])::(AE 131 123 false (.call 11) [.t 130],[14,16,17])::(Ay 132 123 9 3,[])::(A' 133 123 1 132,[20])::(AE 134 123 false (.len false) [.t 133],[20])::(AE 135 123 false (.bin .sub) [.t 131,.t 134],[])::(AE 136 123 false (.bin .gtr) [.t 129,.t 135],[])::(A0 137 123 136,[])::[]) [3,4,5,137]) (.cond (.t 137) (.seq (.reg [] (AG 138 (.call 7) []::AA 6 138::[]) [6]) (.ret)) (.skip))) (.seq (.reg [] (AG 11 .mov [.k (.d (.list true []))]::[]) [3,4,5,11]) (.seq (.seq (.reg [] (AM 12 0::[]) [3,4,5,11,12]) (.block 0 (.loop [.own 11 171 29 1] [3,4,5,11,12] [3,4,5,171,331,10331] (.seq (.seq (.reg [] (AA 139 12::AJ 140 0 5::AH 141 1 140::AB 142 (.len false) 141::AD 143 (.bin .lss) 139 142::[]) [3,4,5,11,12,143]) (.cond (.t 143) (.skip) (.exit 0))) (.seq (.block 1 (.seq (.draw [] ((AB 147 (.load true 12) 3,[])::(AJ 148 0 5,[])::(AH 149 1 148,[])::(AA 150 12,[])::(AD 151 (.iaddrS 1) 149 150,[])::(AH 152 1 151,[])::(AD 153 (.call 8) 147 152,[])::(AA 146 153,[])::(AW 154 0 146,[])::(AW 155 1 146,[])::(AA 13 154,[])::(AA 14 155,[])::[]) [3,4,5,11,12,13,14]) (.seq (.seq (.reg [] (AA 156 14::AK 157 (.bin .eql) 156 51::[]) [3,4,5,11,12,13,14,157]) (.cond (.t 157) (.seq (.reg [] (AG 158 (.call 7) []::AA 6 158::[]) [6]) (.ret)) (.skip))) (.seq (.seq (.reg [] (AA 159 14::AK 160 (.bin .neq) 159 0::AA 161 160::AE 162 161 false .mov [.t 13]::AE 163 161 false (.len false) [.t 162]::AE 164 161 false (.load true 12) [.t 3]::AE 165 161 false (.call 11) [.t 164]::AE 166 161 false (.bin .neq) [.t 163,.t 165]::A0 167 161 166::[]) [3,4,5,11,12,13,167]) (.cond (.t 167) (.seq (.reg [] (Al 6 false::[]) [6]) (.ret)) (.skip))) (.reg [] (AA 168 11::AA 169 13::AB 170 (.mkrow 1 (.list true []) 1 [0]) 169::AD 171 (.app 29 1 none true) 168 170::AA 11 171::[]) [3,4,5,11,12]))))) (.reg [] (AA 144 12::AK 145 (.bin .add) 144 1::AA 12 145::[]) [3,4,5,11,12])))))) (.seq (.reg [] (AB 172 (.load true 12) 4::AG 15 (.zero [.int .i64 0,.int .i64 0,.list true [],.int .i64 0,.int .i64 0,.int .i64 0,.int .i64 0,.int .i64 0,.int .i64 0,.int .i64 0,.list true [],.list true []]) []::Ae (.store 12) [.t 15,.t 172]::[]) [3,5,11,15]) (.seq (.seq (.reg [] (AM 16 0::[]) [3,5,11,15,16]) (.block 2 (.loop [.own 11 171 29 1] [3,5,11,15,16] [3,5,15,171,191,331,10191,10331] (.seq (.seq (.reg [] (AA 173 16::AJ 174 1 5::AH 175 1 174::AB 176 (.len false) 175::AD 177 (.bin .lss) 173 176::[]) [3,5,11,15,16,177]) (.cond (.t 177) (.skip) (.exit 2))) (.seq (.block 3 (.seq (.draw [] ((AB 181 (.load true 12) 15,[])::(AA 182 16,[])::(AA 183 16,[])::(AJ 184 1 5,[])::(AH 185 1 184,[])::(AA 186 16,[])::(AD 187 (.iaddrS 1) 185 186,[])::(AH 188 1 187,[])::(AG 189 (.build [.int .i64 0,.int .i64 0,.int .i64 0] [(0,1),(1,1),(2,1)]) [.t 182,.t 183,.t 188],[])::(AB 190 (.mkrow 3 (.agg [.int .i64 0,.int .i64 0,.int .i64 0]) 1 [0]) 189,[])::(AD 191 (.call 21) 181 190,[])::(AA 180 191,[])::(AW 192 0 180,[])::(AW 193 1 180,[])::(AG 17 (.zero [.int .i64 0,.int .i64 0,.list true [],.int .i64 0,.int .i64 0,.int .i64 0,.int .i64 0,.int .i64 0,.int .i64 0,.int .i64 0,.list true [],.list true []]) [],[0,4,6,7,10])::(Ae (.store 12) [.t 17,.t 192],[])::(AA 18 193,[])::[]) [3,5,11,15,16,17,18]) (.seq (.seq (.reg [] (AA 194 18::AK 195 (.bin .eql) 194 30::[]) [3,5,11,15,16,17,18,195]) (.cond (.t 195) (.seq (.reg [] (AG 196 (.call 7) []::AA 6 196::[]) [6]) (.ret)) (.skip))) (.seq (.seq (.reg [] (AA 197 18::AK 198 (.bin .neq) 197 0::[]) [3,5,11,15,16,17,198]) (.cond (.t 198) (.seq (.reg [] (Al 6 false::[]) [6]) (.ret)) (.skip))) (.seq (.seq (.reg [] (AM 19 0::[]) [3,5,11,15,16,17,19]) (.block 4 (.loop [.own 11 171 29 1] [3,5,11,15,16,17,19] [3,5,15,17,171,191,331,10191,10331] (.seq (.seq (.reg [] (AA 199 19::AJ 200 0 5::AH 201 1 200::AB 202 (.len false) 201::AD 203 (.bin .lss) 199 202::[]) [3,5,11,15,16,17,19,203]) (.cond (.t 203) (.skip) (.exit 4))) (.seq (.block 5 (.seq (.reg [] (AB 207 (.load true 12) 15::AA 208 19::AD 209 (.call 22) 207 208::AA 206 209::AW 210 0 206::AW 211 1 206::AA 20 210::AA 21 211::[]) [3,5,11,15,16,17,19,20,21]) (.seq (.reg [] (AB 213 (.load true 12) 17::AA 214 19::AD 215 (.call 22) 213 214::AA 212 215::AW 216 0 212::AW 217 1 212::AA 22 216::AA 23 217::[]) [3,5,11,15,16,17,19,20,21,22,23]) (.seq (.seq (.reg [] (AA 218 21::AK 219 (.bin .neq) 218 0::AA 220 219::AE 221 220 true .mov [.t 21]::AE 222 220 true (.bin .neq) [.t 221,.k (.d (.int .i64 3))]::AG 223 .pick [.t 220,.t 222,.k (.d (.bool false))]::AA 224 223::AE 225 224 false .mov [.t 23]::BE 226 224 (.bin .neq) 225 0::AE 227 224 false .mov [.t 226]::AE 228 227 true .mov [.t 23]::AE 229 227 true (.bin .neq) [.t 228,.k (.d (.int .i64 3))]::AE 230 224 false .pick [.t 227,.t 229,.k (.d (.bool false))]::A0 231 224 230::AA 232 231::AE 233 232 false .mov [.t 21]::BE 234 232 (.bin .eql) 233 3::AE 235 232 false .mov [.t 234]::AE 236 235 true .mov [.t 23]::AE 237 235 true (.bin .eql) [.t 236,.k (.d (.int .i64 0))]::AE 238 232 false .pick [.t 235,.t 237,.k (.d (.bool false))]::A0 239 232 238::AA 240 239::AE 241 240 false .mov [.t 21]::BE 242 240 (.bin .eql) 241 0::AE 243 240 false .mov [.t 242]::AE 244 243 true .mov [.t 20]::AE 245 243 true (.faddr 1) [.t 5]::AE 246 243 true (.load false 1) [.t 245]::AE 247 243 true .mov [.t 16]::AE 248 243 true (.iaddrS 1) [.t 246,.t 247]::AE 249 243 true (.load false 1) [.t 248]::AE 250 243 true (.bin .neq) [.t 244,.t 249]::AE 251 240 false .pick [.t 243,.t 250,.k (.d (.bool false))]::AE 252 240 false .mov [.t 251]::AE 253 252 true .mov [.t 22]::AE 254 252 true .mov [.t 20]::AE 255 252 true (.bin .neq) [.t 253,.t 254]::AE 256 240 false .pick [.t 252,.t 255,.k (.d (.bool false))]::A0 257 240 256::[]) [3,5,11,15,16,17,19,20,21,22,23,257]) (.cond (.t 257) (.seq (.reg [] (Al 6 false::[]) [6]) (.ret)) (.skip))) (.seq (.seq (.reg [] (AA 258 21::AK 259 (.bin .neq) 258 0::AA 260 259::AE 261 260 false .mov [.t 20]::Ay 262 260 1 5::A' 263 260 1 262::AE 264 260 false .mov [.t 16]::AE 265 260 false (.iaddrS 1) [.t 263,.t 264]::A' 266 260 1 265::AE 267 260 false (.bin .neq) [.t 261,.t 266]::A0 268 260 267::[]) [3,5,11,15,16,17,19,20,22,23,268]) (.cond (.t 268) (.exit 5) (.skip))) (.seq (.reg [] (AG 269 (.mkrow 1 (.int .i64 0) 0 []) []::AA 270 11::AA 271 19::AD 272 (.iaddrS 1) 270 271::AH 273 1 272::AD 274 (.app 3 1 none true) 269 273::AA 24 274::[]) [3,5,11,15,16,17,19,20,22,23,24]) (.seq (.seq (.reg [] (AM 25 0::[]) [3,5,11,15,16,17,19,20,22,23,24,25]) (.block 6 (.loop [.own 11 171 29 1] [3,5,11,15,16,17,19,20,22,23,24,25] [3,5,15,17,171,191,209,215,274,331,10191,10209,10215,10331] (.seq (.seq (.reg [] (AA 275 25::AJ 276 3 5::AH 277 1 276::AB 278 (.len false) 277::AD 279 (.bin .lss) 275 278::[]) [3,5,11,15,16,17,19,20,22,23,24,25,279]) (.cond (.t 279) (.skip) (.exit 6))) (.seq (.block 7 (.seq (.reg [] (AJ 282 9 3::AH 283 1 282::AB 284 (.len false) 283::AJ 285 2 5::AH 286 1 285::AD 287 (.bin .add) 284 286::AA 288 25::AD 289 (.bin .add) 287 288::AA 26 289::[]) [3,5,11,15,16,17,19,20,22,23,24,25,26]) (.draw [] ((AA 290 24,[])::(AA 291 26,[])::(AA 292 24,[])::(AA 293 26,[])::(AD 294 (.iaddrS 1) 292 293,[])::(AH 295 1 294,[])::(AJ 296 3 5,[])::(AH 297 1 296,[])::(AA 298 25,[])::(AD 299 (.iaddrS 1) 297 298,[])::(AH 300 1 299,[])::(AD 301 (.bin .xor) 295 300,[])::(AD 302 (.iaddrS 1) 290 291,[])::(Ae (.store 1) [.t 302,.t 301],[])::[]) [3,5,11,15,16,17,19,20,22,23,24,25]))) (.reg [] (AA 280 25::AK 281 (.bin .add) 280 1::AA 25 281::[]) [3,5,11,15,16,17,19,20,22,23,24,25])))))) (.seq (.reg [.freeze 24] (AB 304 (.load true 12) 3::AA 305 24::AD 306 (.call 23) 304 305::AA 303 306::AW 307 0 303::AW 308 1 303::AW 309 2 303::AA 27 307::AA 28 308::AA 29 309::[]) [3,5,11,15,16,17,19,20,22,23,24,27,28,29]) (.seq (.seq (.reg [] (AA 310 29::AK 311 (.bin .neq) 310 0::AA 312 311::AE 313 312 false .mov [.t 28]::BE 314 312 (.bin .neq) 313 0::A0 315 312 314::AA 316 315::AE 317 316 false .mov [.t 27]::Ay 318 316 0 5::A' 319 316 1 318::AE 320 316 false .mov [.t 19]::AE 321 316 false (.iaddrS 1) [.t 319,.t 320]::A' 322 316 1 321::AE 323 316 false (.call 24) [.t 317,.t 322]::AE 324 316 false (.un .not) [.t 323]::A0 325 316 324::[]) [3,5,11,15,16,17,19,20,22,23,24,27,325]) (.cond (.t 325) (.seq (.reg [] (Al 6 false::[]) [6]) (.ret)) (.skip))) (.seq (.reg [] (AA 326 23::AK 327 (.bin .eql) 326 0::[]) [3,5,11,15,16,17,19,20,22,24,27,327]) (.cond (.t 327) (.seq (.reg [] (AB 329 (.load true 12) 3::AA 330 27::AD 331 (.call 8) 329 330::AA 328 331::AW 332 0 328::AW 333 1 328::AA 30 332::AA 31 333::[]) [3,5,11,15,16,17,19,20,22,24,30,31]) (.seq (.seq (.reg [] (AA 334 31::AK 335 (.bin .neq) 334 0::AA 336 335::AE 337 336 false .mov [.t 30]::AE 338 336 false (.len false) [.t 337]::AE 339 336 false .mov [.t 24]::AE 340 336 false (.len false) [.t 339]::AE 341 336 false (.bin .neq) [.t 338,.t 340]::A0 342 336 341::AA 343 342::AE 344 343 false .mov [.t 22]::AE 345 343 false .mov [.t 20]::AE 346 343 false (.bin .eql) [.t 344,.t 345]::A0 347 343 346::[]) [3,5,11,15,16,17,19,30,347]) (.cond (.t 347) (.seq (.reg [] (Al 6 false::[]) [6]) (.ret)) (.skip))) (.reg [] (AA 348 11::AA 349 19::AA 350 30::AD 351 (.iaddrS 1) 348 349::Ae (.store 1) [.t 351,.t 350]::[]) [3,5,11,15,16,17,19]))) (.skip)))))))))))) (.reg [] (AA 204 19::AK 205 (.bin .add) 204 1::AA 19 205::[]) [3,5,11,15,16,17,19])))))) (.reg [] (AB 352 (.load true 12) 17::Ae (.store 12) [.t 15,.t 352]::[]) [3,5,11,15,16])))))) (.reg [] (AA 178 16::AK 179 (.bin .add) 178 1::AA 16 179::[]) [3,5,11,15,16])))))) (.seq (.seq (.reg [] (AM 32 0::[]) [3,5,11,15,32]) (.block 8 (.loop [.freeze 11] [3,5,11,15,32] [3,5,15,191,10191] (.seq (.seq (.reg [] (AA 353 32::AJ 354 0 5::AH 355 1 354::AB 356 (.len false) 355::AD 357 (.bin .lss) 353 356::[]) [3,5,11,15,32,357]) (.cond (.t 357) (.skip) (.exit 8))) (.seq (.block 9 (.seq (.seq (.reg [] (AB 361 (.load true 12) 15::AA 362 32::AD 363 (.call 22) 361 362::AA 360 363::AW 364 0 360::AW 365 1 360::AA 33 364::AA 34 365::[]) [3,5,11,15,32,34]) (.seq (.reg [] (AA 366 34::AK 367 (.bin .neq) 366 0::[]) [3,5,11,15,32,367]) (.cond (.t 367) (.exit 9) (.skip)))) (.seq (.draw [] ((AB 369 (.load true 12) 3,[])::(AA 370 11,[])::(AA 371 32,[])::(AD 372 (.iaddrS 1) 370 371,[])::(AH 373 1 372,[])::(AD 374 (.call 23) 369 373,[])::(AA 368 374,[])::(AW 375 0 368,[])::(AW 376 1 368,[])::(AW 377 2 368,[])::(AA 35 375,[])::(AA 36 376,[])::(AA 37 377,[])::[]) [3,5,11,15,32,35,37]) (.seq (.reg [] (AA 378 37::AK 379 (.bin .neq) 378 0::AA 380 379::AE 381 380 false .mov [.t 35]::Ay 382 380 0 5::A' 383 380 1 382::AE 384 380 false .mov [.t 32]::AE 385 380 false (.iaddrS 1) [.t 383,.t 384]::A' 386 380 1 385::AE 387 380 false (.call 24) [.t 381,.t 386]::AE 388 380 false (.un .not) [.t 387]::A0 389 380 388::[]) [3,5,11,15,32,389]) (.cond (.t 389) (.seq (.reg [] (Al 6 false::[]) [6]) (.ret)) (.skip)))))) (.reg [] (AA 358 32::AK 359 (.bin .add) 358 1::AA 32 359::[]) [3,5,11,15,32])))))) (.seq (.reg [] (AG 390 (.call 7) []::AA 6 390::[]) [6]) (.ret))))))))))))
theorem Sr:Br E0 N8 MB [.t 6] 391:=AI (fl:=[]) (by kernel_rfl)
section
def vv(b:Bool)(o:List F)(fnd:Bool):List (Nat×Nat×AY):=[(900004,0,.cells [.d (.list b (us o))]),(901004,0,.cells [.d (.bool fnd)])]
def vh(b:Bool)(o:List F)(fnd:Bool)(r:Option (List F)):List (Nat×Nat×AY):=match r with|some z=>vv false z true|none=>vv b o fnd
theorem La(b:Bool)(o:List F)(fnd:Bool)(z:List F):vh b o fnd (some z)=vv false z true:=rfl
theorem Lb(b:Bool)(o:List F)(fnd:Bool):vh b o fnd none=vv b o fnd:=rfl
def Im(w:List F)(at_:List Nat)(v:List F):List F:=List.zipWith (fun j x=>fa (w[j]?.getD 0) x) at_ v
theorem WR(w:List F)(at_:List Nat)(v:List F)(h:at_.length=v.length):(Im w at_ v).length=at_.length:=by simp[Im,h]
theorem r8(w:List F)(at_:List Nat)(v:List F)(i:Nat)(h:i<at_.length)(hl:at_.length=v.length):(Im w at_ v)[i]?.getD 0=fa (w[at_[i]?.getD 0]?.getD 0) (v[i]?.getD 0):=by
 unfold Im;rw[List.getElem?_zipWith,ay h,ay (by omega)];rfl
noncomputable def hit(L P:Nat)(w:List F)(mk:List Nat)(l:List Nat):Option (List F) :=
 (Ou L P (mk++l) (Mu L P w)).map fun v=>FY w (mk++l) (Im w (mk++l) v)
theorem fL(l:List Nat)(i:Nat)(h:i<l.length)(hn:l.Nodup):l[i]?.getD 0∉l.take i:=by
 intro hm;rw[iZ _ _ h]at hm;obtain⟨j,m,e⟩:=List.getElem_of_mem hm;have n:j<i:=by simp at m;omega
 rw[List.getElem_take]at e;have:=(List.getElem_inj hn).1 e;omega
attribute [local irreducible] IntKind.wrap Ah Option.getD and or
theorem ZW(L P:Nat)(n1 n2 n3 b fnd:Bool)(o w:List F)(mk l:List Nat)(M:L<=15)(U:1<=L)(G:1<=P)(n:P<=15)(Y:w.length=L)(hp:mu L (mk++l))(hm:(mk++l).length<=P)(q:n3=false) :
  Eg E0 DT (vv b o fnd) [.d (.list n1 (Ad (ni l))),.d (.ptr [.list n2 (Ad (ni mk))]),.d (.ptr [.int .i64 L,.int .i64 P]),.d (.ptr [.list false (us (Mu L P w))]),.d (.ptr [.list n3 (us w)]),.ptr 900004 0 0,.ptr 901004 0 0]
   (vh b o fnd (hit L P w mk l)) (.d (.bool (hit L P w mk l).isNone)):=by
 subst q;obtain⟨S,z⟩:∃S,Mu L P w=S:=⟨_,rfl⟩
 have r:S.length=P:=by rw[←z];exact aY L P w
 have c1:=Wb n2 n1 (ni mk) (ni l) (by rw[P3];simp at hm;omega) (by rw[P3];simp at hm;omega);rw[pG]at c1;obtain⟨A,m⟩:∃A,mk++l=A:=⟨_,rfl⟩
 have c2:=fun nl=>Rs L P false nl S A M G n r (by rw[←m];exact hp) (by rw[←m];exact hm)
 rw[m]at c1 hp hm;unfold hit;rw[z,m];unfold vh vv;refine BW Jg AR (by simp) (by cases Ou L P A S<;>simp[I_,CG,Cr,AY.isHist]) (by cases Ou L P A S<;>simp[Fh]) fun T N=>?_
 rw[Bh];unfold F5
 cases hs:Ou L P A S with
 |none =>
  rw[hs,XW,DC]at c2;simp only[Option.map_none,Option.isNone_none];refine' Fp;repeat' first|(refine' BJ;(first|refine AF c1 ?_|refine AF (c2 _) ?_)<;>refine' Fp)|refine' BI|done
  all_goals try exact BL
  all_goals first|rfl|skip
 |some v =>
  rw[hs,SU,DC]at c2;simp only[Option.map_some,Option.isNone_some];have j:=(XX hs).1;have R:=KT false w (by omega) (by omega) rfl;refine' Fp;repeat' first|(refine' BJ;(first|refine AF c1 ?_|refine AF (c2 _) ?_|refine B_ ([]) ([((7,1),(27,1))]) (R) ?_)<;>refine' Fp)|refine' BI|done
  all_goals try exact BL
  refine AZ (α:=Nat) (fun x=>[(30,.d (.int .i64 (x:Int)))]) (fun x=>[(27,.row 180 1 false (us (FY w (A.take x) ((Im w A v).take x))))]) (fun x=>x<=A.length) (fun x=>A.length-x) 0 ?hI1 ?step1
  case' step1=>(rintro i J;try dsimp only at J)
  case' hI1=>try dsimp only
  ·exact Nat.zero_le _
  ·have O:=SP (A.take i) w ((Im w A v).take i);have u:=WR w A v j.symm
   by_cases h:i<A.length
   ·have h':(i:Int)<(A.length:Int):=by omega
    have p:=HE (i:=i) (by omega);have X:=hp.lt (A[i]?.getD 0) (by rw[iZ _ _ h];exact List.getElem_mem h);have hg:(FY w (A.take i) ((Im w A v).take i))[A[i]?.getD 0]?.getD 0=w[A[i]?.getD 0]?.getD 0:=SQ _ _ _ _ (fL A i h hp.nd)
    have hk:(FY w (A.take i) ((Im w A v).take i)).set (A[i]?.getD 0) (fa (w[A[i]?.getD 0]?.getD 0) (v[i]?.getD 0))=FY w (A.take (i+1)) ((Im w A v).take (i+1)):=by
     rw[←r8 w A v i h j.symm,←Uy _ _ _ _ _ (aX A _ i u.symm),Bu A 0 i h,Bu _ 0 i (by omega)]
    have t:i<v.length:=by omega
    have y:A[i]?.getD 0<w.length:=by omega
    refine' mA7 h' p O y hg hk t
    all_goals try exact BL
    all_goals first|rfl|skip
   ·have h':¬(i:Int)<(A.length:Int):=by omega
    have B:i=A.length:=by omega
    have e:FY w (A.take i) ((Im w A v).take i)=FY w A (Im w A v):=by rw[ax (by omega),ax (by omega)]
    rw[e];refine' HM h'
    all_goals try exact BL
    all_goals first|rfl|skip
end
end Go.Pw
