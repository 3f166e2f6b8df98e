/- A part of the proof. -/
import Derived.Test.YtpcpcjbbdgmohaaDoorPgTwPl
import Derived.Test.YtpcpcjbbdgmohaaDoorPgTwcD
import Derived.Test.YtpcpcjbbdgmohaaDoorTwcK
import Derived.Test.YtpcpcjbbdgmohaaDoorPgTwcM
import Derived.Test.YtpcpcjbbdgmohaaDoorPgTwrV
import Derived.Test.YtpcpcjbbdgmohaaDoorPgTwrN
import Derived.Test.YtpcpcjbbdgmohaaDoorTwPC
set_option linter.all false
open Go Go.Pw Go.Proofs
namespace Go.Pw
set_option maxRecDepth 100000
set_option maxHeartbeats 6400000
def KB (f:Nat->Nat) (q k:Nat):List Int:=(List.range q).map fun t=>((EW f q k t:Nat):Int)
theorem Hl (f:Nat->Nat) (q k:Nat):(KB f q k).length=q:=by simp[KB]
theorem Y7 (f:Nat->Nat) (q:Nat):List.replicate q (0:Int)=KB f q 0:=by
 unfold KB
 rw[show (fun t=>((EW f q 0 t:Nat):Int))=fun _=>(0:Int) from rfl,List.map_const',List.length_range]
theorem Lg (f:Nat->Nat) (q k:Nat) {t:Nat}(h:t<q):(KB f q k)[t]?.getD 0=((EW f q k t:Nat):Int):=by simp[KB,h]
theorem U3 {f:Nat->Nat}{q k:Nat}(h:f k=0):KB f q (k+1)=KB f q k:=by
 unfold KB
 refine List.map_congr_left fun t _=>?_
 show ((EW f q k t+(if k%q=t then f k else 0):Nat):Int)=_
 rw[h];simp
theorem Lf {f:Nat->Nat}{q k:Nat}{v:Int}(hq:0<q) (h:v=((EW f q k (k%q)+f k:Nat):Int)):(KB f q k).set (k%q) v=KB f q (k+1):=by
 have hm:=Nat.mod_lt k hq
 apply List.ext_getElem?
 intro t
 rw[List.getElem?_set,Hl]
 have hs:∀t,EW f q (k+1) t=EW f q k t+(if k%q=t then f k else 0):=fun _=>rfl
 by_cases ht:t<q
 ·have e:∀n,(KB f q n)[t]?=some ((EW f q n t:Nat):Int):=fun n=>by simp[KB,ht]
  rw[e,e,hs]
  by_cases hkt:k%q=t
  ·rw[if_pos hkt,if_pos hm,if_pos hkt,h,hkt]
  ·rw[if_neg hkt,if_neg hkt,Nat.add_zero]
 ·have e:∀n,(KB f q n)[t]?=none:=fun n=>List.getElem?_eq_none (by rw[Hl];omega)
  rw[e,e]
  split
  ·omega
  ·rfl
theorem OV (f:Nat->Nat) (hf:∀i,f i<=2) (q:Nat):∀n k,EW f q n k<=2*n
 |0,_=>Nat.le_refl _
 |n+1,k=>by
  have ih:=OV f hf q n k
  have:=hf n
  show EW f q n k+(if n%q=k then f n else 0)<=_
  split<;>omega
def M7 (c:GCode) (fl:List Int) (B:List Int) (i:Nat):List Int:=Lc c.sz (i:Int) (c.stm (B[i]?.getD 0).toNat) fl
def Lx (c:GCode) (fl B:List Int) (i:Nat):Option (List Int):=(c.decR 0 (M7 c fl B i)).1
def F3 (c:GCode) (fl B:List Int) (i:Nat):Int:=Zx c.bits.toNat (Lx c fl B i)
def Cq (c:GCode) (fl B:List Int) (i:Nat):Nat:=if (Lx c fl B i).isNone then 1 else if decide (F3 c fl B i≠B[i]?.getD 0) then 2 else 0
theorem U2 (c:GCode) (fl B:List Int) (i:Nat):Cq c fl B i<=2:=by
 unfold Cq
 split
 ·omega
 ·split<;>omega
def KM (c:GCode) (fl B:List Int) (k:Nat):List Nat:=(List.range k).filter fun i=>(Lx c fl B i).isNone
def Pc (c:GCode) (fl B:List Int) (k:Nat):List Int:=(List.range k).map (F3 c fl B)
theorem Rv (c:GCode) (fl B:List Int) (k:Nat):Pc c fl B k++[F3 c fl B k]=Pc c fl B (k+1):=by simp[Pc,List.range_succ]
theorem IB (c:GCode) (fl B:List Int) (k:Nat):(Pc c fl B k).length=k:=by simp[Pc]
theorem Ut {c:GCode}{fl B:List Int}{k:Nat}(h:Lx c fl B k=none):KM c fl B (k+1)=KM c fl B k++[k]:=by
 unfold KM;rw[List.range_succ,List.filter_append];simp[h]
theorem YK {c:GCode}{fl B:List Int}{k:Nat}{l:List Int}(h:Lx c fl B k=some l):KM c fl B (k+1)=KM c fl B k:=by
 unfold KM;rw[List.range_succ,List.filter_append];simp[h]
theorem YL (c:GCode) (fl B:List Int) (k:Nat):(KM c fl B k).length<=k:=by
 have:=List.length_filter_le (fun i=>(Lx c fl B i).isNone) (List.range k)
 rw[List.length_range] at this;exact this
def Q2 (a b:List Int) (t:Nat):Bool:=(List.range t).any fun j=>decide (a[j]?.getD 0≠b[j]?.getD 0)
theorem ZQ (a b:List Int) (t:Nat):Q2 a b (t+1)=(Q2 a b t || decide (a[t]?.getD 0≠b[t]?.getD 0)):=by simp[Q2,List.range_succ]
theorem U' {a b:List Int}(hl:a.length=b.length) (h:Q2 a b a.length=false):a=b:=by
 unfold Q2 at h
 rw[List.any_eq_false] at h
 apply List.ext_getElem hl
 intro i h1 h2
 have:=h i (by simpa using h1)
 rw[List.getElem?_eq_getElem h1,List.getElem?_eq_getElem h2] at this
 simpa using this
theorem JD {c:GCode}(hc:c.ok=true) {L P Q:Int}(hw:GB L P Q=true) {d fl:List Int}(hs:CX d (Q*(L-P))=true)
  {B:List Int}(hB:Z8 L P Q d=B) {n:Nat}(hn:(n:Int)=Q*L) (hf:∀k,k<Q.toNat->((EW (Cq c fl B) Q.toNat n k:Nat):Int)<=P) (hv:∀i,i<n->0<=F3 c fl B i/\F3 c fl B i<=15) :
  fg L P Q (Pc c fl B n) (ni (KM c fl B n))=0/\fF L P Q (Pc c fl B n) (ni (KM c fl B n))=d:=by
 obtain⟨l,p,q,h1,h2,h3,b1,b2,b3,b4,b5,b6,b7,hcc⟩:=LA hw
 have hnl:n=l*q:=by
  rw[h1,h3] at hn
  have e:(q:Int)*(l:Int)=((l*q:Nat):Int):=by push_cast;exact Int.mul_comm ..
  rw[e] at hn;omega
 obtain⟨e,he,hel⟩:∃e:List F,d=iv e/\e.length=(l-p)*q:=by
  obtain⟨hl,hf⟩:=HU hs
  refine⟨fs d,hf.symm,?_⟩
  rw[Tx]
  rw[h1,h2,h3,show ((l:Int)-(p:Int))=((l-p:Nat):Int) by omega] at hl
  exact QZ hl
 have hBs:B=iv (XQ l p q e):=by
  rw[←hB]
  unfold Z8
  rw[if_pos hw,if_pos hs,h1,h2,h3,he,fG];rfl
 have hrng:∀x,x∈Pc c fl B n->0<=x/\x<=15:=fun x hx=>by
  simp only[Pc,List.mem_map,List.mem_range] at hx
  obtain⟨i,hi,rfl⟩:=hx
  exact hv i hi
 have hiv:iv (fs (Pc c fl B n))=Pc c fl B n:=Uz (by
  rw[List.all_eq_true]
  intro x hx
  have:=hrng x hx
  unfold JG;rw[decide_eq_true_eq];omega)
 have hsy:CX (Pc c fl B n) (Q*L)=true:=by
  rw[←hiv,Nj,decide_eq_true_eq,Tx,IB];exact hn
 have hmk:KM c fl B n=(List.range (l*q)).filter fun i=>(Lx c fl B i).isNone:=by unfold KM;rw[hnl]
 have hm:ER (ni (KM c fl B n)) ((Pc c fl B n).length:Int)=true:=by
  rw[IB,hmk]
  have h:=N3 (fun i=>(Lx c fl B i).isNone) (l*q)
  rw[hnl]
  refine Pk fun i hi=>?_
  have hil:i<((List.range (l*q)).filter fun i=>(Lx c fl B i).isNone).length:=by simpa[ni] using hi
  unfold a6
  rw[decide_eq_true_eq,Td,Td]
  have h1:=h.lt _ (show ((List.range (l*q)).filter fun i=>(Lx c fl B i).isNone)[i]?.getD 0∈_ by rw[List.getElem?_eq_getElem hil];exact List.getElem_mem hil)
  refine⟨by omega,by exact_mod_cast h1,fun h0=>?_⟩
  have h2:=(List.pairwise_iff_getElem.1 h.asc) (i-1) i (by omega) hil (by omega)
  rw[List.getElem?_eq_getElem hil,List.getElem?_eq_getElem (show i-1<_ by omega)]
  exact_mod_cast h2
 have hnt:nt (ni (KM c fl B n))=KM c fl B n:=by
  unfold nt ni
  rw[List.map_map]
  exact List.map_id'' (fun x=>by simp) _
 have hget:∀i,i<l*q->(B[i]?.getD 0)=(((XQ l p q e)[i]?.getD 0:F):Fin 16).val:=fun i hi=>by
  rw[hBs]
  have hl2:i<(XQ l p q e).length:=by rw[LE];exact hi
  simp[iv,hl2]
 have key:=O7 (l:=l) (p:=p) (q:=q) (R:=fs (Pc c fl B n)) b2 b5 (by omega) hel (by rw[Tx,IB,hnl]) (mB:=fun i=>(Lx c fl B i).isNone) (wB:=fun i=>decide (F3 c fl B i≠B[i]?.getD 0))
  (fun i hi hne hmi=>by
   rw[decide_eq_true_eq]
   intro hveq
   apply hne
   have hr:(fs (Pc c fl B n))[i]?.getD 0=Fin.ofNat 16 (F3 c fl B i).toNat:=by simp[fs,Pc,hnl,hi]
   rw[hr,hveq,hget i hi,Int.toNat_natCast]
   exact Fin.ext (Nat.mod_eq_of_lt (Fin.isLt _)).symm)
  (fC:=Cq c fl B) (fun i _=>rfl) (fun k hkq=>by
   have:=hf k (by rw[h3];exact hkq)
   rw[h3,h2,hnl] at this
   exact_mod_cast this)
 unfold fg fF
 rw[if_pos hw,if_pos hsy,if_pos hm,if_pos hw,if_pos hsy,if_pos hm,hnt,h1,h2,h3,Int.toNat_natCast,Int.toNat_natCast,Int.toNat_natCast,hmk,key]
 exact⟨rfl,he.symm⟩
def Er:PC :=
 .seq (.reg [] (AD 3 .box 0::AD 4 .box 1::AD 5 .box 2::A8 6 false::[]) [3,4,5]) (.seq (.seq (.reg [] (AD 32 (.load true 6) 3::AD 33 (.call 19) 32::AA 34 33::AE 35 34 false (.load true 6) [.t 3]::AE 36 34 false (.call 20) [.t 35]::Cb 37 34 (.bin .neq) 36 0::Bv 38 34 37::AA 39 38::BU 40 39 0 4::AE 41 39 false (.load true 2) [.t 40]::AE 42 39 false (.call 21) [.t 41]::Bv 43 39 42::AA 44 43::AE 45 44 false (.load true 3) [.t 4]::AE 46 44 false (.call 22) [.t 45]::Cb 47 44 (.bin .neq) 46 0::Bv 48 44 47::AA 49 48::BU 50 49 2 4::Bg 51 49 1 50::Cb 52 49 (.bin .gtr) 51 4::Bv 53 49 52::AA 54 53::BU 55 54 0 5::Bg 56 54 1 55::BU 57 54 2 4::Bg 58 54 1 57::BU 59 54 0 4::BU 60 54 0 59::Bg 61 54 1 60::BU 62 54 0 4::BU 63 54 1 62::Bg 64 54 1 63::AE 65 54 false (.bin .sub) [.t 61,.t 64]::AE 66 54 false (.bin .mul) [.t 58,.t 65]::AE 67 54 false (.call 23) [.t 56,.t 66]::AE 68 54 false (.un .not) [.t 67]::Bv 69 54 68::AA 70 69::BU 71 70 1 5::Bg 72 70 1 71::AE 73 70 false (.len false) [.t 72]::Cb 74 70 (.bin .gtr) 73 40::Bv 75 70 74::[]) [3,4,5,75]) (.cond (.t 75) (.seq (.reg [] (AK 76 (.call 24) []::AA 6 76::[]) [6]) (.ret)) (.skip))) (.seq (.reg [] (AD 78 (.load true 3) 4::AY 79 0 5::AJ 80 1 79::AB 81 (.call 25) 78 80::AA 77 81::BZ 82 0 77::BZ 83 1 77::AA 7 82::AA 8 83::[]) [3,4,5,7,8]) (.seq (.reg [] (AD 85 (.load true 6) 3::AD 86 (.call 26) 85::AA 84 86::BZ 87 0 84::BZ 88 1 84::AA 9 87::AA 10 88::[]) [3,4,5,7,8,9,10]) (.seq (.seq (.reg [] (AA 89 8::AO 90 (.bin .neq) 89 0::AA 91 90::AE 92 91 false .mov [.t 7]::BU 93 91 2 4::Bg 94 91 1 93::BU 95 91 0 4::BU 96 91 0 95::Bg 97 91 1 96::AE 98 91 false (.bin .mul) [.t 94,.t 97]::AE 99 91 false (.call 23) [.t 92,.t 98]::AE 100 91 false (.un .not) [.t 99]::Bv 101 91 100::AA 102 101::AE 103 102 false .mov [.t 10]::Cb 104 102 (.bin .neq) 103 0::AE 105 102 false .mov [.t 104]::AE 106 105 true .mov [.t 10]::AE 107 105 true (.bin .neq) [.t 106,.k (.d (.int .i64 3))]::AE 108 102 false .pick [.t 105,.t 107,.k (.d (.bool false))]::Bv 109 102 108::[]) [3,4,5,7,9,10,109]) (.cond (.t 109) (.seq (.reg [] (A8 6 false::[]) [6]) (.ret)) (.skip))) (.seq (.reg [] (AY 110 0 3::AJ 111 1 110::AK 112 (.bin .quo) [.k (.d (.int .i64 4)),.t 111]::AA 11 112::[]) [3,4,5,7,9,10,11]) (.seq (.reg [] (AK 12 .mov [.k (.d (.list true []))]::AK 13 .mov [.k (.d (.list true []))]::[]) [3,4,5,7,9,10,11,12,13]) (.seq (.reg [] (AY 113 2 4::AJ 114 1 113::AB 115 (.mksl 3 1 (.int .i64 0) true) 114 114::AA 14 115::[]) [3,4,5,7,9,10,11,12,13,14]) (.seq (.seq (.reg [] (AQ 15 0::[]) [3,4,5,7,9,10,11,12,13,14,15]) (.block 0 (.loop [.own 12 288 3 1,.own 13 250 3 1] [3,4,5,7,9,10,11,12,13,14,15] [3,4,5,81,86,115,250,288,10081,10086,900000,900001,900002,901000,901001,901002] (.seq (.seq (.reg [] (AA 116 15::AA 117 7::AD 118 (.len false) 117::AB 119 (.bin .lss) 116 118::[]) [3,4,5,7,9,10,11,12,13,14,15,119]) (.cond (.t 119) (.skip) (.exit 0))) (.seq (.block 1 (.seq (.reg [] (AK 16 .mov [.k (.d (.list true []))]::[]) [3,4,5,7,9,10,11,12,13,14,15,16]) (.seq (.seq (.reg [] (AA 122 11::AO 123 (.bin .sub) 122 1::AA 17 123::[]) [3,4,5,7,9,10,11,12,13,14,15,16,17]) (.block 2 (.loop [.own 12 288 3 1,.own 13 250 3 1,.own 16 146 3 1] [3,4,5,7,9,10,11,12,13,14,15,16,17] [3,4,5,81,86,115,146,250,288,10081,10086,900000,900001,900002,901000,901001,901002] (.seq (.seq (.reg [] (AA 124 17::AO 125 (.bin .geq) 124 0::[]) [3,4,5,7,9,10,11,12,13,14,15,16,17,125]) (.cond (.t 125) (.skip) (.exit 2))) (.seq (.block 3 (.draw [] ((AA 128 16,[])::(AA 129 7,[])::(AA 130 15,[])::(AB 131 (.iaddrS 1) 129 130,[])::(AJ 132 1 131,[])::(AA 133 17,[])::(AY 134 0 3,[])::(AJ 135 1 134,[])::(AB 136 (.bin .mul) 133 135,[])::(AD 137 (.conv .u64) 136,[])::(AB 138 (.bin .shr) 132 137,[])::(AY 139 0 3,[])::(AJ 140 1 139,[])::(AD 141 (.conv .u64) 140,[])::(AK 142 (.bin .shl) [.k (.d (.int .i64 1)),.t 141],[])::(AO 143 (.bin .sub) 142 1,[])::(AB 144 (.bin .and) 138 143,[])::(AD 145 (.mkrow 1 (.int .i64 0) 1 [0]) 144,[])::(AB 146 (.app 3 1 none true) 128 145,[])::(AA 16 146,[])::[]) [3,4,5,7,9,10,11,12,13,14,15,16,17])) (.reg [] (AA 126 17::AO 127 (.bin .sub) 126 1::AA 17 127::[]) [3,4,5,7,9,10,11,12,13,14,15,16,17])))))) (.seq (.reg [.freeze 16] (AD 148 (.load true 6) 3::AA 149 16::AK 150 (.call 27) [.t 148,.k (.d (.int .i64 0)),.t 149]::AA 147 150::BZ 151 0 147::BZ 152 1 147::BZ 153 2 147::AA 18 151::AA 19 152::AA 20 153::[]) [3,4,5,7,9,10,11,12,13,14,15,18,20]) (.seq (.seq (.reg [] (AA 154 20::AO 155 (.bin .neq) 154 0::AA 156 155::AE 157 156 false .mov [.t 18]::AE 158 156 false (.len false) [.t 157]::AE 159 156 false .mov [.t 11]::BU 160 156 1 3::Bg 161 156 1 160::AE 162 156 false (.bin .mul) [.t 159,.t 161]::AE 163 156 false (.bin .neq) [.t 158,.t 162]::Bv 164 156 163::AA 165 164::AE 166 165 false .mov [.t 18]::AE 167 165 false (.call 28) [.t 166]::AE 168 165 false (.un .not) [.t 167]::Bv 169 165 168::[]) [3,4,5,7,9,10,11,12,13,14,15,18,169]) (.cond (.t 169) (.seq (.reg [] (A8 6 false::[]) [6]) (.ret)) (.skip))) (.seq (.reg [] (AA 170 18::AY 171 1 5::AJ 172 1 171::AA 173 15::AK 174 (.call 29) [.t 170,.t 172,.t 173]::AA 21 174::[]) [3,4,5,7,9,10,11,12,13,14,15,18,21]) (.seq (.reg [] (A8 22 false::[]) [3,4,5,7,9,10,11,12,13,14,15,18,21,22]) (.seq (.seq (.reg [] (AQ 23 0::[]) [3,4,5,7,9,10,11,12,13,14,15,18,21,22,23]) (.block 4 (.loop [.own 12 288 3 1,.own 13 250 3 1] [3,4,5,7,9,10,11,12,13,14,15,18,21,22,23] [3,4,5,81,86,115,150,174,250,288,10081,10086,10150,10174,900000,900001,900002,901000,901001,901002] (.seq (.seq (.reg [] (AA 175 23::AA 176 18::AD 177 (.len false) 176::AB 178 (.bin .lss) 175 177::[]) [3,4,5,7,9,10,11,12,13,14,15,18,21,22,23,178]) (.cond (.t 178) (.skip) (.exit 4))) (.seq (.block 5 (.draw [] ((AA 181 22,[])::(AA 182 181,[])::(AE 183 182 false .mov [.t 18],[])::(AE 184 182 false .mov [.t 23],[])::(AE 185 182 false (.iaddrS 1) [.t 183,.t 184],[])::(Bg 186 182 1 185,[])::(AE 187 182 false .mov [.t 21],[])::(AE 188 182 false .mov [.t 23],[])::(AE 189 182 false (.iaddrS 1) [.t 187,.t 188],[])::(Bg 190 182 1 189,[])::(AE 191 182 false (.bin .neq) [.t 186,.t 190],[])::(Bv 192 182 191,[])::(AA 22 192,[])::[]) [3,4,5,7,9,10,11,12,13,14,15,18,21,22,23])) (.reg [] (AA 179 23::AO 180 (.bin .add) 179 1::AA 23 180::[]) [3,4,5,7,9,10,11,12,13,14,15,18,21,22,23])))))) (.seq (.reg [] (AD 194 (.load true 6) 3::AA 195 21::AK 196 (.call 30) [.t 194,.k (.d (.int .i64 0)),.t 195]::AA 193 196::BZ 197 0 193::BZ 198 1 193::AA 24 197::AA 25 198::[]) [3,4,5,7,9,10,11,12,13,14,15,22,24,25]) (.seq (.seq (.reg [] (AA 199 25::AO 200 (.bin .neq) 199 0::AA 201 200::AE 202 201 true .mov [.t 25]::AE 203 201 true (.bin .neq) [.t 202,.k (.d (.int .i64 3))]::AK 204 .pick [.t 201,.t 203,.k (.d (.bool false))]::AA 205 204::AE 206 205 false .mov [.t 25]::Cb 207 205 (.bin .eql) 206 3::AE 208 205 false .mov [.t 207]::AE 209 208 true .mov [.t 22]::AE 210 208 true (.un .not) [.t 209]::AE 211 205 false .pick [.t 208,.t 210,.k (.d (.bool false))]::Bv 212 205 211::AA 213 212::AE 214 213 false .mov [.t 25]::Cb 215 213 (.bin .eql) 214 0::AE 216 213 false .mov [.t 215]::AE 217 216 true .mov [.t 24]::AE 218 216 true (.len false) [.t 217]::AE 219 216 true .mov [.t 11]::AE 220 216 true (.bin .neq) [.t 218,.t 219]::AE 221 216 true .mov [.t 220]::AE 222 221 false (.load true 6) [.t 3]::AE 223 221 false .mov [.t 24]::AE 224 221 false (.call 31) [.t 222,.t 223]::AE 225 221 false (.un .not) [.t 224]::AE 226 216 true .pick [.t 221,.k (.d (.bool true)),.t 225]::AE 227 213 false .pick [.t 216,.t 226,.k (.d (.bool false))]::Bv 228 213 227::[]) [3,4,5,7,9,10,11,12,13,14,15,22,24,25,228]) (.cond (.t 228) (.seq (.reg [] (A8 6 false::[]) [6]) (.ret)) (.skip))) (.seq (.reg [] (AQ 26 0::[]) [3,4,5,7,9,10,11,12,13,14,15,22,24,25,26]) (.seq (.seq (.reg [] (AQ 27 0::[]) [3,4,5,7,9,10,11,12,13,14,15,22,24,25,26,27]) (.block 6 (.loop [.own 12 288 3 1,.own 13 250 3 1] [3,4,5,7,9,10,11,12,13,14,15,22,24,25,26,27] [3,4,5,81,86,115,196,250,288,10081,10086,10196,900000,900001,900002,901000,901001,901002] (.seq (.seq (.reg [] (AA 229 27::AA 230 24::AD 231 (.len false) 230::AB 232 (.bin .lss) 229 231::[]) [3,4,5,7,9,10,11,12,13,14,15,22,24,25,26,27,232]) (.cond (.t 232) (.skip) (.exit 6))) (.seq (.block 7 (.draw [] ((AA 235 26,[])::(AY 236 0 3,[])::(AJ 237 1 236,[])::(AD 238 (.conv .u64) 237,[])::(AB 239 (.bin .shl) 235 238,[])::(AA 240 24,[])::(AA 241 27,[])::(AB 242 (.iaddrS 1) 240 241,[])::(AJ 243 1 242,[])::(AB 244 (.bin .add) 239 243,[])::(AA 26 244,[])::[]) [3,4,5,7,9,10,11,12,13,14,15,22,24,25,26,27])) (.reg [] (AA 233 27::AO 234 (.bin .add) 233 1::AA 27 234::[]) [3,4,5,7,9,10,11,12,13,14,15,22,24,25,26,27])))))) (.seq (.seq (.reg [] (AA 245 25::AO 246 (.bin .neq) 245 0::[]) [3,4,5,7,9,10,11,12,13,14,15,22,26,246]) (.cond (.t 246) (.seq (.reg [] (AA 247 13::AA 248 15::AD 249 (.mkrow 1 (.int .i64 0) 1 [0]) 248::AB 250 (.app 3 1 none true) 247 249::AA 13 250::[]) [3,4,5,7,9,10,11,12,13,14,15,26]) (.reg [] (AA 251 14::AA 252 15::AY 253 2 4::AJ 254 1 253::AB 255 (.bin .rem) 252 254::AB 256 (.iaddrS 1) 251 255::AJ 257 1 256::AO 258 (.bin .add) 257 1::AB 259 (.iaddrS 1) 251 255::Bn (.store 1) [.t 259,.t 258]::[]) [3,4,5,7,9,10,11,12,13,14,15,26])) (.seq (.reg [] (AA 260 26::AA 261 7::AA 262 15::AB 263 (.iaddrS 1) 261 262::AJ 264 1 263::AB 265 (.bin .neq) 260 264::[]) [3,4,5,7,9,10,11,12,13,14,15,22,26,265]) (.cond (.t 265) (.seq (.seq (.reg [] (AA 266 22::AD 267 (.un .not) 266::AA 268 267::AE 269 268 true .mov [.t 10]::AE 270 268 true (.bin .eql) [.t 269,.k (.d (.int .i64 0))]::AK 271 .pick [.t 268,.t 270,.k (.d (.bool false))]::AA 272 271::AE 273 272 true .mov [.t 9]::AE 274 272 true (.bin .eql) [.t 273,.k (.d (.int .i64 1))]::AK 275 .pick [.t 272,.t 274,.k (.d (.bool false))]::[]) [3,4,5,7,9,10,11,12,13,14,15,26,275]) (.cond (.t 275) (.seq (.reg [] (A8 6 false::[]) [6]) (.ret)) (.skip))) (.reg [] (AA 276 14::AA 277 15::AY 278 2 4::AJ 279 1 278::AB 280 (.bin .rem) 277 279::AB 281 (.iaddrS 1) 276 280::AJ 282 1 281::AO 283 (.bin .add) 282 2::AB 284 (.iaddrS 1) 276 280::Bn (.store 1) [.t 284,.t 283]::[]) [3,4,5,7,9,10,11,12,13,14,15,26])) (.skip))))) (.reg [] (AA 285 12::AA 286 26::AD 287 (.mkrow 1 (.int .i64 0) 1 [0]) 286::AB 288 (.app 3 1 none true) 285 287::AA 12 288::[]) [3,4,5,7,9,10,11,12,13,14,15])))))))))))))) (.reg [] (AA 120 15::AO 121 (.bin .add) 120 1::AA 15 121::[]) [3,4,5,7,9,10,11,12,13,14,15])))))) (.seq (.seq (.reg [] (AQ 28 0::[]) [4,5,12,13,14,28]) (.block 8 (.loop [.freeze 12,.freeze 13,.freeze 14] [4,5,12,13,14,28] [4,5,900001,900002,901001,901002] (.seq (.seq (.reg [] (AA 289 28::AA 290 14::AD 291 (.len false) 290::AB 292 (.bin .lss) 289 291::[]) [4,5,12,13,14,28,292]) (.cond (.t 292) (.skip) (.exit 8))) (.seq (.block 9 (.seq (.draw [] ((AA 295 14,[])::(AA 296 28,[])::(AB 297 (.iaddrS 1) 295 296,[])::(AJ 298 1 297,[])::(AY 299 0 4,[])::(AY 300 1 299,[])::(AJ 301 1 300,[])::(AB 302 (.bin .gtr) 298 301,[])::[]) [4,5,12,13,14,28,302]) (.cond (.t 302) (.seq (.reg [] (AK 303 (.call 24) []::AA 6 303::[]) [6]) (.ret)) (.skip)))) (.reg [] (AA 293 28::AO 294 (.bin .add) 293 1::AA 28 294::[]) [4,5,12,13,14,28])))))) (.seq (.reg [.freeze 12,.freeze 13] (AD 305 (.load true 3) 4::AA 306 12::AA 307 13::AK 308 (.call 32) [.t 305,.t 306,.t 307]::AA 304 308::BZ 309 0 304::BZ 310 1 304::AA 29 309::AA 30 310::[]) [5,29,30]) (.seq (.seq (.reg [] (AA 311 30::AO 312 (.bin .neq) 311 0::AA 313 312::AE 314 313 false .mov [.t 29]::AE 315 313 false (.len false) [.t 314]::BU 316 313 0 5::Bg 317 313 1 316::AE 318 313 false (.len false) [.t 317]::AE 319 313 false (.bin .neq) [.t 315,.t 318]::Bv 320 313 319::[]) [5,29,320]) (.cond (.t 320) (.seq (.reg [] (A8 6 false::[]) [6]) (.ret)) (.skip))) (.seq (.seq (.reg [] (AQ 31 0::[]) [5,29,31]) (.block 10 (.loop [] [5,29,31] [5,308,10308,900002,901002] (.seq (.seq (.reg [] (AA 321 31::AA 322 29::AD 323 (.len false) 322::AB 324 (.bin .lss) 321 323::[]) [5,29,31,324]) (.cond (.t 324) (.skip) (.exit 10))) (.seq (.block 11 (.seq (.draw [] ((AA 327 29,[])::(AA 328 31,[])::(AB 329 (.iaddrS 1) 327 328,[])::(AJ 330 1 329,[])::(AY 331 0 5,[])::(AJ 332 1 331,[])::(AA 333 31,[])::(AB 334 (.iaddrS 1) 332 333,[])::(AJ 335 1 334,[])::(AB 336 (.bin .neq) 330 335,[])::[]) [5,29,31,336]) (.cond (.t 336) (.seq (.reg [] (A8 6 false::[]) [6]) (.ret)) (.skip)))) (.reg [] (AA 325 31::AO 326 (.bin .add) 325 1::AA 31 326::[]) [5,29,31])))))) (.seq (.reg [] (AK 337 (.call 24) []::AA 6 337::[]) [6]) (.ret))))))))))))))
theorem GH:Dx E0 Ea Er [.t 6] 338:=AM (fl:=[146]) (by kernel_rfl)
theorem eU:∀n:Fin 16,BM .and .i64 (n.val:Int) 3=(n.val:Int)%4:=by decide +kernel
theorem W8 {b k:Nat}(s:Int) (h:k<4/b):(J9 b s)[k]?.getD 0=s/2^((4/b-1-k)*b)%2^b:=by simp[J9,h]
theorem PN {b k:Nat}(s:Int) (h:k<4/b):(J9 b s).take k++[(J9 b s)[k]?.getD 0]=(J9 b s).take (k+1):=by
 rw[List.take_add_one,List.getElem?_eq_getElem (by rw[FA];exact h)];simp[Option.getD]
theorem Ki {b:Nat}{l:List Int}{t:Nat}(h:t<l.length):Fl b (l.take t)*2^b+l[t]?.getD 0=Fl b (l.take (t+1)):=by
 rw[List.take_add_one,List.getElem?_eq_getElem h,Option.toList_some,VO,Option.getD_some]
theorem Nk {b:Nat}(hb:b=1\/b=2) {l:List Int}(h:∀w,w∈l->0<=w/\w<=2^b-1):∀t,t<=l.length->0<=Fl b (l.take t)/\Fl b (l.take t)+1<=(2^b)^t
 |0,_=>by simp[Fl]
 |t+1,ht=>by
  have ih:=Nk hb h t (by omega)
  rw[←Ki (show t<l.length by omega)]
  have hw:=h _ (D7 (show t<l.length by omega))
  rw[Int.pow_succ]
  rcases hb with rfl|rfl<;>simp at hw ih ⊢<;>omega
theorem Sg {c:GCode}(hc:c.ok=true):∃b:Nat,c.bits=(b:Int)/\(b=1\/b=2)/\c.bits.toNat=b:=by
 have:=GCode.ok_head hc
 refine⟨c.bits.toNat,by omega,by omega,rfl⟩
theorem PM {b K k s:Nat}(hb:b=1\/b=2) (hK:4/b=K) (hk:k<K) (hs:s<16) :
  BM .and .i64 ((s:Int)/2^(((K-1-k)*b:Nat):Int).toNat) (IntKind.i64.wrap (2^b-1))=(J9 b (s:Int))[k]?.getD 0:=by
 rw[W8 _ (by omega),hK,Int.toNat_natCast]
 rcases hb with rfl|rfl
 ·rw[show IntKind.i64.wrap (2^1-1)=1 from Af 1 (by omega),J6];rfl
 ·rw[show IntKind.i64.wrap (2^2-1)=3 from Af 3 (by omega)]
  have h1:(s:Int)/2^((K-1-k)*2)=((s/2^((K-1-k)*2):Nat):Int):=by push_cast;rfl
  have h2:s/2^((K-1-k)*2)<16:=Nat.lt_of_le_of_lt (Nat.div_le_self _ _) hs
  rw[h1]
  exact eU ⟨_,h2⟩
theorem SW (c:GCode) (fl B:List Int) (i:Nat):Lx c fl B i=(c.decR 0 (M7 c fl B i)).1:=rfl
theorem J2 {α:Type}{l:List α}(h:l≠[]):l.isEmpty=false:=by cases l with
 |nil=>exact absurd rfl h
 |cons _ _=>rfl
theorem Uy (w:List F) {i:Nat}(h:i<(iv w).length):0<=(iv w)[i]?.getD 0/\(iv w)[i]?.getD 0<=15:=by
 have hm:=D7 h
 simp only[iv,List.mem_map] at hm
 obtain⟨x,_,hx⟩:=hm
 have:=QA x
 unfold iv
 rw[←hx];exact this
end Go.Pw
