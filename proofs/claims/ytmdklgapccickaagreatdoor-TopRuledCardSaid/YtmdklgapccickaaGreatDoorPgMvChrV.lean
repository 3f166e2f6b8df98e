/- A part of the proof. -/
import Derived.Test.YtmdklgapccickaaGreatDoorPgMvChrA
import Derived.Test.YtmdklgapccickaaGreatDoorMvPC
import Derived.Test.YtmdklgapccickaaGreatDoorPgMvChcJ
import Derived.Test.YtmdklgapccickaaGreatDoorPgMvChcA
import Derived.Test.YtmdklgapccickaaGreatDoorMvChcSpec2
set_option linter.all false
open Go Go.Pw Go.Proofs
namespace Go.Pw
set_option maxRecDepth 100000
set_option maxHeartbeats 3200000
section
def qo (l:List Nat):D:=.list l.isEmpty (BU (ni l))
def td (ls:List (List Nat)):List D:=ls.map qo
attribute [local congr] Bm BC BD Ak Bn Aq Au Ar Aj Af AY AU Am AZ BR BS BP Ao An Ad Ap Ae BH BZ Ab BM BN BI BJ BL BK BF BG BB Bq BE Al Aa Ba Ag Av BQ
attribute [local irreducible] IntKind.wrap A0 Option.getD and or
end
def tW (w:List F) (at_:List Nat):List F:=dn w at_ (List.replicate at_.length 0)
section
attribute [local congr] Bm BC BD Ak Bn Aq Au Ar Aj Af AY AU Am AZ BR BS BP Ao An Ad Ap Ae BH BZ Ab BM BN BI BJ BL BK BF BG BB Bq BE Al Aa Ba Ag Av BQ
attribute [local irreducible] IntKind.wrap A0 Option.getD and or
end
section
def tt (o:Option (List F)):D:=match o with
 |some r=>.tup [.list false (BU (iv r)),.bool true]
 |none=>.tup [.list true [],.bool false]
attribute [local congr] Bm BC BD Ak Bn Aq Au Ar Aj Af AY AU Am AZ BR BS BP Ao An Ad Ap Ae BH BZ Ab BM BN BI BJ BL BK BF BG BB Bq BE Al Aa Ba Ag Av BQ
attribute [local irreducible] IntKind.wrap A0 Option.getD and or
end
section
attribute [local congr] Bm BC BD Ak Bn Aq Au Ar Aj Af AY AU Am AZ BR BS BP Ao An Ad Ap Ae BH BZ Ab BM BN BI BJ BL BK BF BG BB Bq BE Al Aa Ba Ag Av BQ
attribute [local irreducible] IntKind.wrap A0 Option.getD and or
def tv (L P:Int) (ws ms:List Int):Int:=if FG L P=true then if Ed ws L=true then if Pa ms L=true then 0 else 1 else 51 else 50
end
section
attribute [local congr] Bm BC BD Ak Bn Aq Au Ar Aj Af AY AU Am AZ BR BS BP Ao An Ad Ap Ae BH BZ Ab BM BN BI BJ BL BK BF BG BB Bq BE Al Aa Ba Ag Av BQ
attribute [local irreducible] IntKind.wrap A0 Option.getD and or
end
theorem oO {q k j:Nat}(h:k<q):(j*q+k)/q=j:=by
 rw[Nat.mul_comm,Nat.mul_add_div (by omega),Nat.div_eq_of_lt h,Nat.add_zero]
theorem oM {q k j:Nat}(h:k<q):(j*q+k)%q=k:=by
 rw[Nat.mul_comm,Nat.mul_add_mod,Nat.mod_eq_of_lt h]
theorem ga {q k j m:Nat}(h:k<q) (hj:j<m):j*q+k<m*q:=by
 have:=Nat.mul_le_mul_right q (show j+1<=m by omega)
 rw[Nat.add_mul,Nat.one_mul] at this
 omega
def Gy (m q k:Nat) (b:List F):List F:=(List.range m).map fun j=>b[j*q+k]?.getD 0
theorem JT (m q k:Nat) (b:List F):(Gy m q k b).length=m:=by simp[Gy]
theorem aw {m q k:Nat}{b:List F}(j:Nat) (h:j<m):(Gy m q k b)[j]?.getD 0=b[j*q+k]?.getD 0:=by simp[Gy,h]
def Ni (m q:Nat) (W:Nat->List F):List F:=(List.range (m*q)).map fun i=>(W (i%q))[i/q]?.getD 0
theorem Ov (m q:Nat) (W:Nat->List F):(Ni m q W).length=m*q:=by simp[Ni]
theorem gu {m q:Nat}{W:Nat->List F}(i:Nat) (h:i<m*q):(Ni m q W)[i]?.getD 0=(W (i%q))[i/q]?.getD 0:=by simp[Ni,h]
def sk (q k:Nat) (ms:List Nat):List Nat:=(ms.filter fun i=>i%q == k).map (·/q)
def qk (L P q:Nat) (d:List F):List F:=Ni L q fun k=>Qy P (Gy (L-P) q k d)
theorem i6 (L P q:Nat) (d:List F):(qk L P q d).length=L*q:=Ov ..
noncomputable def r_ (L P q:Nat) (b:List F) (ms:List Nat) (k:Nat):Option (List F):=p_ L P (Gy L q k b) (sk q k ms)
noncomputable def s8 (L P q:Nat) (b:List F) (ms:List Nat) (k:Nat):List F:=match r_ L P q b ms k with
 |some r=>r.take (L-P)
 |none=>[]
noncomputable def r9 (L P q:Nat) (b:List F) (ms:List Nat):Option (List F):=if ∀k,k<q->(r_ L P q b ms k).isSome=true then some (Ni (L-P) q (s8 L P q b ms)) else none
def X7:PC :=
 .seq (.reg [] (AB 3 .box 0::AF 6 .mov [.k (.d (.list true []))]::AO 7 0::[]) [1,2,3]) (.seq (.reg [] (AB 18 (.load true 3) 3::AA 19 1::AF 20 (.call 75) [.t 18,.t 19,.k (.fn 134 [])]::AA 17 20::Ai 21 0 17::Ai 22 1 17::AF 8 (.zero [.int .i64 0,.int .i64 0,.int .i64 0]) []::BO (.store 3) [.t 8,.t 21]::AA 9 22::[]) [1,2,8,9]) (.seq (.seq (.reg [] (AA 23 9::AH 24 (.bin .neq) 23 0::[]) [1,2,8,9,24]) (.cond (.t 24) (.seq (.reg [] (AA 25 9::AF 6 .mov [.k (.d (.list true []))]::AA 7 25::[]) [6,7]) (.ret)) (.skip))) (.seq (.seq (.reg [] (AA 26 2::AA 27 1::AB 28 (.len false) 27::AD 29 (.call 135) 26 28::AB 30 (.un .not) 29::[]) [1,2,8,30]) (.cond (.t 30) (.seq (.reg [] (AF 6 .mov [.k (.d (.list true []))]::AO 7 1::[]) [6,7]) (.ret)) (.skip))) (.seq (.reg [] (AF 10 .mov [.k (.d (.list true []))]::[]) [1,2,8,10]) (.seq (.seq (.reg [] (AI 31 2 8::AJ 32 1 31::AO 33 0::[]) [1,2,8,10,32,33]) (.block 0 (.loop [.own 10 76 147 1] [1,2,8,10,32,33] [8,20,76,10020,900001,900002,901001,901002,800001,800002,801001,801002,902001,903001,902002,903002] (.seq (.reg [] (AD 34 (.bin .lss) 33 32::[]) [1,2,8,10,32,33,34]) (.seq (.cond (.t 34) (.skip) (.exit 0)) (.seq (.block 1 (.seq (.reg [] (AA 35 33::AA 11 35::[]) [1,2,8,10,11,32,33]) (.seq (.reg [] (AF 12 .mov [.k (.d (.list true []))]::[]) [1,2,8,10,11,12,32,33]) (.seq (.seq (.reg [] (AA 36 2::AB 37 (.len false) 36::AO 38 0::[]) [1,2,8,10,11,12,32,33,36,37,38]) (.block 2 (.loop [.own 10 76 147 1,.own 12 54 3 1] [1,2,8,10,11,12,32,33,36,37,38] [8,20,54,76,10020,900001,900002,901001,901002,800001,800002,801001,801002,902001,903001,902002,903002] (.seq (.reg [] (AD 39 (.bin .lss) 38 37::[]) [1,2,8,10,11,12,32,33,36,37,38,39]) (.seq (.cond (.t 39) (.skip) (.exit 2)) (.seq (.block 3 (.seq (.reg [] (AD 40 (.iaddrS 1) 36 38::AJ 41 1 40::AA 14 41::[]) [1,2,8,10,11,12,14,32,33,36,37,38]) (.seq (.reg [] (AA 42 14::AI 43 2 8::AJ 44 1 43::AD 45 (.bin .rem) 42 44::AA 46 11::AD 47 (.bin .eql) 45 46::[]) [1,2,8,10,11,12,14,32,33,36,37,38,47]) (.cond (.t 47) (.reg [] (AA 48 12::AA 49 14::AI 50 2 8::AJ 51 1 50::AD 52 (.bin .quo) 49 51::AB 53 (.mkrow 1 (.int .i64 0) 1 [0]) 52::AD 54 (.app 3 1 none true) 48 53::AA 12 54::[]) [1,2,8,10,11,12,32,33,36,37,38]) (.skip))))) (.reg [] (AH 55 (.bin .add) 38 1::AA 38 55::[]) [1,2,8,10,11,12,32,33,36,37,38]))))))) (.seq (.draw [.freeze 12] ((AI 57 0 8,[])::(AB 58 (.load true 2) 57,[])::(AB 59 (.load true 3) 8,[])::(AA 60 1,[])::(AA 61 11,[])::(AF 62 (.call 78) [.t 59,.t 60,.t 61],[1])::(AA 63 12,[])::(AF 64 (.call 136) [.t 58,.t 62,.t 63],[])::(AA 56 64,[])::(Ai 65 0 56,[])::(Ai 66 1 56,[])::(AA 15 65,[])::(AA 16 66,[])::[]) [1,2,8,10,15,16,32,33]) (.seq (.seq (.reg [] (AA 67 16::AB 68 (.un .not) 67::[]) [1,2,8,10,15,32,33,68]) (.cond (.t 68) (.seq (.reg [] (AF 6 .mov [.k (.d (.list true []))]::AO 7 52::[]) [6,7]) (.ret)) (.skip))) (.reg [] (AA 69 10::AA 70 15::AI 71 0 8::AB 72 (.load true 2) 71::AB 73 (.call 76) 72::AD 74 (.slice 1 false true false) 70 73::AB 75 (.mkrow 1 (.list true []) 1 [0]) 74::AD 76 (.app 147 1 none true) 69 75::AA 10 76::[]) [1,2,8,10,32,33]))))))) (.reg [] (AH 77 (.bin .add) 33 1::AA 33 77::[]) [1,2,8,10,32,33]))))))) (.seq (.reg [.freeze 10] (AB 78 (.load true 3) 8::AA 79 10::AD 80 (.call 79) 78 79::AA 6 80::AO 7 0::[]) [6,7]) (.ret)))))))
section
def ic (l:List (List F)):List D:=l.map fun r=>.list false (us r)
theorem ib (l:List (List F)):(ic l).length=l.length:=by simp[ic]
theorem d8 (l:List (List F)) (r:List F):ic l++[.list false (us r)]=ic (l++[r]):=by simp[ic]
theorem bF {ls:List (List F)}{i:Nat}{A:D->Prop}:BW (ic ls)[i]? A=(i<ls.length/\A (.list false (us (ls[i]?.getD [])))):=by
 unfold ic
 rw[List.getElem?_map]
 by_cases h:i<ls.length
 ·simp[h,BW]
 ·have:ls[i]?=none:=List.getElem?_eq_none (by omega)
  simp[this,h,BW]
attribute [go_sem] ib d8 bF
theorem av (m q k j:Nat) (b:List F) (h:j<m):(Gy m q k b).take j++[b[j*q+k]?.getD 0]=(Gy m q k b).take (j+1):=by
 rw[←aw j h,GH _ 0 j (by rw[JT];exact h)]
theorem pk {m q k j n:Nat}(hk:k<q) (hn:n=m*q) (h:j<m):k+j*q<n:=by have:=ga hk h;omega
theorem pm {m q k n:Nat}(hn:n=m*q):¬k+m*q<n:=by omega
theorem lZ {m q:Nat}(hm:m<=15) (hq:q<=8):m*q<=120:=Nat.mul_le_mul hm hq
def Z5 (q:Nat) (W:Nat->List F):List (List F):=(List.range q).map W
theorem UN (q:Nat) (W:Nat->List F):(Z5 q W).length=q:=by simp[Z5]
theorem UO {q:Nat}{W:Nat->List F}{k:Nat}(h:k<q):(Z5 q W)[k]?.getD []=W k:=by simp[Z5,h]
theorem dk {q:Nat}{W:Nat->List F}{k:Nat}(h:k<q):(Z5 q W).take k++[W k]=(Z5 q W).take (k+1):=by
 have:=GH (Z5 q W) [] k (by rw[UN];exact h)
 rwa [UO h] at this
theorem gt {m q i k:Nat}{W:Nat->List F}(hi:i<m) (hk:k<q):(Ni m q W).take (i*q+k)++[(W k)[i]?.getD 0]=(Ni m q W).take (i*q+(k+1)):=by
 have h:=ga hk hi
 rw[←Nat.add_assoc,←GH _ 0 (i*q+k) (by rw[Ov];exact h),gu _ h,oO hk,oM hk]
theorem dR (b:Bool):(b && decide ((0:Nat)=0))=b:=by simp
theorem Sc (b:Bool) {k:Nat}(h:k≠0):(b && decide (k=0))=false:=by simp[h]
def iM (L P Q:Int) (xs:List Int):Int:=if D3 L P Q=true then if Ed xs (Q*(L-P))=true then 0 else 51 else 50
def iL (L P Q:Int) (xs:List Int):List Int:=if D3 L P Q=true then if Ed xs (Q*(L-P))=true then iv (qk L.toNat P.toNat Q.toNat (fs xs)) else [] else []
noncomputable def s_ (L P Q:Int) (xs ms:List Int):Int:=if D3 L P Q=true then if Ed xs (Q*L)=true then if Pa ms xs.length=true then oE (r9 L.toNat P.toNat Q.toNat (fs xs) (nt ms)) else 1 else 51 else 50
noncomputable def s9 (L P Q:Int) (xs ms:List Int):List Int:=if D3 L P Q=true then if Ed xs (Q*L)=true then if Pa ms xs.length=true then iv (oL (r9 L.toNat P.toNat Q.toNat (fs xs) (nt ms))) else [] else [] else []
theorem UP {L P Q:Int}(h:D3 L P Q=true):∃l p q:Nat,L=(l:Int)/\P=(p:Int)/\Q=(q:Int)/\2<=l/\l<=15/\1<=p/\p<=8/\p<l/\1<=q/\q<=8/\FG (l:Int) (p:Int)=true:=by
 obtain⟨hc,h1,h2⟩:=VZ h
 obtain⟨l,p,rfl,rfl,b1,b2,b3,b4,b5⟩:=dG hc
 exact⟨l,p,Q.toNat,rfl,rfl,by omega,b1,b2,b3,b4,b5,by omega,by omega,hc⟩
theorem j6 {n m q:Nat}(h:(n:Int)=(q:Int)*(m:Int)):n=m*q:=by
 rw[Nat.mul_comm];exact_mod_cast h
attribute [local congr] Bm BC BD Ak Bn Aq Au Ar Aj Af AY AU Am AZ BR BS BP Ao An Ad Ap Ae BH BZ Ab BM BN BI BJ BL BK BF BG BB Bq BE Al Aa Ba Ag Av BQ
attribute [local irreducible] IntKind.wrap A0 Option.getD and or
theorem P8 (L P q m k:Nat) (n:Bool) (b:List F) (hm:m<=15) (hm1:1<=m) (hq:q<=8) (hk:k<q) (hb:b.length=m*q) :
  Cc E0 G7 [.agg [.int .i64 (L:Int),.int .i64 (P:Int),.int .i64 (q:Int)],.list n (BU (iv b)),.int .i64 (k:Int)] (.list false (us (Gy m q k b))):=by
 have hmq:=lZ hm hq
 have hpl:=JT m q k b
 refine AN J1 Ay (by simp) fun hwf=>?_
 rw[AP];unfold GX
 refine' HO
 all_goals try exact Ca
 refine Bh (α:=Nat×Nat×Bool) (fun x=>[(8,.d (.int .i64 (x.2.1:Int)))]) (fun x=>[(25,.row 180 1 x.2.2 (us ((Gy m q k b).take x.1)))]) (fun x=>x.1<=m/\x.2.1=k+x.1*q/\x.2.2=decide (x.1=0)) (fun x=>m-x.1) (0,k,true) ?hI1 ?step1
 case' step1=>(rintro⟨j,s,e⟩ hI;try dsimp only at hI)
 case' hI1=>try dsimp only
 ·exact⟨Nat.zero_le _,by simp,rfl⟩
 ·obtain⟨h1,hs,h2⟩:=hI
  change e=decide (j=0) at h2
  subst h2
  have hjq:=Nat.mul_le_mul_right q h1
  by_cases h:j<m
  ·have h0:=pk hk hb h
   rw[←hs] at h0
   have h':(s:Int)<(b.length:Int):=by omega
   have hs2:s+q=k+(j+1)*q:=by rw[Nat.add_mul,Nat.one_mul];omega
   have hwj:IntKind.i64.wrap ((s:Int)+(q:Int))=((s+q:Nat):Int):=by rw[Bd _ (by omega)];omega
   have hst:=av m q k j b h
   rw[Nat.add_comm (j*q) k,←hs] at hst
   refine' Zg h0 h' hwj hst @ou
   all_goals try exact Ca
   all_goals first|exact⟨hs2,rfl⟩|exact hs2|rfl|skip
  ·have hje:j=m:=by omega
   subst hje
   have h0:=pm (k:=k) hb
   have h':¬(s:Int)<(b.length:Int):=by omega
   have htk:(Gy j q k b).take j=Gy j q k b:=List.take_of_length_le (by omega)
   have hj0:decide (j=0)=false:=decide_eq_false (by omega)
   rw[htk,hj0]
   refine' K5 h'
   all_goals try exact Ca
   all_goals first|rfl|skip
theorem P9 (x:D) (q m:Nat) (W:Nat->List F) (hm:m<=15) (hm1:1<=m) (hq:q<=8) (hq1:1<=q) (hW:∀k,k<q->(W k).length=m) (hx:∃a b c,x=.agg [.int .i64 a,.int .i64 b,.int .i64 c]) :
  Cc E0 G8 [x,.list false (ic (Z5 q W))] (.list false (BU (iv (Ni m q W)))):=by
 obtain⟨a,b,c,rfl⟩:=hx
 have hmq:=lZ hm hq
 have hbl:=Ov m q W
 have hwl:=UN q W
 have h0:0<(Z5 q W).length:=by omega
 have hw0:(Z5 q W)[0]?.getD []=W 0:=UO (by omega)
 have hl0:=hW 0 (by omega)
 refine AN J2 Ay (by simp) fun hwf=>?_
 rw[AP];unfold GY
 refine' Pb h0 hw0 hl0
 all_goals try exact Ca
 refine Bh (α:=Nat×Nat×Bool) (fun x=>[(13,.d (.int .i64 (x.1:Int)))]) (fun x=>[(29,.row 3 1 x.2.2 (BU (iv ((Ni m q W).take x.2.1))))]) (fun x=>x.1<=m/\x.2.1=x.1*q/\x.2.2=decide (x.1=0)) (fun x=>m-x.1) (0,0,true) ?hI2 ?step2
 case' step2=>(rintro⟨i,n,e⟩ hI;try dsimp only at hI)
 case' hI2=>try dsimp only
 ·exact⟨Nat.zero_le _,by simp,rfl⟩
 ·obtain⟨i1,hn,i2⟩:=hI
  change e=decide (i=0) at i2
  subst i2
  have hiq:=Nat.mul_le_mul_right q i1
  by_cases h:i<m
  ·have h':(i:Int)<(m:Int):=by omega
   have hwi:=Mi (i:=i) (by omega)
   have hbs:=fun k hk=>@gt m q i k W h hk
   have hend:i*q+q=(i+1)*q:=by rw[Nat.add_mul];omega
   refine' Pc h' hwl
   all_goals try exact Ca
   refine Bh (α:=Nat×Nat×Bool) (fun x=>[(18,.d (.int .i64 (x.1:Int)))]) (fun x=>[(29,.row 3 1 x.2.2 (BU (iv ((Ni m q W).take x.2.1))))]) (fun x=>x.1<=q/\x.2.1=i*q+x.1/\x.2.2=(decide (i=0) && decide (x.1=0))) (fun x=>q-x.1) (0,n,(decide (i=0))) ?hI3 ?step3
   case' step3=>(rintro⟨k,n2,e2⟩ hI2;try dsimp only at hI2)
   case' hI3=>try dsimp only
   ·exact⟨Nat.zero_le _,hn,(dR _).symm⟩
   ·obtain⟨k1,hn2,k2⟩:=hI2
    change e2=(decide (i=0) && decide (k=0)) at k2
    by_cases hk:k<q
    ·have hk':(k:Int)<(q:Int):=by omega
     have hwk:=Mi (i:=k) (by omega)
     have hg:=UO (W:=W) hk
     have hkl:=hW k hk
     have hst:=hbs k hk
     have hn3:n2+1=i*q+(k+1):=by omega
     rw[←hn2,←hn3] at hst
     have hfe:false=(decide (i=0) && decide (k+1=0)):=(Sc _ (by omega)).symm
     have hnl:n2<=120:=by have:=ga hk h;omega
     refine' PB hk' hwk hwl hk hg hkl hst (aI h @l9)
     all_goals try exact Ca
     all_goals first|exact⟨hn3,hfe⟩|exact hn3|exact hfe|rfl|(simp;done)|skip
    ·have hk':¬(k:Int)<(q:Int):=by omega
     have hke:k=q:=by omega
     have hn3:n2=(i+1)*q:=by omega
     have hfe:e2=decide (i+1=0):=by rw[k2,Sc _ (by omega),decide_eq_false (by omega)]
     refine' Pb hk' hwl hwi
     all_goals try exact Ca
     all_goals first|exact⟨hn3,hfe⟩|exact hn3|exact hfe|rfl|(simp;done)|skip
  ·have h':¬(i:Int)<(m:Int):=by omega
   have hie:i=m:=by omega
   subst hie
   have htk:(Ni i q W).take n=Ni i q W:=List.take_of_length_le (by omega)
   have hi0:decide (i=0)=false:=decide_eq_false (by omega)
   rw[htk,hi0]
   refine' K5 h'
   all_goals try exact Ca
   all_goals first|rfl|skip
theorem Na (L P Q:Int) (n:Bool) (xs:List Int):Cc E0 Jg [.agg [.int .i64 L,.int .i64 P,.int .i64 Q],.list n (BU xs)] (.tup [.list (iL L P Q xs).isEmpty (BU (iL L P Q xs)),.int .i64 (iM L P Q xs)]):=by
 refine AN NT Ay (by simp) fun hwf=>?_
 rw[AP];unfold IM iL iM
 cases hw:D3 L P Q with
 |false =>
  have c1:=Gj L P Q n xs Dp (if FG L P=true then L-P else 0) UC (by
   split
   ·rename_i hc;have:=Ot hc;omega
   ·omega) fun hc=>by rw[if_pos hc];have:=Ot hc;exact JZ L P (by omega)
  unfold od at c1
  rw[hw] at c1
  simp only[Bool.false_eq_true,if_false] at c1 ⊢
  rw[Uw] at c1
  refine' H9;repeat' first|(refine' CQ;(first|refine AG c1 ?_)<;>refine' H9)|refine' CP|done
  all_goals first|rfl|(simp;done)|skip
 |true =>
  obtain⟨l,p,q,rfl,rfl,rfl,b1,b2,b3,b4,b5,b6,b7,hc⟩:=UP hw
  have c1:=Gj l p q n xs Dp ((l:Int)-(p:Int)) UC (by omega) fun hc=>JZ l p (by omega)
  unfold od at c1
  rw[hw] at c1
  simp only[if_true] at c1 ⊢
  cases hs:Ed xs ((q:Int)*((l:Int)-(p:Int))) with
  |false =>
   rw[hs] at c1
   simp only[Bool.false_eq_true,if_false] at c1 ⊢
   rw[fI] at c1
   refine' H9;repeat' first|(refine' CQ;(first|refine AG c1 ?_)<;>refine' H9)|refine' CP|done
   all_goals first|rfl|(simp;done)|skip
  |true =>
   rw[hs] at c1
   simp only[if_true] at c1 ⊢
   rw[fJ] at c1
   obtain⟨hl,hf⟩:=eF hs
   obtain⟨d,hd⟩:∃d,fs xs=d:=⟨_,rfl⟩
   rw[hd] at hf ⊢
   subst hf
   rw[YT,show ((l:Int)-(p:Int))=((l-p:Nat):Int) by omega] at hl
   have hdl:=j6 hl
   simp only[Int.toNat_natCast]
   have c2:=fun k hk=>P8 l p q (l-p) k n d (by omega) (by omega) b7 hk hdl
   have hW0:qk l p q d=Ni l q fun k=>Qy p (Gy (l-p) q k d):=rfl
   have c3:=fun k=>NZ l p false (Gy (l-p) q k d) b2 b3 (by rw[JT];omega) (by rw[JT];omega) rfl
   have hWl:∀k,k<q->(Qy p (Gy (l-p) q k d)).length=l:=fun k _=>by rw[Wq,JT];omega
   obtain⟨W,hW⟩:∃W:Nat->List F,(fun k=>Qy p (Gy (l-p) q k d))=W:=⟨_,rfl⟩
   have hWk:∀k,Qy p (Gy (l-p) q k d)=W k:=fun k=>by rw[←hW]
   simp only[hWk] at c3 hWl
   rw[hW] at hW0
   rw[hW0]
   have c4:=P9 (.agg [.int .i64 (l:Int),.int .i64 (p:Int),.int .i64 (q:Int)]) q l W b2 (by omega) b7 b6 hWl ⟨_,_,_,rfl⟩
   have hB:0<(Ni l q W).length:=by rw[Ov];exact Nat.mul_pos (by omega) (by omega)
   rw[YR hB]
   have hst:=fun k hk=>@dk q W k hk
   have hwl:=UN q W
   refine' H9;repeat' first|(refine' CQ;(first|refine AG c1 ?_)<;>refine' H9)|refine' CP|done
   all_goals try exact Ca
   refine Bh (α:=Nat×Bool) (fun x=>[(21,.d (.int .i64 (x.1:Int)))]) (fun x=>[(33,.row 147 1 x.2 (ic ((Z5 q W).take x.1)))]) (fun x=>x.1<=q/\x.2=decide (x.1=0)) (fun x=>q-x.1) (0,true) ?hI4 ?step4
   case' step4=>(rintro⟨k,e⟩ hI;try dsimp only at hI)
   case' hI4=>try dsimp only
   ·exact⟨Nat.zero_le _,rfl⟩
   ·obtain⟨k1,k2⟩:=hI
    change e=decide (k=0) at k2
    subst k2
    by_cases hk:k<q
    ·have hk':(k:Int)<(q:Int):=by omega
     have hwk:=Mi (i:=k) (by omega)
     have c5:=c2 k hk
     have c6:=c3 k
     have hst2:=hst k hk
     rw[Zv] at c6
     refine' Gb hk' hwk hst2;repeat' first|(refine' CQ;(first|refine AG c5 ?_|refine AG c6 ?_)<;>refine' Gb hk' hwk hst2)|refine' CP|done
     all_goals try exact Ca
     all_goals first|rfl|skip
    ·have hk':¬(k:Int)<(q:Int):=by omega
     have hke:k=q:=by omega
     have hk0:decide (k=0)=false:=decide_eq_false (by omega)
     have htk:(Z5 q W).take k=Z5 q W:=List.take_of_length_le (by omega)
     rw[hk0,htk]
     refine' VX hk';repeat' first|(refine' CQ;(first|refine AG c4 ?_)<;>refine' VX hk')|refine' CP|done
     all_goals first|rfl|omega|(simp;done)|skip
end
def Bb.ok (c:Bb):Bool:=c.code.ok && (D3 c.L c.P c.Q && (decide (c.Q*c.L<=32) && (DY c.mark && (DE c.seed 1 127 && (DE c.errs 0 16 && OI c.code 16)))))
def Bb.flat (c:Bb) (X:List Int):List Int:=X.flatMap fun x=>c.code.stm x.toNat
def ed (c:Bb) (block:List Int):List Int:=c.mark++c.flat (Jp c.seed block)
def iQ (c:Bb) (d:List Int):List Int:=if c.ok=true then if iM c.L c.P c.Q d=0 then ed c (iL c.L c.P c.Q d) else [] else []
def dl (c:Bb) (d:List Int):Int:=if c.ok=true then if iM c.L c.P c.Q d=0 then 0 else 51 else 130
noncomputable def sv (c:Bb) (sy:List (Option Nat)):List Int:=s9 c.L c.P c.Q (Jp c.seed (rG sy)) (ni (ru sy))
noncomputable def r8 (c:Bb) (sy:List (Option Nat)):Int:=s_ c.L c.P c.Q (Jp c.seed (rG sy)) (ni (ru sy))
def m7 (bits:List Int):Bool:=decide (bits.length<=1000) && Bf bits
noncomputable def pQ (c:Bb) (bits:List Int):Int:=if c.ok=true then if m7 bits=true then match c.find bits with
 |none=>3
 |some a=>r8 c (c.syL bits a)
 else 131 else 130
noncomputable def lW (c:Bb) (bits:List Int):List Int:=if c.ok=true then if m7 bits=true then match c.find bits with
 |none=>[]
 |some a=>sv c (c.syL bits a)
 else [] else []
noncomputable def pR (c:Bb) (bits:List Int):Int:=if c.ok=true then if m7 bits=true then match c.find bits with
 |none=>0
 |some a=>if r8 c (c.syL bits a)=0 then a else 0
 else 0 else 0
theorem Wu {α:Type}(a b:List α) (n:Nat):(a++b).drop (a.length+n)=b.drop n:=by
 rw[List.drop_append,List.drop_eq_nil_of_le (by omega),List.nil_append,show a.length+n-a.length=n by omega]
theorem T2 {α:Type}{f:α->List Int}{m:Nat}(hf:∀x,(f x).length=m):∀(l:List α) (i:Nat) (h:i<l.length),((l.flatMap f).drop (i*m)).take m=f l[i]
 |[],_,h=>by cases h
 |x::l,0,_=>by
  rw[Nat.zero_mul,List.drop_zero,List.flatMap_cons]
  exact List.take_left' (hf x)
 |x::l,i+1,h=>by
  rw[List.flatMap_cons,show (i+1)*m=(f x).length+i*m by rw[hf,Nat.succ_mul];omega,Wu]
  exact T2 hf l i (by simpa using h)
theorem Wg {α:Type}{f:α->List Int}{m:Nat}(hf:∀x,(f x).length=m):∀l:List α,(l.flatMap f).length=l.length*m
 |[]=>by simp
 |x::l=>by rw[List.flatMap_cons,List.length_append,hf,Wg hf l,List.length_cons,Nat.succ_mul];omega
theorem QE (c:Bb) (X:List Int):(c.flat X).length=X.length*c.code.sz:=Wg (fun x=>No ..) X
theorem jI (c:Bb) (b:List Int):(ed c b).length=c.mark.length+b.length*c.code.sz:=by
 unfold ed;rw[List.length_append,QE,I5]
theorem ec (c:Bb) (X rest:List Int) (i:Nat) (h:i<X.length):c.part (c.mark++c.flat X++rest) 0 i=c.code.stm (X[i]?.getD 0).toNat:=by
 unfold Bb.part
 rw[Nat.zero_add,List.append_assoc,Wu]
 have h1:=QE c X
 have h2:(i+1)*c.code.sz<=X.length*c.code.sz:=Nat.mul_le_mul_right _ h
 rw[Nat.succ_mul] at h2
 rw[List.drop_append_of_le_length (by rw[h1];omega),List.take_append_of_le_length (by rw[List.length_drop,h1];omega)]
 have:=T2 (f:=fun x:Int=>c.code.stm x.toNat) (fun x=>No ..) X i h
 rw[List.getElem?_eq_getElem h]
 exact this
section
attribute [local congr] Bm BC BD Ak Bn Aq Au Ar Aj Af AY AU Am AZ BR BS BP Ao An Ad Ap Ae BH BZ Ab BM BN BI BJ BL BK BF BG BB Bq BE Al Aa Ba Ag Av BQ
attribute [local irreducible] IntKind.wrap A0 Option.getD and or
abbrev Dv:=List (G6×Int)
def oJ (e:G6×Int):D×D:=(R2 e.1,.int .i64 e.2)
def NM (m:Dv):List (D×D):=m.map oJ
def G1 (k:G6):Dv->Option Int
 |[]=>none
 |e::m=>if k=e.1 then some e.2 else G1 k m
def pL (k:G6) (v:Int):Dv->Dv
 |[]=>[(k,v)]
 |e::m=>if k=e.1 then (e.1,v)::m else e::pL k v m
theorem QV (p q:G6):Dl (R2 p) (R2 q)=decide (p=q):=by
 obtain⟨a,b⟩:=p;obtain⟨a',b'⟩:=q
 simp[Dl,R2,D.cells,E3,Fe,Prod.ext_iff]
theorem bW (k:G6) (m:Dv):CG (R2 k) (NM m)=(G1 k m).map (.int .i64):=by
 induction m with
 |nil=>rfl
 |cons e m ih =>
  simp only[NM,List.map_cons,CG,oJ,QV,G1] at ih ⊢
  by_cases h:k=e.1
  ·simp[h]
  ·simp only[decide_eq_true_eq,h,if_false];exact ih
theorem Jy (a b:Int) (m:Dv):CG (.agg [.int .i64 a,.int .i64 b]) (NM m)=(G1 (a,b) m).map (.int .i64):=bW (a,b) m
theorem Pe {k:G6}{m:Dv}{v:Int}(h:G1 k m=some v):(k,v)∈m:=by
 induction m with
 |nil=>cases h
 |cons e m ih =>
  simp only[G1] at h
  split at h
  ·rename_i he;simp at h;subst he h;simp
  ·exact List.mem_cons_of_mem _ (ih h)
def GCode.apW (c:GCode) (rec:Int->List Int->Dv->Int×Dv) (s first:Int) (mark:List Int):Nat->Int->Int->Dv->Int×Dv
 |0,_,least,m=>(least,m)
 |k+1,w,least,m =>
  let bits:=(B8 c.out.toNat (c.wrd s w)).drop first.toNat
  let n:=min mark.length bits.length
  let r:=rec (c.nxt s w) (mark.drop n) m
  c.apW rec s first mark k (w+1) (min least (Lh (mark.take n) bits+r.1)) r.2
def GCode.apM (c:GCode):Nat->Int->Int->List Int->Dv->Int×Dv
 |0,_,_,_,m=>(0,m)
 |n+1,s,first,mark,m =>
  if mark=[] then (0,m) else
  match G1 (s,mark.length) m with
  |some v=>if first=0 then (v,m) else c.apW (fun s' mk m'=>c.apM n s' 0 mk m') s first mark c.W 0 16 m
  |none=>let r:=c.apW (fun s' mk m'=>c.apM n s' 0 mk m') s first mark c.W 0 16 m
   if first=0 then (r.1,pL (s,mark.length) r.1 r.2) else r
def tV (m:Dv):Prop:=∀e,e∈m->0<=e.2/\e.2<=16
theorem J_ {xs:List Int}(h:Bf xs=true) (n:Nat):Bf (xs.take n)=true:=by
 simp only[Bf,List.all_eq_true] at *
 exact fun x hx=>h x (List.mem_of_mem_take hx)
theorem GCode.W_eq' (c:GCode):(c.W:Int)=2^c.bits.toNat:=by simp[GCode.W]
abbrev qf:HS:=(true,[some .i64,some .i64])
end
section
attribute [local congr] Bm BC BD Ak Bn Aq Au Ar Aj Af AY AU Am AZ BR BS BP Ao An Ad Ap Ae BH BZ Ab BM BN BI BJ BL BK BF BG BB Bq BE Al Aa Ba Ag Av BQ
attribute [local irreducible] IntKind.wrap A0 Option.getD and or
def GCode.apFirst (c:GCode) (mark:List Int) (s:Int):Nat->Int->Int->Dv->Int×Dv
 |0,_,least,m=>(least,m)
 |k+1,f,least,m=>c.apFirst mark s k (f+1) (min least (c.apM 16 s f mark m).1) (c.apM 16 s f mark m).2
def GCode.apStates (c:GCode) (mark:List Int):Nat->Int->Int->Dv->Int×Dv
 |0,_,least,m=>(least,m)
 |k+1,s,least,m=>c.apStates mark k (s+1) (c.apFirst mark s c.out.toNat 0 least m).1 (c.apFirst mark s c.out.toNat 0 least m).2
def GCode.apart (c:GCode) (mark:List Int):Int:=(c.apStates mark c.words.length 0 16 []).1
def GCode.apartR (c:GCode) (mark:List Int):Int×Int:=if !c.ok then (0,40) else if !DY mark then (0,1) else (c.apart mark,0)
theorem PT (nl:Bool) (xs:List Int):Cc E0 L2 [.list nl (BU xs)] (.bool (DY xs)):=by
 refine AN Pu Ay (by simp) fun hwf=>?_
 rw[AP];unfold KR
 refine' H9;repeat' first|(refine' CQ;(first|refine AG (DQ _ _ _) ?_|refine AG (Nx nl xs) ?_)<;>refine' H9)|refine' CP|done
 all_goals simp_all[DY]
def mR (bits:List Int):List Int->List Int->List Int
 |out,[]=>out
 |out,s::l=>mR bits (if 0<=s/\s<bits.length then out.set s.toNat (1-bits[s.toNat]?.getD 0) else out) l
end
end Go.Pw
