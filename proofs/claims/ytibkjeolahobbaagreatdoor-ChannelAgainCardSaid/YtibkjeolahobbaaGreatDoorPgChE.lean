/- A part of the proof. -/
import Derived.Test.YtibkjeolahobbaaGreatDoorPgChcO
import Derived.Test.YtibkjeolahobbaaGreatDoorPgChrN
import Derived.Test.YtibkjeolahobbaaGreatDoorPgChrPh2
import Derived.Test.YtibkjeolahobbaaGreatDoorPwYa
import Derived.Test.YtibkjeolahobbaaGreatDoorChPC
set_option linter.all false
open Go Go.Pw Go.Proofs
namespace Go.Pw
set_option maxRecDepth 100000
set_option maxHeartbeats 3200000
section
theorem Uc {E:Cl} {rs o els s}:kM E rs o els .ret s=(Hg E s rs (fun _=>True)/\NI els (s.V.ob o)):=rfl
theorem O1 {E:Cl} {rs o els s}:kM E rs o els .normal s=(Hg E s rs (fun _=>True)/\NI els (s.V.ob o)):=rfl
theorem G1 {els g e n st}:NI els (some (g,.hist e n st))=(e=els/\(st=true\/n=els.length)):=rfl
def mw (n m:Nat) (xs:List Int):List (List Int):=(List.range m).map fun i=>(xs.drop (i*n)).take n
theorem jF (n m:Nat) (xs:List Int):(mw n m xs).length=m:=by simp[mw]
theorem jG {n m:Nat}(xs:List Int) {i:Nat}(h:i<m):(mw n m xs)[i]?=some ((xs.drop (i*n)).take n):=by simp[mw,h]
def Xc (n m:Nat) (xs:List Int):List (List D):=(mw n m xs).map fun p=>[.list false (Aj p)]
theorem K8 (n m:Nat) (xs:List Int):(Xc n m xs).length=m:=by simp[Xc,jF]
theorem Qy {n m:Nat}(xs:List Int) {i:Nat}(h:i<m):(Xc n m xs)[i]?=some [.list false (Aj ((xs.drop (i*n)).take n))]:=by simp[Xc,jG xs h]
theorem aQ:DP.noR=true:=by rfl
attribute [local congr] Bh A7 A8 Au Bi Az A1 A0 Ar Ai Ab AZ Aw Ad Ax BF BJ BH BI BG BK BC Ag Ay Ah BA BS Af BD BE BB A_ A' A6 Bj A9 Av Ae
attribute [local irreducible] IntKind.wrap A5 Option.getD and or
theorem Ed (n1 n2:Bool) (xs ys:List Int) (hx:Ap xs=true) (hy:Ap ys=true) (hl:xs.length<=ys.length) (h128:xs.length<=1000000) :
  CI E0 He [.list n1 (Aj xs),.list n2 (Aj ys)] (.int .i64 (Ce xs ys)):=by
 refine AK K5 Aq (by simp) fun hwf=>?_
 rw[AW];unfold Gu
 simp -implicitDefEqProofs only[go_sem]
 refine AY (α:=Int×Int) (l0:=?l1) (m0:=?m1) (fun x=>[(8,.d (.int .i64 x.1)),(4,.d (.int .i64 x.2))]) (fun x=>[]) (fun x=>0<=x.1/\x.1<=xs.length/\0<=x.2/\x.2<=x.1/\x.2+Ce (xs.drop x.1.toNat) (ys.drop x.1.toNat)=Ce xs ys) (fun x=>(xs.length-x.1).toNat) (?a1_0,?a1_1) ?h01 ?he1 ?he21 ?hI1 ?step1
 case h01=>(simp -implicitDefEqProofs only[go_sem];rfl)
 case he1=>rfl
 case he21=>rfl
 case' step1=>(rintro⟨i,n⟩ hI;try dsimp only at hI)
 case' hI1=>try dsimp only
 ·simp
 ·by_cases hi:i<xs.length
  ·obtain⟨e,he⟩:∃e:Int,(if xs[i.toNat]?.getD 0=ys[i.toNat]?.getD 0 then 0 else 1)=e:=⟨_,rfl⟩
   have hxor:=Sg (Ee hx (i:=i.toNat) (by omega)) (Ee hy (i:=i.toNat) (by omega))
   have hd:Ce (xs.drop i.toNat) (ys.drop i.toNat)=e+Ce (xs.drop (i+1).toNat) (ys.drop (i+1).toNat):=by
    rw[Fi (xs:=xs) (i:=i.toNat) (by omega),Fi (xs:=ys) (i:=i.toNat) (by omega),Ce,he,show (i+1).toNat=i.toNat+1 by omega]
   rw[he] at hxor
   have he1:e=0\/e=1:=by rw[←he];split<;>simp
   (try (simp -implicitDefEqProofs only[go_sem]));repeat' first|(with_reducible first|exact tI|refine aI ?_ ?_|intro _)|((first|with_reducible refine AM ?_ ?_<;>intro _)<;>try (simp -implicitDefEqProofs only[go_sem]))|simp (disch:=omega) only[An]|((with_reducible refine Am ?_);refine⟨(_,_),rfl,?_,?_⟩)
   all_goals (try simp only[hxor])
   all_goals (try rw[Ak _ (by omega)])
   all_goals omega
  ·(try (simp -implicitDefEqProofs only[go_sem]));repeat' first|(with_reducible first|exact tI|refine aI ?_ ?_|intro _)|((first|with_reducible refine AM ?_ ?_<;>intro _)<;>try (simp -implicitDefEqProofs only[go_sem]))|simp (disch:=omega) only[An]|((with_reducible refine Am ?_);refine⟨(_,_),rfl,?_,?_⟩)
   all_goals first|omega|(simp;done)|(simp;omega)|skip
   have h0:xs.drop i.toNat=[]:=List.drop_eq_nil_of_le (by omega)
   have h1:Ce [] (ys.drop i.toNat)=0:=by simp[Ce]
   rw[h0,h1] at hI
   rw[←hI.2.2.2.2];simp
theorem Sd (nl:Bool) (xs:List Int) (n m:Nat) (hn:0<n) (hm:xs.length=m*n) (hb:xs.length<=1000000) (hnl:nl=false) :
  ab E0 Cj [] [.ptr [.list nl (Aj xs)],.ptr [.int .i64 (n:Int)]] (Xc n m xs):=by
 subst hnl
 refine WT HK Aq aQ (by simp) fun hwf _=>?_
 rw[ED];unfold DP
 (try (simp -implicitDefEqProofs only[go_sem]));repeat' first|(with_reducible first|exact tI|refine aI ?_ ?_|intro _)|((first|with_reducible refine AM ?_ ?_<;>intro _)<;>try (simp -implicitDefEqProofs only[go_sem]))|simp (disch:=omega) only[An]|((with_reducible refine Am ?_);refine⟨(_,_),rfl,?_,?_⟩)
 all_goals first|omega|(simp;done)|(simp;omega)|skip
 refine AY (α:=Nat×Int) (l0:=?l2) (m0:=?m2) (fun x=>[(4,.d (.int .i64 x.2))]) (fun x=>[(900000,.hist (Xc n m xs) x.1 false)]) (fun x=>x.1<=m/\x.2=((x.1*n:Nat):Int)) (fun x=>m-x.1) (0,0) ?h02 ?he2 ?he22 ?hI2 ?step2
 case h02=>(simp -implicitDefEqProofs only[go_sem];rfl)
 case he2=>rfl
 case he22=>rfl
 case' step2=>(rintro⟨i,a⟩ hI;try dsimp only at hI)
 case' hI2=>try dsimp only
 ·exact⟨Nat.zero_le _,by simp⟩
 ·obtain⟨i1,i2⟩:=hI
  change a=((i*n:Nat):Int) at i2
  subst i2
  by_cases hi:i<m
  ·have h1:i*n+n<=m*n:=by have:=Nat.mul_le_mul_right n (show i+1<=m by omega);rw[Nat.add_mul,Nat.one_mul] at this;exact this
   have h2:((i*n:Nat):Int)<(xs.length:Int):=by omega
   have wa:IntKind.i64.wrap (((i*n:Nat):Int)+(n:Int))=((i*n+n:Nat):Int):=by rw[Ak _ (by omega)];push_cast;rfl
   have hg:=Qy (n:=n) xs hi
   have hmn:min (n:Int) ((xs.drop (i*n)).length:Int)=(n:Int):=by rw[List.length_drop];omega
   (try (simp -implicitDefEqProofs only[go_sem,h2,wa,hg,hmn,Uc,G1]));repeat' first|(with_reducible first|exact tI|refine aI ?_ ?_|intro _)|((first|with_reducible refine AM ?_ ?_<;>intro _)<;>try (simp -implicitDefEqProofs only[go_sem,h2,wa,hg,hmn,Uc,G1]))|simp (disch:=omega) only[An]|((with_reducible refine Am ?_);refine⟨(_,_),rfl,?_,?_⟩)
   all_goals first|omega|(simp;done)|(simp;omega)|skip
   rw[Nat.add_mul,Nat.one_mul]
  ·have h2:¬((i*n:Nat):Int)<(xs.length:Int):=by
    have:m*n<=i*n:=Nat.mul_le_mul_right n (by omega)
    omega
   have him:i=(Xc n m xs).length:=by rw[K8];omega
   (try (simp -implicitDefEqProofs only[go_sem,h2,O1,G1]));repeat' first|(with_reducible first|exact tI|refine aI ?_ ?_|intro _)|((first|with_reducible refine AM ?_ ?_<;>intro _)<;>try (simp -implicitDefEqProofs only[go_sem,h2,O1,G1]))|simp (disch:=omega) only[An]|((with_reducible refine Am ?_);refine⟨(_,_),rfl,?_,?_⟩)
   all_goals first|omega|(simp;done)|(simp;omega)|skip
theorem Se (nl:Bool) (xs:List Int) (n:Nat) (hn:0<n):CI E0 Fo [.list nl (Aj xs),.int .i64 (n:Int)] (.fn Cj [.ptr [.list nl (Aj xs)],.ptr [.int .i64 (n:Int)]]):=by
 refine AK IG Aq (by simp) fun hwf=>?_
 rw[AW];unfold FI
 have h1:¬(n:Int)<1:=by omega
 (try (simp -implicitDefEqProofs only[go_sem,h1]));repeat' first|(with_reducible first|exact tI|refine aI ?_ ?_|intro _)|((first|with_reducible refine AM ?_ ?_<;>intro _)<;>try (simp -implicitDefEqProofs only[go_sem,h1]))|simp (disch:=omega) only[An]
 all_goals first|rfl|skip
theorem XE (n1 n2:Bool) (xs ys:List Int):CI E0 Ck [.list n1 (Aj xs),.ptr [.list n2 (Aj ys)]] (.bool (decide (xs=ys))):=by
 have c1:=Jy n1 n2 xs ys
 refine AK HN Aq (by simp) fun hwf=>?_
 rw[AW];unfold El
 (try (simp -implicitDefEqProofs only[go_sem]));repeat' first|(with_reducible first|exact tI|refine aI ?_ ?_|intro _)|((first|with_reducible refine AM ?_ ?_<;>intro _|(with_reducible refine isCall ?_);first|refine AE c1 ?_)<;>try (simp -implicitDefEqProofs only[go_sem]))|simp (disch:=omega) only[An]
 all_goals (rename_i h;rw[h])
end
section
def fw (c:AU) (s:Nat):List D:=(List.range 16).map fun k=>if k<s then .list false (Aj (c.stm k)) else .list true []
theorem fv (c:AU) (s:Nat):(fw c s).length=16:=by simp[fw]
theorem kE (c:AU):fw c 16=Fx c:=by
 unfold fw Fx
 apply List.map_congr_left
 intro k hk
 rw[if_pos (by simpa using hk)]
def Hh (c:AX) (s:Nat):List AV:=(Rk c (fw c.code s)).map AV.d
theorem QN (c:AX) (s:Nat):(Hh c s).length=28:=by
 unfold Hh Rk;simp[fv]
theorem QO (c:AX) {s k:Nat}(h:k<s) (h16:k<16):(Hh c s)[12+k]?=some (.d (.list false (Aj (c.code.stm k)))):=by
 unfold Hh Rk
 rw[List.getElem?_map,QY]
 simp[fw,h,h16]
theorem ZI (c:AX) {s:Nat}(h:s<16):List.take (12+s) (Hh c s)++[.d (.list false (Aj (c.code.stm s)))]++List.drop (12+s+1) (Hh c s)=Hh c (s+1):=by
 apply List.ext_getElem?
 intro i
 have hl:=QN c s
 rcases Nat.lt_trichotomy i (12+s) with h1|h1|h1
 ·rw[List.append_assoc,List.getElem?_append_left (by rw[List.length_take];omega),List.getElem?_take_of_lt h1]
  unfold Hh
  rw[List.getElem?_map,List.getElem?_map]
  congr 1
  unfold Rk
  by_cases h2:i<12
  ·match i,h2 with
   |0,_=>rfl|1,_=>rfl|2,_=>rfl|3,_=>rfl|4,_=>rfl|5,_=>rfl|6,_=>rfl|7,_=>rfl|8,_=>rfl|9,_=>rfl|10,_=>rfl|11,_=>rfl
  ·obtain⟨k,rfl⟩:∃k,i=12+k:=⟨i-12,by omega⟩
   rw[QY,QY]
   simp only[fw,List.getElem?_map]
   rw[List.getElem?_range (by omega)]
   simp only[Option.map_some]
   rw[if_pos (by omega),if_pos (by omega)]
 ·subst h1
  rw[List.append_assoc,List.getElem?_append_right (by rw[List.length_take];omega),List.length_take,QO c (by omega) h]
  rw[show 12+s-min (12+s) (Hh c s).length=0 by omega]
  rfl
 ·rw[List.getElem?_append_right (by rw[List.length_append,List.length_take];simp;omega),List.length_append,List.length_take,List.getElem?_drop]
  rw[show 12+s+1+(i-(min (12+s) (Hh c s).length+[AV.d (.list false (Aj (c.code.stm s)))].length))=i by simp;omega]
  unfold Hh
  rw[List.getElem?_map,List.getElem?_map]
  congr 1
  unfold Rk
  obtain⟨k,rfl⟩:∃k,i=12+k:=⟨i-12,by omega⟩
  rw[QY,QY]
  simp only[fw,List.getElem?_map]
  by_cases h3:k<16
  ·rw[List.getElem?_range h3]
   simp only[Option.map_some]
   rw[if_neg (by omega),if_neg (by omega)]
  ·rw[List.getElem?_eq_none (by simp;omega)];rfl
theorem ki (c:AX):Hh c 0=[.d (.int .i64 c.code.bits),.d (.int .i64 c.code.out),.d (.int .i64 c.code.least),.d (.int .i64 c.code.most),.d (.list c.code.nw (E2 c.code.words)),.d (.list c.code.nn (E2 c.code.next)),.d (.int .i64 c.L),.d (.int .i64 c.P),.d (.int .i64 c.Q),.d (.list c.nm (Aj c.mark)),.d (.int .i64 c.seed),.d (.int .i64 c.errs),.d (.list true []),.d (.list true []),.d (.list true []),.d (.list true []),.d (.list true []),.d (.list true []),.d (.list true []),.d (.list true []),.d (.list true []),.d (.list true []),.d (.list true []),.d (.list true []),.d (.list true []),.d (.list true []),.d (.list true []),.d (.list true [])]:=rfl
theorem iB {xs:List D}(h:∀x,x∈xs->(AV.d x).toD1=some x):BM AV.toD1 (xs.map AV.d)=some xs:=by
 induction xs with
 |nil=>rfl
 |cons x xs ih =>
  simp only[List.map_cons,BM,h x (by simp),ih fun y hy=>h y (by simp[hy])]
theorem ZJ (c:AX):BM AV.toD1 (Hh c 16)=some (Rk c (Fx c.code)):=by
 unfold Hh;rw[kE]
 refine iB fun x hx=>?_
 simp only[Rk,List.mem_cons] at hx
 rcases hx with rfl|rfl|rfl|rfl|rfl|rfl|rfl|rfl|rfl|rfl|rfl|rfl|hx
 all_goals first|rfl|skip
 simp only[Fx,List.mem_map] at hx
 obtain⟨k,_,rfl⟩:=hx
 rfl
theorem Xz {V:AJ}{o g:Nat}:AV.snap V (.ptr o g 0)=match V.get o g with
 |some (.cells xs)=>match BM AV.toD1 xs with|some (c::l)=>some (.ptr (c::l))|_=>none
 |_=>none:=rfl
theorem Wa (c:AX):(match BM AV.toD1 (Hh c 16) with|some (c::l)=>some (D.ptr (c::l))|_=>none)=some (.ptr (Rk c (Fx c.code))):=by rw[ZJ];rfl
theorem VW {c:AU}{s:Nat}(h:Ky c s=true) (h2:∀k,k<s->c.stm k≠c.stm s):Ky c (s+1)=true:=by
 rw[TR] at h ⊢
 intro a b ha hb
 by_cases e:a=s
 ·subst e;exact h2 b hb
 ·exact h a b (by omega) hb
theorem eW {c:AU}{s k:Nat}(hs:s<16) (hk:k<s) (e:c.stm k=c.stm s):Ky c 16=false:=by
 cases h:Ky c 16 with
 |false=>rfl
 |true=>exact absurd e (TR.1 h s k hs hk)
theorem GR (V:AJ) (os:List Nat) (c:AX) (s:Nat):List.map (AV.nrm V os) (Hh c s)=Hh c s:=by
 unfold Hh
 rw[List.map_map]
 exact List.map_congr_left fun x _=>rfl
theorem GQ (c:AX) (s:Nat):(Hh c s).all AV.one=true:=by
 rw[List.all_eq_true]
 intro x hx
 simp only[Hh,List.mem_map,Rk,List.mem_cons] at hx
 obtain⟨y,hy,rfl⟩:=hx
 rcases hy with rfl|rfl|rfl|rfl|rfl|rfl|rfl|rfl|rfl|rfl|rfl|rfl|hy
 all_goals first|rfl|skip
 simp only[fw,List.mem_map] at hy
 obtain⟨k,_,rfl⟩:=hy
 split<;>rfl
def fN (c:AX):D:=if c.ok=true then .ptr (Rk c (Fx c.code)) else .nilptr
def Qh (c:AX):Int:=if c.ok=true then 0 else 130
theorem JN {c:AX}(h:c.ok=true):fN c=.ptr (Rk c (Fx c.code))/\Qh c=0:=by unfold fN Qh;rw[if_pos h,if_pos h];exact⟨rfl,rfl⟩
theorem H_ {c:AX}(h:c.ok=false):fN c=.nilptr/\Qh c=130:=by unfold fN Qh;rw[if_neg (by simp[h]),if_neg (by simp[h])];exact⟨rfl,rfl⟩
theorem eD (mark:List Int):(Ku mark [] 0).2=if Ci mark=true then 0 else 1:=by
 unfold Ku
 cases Ci mark<;>rfl
theorem Y8 (s:Int):(KU s []).2=if Cp s 1 127=true then 0 else 1:=by
 unfold KU FC
 cases Cp s 1 127<;>rfl
attribute [local congr] Bh A7 A8 Au Bi Az A1 A0 Ar Ai Ab AZ Aw Ad Ax BF BJ BH BI BG BK BC Ag Ay Ah BA BS Af BD BE BB A_ A' A6 Bj A9 Av Ae
attribute [local irreducible] IntKind.wrap A5 Option.getD and or
theorem Eh (c:AX):CI E0 LM [Fj c] (.tup [fN c,.int .i64 (Qh c)]):=by
 have c1:=Jz c.code
 have c2:=Nk c.L c.P c.Q
 have c3:=Qx c.nm true c.mark [] 0
 have c4:=HR c.seed true []
 have f1:=eD c.mark
 have f2:=Y8 c.seed
 obtain⟨fl,hfl⟩:∃x,Ku c.mark [] 0=x:=⟨_,rfl⟩
 obtain⟨sl,hsl⟩:∃x,KU c.seed []=x:=⟨_,rfl⟩
 rw[hfl] at c3 f1
 rw[hsl] at c4 f2
 rw[f1] at c3
 rw[f2] at c4
 have e1:c.code.ok=false->Kx c.code.ok 40=40:=fun h=>by rw[h];rfl
 have e0:c.code.ok=true->Kx c.code.ok 40=0:=fun h=>by rw[h];rfl
 have no:(c.code.ok && (Cx c.L c.P c.Q && (decide (c.Q*c.L<=32) && (Ci c.mark && (Cp c.seed 1 127 && Cp c.errs 0 16)))))=false->fN c=.nilptr/\Qh c=130:=fun h=>H_ (by
  unfold AX.ok
  cases h1:c.code.ok<;>cases h2:Cx c.L c.P c.Q<;>cases h3:decide (c.Q*c.L<=32)<;>cases h4:Ci c.mark<;>cases h5:Cp c.seed 1 127<;>cases h6:Cp c.errs 0 16<;>simp_all)
 cases h1:c.code.ok with
 |false =>
  obtain⟨o1,o2⟩:=no (by simp only[h1,Bool.false_and])
  rw[o1,o2];rw[e1 h1] at c1
  refine AK C_ Aq (by simp) fun hwf=>?_
  rw[AW];unfold Cv
  (try (simp -implicitDefEqProofs only[go_sem,AO,AN,BU]));repeat' first|(with_reducible first|exact tI|refine aI ?_ ?_|intro _)|((first|with_reducible refine AM ?_ ?_<;>intro _|(with_reducible refine isCall ?_);first|refine AE c1 ?_|refine AE c2 ?_|refine AE c3 ?_|refine AE c4 ?_)<;>try (simp -implicitDefEqProofs only[go_sem,AO,AN,BU]))|simp (disch:=omega) only[An]|((with_reducible refine Ao ?_);refine⟨_,rfl,?_,?_⟩)
  all_goals first|rfl|skip
 |true =>
 rw[e0 h1] at c1
 cases h2:Cx c.L c.P c.Q with
 |false =>
  obtain⟨o1,o2⟩:=no (by simp only[h1,h2,Bool.true_and,Bool.false_and])
  rw[o1,o2];rw[h2] at c2;simp only[Bool.false_eq_true,if_false] at c2
  refine AK C_ Aq (by simp) fun hwf=>?_
  rw[AW];unfold Cv
  (try (simp -implicitDefEqProofs only[go_sem,AO,AN,BU]));repeat' first|(with_reducible first|exact tI|refine aI ?_ ?_|intro _)|((first|with_reducible refine AM ?_ ?_<;>intro _|(with_reducible refine isCall ?_);first|refine AE c1 ?_|refine AE c2 ?_|refine AE c3 ?_|refine AE c4 ?_)<;>try (simp -implicitDefEqProofs only[go_sem,AO,AN,BU]))|simp (disch:=omega) only[An]|((with_reducible refine Ao ?_);refine⟨_,rfl,?_,?_⟩)
  all_goals first|rfl|skip
 |true =>
 rw[h2] at c2;simp only[if_true] at c2
 cases h4:Ci c.mark with
 |false =>
  obtain⟨o1,o2⟩:=no (by simp only[h1,h2,h4,Bool.true_and,Bool.false_and,Bool.and_false])
  rw[o1,o2];rw[h4] at c3;simp only[Bool.false_eq_true,if_false] at c3
  refine AK C_ Aq (by simp) fun hwf=>?_
  rw[AW];unfold Cv
  (try (simp -implicitDefEqProofs only[go_sem,AO,AN,BU]));repeat' first|(with_reducible first|exact tI|refine aI ?_ ?_|intro _)|((first|with_reducible refine AM ?_ ?_<;>intro _|(with_reducible refine isCall ?_);first|refine AE c1 ?_|refine AE c2 ?_|refine AE c3 ?_|refine AE c4 ?_)<;>try (simp -implicitDefEqProofs only[go_sem,AO,AN,BU]))|simp (disch:=omega) only[An]|((with_reducible refine Ao ?_);refine⟨_,rfl,?_,?_⟩)
  all_goals first|rfl|skip
 |true =>
 rw[h4] at c3;simp only[if_true] at c3
 cases h5:Cp c.seed 1 127 with
 |false =>
  obtain⟨o1,o2⟩:=no (by simp only[h1,h2,h4,h5,Bool.true_and,Bool.false_and,Bool.and_false])
  rw[o1,o2];rw[h5] at c4;simp only[Bool.false_eq_true,if_false] at c4
  refine AK C_ Aq (by simp) fun hwf=>?_
  rw[AW];unfold Cv
  (try (simp -implicitDefEqProofs only[go_sem,AO,AN,BU]));repeat' first|(with_reducible first|exact tI|refine aI ?_ ?_|intro _)|((first|with_reducible refine AM ?_ ?_<;>intro _|(with_reducible refine isCall ?_);first|refine AE c1 ?_|refine AE c2 ?_|refine AE c3 ?_|refine AE c4 ?_)<;>try (simp -implicitDefEqProofs only[go_sem,AO,AN,BU]))|simp (disch:=omega) only[An]|((with_reducible refine Ao ?_);refine⟨_,rfl,?_,?_⟩)
  all_goals first|rfl|skip
 |true =>
 rw[h5] at c4;simp only[if_true] at c4
 have c5:=fun r=>Ew c r h2
 by_cases h3:c.Q*c.L<=32/\0<=c.errs/\c.errs<=16
 ·obtain⟨h3,h6,h7⟩:=h3
  have n3:¬32<c.Q*c.L:=by omega
  have n6:¬c.errs<0:=by omega
  have n7:¬16<c.errs:=by omega
  have h6i:Cp c.errs 0 16=true:=by simp only[Cp,decide_eq_true_eq];omega
  have hok:Ky c.code 16=true->c.ok=true:=fun h=>by
   unfold AX.ok;rw[h1,h2,decide_eq_true h3,h4,h5,h6i,h];simp only[Bool.and_self]
  have hnok:Ky c.code 16=false->c.ok=false:=fun h=>by
   unfold AX.ok;rw[h,Bool.and_false,Bool.and_false,Bool.and_false,Bool.and_false,Bool.and_false,Bool.and_false]
  have hce:=fun(s:Nat)=>Oi c.code 0 false (KJ c.code.bits.toNat s)
  have hse:=fun(s:Nat)=>GA (WG h1 s)
  simp only[iz h1,hse] at hce
  refine AK C_ Aq (by simp) fun hwf=>?_
  rw[AW];unfold Cv
  (try (simp -implicitDefEqProofs only[go_sem,AO,AN,BU,n3,n6,n7]));repeat' first|(with_reducible first|exact tI|refine aI ?_ ?_|intro _)|((first|with_reducible refine AM ?_ ?_<;>intro _|(with_reducible refine isCall ?_);first|refine AE c1 ?_|refine AE c2 ?_|refine AE c3 ?_|refine AE c4 ?_|refine AE (c5 _) ?_)<;>try (simp -implicitDefEqProofs only[go_sem,AO,AN,BU,n3,n6,n7]))|simp (disch:=omega) only[An]|((with_reducible refine Ao ?_);refine⟨_,rfl,?_,?_⟩)
  all_goals first|omega|(simp;done)|(simp;omega)|skip
  rw[←ki]
  refine AY (α:=Nat) (l0:=?l1) (m0:=?m1) (fun x=>[(58,.d (.int .i64 (x:Int)))]) (fun x=>[(17,.cells (Hh c x))]) (fun x=>x<=16/\Ky c.code x=true) (fun x=>16-x) 0 ?h01 ?he1 ?he21 ?hI1 ?step1
  case h01=>(simp -implicitDefEqProofs only[go_sem,GR,GQ];rfl)
  case he1=>rfl
  case he21=>rfl
  case' step1=>(rintro s hI;try dsimp only at hI)
  case' hI1=>try dsimp only
  ·exact⟨Nat.zero_le _,rfl⟩
  ·obtain⟨i1,i2⟩:=hI
   by_cases hs:s<16
   ·have hs':(s:Int)<16:=by omega
    have c6:=Nn c.code h1 s hs
    have c7:=hce s
    have hst:=ZI c hs
    have hl:=QN c s
    have hl':=QN c (s+1)
    have hi28:12+s<28:=by omega
    have hws:IntKind.i64.wrap ((s:Int)+1)=((s+1:Nat):Int):=by rw[Ak _ (by omega)];omega
    (try (simp -implicitDefEqProofs only[go_sem,BQ,BN,hs',hst,hl,hi28,GR,GQ]));repeat' first|(with_reducible first|exact tI|refine aI ?_ ?_|intro _)|((first|with_reducible refine AM ?_ ?_<;>intro _|(with_reducible refine isCall ?_);first|refine AE c6 ?_|refine AE c7 ?_)<;>try (simp -implicitDefEqProofs only[go_sem,BQ,BN,hs',hst,hl,hi28,GR,GQ]))|simp (disch:=omega) only[An]|((with_reducible refine Ao ?_);refine⟨_,rfl,?_,?_⟩)
    all_goals first|omega|(simp;done)|(simp;omega)|skip
    refine AY (α:=Nat) (l0:=?l2) (m0:=?m2) (fun x=>[(83,.d (.int .i64 (x:Int)))]) (fun x=>[(17,.cells (Hh c (s+1)))]) (fun x=>x<=s/\∀j,j<x->c.code.stm j≠c.code.stm s) (fun x=>s-x) 0 ?h02 ?he2 ?he22 ?hI2 ?step2
    case h02=>(simp -implicitDefEqProofs only[go_sem,GR,GQ];rfl)
    case he2=>rfl
    case he22=>rfl
    case' step2=>(rintro k hI2;try dsimp only at hI2)
    case' hI2=>try dsimp only
    ·exact⟨Nat.zero_le _,fun j hj=>by omega⟩
    ·obtain⟨k1,k2⟩:=hI2
     by_cases hk:k<s
     ·have hk':(k:Int)<(s:Int):=by omega
      have g1:=QO c (s:=s+1) (k:=k) (by omega) (by omega)
      have g2:=QO c (s:=s+1) (k:=s) (by omega) hs
      have hwk:IntKind.i64.wrap ((k:Int)+1)=((k+1:Nat):Int):=by rw[Ak _ (by omega)];omega
      have c8:=Jy false false (c.code.stm k) (c.code.stm s)
      by_cases he:c.code.stm k=c.code.stm s
      ·rw[decide_eq_true he] at c8
       obtain⟨o1,o2⟩:=H_ (hnok (eW hs hk he))
       rw[o1,o2]
       (try (simp -implicitDefEqProofs only[go_sem,hs',hk',hk,g1,g2,hl']));repeat' first|(with_reducible first|exact tI|refine aI ?_ ?_|intro _)|((first|with_reducible refine AM ?_ ?_<;>intro _|(with_reducible refine isCall ?_);first|refine AE c8 ?_)<;>try (simp -implicitDefEqProofs only[go_sem,hs',hk',hk,g1,g2,hl']))|simp (disch:=omega) only[An]|((with_reducible refine Ao ?_);refine⟨_,rfl,?_,?_⟩)
       all_goals first|omega|(simp;done)|(simp;omega)|skip
       all_goals first|rfl|skip
      ·rw[decide_eq_false he] at c8
       (try (simp -implicitDefEqProofs only[go_sem,hs',hk',hk,g1,g2,hl',hwk,GR,GQ]));repeat' first|(with_reducible first|exact tI|refine aI ?_ ?_|intro _)|((first|with_reducible refine AM ?_ ?_<;>intro _|(with_reducible refine isCall ?_);first|refine AE c8 ?_)<;>try (simp -implicitDefEqProofs only[go_sem,hs',hk',hk,g1,g2,hl',hwk,GR,GQ]))|simp (disch:=omega) only[An]|((with_reducible refine Ao ?_);refine⟨_,rfl,?_,?_⟩)
       all_goals first|omega|(simp;done)|(simp;omega)|skip
       rename_i j hj
       by_cases e:j=k
       ·rw[e];exact he
       ·exact k2 j (by omega)
     ·have hk':¬(k:Int)<(s:Int):=by omega
      have hds:=VW i2 fun j hj=>k2 j (by omega)
      (try (simp -implicitDefEqProofs only[go_sem,hk',hk,hws,hl',GR,GQ]));repeat' first|(with_reducible first|exact tI|refine aI ?_ ?_|intro _)|((first|with_reducible refine AM ?_ ?_<;>intro _)<;>try (simp -implicitDefEqProofs only[go_sem,hk',hk,hws,hl',GR,GQ]))|simp (disch:=omega) only[An]|((with_reducible refine Ao ?_);refine⟨_,rfl,?_,?_⟩)
      all_goals first|omega|(simp;done)|(simp;omega)|skip
      all_goals first|rfl|skip
   ·have hs16:s=16:=by omega
    subst hs16
    obtain⟨o1,o2⟩:=JN (hok i2)
    have hsn:=Wa c
    rw[o1,o2]
    (try (simp -implicitDefEqProofs only[go_sem,Xz,hsn]));repeat' first|(with_reducible first|exact tI|refine aI ?_ ?_|intro _)|((first|with_reducible refine AM ?_ ?_<;>intro _)<;>try (simp -implicitDefEqProofs only[go_sem,Xz,hsn]))|simp (disch:=omega) only[An]|((with_reducible refine Ao ?_);refine⟨_,rfl,?_,?_⟩)
    all_goals first|omega|(simp;done)|(simp;omega)|skip
    all_goals first|rfl|skip
 ·obtain⟨o1,o2⟩:=no (by
   rw[h1,h2,h4,h5]
   simp only[Bool.true_and,Cp]
   rw[Bool.and_eq_false_iff,decide_eq_false_iff_not,decide_eq_false_iff_not]
   omega)
  rw[o1,o2]
  refine AK C_ Aq (by simp) fun hwf=>?_
  rw[AW];unfold Cv
  (try (simp -implicitDefEqProofs only[go_sem,AO,AN,BU]));repeat' first|(with_reducible first|exact tI|refine aI ?_ ?_|intro _)|((first|with_reducible refine AM ?_ ?_<;>intro _|(with_reducible refine isCall ?_);first|refine AE c1 ?_|refine AE c2 ?_|refine AE c3 ?_|refine AE c4 ?_|refine AE (c5 _) ?_)<;>try (simp -implicitDefEqProofs only[go_sem,AO,AN,BU]))|simp (disch:=omega) only[An]|((with_reducible refine Ao ?_);refine⟨_,rfl,?_,?_⟩)
  all_goals first|omega|(simp;done)|(simp;omega)|skip
  all_goals first|rfl|skip
structure G6 (c:AX):Prop where
 code:c.code.ok=true
 wev:Cx c.L c.P c.Q=true
 ql:c.Q*c.L<=32
 mark:Ci c.mark=true
 seed:Cp c.seed 1 127=true
 errs:0<=c.errs/\c.errs<=16
 dst:Ky c.code 16=true
theorem FD {c:AX}(h:c.ok=true):G6 c:=by
 unfold AX.ok at h
 simp only[Bool.and_eq_true,decide_eq_true_eq,Cp] at h
 exact⟨h.1,h.2.1,h.2.2.1,h.2.2.2.1,by simp only[Cp,decide_eq_true_eq];exact h.2.2.2.2.1,h.2.2.2.2.2.1,h.2.2.2.2.2.2⟩
theorem G6.markl {c:AX}(h:G6 c):1<=c.mark.length/\c.mark.length<=16/\Ap c.mark=true:=by
 have h1:=h.mark
 simp only[Ci,Cp,Bool.and_eq_true,decide_eq_true_eq] at h1
 exact⟨by omega,by omega,h1.2⟩
theorem G6.syms {c:AX}(h:G6 c):2<=c.syms/\c.syms<=32/\c.Q*c.L=((c.syms:Nat):Int):=by
 have h1:=SB h.wev
 have h2:=Pe h.wev
 have h3:=h.ql
 omega
theorem G6.tot {c:AX}(h:G6 c):c.syms*c.code.sz<=640/\c.tot<=656:=by
 have h1:=h.syms;have h2:=HB h.code;have h3:=h.markl
 have:c.syms*c.code.sz<=32*20:=Nat.mul_le_mul h1.2.1 h2.2
 unfold AX.tot;omega
end
def D2:PC :=
 .seq (.reg [] (AH 4 .mov [.k (.d (.list true []))]::[]) [0,1,4]) (.seq (.reg [] (AH 5 .mov [.k (.d (.list true []))]::[]) [0,1,4,5]) (.seq (.seq (.reg [] (AA 14 1::AD 15 (.len false) 14::AL 16 0::[]) [0,4,5,14,15,16]) (.block 0 (.loop [.freeze 4,.own 5 30 3 1] [0,4,5,14,15,16] [30,39,10039,900000,900001,901000,901001,5000030,5000039,5010039] (.seq (.reg [] (AB 17 (.bin .lss) 16 15::[]) [0,4,5,14,15,16,17]) (.seq (.cond (.t 17) (.skip) (.exit 0)) (.seq (.block 1 (.seq (.reg [] (AB 18 (.iaddrS 1) 14 16::AG 19 1 18::AA 7 19::[]) [0,4,5,7,14,15,16]) (.seq (.reg [] (AL 8 3::[]) [0,4,5,7,8,14,15,16]) (.block 2 (.loop [.freeze 4,.own 5 30 3 1] [0,4,5,7,8,14,15,16] [30,39,10039,900000,900001,901000,901001,5000030,5000039,5010039] (.seq (.seq (.reg [] (AA 20 8::AQ 21 (.bin .geq) 20 0::[]) [0,4,5,7,8,14,15,16,21]) (.cond (.t 21) (.skip) (.exit 2))) (.seq (.block 3 (.reg [] (AA 24 5::AA 25 7::AA 26 8::AB 27 (.bin .shr) 25 26::AQ 28 (.bin .and) 27 1::AD 29 (.mkrow 1 (.int .i64 0) 1 [0]) 28::AB 30 (.app 3 1 none true) 24 29::AA 5 30::[]) [0,4,5,7,8,14,15,16])) (.reg [] (AA 22 8::AQ 23 (.bin .sub) 22 1::AA 8 23::[]) [0,4,5,7,8,14,15,16])))))))) (.reg [] (AQ 31 (.bin .add) 16 1::AA 16 31::[]) [0,4,5,14,15,16]))))))) (.seq (.reg [.freeze 5] (AA 33 0::AD 34 .nilck 33::AR 35 0 34::AR 36 10 35::AG 37 1 36::AA 38 5::AB 39 (.call 73) 37 38::AA 32 39::BO 40 0 32::BO 41 1 32::AA 5 40::[]) [4,5]) (.seq (.reg [] (AH 9 (.zero [.list true []]) []::[]) [4,5,9]) (.seq (.seq (.reg [.freeze 5] (AA 42 5::AQ 43 (.call 83) 42 4::[]) [4,9,43]) (.block 4 (.rngF [.freeze 4] (.t 43) [44] [4,9] [9,59,5000009,5000059] (.reg [] (AA 10 44::[]) [9,10]) [] [9,59,5000009,5000059] (.block 5 (.seq (.reg [] (AL 11 0::[]) [9,10,11]) (.seq (.seq (.reg [] (AA 45 10::AD 46 (.len false) 45::AL 47 0::[]) [9,11,45,46,47]) (.block 6 (.loop [] [9,11,45,46,47] [9,59,5000009,5000059] (.seq (.reg [] (AB 48 (.bin .lss) 47 46::[]) [9,11,45,46,47,48]) (.seq (.cond (.t 48) (.skip) (.exit 6)) (.seq (.block 7 (.seq (.reg [] (AB 49 (.iaddrS 1) 45 47::AG 50 1 49::AA 13 50::[]) [9,11,13,45,46,47]) (.reg [] (AA 51 11::AH 52 (.bin .mul) [.k (.d (.int .i64 2)),.t 51]::AA 53 13::AB 54 (.bin .add) 52 53::AA 11 54::[]) [9,11,45,46,47]))) (.reg [] (AQ 55 (.bin .add) 47 1::AA 47 55::[]) [9,11,45,46,47]))))))) (.reg [] (AG 56 1 9::AA 57 11::AD 58 (.mkrow 1 (.int .i64 0) 1 [0]) 57::AB 59 (.app 3 1 none true) 56 58::B3 (.store 1) [.t 9,.t 59]::[]) []))))))) (.seq (.reg [] (AG 60 1 9::AA 4 60::[]) [4]) (.ret)))))))
theorem GV:Cg E0 Eg D2 [.t 4] 61:=AI (fl:=[]) (by kernel_rfl)
def Eb:PC :=
 .seq (.reg [] (AH 4 .mov [.k (.d (.list true []))]::AL 5 0::[]) [0,1]) (.seq (.reg [] (AH 6 .mov [.k (.d (.list true []))]::[]) [0,1,6]) (.seq (.reg [] (AA 10 1::AD 11 (.call 41) 10::AA 7 11::[]) [0,6,7]) (.seq (.seq (.reg [] (AA 12 7::AD 13 (.len false) 12::AL 14 0::[]) [0,6,7,12,13,14]) (.block 0 (.loop [.own 6 24 3 1] [0,6,7,12,13,14] [11,24,10011,900000,901000] (.seq (.reg [] (AB 15 (.bin .lss) 14 13::[]) [0,6,7,12,13,14,15]) (.seq (.cond (.t 15) (.skip) (.exit 0)) (.seq (.block 1 (.seq (.reg [] (AA 16 14::AB 17 (.iaddrS 1) 12 14::AG 18 1 17::AA 8 16::AA 9 18::[]) [0,6,7,8,9,12,13,14]) (.seq (.reg [] (AA 19 9::AQ 20 (.bin .eql) 19 (-1)::[]) [0,6,7,8,12,13,14,20]) (.cond (.t 20) (.seq (.reg [] (AA 21 6::AA 22 8::AD 23 (.mkrow 1 (.int .i64 0) 1 [0]) 22::AB 24 (.app 3 1 none true) 21 23::AA 6 24::[]) [0,6,7,8,12,13,14]) (.reg [] (AA 25 7::AA 26 8::AB 27 (.iaddrS 1) 25 26::B3 (.store 1) [.t 27,.k (.d (.int .i64 0))]::[]) [0,6,7,12,13,14])) (.skip))))) (.reg [] (AQ 28 (.bin .add) 14 1::AA 14 28::[]) [0,6,7,12,13,14]))))))) (.seq (.draw [.freeze 6,.freeze 7] ((AA 29 0,[])::(AD 30 .nilck 29,[])::(AR 31 0 30,[])::(AR 32 6 31,[])::(AD 33 (.load true 3) 32,[])::(AA 34 0,[])::(AA 35 7,[])::(AB 36 (.call 42) 34 35,[4])::(AA 37 6,[])::(AH 38 (.call 88) [.t 33,.t 36,.t 37],[])::(BO 39 0 38,[])::(BO 40 1 38,[])::(AA 4 39,[])::(AA 5 40,[])::[]) [4,5]) (.ret)))))
theorem G4:Cg E0 FB Eb [.t 4,.t 5] 41:=AI (fl:=[]) (by kernel_rfl)
end Go.Pw
