/- A part of the proof. -/
import Derived.Test.YtibkjeolahobbaaDoorCdChD
import Derived.Test.YtibkjeolahobbaaDoorPgCdChrN
import Derived.Test.YtibkjeolahobbaaDoorPgCdChrBw
import Derived.Test.YtibkjeolahobbaaDoorPwYa
import Derived.Test.YtibkjeolahobbaaDoorCdPC
set_option linter.all false
section
open Go Go.Pw Go.Proofs
namespace Go.Pw
set_option maxRecDepth 100000
set_option maxHeartbeats 1600000
theorem Uf {E:Co} {rs o els s}:j9 E rs o els .ret s=(Hh E s rs (fun _=>True)/\NH els (s.V.ob o)):=rfl
theorem O3 {E:Co} {rs o els s}:j9 E rs o els .normal s=(Hh E s rs (fun _=>True)/\NH els (s.V.ob o)):=rfl
theorem G2 {els g e n st}:NH els (some (g,.hist e n st))=(e=els/\(st=true\/n=els.length)):=rfl
def mW (n m:Nat) (xs:List Int):List (List Int):=(List.range m).map fun i=>(xs.drop (i*n)).take n
theorem iq (n m:Nat) (xs:List Int):(mW n m xs).length=m:=by simp[mW]
theorem ir {n m:Nat}(xs:List Int) {i:Nat}(h:i<m):(mW n m xs)[i]?=some ((xs.drop (i*n)).take n):=by simp[mW,h]
def Xl (n m:Nat) (xs:List Int):List (List D):=(mW n m xs).map fun p=>[.list false (Al p)]
theorem K8 (n m:Nat) (xs:List Int):(Xl n m xs).length=m:=by simp[Xl,iq]
theorem Qq {n m:Nat}(xs:List Int) {i:Nat}(h:i<m):(Xl n m xs)[i]?=some [.list false (Al ((xs.drop (i*n)).take n))]:=by simp[Xl,ir xs h]
theorem aZ:DM.noR=true:=by rfl
attribute [local congr] Bi A9 A_ Aq Bj Ax Az Ay Ap Aj Ad AY Au Ae Av BH BL BJ BK BI BM BE Ah Aw Ai BC BS Ag BF BG BD BA BB A8 Bl A' Ar Af
attribute [local irreducible] IntKind.wrap A3 Option.getD and or
theorem Ek (n1 n2:Bool) (xs ys:List Int) (hx:Ab xs=true) (hy:Ab ys=true) (hl:xs.length<=ys.length) (h128:xs.length<=1000000) :
  CK E0 Hf [.list n1 (Al xs),.list n2 (Al ys)] (.int .i64 (Bv xs ys)):=by
 refine AM K5 A0 (by simp) fun hwf=>?_
 rw[AU];unfold Gx
 simp -implicitDefEqProofs only[go_sem]
 refine AZ (α:=Int×Int) (l0:=?l1) (m0:=?m1) (fun x=>[(8,.d (.int .i64 x.1)),(4,.d (.int .i64 x.2))]) (fun x=>[]) (fun x=>0<=x.1/\x.1<=xs.length/\0<=x.2/\x.2<=x.1/\x.2+Bv (xs.drop x.1.toNat) (ys.drop x.1.toNat)=Bv xs ys) (fun x=>(xs.length-x.1).toNat) (?a1_0,?a1_1) ?h01 ?he1 ?he21 ?hI1 ?step1
 case h01=>(simp -implicitDefEqProofs only[go_sem];rfl)
 case he1=>rfl
 case he21=>rfl
 case' step1=>(rintro⟨i,n⟩ hI;try dsimp only at hI)
 case' hI1=>try dsimp only
 ·simp
 ·by_cases hi:i<xs.length
  ·obtain⟨e,he⟩:∃e:Int,(if xs[i.toNat]?.getD 0=ys[i.toNat]?.getD 0 then 0 else 1)=e:=⟨_,rfl⟩
   have hxor:=Pg (Df hx (i:=i.toNat) (by omega)) (Df hy (i:=i.toNat) (by omega))
   have hd:Bv (xs.drop i.toNat) (ys.drop i.toNat)=e+Bv (xs.drop (i+1).toNat) (ys.drop (i+1).toNat):=by
    rw[HL (xs:=xs) (i:=i.toNat) (by omega),HL (xs:=ys) (i:=i.toNat) (by omega),Bv,he,show (i+1).toNat=i.toNat+1 by omega]
   rw[he] at hxor
   have he1:e=0\/e=1:=by rw[←he];split<;>simp
   (try (simp -implicitDefEqProofs only[go_sem]));repeat' first|(with_reducible first|exact tI|refine aI ?_ ?_|intro _)|((first|with_reducible refine AO ?_ ?_<;>intro _)<;>try (simp -implicitDefEqProofs only[go_sem]))|simp (disch:=omega) only[An]|((with_reducible refine Ao ?_);refine⟨(_,_),rfl,?_,?_⟩)
   all_goals (try simp only[hxor])
   all_goals (try rw[Ak _ (by omega)])
   all_goals omega
  ·(try (simp -implicitDefEqProofs only[go_sem]));repeat' first|(with_reducible first|exact tI|refine aI ?_ ?_|intro _)|((first|with_reducible refine AO ?_ ?_<;>intro _)<;>try (simp -implicitDefEqProofs only[go_sem]))|simp (disch:=omega) only[An]|((with_reducible refine Ao ?_);refine⟨(_,_),rfl,?_,?_⟩)
   all_goals first|omega|(simp;done)|(simp;omega)|skip
   have h0:xs.drop i.toNat=[]:=List.drop_eq_nil_of_le (by omega)
   have h1:Bv [] (ys.drop i.toNat)=0:=by simp[Bv]
   rw[h0,h1] at hI
   rw[←hI.2.2.2.2];simp
theorem Sb (nl:Bool) (xs:List Int) (n m:Nat) (hn:0<n) (hm:xs.length=m*n) (hb:xs.length<=1000000) (hnl:nl=false) :
  al E0 Cm [] [.ptr [.list nl (Al xs)],.ptr [.int .i64 (n:Int)]] (Xl n m xs):=by
 subst hnl
 refine Wd HN A0 aZ (by simp) fun hwf _=>?_
 rw[EJ];unfold DM
 (try (simp -implicitDefEqProofs only[go_sem]));repeat' first|(with_reducible first|exact tI|refine aI ?_ ?_|intro _)|((first|with_reducible refine AO ?_ ?_<;>intro _)<;>try (simp -implicitDefEqProofs only[go_sem]))|simp (disch:=omega) only[An]|((with_reducible refine Ao ?_);refine⟨(_,_),rfl,?_,?_⟩)
 all_goals first|omega|(simp;done)|(simp;omega)|skip
 refine AZ (α:=Nat×Int) (l0:=?l2) (m0:=?m2) (fun x=>[(4,.d (.int .i64 x.2))]) (fun x=>[(900000,.hist (Xl n m xs) x.1 false)]) (fun x=>x.1<=m/\x.2=((x.1*n:Nat):Int)) (fun x=>m-x.1) (0,0) ?h02 ?he2 ?he22 ?hI2 ?step2
 case h02=>(simp -implicitDefEqProofs only[go_sem];rfl)
 case he2=>rfl
 case he22=>rfl
 case' step2=>(rintro⟨i,a⟩ hI;try dsimp only at hI)
 case' hI2=>try dsimp only
 ·exact⟨Nat.zero_le _,by simp⟩
 ·obtain⟨i1,i2⟩:=hI
  change a=((i*n:Nat):Int) at i2
  subst i2
  by_cases hi:i<m
  ·have h1:i*n+n<=m*n:=by have:=Nat.mul_le_mul_right n (show i+1<=m by omega);rw[Nat.add_mul,Nat.one_mul] at this;exact this
   have h2:((i*n:Nat):Int)<(xs.length:Int):=by omega
   have wa:IntKind.i64.wrap (((i*n:Nat):Int)+(n:Int))=((i*n+n:Nat):Int):=by rw[Ak _ (by omega)];push_cast;rfl
   have hg:=Qq (n:=n) xs hi
   have hmn:min (n:Int) ((xs.drop (i*n)).length:Int)=(n:Int):=by rw[List.length_drop];omega
   (try (simp -implicitDefEqProofs only[go_sem,h2,wa,hg,hmn,Uf,G2]));repeat' first|(with_reducible first|exact tI|refine aI ?_ ?_|intro _)|((first|with_reducible refine AO ?_ ?_<;>intro _)<;>try (simp -implicitDefEqProofs only[go_sem,h2,wa,hg,hmn,Uf,G2]))|simp (disch:=omega) only[An]|((with_reducible refine Ao ?_);refine⟨(_,_),rfl,?_,?_⟩)
   all_goals first|omega|(simp;done)|(simp;omega)|skip
   rw[Nat.add_mul,Nat.one_mul]
  ·have h2:¬((i*n:Nat):Int)<(xs.length:Int):=by
    have:m*n<=i*n:=Nat.mul_le_mul_right n (by omega)
    omega
   have him:i=(Xl n m xs).length:=by rw[K8];omega
   (try (simp -implicitDefEqProofs only[go_sem,h2,O3,G2]));repeat' first|(with_reducible first|exact tI|refine aI ?_ ?_|intro _)|((first|with_reducible refine AO ?_ ?_<;>intro _)<;>try (simp -implicitDefEqProofs only[go_sem,h2,O3,G2]))|simp (disch:=omega) only[An]|((with_reducible refine Ao ?_);refine⟨(_,_),rfl,?_,?_⟩)
   all_goals first|omega|(simp;done)|(simp;omega)|skip
theorem Sc (nl:Bool) (xs:List Int) (n:Nat) (hn:0<n):CK E0 Fu [.list nl (Al xs),.int .i64 (n:Int)] (.fn Cm [.ptr [.list nl (Al xs)],.ptr [.int .i64 (n:Int)]]):=by
 refine AM IH A0 (by simp) fun hwf=>?_
 rw[AU];unfold FT
 have h1:¬(n:Int)<1:=by omega
 (try (simp -implicitDefEqProofs only[go_sem,h1]));repeat' first|(with_reducible first|exact tI|refine aI ?_ ?_|intro _)|((first|with_reducible refine AO ?_ ?_<;>intro _)<;>try (simp -implicitDefEqProofs only[go_sem,h1]))|simp (disch:=omega) only[An]
 all_goals first|rfl|skip
theorem XN (n1 n2:Bool) (xs ys:List Int):CK E0 Cn [.list n1 (Al xs),.ptr [.list n2 (Al ys)]] (.bool (decide (xs=ys))):=by
 have c1:=Jz n1 n2 xs ys
 refine AM HQ A0 (by simp) fun hwf=>?_
 rw[AU];unfold Ew
 (try (simp -implicitDefEqProofs only[go_sem]));repeat' first|(with_reducible first|exact tI|refine aI ?_ ?_|intro _)|((first|with_reducible refine AO ?_ ?_<;>intro _|(with_reducible refine isCall ?_);first|refine AE c1 ?_)<;>try (simp -implicitDefEqProofs only[go_sem]))|simp (disch:=omega) only[An]
 all_goals (rename_i h;rw[h])
end Go.Pw
end
section
open Go Go.Pw Go.Proofs
namespace Go.Pw
set_option maxRecDepth 100000
set_option maxHeartbeats 3200000
def fY (c:AQ) (s:Nat):List D:=(List.range 16).map fun k=>if k<s then .list false (Al (c.stm k)) else .list true []
theorem fX (c:AQ) (s:Nat):(fY c s).length=16:=by simp[fY]
theorem jw (c:AQ):fY c 16=F2 c:=by
 unfold fY F2
 apply List.map_congr_left
 intro k hk
 rw[if_pos (by simpa using hk)]
def Hj (c:AX) (s:Nat):List AV:=(Rd c (fY c.code s)).map AV.d
theorem QJ (c:AX) (s:Nat):(Hj c s).length=28:=by
 unfold Hj Rd;simp[fX]
theorem QK (c:AX) {s k:Nat}(h:k<s) (h16:k<16):(Hj c s)[12+k]?=some (.d (.list false (Al (c.code.stm k)))):=by
 unfold Hj Rd
 rw[List.getElem?_map,QT]
 simp[fY,h,h16]
theorem ZR (c:AX) {s:Nat}(h:s<16):List.take (12+s) (Hj c s)++[.d (.list false (Al (c.code.stm s)))]++List.drop (12+s+1) (Hj c s)=Hj c (s+1):=by
 apply List.ext_getElem?
 intro i
 have hl:=QJ c s
 rcases Nat.lt_trichotomy i (12+s) with h1|h1|h1
 ·rw[List.append_assoc,List.getElem?_append_left (by rw[List.length_take];omega),List.getElem?_take_of_lt h1]
  unfold Hj
  rw[List.getElem?_map,List.getElem?_map]
  congr 1
  unfold Rd
  by_cases h2:i<12
  ·match i,h2 with
   |0,_=>rfl|1,_=>rfl|2,_=>rfl|3,_=>rfl|4,_=>rfl|5,_=>rfl|6,_=>rfl|7,_=>rfl|8,_=>rfl|9,_=>rfl|10,_=>rfl|11,_=>rfl
  ·obtain⟨k,rfl⟩:∃k,i=12+k:=⟨i-12,by omega⟩
   rw[QT,QT]
   simp only[fY,List.getElem?_map]
   rw[List.getElem?_range (by omega)]
   simp only[Option.map_some]
   rw[if_pos (by omega),if_pos (by omega)]
 ·subst h1
  rw[List.append_assoc,List.getElem?_append_right (by rw[List.length_take];omega),List.length_take,QK c (by omega) h]
  rw[show 12+s-min (12+s) (Hj c s).length=0 by omega]
  rfl
 ·rw[List.getElem?_append_right (by rw[List.length_append,List.length_take];simp;omega),List.length_append,List.length_take,List.getElem?_drop]
  rw[show 12+s+1+(i-(min (12+s) (Hj c s).length+[AV.d (.list false (Al (c.code.stm s)))].length))=i by simp;omega]
  unfold Hj
  rw[List.getElem?_map,List.getElem?_map]
  congr 1
  unfold Rd
  obtain⟨k,rfl⟩:∃k,i=12+k:=⟨i-12,by omega⟩
  rw[QT,QT]
  simp only[fY,List.getElem?_map]
  by_cases h3:k<16
  ·rw[List.getElem?_range h3]
   simp only[Option.map_some]
   rw[if_neg (by omega),if_neg (by omega)]
  ·rw[List.getElem?_eq_none (by simp;omega)];rfl
theorem kT (c:AX):Hj c 0=[.d (.int .i64 c.code.bits),.d (.int .i64 c.code.out),.d (.int .i64 c.code.least),.d (.int .i64 c.code.most),.d (.list c.code.nw (GN c.code.words)),.d (.list c.code.nn (GN c.code.next)),.d (.int .i64 c.L),.d (.int .i64 c.P),.d (.int .i64 c.Q),.d (.list c.nm (Al c.mark)),.d (.int .i64 c.seed),.d (.int .i64 c.errs),.d (.list true []),.d (.list true []),.d (.list true []),.d (.list true []),.d (.list true []),.d (.list true []),.d (.list true []),.d (.list true []),.d (.list true []),.d (.list true []),.d (.list true []),.d (.list true []),.d (.list true []),.d (.list true []),.d (.list true []),.d (.list true [])]:=rfl
theorem gu {xs:List D}(h:∀x,x∈xs->(AV.d x).toD1=some x):A7 AV.toD1 (xs.map AV.d)=some xs:=by
 induction xs with
 |nil=>rfl
 |cons x xs ih =>
  simp only[List.map_cons,A7,h x (by simp),ih fun y hy=>h y (by simp[hy])]
theorem ZS (c:AX):A7 AV.toD1 (Hj c 16)=some (Rd c (F2 c.code)):=by
 unfold Hj;rw[jw]
 refine gu fun x hx=>?_
 simp only[Rd,List.mem_cons] at hx
 rcases hx with rfl|rfl|rfl|rfl|rfl|rfl|rfl|rfl|rfl|rfl|rfl|rfl|hx
 all_goals first|rfl|skip
 simp only[F2,List.mem_map] at hx
 obtain⟨k,_,rfl⟩:=hx
 rfl
theorem X5 {V:AJ}{o g:Nat}:AV.snap V (.ptr o g 0)=match V.get o g with
 |some (.cells xs)=>match A7 AV.toD1 xs with|some (c::l)=>some (.ptr (c::l))|_=>none
 |_=>none:=rfl
theorem Wk (c:AX):(match A7 AV.toD1 (Hj c 16) with|some (c::l)=>some (D.ptr (c::l))|_=>none)=some (.ptr (Rd c (F2 c.code))):=by rw[ZS];rfl
theorem Ve {c:AQ}{s:Nat}(h:Ky c s=true) (h2:∀k,k<s->c.stm k≠c.stm s):Ky c (s+1)=true:=by
 rw[TZ] at h ⊢
 intro a b ha hb
 by_cases e:a=s
 ·subst e;exact h2 b hb
 ·exact h a b (by omega) hb
theorem eM {c:AQ}{s k:Nat}(hs:s<16) (hk:k<s) (e:c.stm k=c.stm s):Ky c 16=false:=by
 cases h:Ky c 16 with
 |false=>rfl
 |true=>exact absurd e (TZ.1 h s k hs hk)
theorem GV (V:AJ) (os:List Nat) (c:AX) (s:Nat):List.map (AV.nrm V os) (Hj c s)=Hj c s:=by
 unfold Hj
 rw[List.map_map]
 exact List.map_congr_left fun x _=>rfl
theorem GU (c:AX) (s:Nat):(Hj c s).all AV.one=true:=by
 rw[List.all_eq_true]
 intro x hx
 simp only[Hj,List.mem_map,Rd,List.mem_cons] at hx
 obtain⟨y,hy,rfl⟩:=hx
 rcases hy with rfl|rfl|rfl|rfl|rfl|rfl|rfl|rfl|rfl|rfl|rfl|rfl|hy
 all_goals first|rfl|skip
 simp only[fY,List.mem_map] at hy
 obtain⟨k,_,rfl⟩:=hy
 split<;>rfl
def cT (c:AX):D:=if c.ok=true then .ptr (Rd c (F2 c.code)) else .nilptr
def OV (c:AX):Int:=if c.ok=true then 0 else 130
theorem GE {c:AX}(h:c.ok=true):cT c=.ptr (Rd c (F2 c.code))/\OV c=0:=by unfold cT OV;rw[if_pos h,if_pos h];exact⟨rfl,rfl⟩
theorem HH {c:AX}(h:c.ok=false):cT c=.nilptr/\OV c=130:=by unfold cT OV;rw[if_neg (by simp[h]),if_neg (by simp[h])];exact⟨rfl,rfl⟩
theorem d7 (mark:List Int):(Ku mark [] 0).2=if Cl mark=true then 0 else 1:=by
 unfold Ku
 cases Cl mark<;>rfl
theorem ZF (s:Int):(Jg s []).2=if Cq s 1 127=true then 0 else 1:=by
 unfold Jg Eo
 cases Cq s 1 127<;>rfl
attribute [local congr] Bi A9 A_ Aq Bj Ax Az Ay Ap Aj Ad AY Au Ae Av BH BL BJ BK BI BM BE Ah Aw Ai BC BS Ag BF BG BD BA BB A8 Bl A' Ar Af
attribute [local irreducible] IntKind.wrap A3 Option.getD and or
theorem D1 (c:AX):CK E0 LM [FG c] (.tup [cT c,.int .i64 (OV c)]):=by
 have c1:=J0 c.code
 have c2:=Np c.L c.P c.Q
 have c3:=Qo c.nm true c.mark [] 0
 have c4:=FP c.seed true []
 have f1:=d7 c.mark
 have f2:=ZF c.seed
 obtain⟨fl,hfl⟩:∃x,Ku c.mark [] 0=x:=⟨_,rfl⟩
 obtain⟨sl,hsl⟩:∃x,Jg c.seed []=x:=⟨_,rfl⟩
 rw[hfl] at c3 f1
 rw[hsl] at c4 f2
 rw[f1] at c3
 rw[f2] at c4
 have e1:c.code.ok=false->Kx c.code.ok 40=40:=fun h=>by rw[h];rfl
 have e0:c.code.ok=true->Kx c.code.ok 40=0:=fun h=>by rw[h];rfl
 have no:(c.code.ok && (Cv c.L c.P c.Q && (decide (c.Q*c.L<=32) && (Cl c.mark && (Cq c.seed 1 127 && Cq c.errs 0 16)))))=false->cT c=.nilptr/\OV c=130:=fun h=>HH (by
  unfold AX.ok
  cases h1:c.code.ok<;>cases h2:Cv c.L c.P c.Q<;>cases h3:decide (c.Q*c.L<=32)<;>cases h4:Cl c.mark<;>cases h5:Cq c.seed 1 127<;>cases h6:Cq c.errs 0 16<;>simp_all)
 cases h1:c.code.ok with
 |false =>
  obtain⟨o1,o2⟩:=no (by simp only[h1,Bool.false_and])
  rw[o1,o2];rw[e1 h1] at c1
  refine AM DA A0 (by simp) fun hwf=>?_
  rw[AU];unfold C0
  (try (simp -implicitDefEqProofs only[go_sem,AI,AH,BQ]));repeat' first|(with_reducible first|exact tI|refine aI ?_ ?_|intro _)|((first|with_reducible refine AO ?_ ?_<;>intro _|(with_reducible refine isCall ?_);first|refine AE c1 ?_|refine AE c2 ?_|refine AE c3 ?_|refine AE c4 ?_)<;>try (simp -implicitDefEqProofs only[go_sem,AI,AH,BQ]))|simp (disch:=omega) only[An]|((with_reducible refine A5 ?_);refine⟨_,rfl,?_,?_⟩)
  all_goals first|rfl|skip
 |true =>
 rw[e0 h1] at c1
 cases h2:Cv c.L c.P c.Q with
 |false =>
  obtain⟨o1,o2⟩:=no (by simp only[h1,h2,Bool.true_and,Bool.false_and])
  rw[o1,o2];rw[h2] at c2;simp only[Bool.false_eq_true,if_false] at c2
  refine AM DA A0 (by simp) fun hwf=>?_
  rw[AU];unfold C0
  (try (simp -implicitDefEqProofs only[go_sem,AI,AH,BQ]));repeat' first|(with_reducible first|exact tI|refine aI ?_ ?_|intro _)|((first|with_reducible refine AO ?_ ?_<;>intro _|(with_reducible refine isCall ?_);first|refine AE c1 ?_|refine AE c2 ?_|refine AE c3 ?_|refine AE c4 ?_)<;>try (simp -implicitDefEqProofs only[go_sem,AI,AH,BQ]))|simp (disch:=omega) only[An]|((with_reducible refine A5 ?_);refine⟨_,rfl,?_,?_⟩)
  all_goals first|rfl|skip
 |true =>
 rw[h2] at c2;simp only[if_true] at c2
 cases h4:Cl c.mark with
 |false =>
  obtain⟨o1,o2⟩:=no (by simp only[h1,h2,h4,Bool.true_and,Bool.false_and,Bool.and_false])
  rw[o1,o2];rw[h4] at c3;simp only[Bool.false_eq_true,if_false] at c3
  refine AM DA A0 (by simp) fun hwf=>?_
  rw[AU];unfold C0
  (try (simp -implicitDefEqProofs only[go_sem,AI,AH,BQ]));repeat' first|(with_reducible first|exact tI|refine aI ?_ ?_|intro _)|((first|with_reducible refine AO ?_ ?_<;>intro _|(with_reducible refine isCall ?_);first|refine AE c1 ?_|refine AE c2 ?_|refine AE c3 ?_|refine AE c4 ?_)<;>try (simp -implicitDefEqProofs only[go_sem,AI,AH,BQ]))|simp (disch:=omega) only[An]|((with_reducible refine A5 ?_);refine⟨_,rfl,?_,?_⟩)
  all_goals first|rfl|skip
 |true =>
 rw[h4] at c3;simp only[if_true] at c3
 cases h5:Cq c.seed 1 127 with
 |false =>
  obtain⟨o1,o2⟩:=no (by simp only[h1,h2,h4,h5,Bool.true_and,Bool.false_and,Bool.and_false])
  rw[o1,o2];rw[h5] at c4;simp only[Bool.false_eq_true,if_false] at c4
  refine AM DA A0 (by simp) fun hwf=>?_
  rw[AU];unfold C0
  (try (simp -implicitDefEqProofs only[go_sem,AI,AH,BQ]));repeat' first|(with_reducible first|exact tI|refine aI ?_ ?_|intro _)|((first|with_reducible refine AO ?_ ?_<;>intro _|(with_reducible refine isCall ?_);first|refine AE c1 ?_|refine AE c2 ?_|refine AE c3 ?_|refine AE c4 ?_)<;>try (simp -implicitDefEqProofs only[go_sem,AI,AH,BQ]))|simp (disch:=omega) only[An]|((with_reducible refine A5 ?_);refine⟨_,rfl,?_,?_⟩)
  all_goals first|rfl|skip
 |true =>
 rw[h5] at c4;simp only[if_true] at c4
 have c5:=fun r=>E6 c r h2
 by_cases h3:c.Q*c.L<=32/\0<=c.errs/\c.errs<=16
 ·obtain⟨h3,h6,h7⟩:=h3
  have n3:¬32<c.Q*c.L:=by omega
  have n6:¬c.errs<0:=by omega
  have n7:¬16<c.errs:=by omega
  have h6i:Cq c.errs 0 16=true:=by simp only[Cq,decide_eq_true_eq];omega
  have hok:Ky c.code 16=true->c.ok=true:=fun h=>by
   unfold AX.ok;rw[h1,h2,decide_eq_true h3,h4,h5,h6i,h];simp only[Bool.and_self]
  have hnok:Ky c.code 16=false->c.ok=false:=fun h=>by
   unfold AX.ok;rw[h,Bool.and_false,Bool.and_false,Bool.and_false,Bool.and_false,Bool.and_false,Bool.and_false]
  have hce:=fun(s:Nat)=>I5 c.code 0 false (JD c.code.bits.toNat s)
  have hse:=fun(s:Nat)=>DR (Sl h1 s)
  simp only[YX h1,hse] at hce
  refine AM DA A0 (by simp) fun hwf=>?_
  rw[AU];unfold C0
  (try (simp -implicitDefEqProofs only[go_sem,AI,AH,BQ,n3,n6,n7]));repeat' first|(with_reducible first|exact tI|refine aI ?_ ?_|intro _)|((first|with_reducible refine AO ?_ ?_<;>intro _|(with_reducible refine isCall ?_);first|refine AE c1 ?_|refine AE c2 ?_|refine AE c3 ?_|refine AE c4 ?_|refine AE (c5 _) ?_)<;>try (simp -implicitDefEqProofs only[go_sem,AI,AH,BQ,n3,n6,n7]))|simp (disch:=omega) only[An]|((with_reducible refine A5 ?_);refine⟨_,rfl,?_,?_⟩)
  all_goals first|omega|(simp;done)|(simp;omega)|skip
  rw[←kT]
  refine AZ (α:=Nat) (l0:=?l1) (m0:=?m1) (fun x=>[(58,.d (.int .i64 (x:Int)))]) (fun x=>[(17,.cells (Hj c x))]) (fun x=>x<=16/\Ky c.code x=true) (fun x=>16-x) 0 ?h01 ?he1 ?he21 ?hI1 ?step1
  case h01=>(simp -implicitDefEqProofs only[go_sem,GV,GU];rfl)
  case he1=>rfl
  case he21=>rfl
  case' step1=>(rintro s hI;try dsimp only at hI)
  case' hI1=>try dsimp only
  ·exact⟨Nat.zero_le _,rfl⟩
  ·obtain⟨i1,i2⟩:=hI
   by_cases hs:s<16
   ·have hs':(s:Int)<16:=by omega
    have c6:=Nt c.code h1 s hs
    have c7:=hce s
    have hst:=ZR c hs
    have hl:=QJ c s
    have hl':=QJ c (s+1)
    have hi28:12+s<28:=by omega
    have hws:IntKind.i64.wrap ((s:Int)+1)=((s+1:Nat):Int):=by rw[Ak _ (by omega)];omega
    (try (simp -implicitDefEqProofs only[go_sem,BO,A6,hs',hst,hl,hi28,GV,GU]));repeat' first|(with_reducible first|exact tI|refine aI ?_ ?_|intro _)|((first|with_reducible refine AO ?_ ?_<;>intro _|(with_reducible refine isCall ?_);first|refine AE c6 ?_|refine AE c7 ?_)<;>try (simp -implicitDefEqProofs only[go_sem,BO,A6,hs',hst,hl,hi28,GV,GU]))|simp (disch:=omega) only[An]|((with_reducible refine A5 ?_);refine⟨_,rfl,?_,?_⟩)
    all_goals first|omega|(simp;done)|(simp;omega)|skip
    refine AZ (α:=Nat) (l0:=?l2) (m0:=?m2) (fun x=>[(83,.d (.int .i64 (x:Int)))]) (fun x=>[(17,.cells (Hj c (s+1)))]) (fun x=>x<=s/\∀j,j<x->c.code.stm j≠c.code.stm s) (fun x=>s-x) 0 ?h02 ?he2 ?he22 ?hI2 ?step2
    case h02=>(simp -implicitDefEqProofs only[go_sem,GV,GU];rfl)
    case he2=>rfl
    case he22=>rfl
    case' step2=>(rintro k hI2;try dsimp only at hI2)
    case' hI2=>try dsimp only
    ·exact⟨Nat.zero_le _,fun j hj=>by omega⟩
    ·obtain⟨k1,k2⟩:=hI2
     by_cases hk:k<s
     ·have hk':(k:Int)<(s:Int):=by omega
      have g1:=QK c (s:=s+1) (k:=k) (by omega) (by omega)
      have g2:=QK c (s:=s+1) (k:=s) (by omega) hs
      have hwk:IntKind.i64.wrap ((k:Int)+1)=((k+1:Nat):Int):=by rw[Ak _ (by omega)];omega
      have c8:=Jz false false (c.code.stm k) (c.code.stm s)
      by_cases he:c.code.stm k=c.code.stm s
      ·rw[decide_eq_true he] at c8
       obtain⟨o1,o2⟩:=HH (hnok (eM hs hk he))
       rw[o1,o2]
       (try (simp -implicitDefEqProofs only[go_sem,hs',hk',hk,g1,g2,hl']));repeat' first|(with_reducible first|exact tI|refine aI ?_ ?_|intro _)|((first|with_reducible refine AO ?_ ?_<;>intro _|(with_reducible refine isCall ?_);first|refine AE c8 ?_)<;>try (simp -implicitDefEqProofs only[go_sem,hs',hk',hk,g1,g2,hl']))|simp (disch:=omega) only[An]|((with_reducible refine A5 ?_);refine⟨_,rfl,?_,?_⟩)
       all_goals first|omega|(simp;done)|(simp;omega)|skip
       all_goals first|rfl|skip
      ·rw[decide_eq_false he] at c8
       (try (simp -implicitDefEqProofs only[go_sem,hs',hk',hk,g1,g2,hl',hwk,GV,GU]));repeat' first|(with_reducible first|exact tI|refine aI ?_ ?_|intro _)|((first|with_reducible refine AO ?_ ?_<;>intro _|(with_reducible refine isCall ?_);first|refine AE c8 ?_)<;>try (simp -implicitDefEqProofs only[go_sem,hs',hk',hk,g1,g2,hl',hwk,GV,GU]))|simp (disch:=omega) only[An]|((with_reducible refine A5 ?_);refine⟨_,rfl,?_,?_⟩)
       all_goals first|omega|(simp;done)|(simp;omega)|skip
       rename_i j hj
       by_cases e:j=k
       ·rw[e];exact he
       ·exact k2 j (by omega)
     ·have hk':¬(k:Int)<(s:Int):=by omega
      have hds:=Ve i2 fun j hj=>k2 j (by omega)
      (try (simp -implicitDefEqProofs only[go_sem,hk',hk,hws,hl',GV,GU]));repeat' first|(with_reducible first|exact tI|refine aI ?_ ?_|intro _)|((first|with_reducible refine AO ?_ ?_<;>intro _)<;>try (simp -implicitDefEqProofs only[go_sem,hk',hk,hws,hl',GV,GU]))|simp (disch:=omega) only[An]|((with_reducible refine A5 ?_);refine⟨_,rfl,?_,?_⟩)
      all_goals first|omega|(simp;done)|(simp;omega)|skip
      all_goals first|rfl|skip
   ·have hs16:s=16:=by omega
    subst hs16
    obtain⟨o1,o2⟩:=GE (hok i2)
    have hsn:=Wk c
    rw[o1,o2]
    (try (simp -implicitDefEqProofs only[go_sem,X5,hsn]));repeat' first|(with_reducible first|exact tI|refine aI ?_ ?_|intro _)|((first|with_reducible refine AO ?_ ?_<;>intro _)<;>try (simp -implicitDefEqProofs only[go_sem,X5,hsn]))|simp (disch:=omega) only[An]|((with_reducible refine A5 ?_);refine⟨_,rfl,?_,?_⟩)
    all_goals first|omega|(simp;done)|(simp;omega)|skip
    all_goals first|rfl|skip
 ·obtain⟨o1,o2⟩:=no (by
   rw[h1,h2,h4,h5]
   simp only[Bool.true_and,Cq]
   rw[Bool.and_eq_false_iff,decide_eq_false_iff_not,decide_eq_false_iff_not]
   omega)
  rw[o1,o2]
  refine AM DA A0 (by simp) fun hwf=>?_
  rw[AU];unfold C0
  (try (simp -implicitDefEqProofs only[go_sem,AI,AH,BQ]));repeat' first|(with_reducible first|exact tI|refine aI ?_ ?_|intro _)|((first|with_reducible refine AO ?_ ?_<;>intro _|(with_reducible refine isCall ?_);first|refine AE c1 ?_|refine AE c2 ?_|refine AE c3 ?_|refine AE c4 ?_|refine AE (c5 _) ?_)<;>try (simp -implicitDefEqProofs only[go_sem,AI,AH,BQ]))|simp (disch:=omega) only[An]|((with_reducible refine A5 ?_);refine⟨_,rfl,?_,?_⟩)
  all_goals first|omega|(simp;done)|(simp;omega)|skip
  all_goals first|rfl|skip
structure Ff (c:AX):Prop where
 code:c.code.ok=true
 wev:Cv c.L c.P c.Q=true
 ql:c.Q*c.L<=32
 mark:Cl c.mark=true
 seed:Cq c.seed 1 127=true
 errs:0<=c.errs/\c.errs<=16
 dst:Ky c.code 16=true
theorem D7 {c:AX}(h:c.ok=true):Ff c:=by
 unfold AX.ok at h
 simp only[Bool.and_eq_true,decide_eq_true_eq,Cq] at h
 exact⟨h.1,h.2.1,h.2.2.1,h.2.2.2.1,by simp only[Cq,decide_eq_true_eq];exact h.2.2.2.2.1,h.2.2.2.2.2.1,h.2.2.2.2.2.2⟩
theorem Ff.markl {c:AX}(h:Ff c):1<=c.mark.length/\c.mark.length<=16/\Ab c.mark=true:=by
 have h1:=h.mark
 simp only[Cl,Cq,Bool.and_eq_true,decide_eq_true_eq] at h1
 exact⟨by omega,by omega,h1.2⟩
theorem Ff.syms {c:AX}(h:Ff c):2<=c.syms/\c.syms<=32/\c.Q*c.L=((c.syms:Nat):Int):=by
 have h1:=R8 h.wev
 have h2:=Pi h.wev
 have h3:=h.ql
 omega
theorem Ff.tot {c:AX}(h:Ff c):c.syms*c.code.sz<=640/\c.tot<=656:=by
 have h1:=h.syms;have h2:=E3 h.code;have h3:=h.markl
 have:c.syms*c.code.sz<=32*20:=Nat.mul_le_mul h1.2.1 h2.2
 unfold AX.tot;omega
theorem Oq (c:AX):CK E0 LO [FG c] (.tup [.int .i64 (if c.ok=true then (c.tot:Int) else 0),.int .i64 (OV c)]):=by
 have c1:=D1 c
 obtain⟨r,hr⟩:∃r,cT c=r:=⟨_,rfl⟩
 rw[hr] at c1
 refine AM Ok A0 (by simp) fun hwf=>?_
 rw[AU];unfold Jw
 rcases hok:c.ok with _|_
 ·have:=HH hok
  rw[hr] at this
  rw[this.1,this.2] at c1
  rw[this.2]
  (try (simp -implicitDefEqProofs only[go_sem,AI,AH]));repeat' first|(with_reducible first|exact tI|refine aI ?_ ?_|intro _)|((first|with_reducible refine AO ?_ ?_<;>intro _|(with_reducible refine isCall ?_);first|refine AE c1 ?_)<;>try (simp -implicitDefEqProofs only[go_sem,AI,AH]))|simp (disch:=omega) only[An]
  all_goals first|rfl|skip
 ·have:=GE hok
  have hk:=D7 hok
  rw[hr] at this
  rw[this.1,this.2] at c1
  rw[this.2]
  have c2:=D2 c hk.wev hk.code
  have ht:=hk.tot
  have hw:IntKind.i64.wrap ((c.mark.length:Int)+((c.syms*c.code.sz:Nat):Int))=((c.tot:Nat):Int):=by rw[Ak _ (by have:=hk.markl;omega)];unfold AX.tot;push_cast;rfl
  (try (simp -implicitDefEqProofs only[go_sem,AI,AH,BQ,hw]));repeat' first|(with_reducible first|exact tI|refine aI ?_ ?_|intro _)|((first|with_reducible refine AO ?_ ?_<;>intro _|(with_reducible refine isCall ?_);first|refine AE c1 ?_|refine AE c2 ?_)<;>try (simp -implicitDefEqProofs only[go_sem,AI,AH,BQ,hw]))|simp (disch:=omega) only[An]
  all_goals first|rfl|skip
end Go.Pw
end
section
open Go Go.Pw Go.Proofs
namespace Go.Pw
set_option maxRecDepth 100000
def D9:PC :=
 .seq (.reg [] (
  AK 4 .mov [.k (.d (.list true []))]::[]) [0,1,4])
 (.seq (.reg [] (
  AK 5 .mov [.k (.d (.list true []))]::[]) [0,1,4,5])
 (.seq (.seq (.reg [] (
  AA 14 1::AD 15 (.len false) 14::AP 16 0::[]) [0,4,5,14,15,16])
 (.block 0
  (.loop [.freeze 4,.own 5 30 3 1] [0,4,5,14,15,16] [30,39,10039,900000,900001,901000,901001,5000030,5000039,5010039]
   (.seq (.reg [] (
    AB 17 (.bin .lss) 16 15::[]) [0,4,5,14,15,16,17])
   (.seq (.cond (.t 17)
    (.skip)
    (.exit 0))
   (.seq (.block 1
    (.seq (.reg [] (
     AB 18 (.iaddrS 1) 14 16::AG 19 1 18::AA 7 19::[]) [0,4,5,7,14,15,16])
    (.seq (.reg [] (
     AP 8 3::[]) [0,4,5,7,8,14,15,16])
    (.block 2
     (.loop [.freeze 4,.own 5 30 3 1] [0,4,5,7,8,14,15,16] [30,39,10039,900000,900001,901000,901001,5000030,5000039,5010039]
      (.seq (.seq (.reg [] (
       AA 20 8::AW 21 (.bin .geq) 20 0::[]) [0,4,5,7,8,14,15,16,21])
      (.cond (.t 21)
       (.skip)
       (.exit 2)))
      (.seq (.block 3
       (.reg [] (
        AA 24 5::AA 25 7::AA 26 8::AB 27 (.bin .shr) 25 26::AW 28 (.bin .and) 27 1::AD 29 (.mkrow 1 (.int .i64 0) 1 [0]) 28::AB 30 (.app 3 1 none true) 24 29::AA 5 30::[]) [0,4,5,7,8,14,15,16]))
      (.reg [] (
       AA 22 8::AW 23 (.bin .sub) 22 1::AA 8 23::[]) [0,4,5,7,8,14,15,16]))))))))
   (.reg [] (
    AW 31 (.bin .add) 16 1::AA 16 31::[]) [0,4,5,14,15,16])))))))
 (.seq (.reg [.freeze 5] (
  AA 33 0::AD 34 .nilck 33::AR 35 0 34::AR 36 10 35::AG 37 1 36::AA 38 5::AB 39 (.call 17) 37 38::AA 32 39::BR 40 0 32::BR 41 1 32::AA 5 40::[]) [4,5])
 (.seq (.reg [] (
  AK 9 (.zero [.list true []]) []::[]) [4,5,9])
 (.seq (.seq (.reg [.freeze 5] (
  AA 42 5::AW 43 (.call 63) 42 4::[]) [4,9,43])
 (.block 4
  (.rngF [.freeze 4] (.t 43) [44] [4,9] [9,59,5000009,5000059]
   (.reg [] (
    AA 10 44::[]) [9,10])
   [] [9,59,5000009,5000059]
   (.block 5
    (.seq (.reg [] (
     AP 11 0::[]) [9,10,11])
    (.seq (.seq (.reg [] (
     AA 45 10::AD 46 (.len false) 45::AP 47 0::[]) [9,11,45,46,47])
    (.block 6
     (.loop [] [9,11,45,46,47] [9,59,5000009,5000059]
      (.seq (.reg [] (
       AB 48 (.bin .lss) 47 46::[]) [9,11,45,46,47,48])
      (.seq (.cond (.t 48)
       (.skip)
       (.exit 6))
      (.seq (.block 7
       (.seq (.reg [] (
        AB 49 (.iaddrS 1) 45 47::AG 50 1 49::AA 13 50::[]) [9,11,13,45,46,47])
       (.reg [] (
        AA 51 11::AK 52 (.bin .mul) [.k (.d (.int .i64 2)),.t 51]::AA 53 13::AB 54 (.bin .add) 52 53::AA 11 54::[]) [9,11,45,46,47])))
      (.reg [] (
       AW 55 (.bin .add) 47 1::AA 47 55::[]) [9,11,45,46,47])))))))
    (.reg [] (
     AG 56 1 9::AA 57 11::AD 58 (.mkrow 1 (.int .i64 0) 1 [0]) 57::AB 59 (.app 3 1 none true) 56 58::CJ (.store 1) [.t 9,.t 59]::[]) [])))))))
 (.seq (.reg [] (
  AG 60 1 9::AA 4 60::[]) [4])
 (.ret)))))))
theorem Ga:Ct E0 En D9 [.t 4] 61:=AL (fl:=[]) (by kernel_rfl)
def Ei:PC :=
 .seq (.reg [] (
  AK 4 .mov [.k (.d (.list true []))]::AP 5 0::[]) [0,1])
 (.seq (.reg [] (
  AK 6 .mov [.k (.d (.list true []))]::[]) [0,1,6])
 (.seq (.reg [] (
  AA 10 1::AD 11 (.call 29) 10::AA 7 11::[]) [0,6,7])
 (.seq (.seq (.reg [] (
  AA 12 7::AD 13 (.len false) 12::AP 14 0::[]) [0,6,7,12,13,14])
 (.block 0
  (.loop [.own 6 24 3 1] [0,6,7,12,13,14] [11,24,10011,900000,901000]
   (.seq (.reg [] (
    AB 15 (.bin .lss) 14 13::[]) [0,6,7,12,13,14,15])
   (.seq (.cond (.t 15)
    (.skip)
    (.exit 0))
   (.seq (.block 1
    (.seq (.reg [] (
     AA 16 14::AB 17 (.iaddrS 1) 12 14::AG 18 1 17::AA 8 16::AA 9 18::[]) [0,6,7,8,9,12,13,14])
    (.seq (.reg [] (
     AA 19 9::AW 20 (.bin .eql) 19 (-1)::[]) [0,6,7,8,12,13,14,20])
    (.cond (.t 20)
     (.seq (.reg [] (
      AA 21 6::AA 22 8::AD 23 (.mkrow 1 (.int .i64 0) 1 [0]) 22::AB 24 (.app 3 1 none true) 21 23::AA 6 24::[]) [0,6,7,8,12,13,14])
     (.reg [] (
      AA 25 7::AA 26 8::AB 27 (.iaddrS 1) 25 26::CJ (.store 1) [.t 27,.k (.d (.int .i64 0))]::[]) [0,6,7,12,13,14]))
     (.skip)))))
   (.reg [] (
    AW 28 (.bin .add) 14 1::AA 14 28::[]) [0,6,7,12,13,14])))))))
 (.seq (.draw [.freeze 6,.freeze 7] (
  (AA 29 0,[])::(AD 30 .nilck 29,[])::(AR 31 0 30,[])::(AR 32 6 31,[])::(AD 33 (.load true 3) 32,[])::(AA 34 0,[])::(AA 35 7,[])::(AB 36 (.call 30) 34 35,[4])::(AA 37 6,[])::(AK 38 (.call 67) [.t 33,.t 36,.t 37],[])::(BR 39 0 38,[])::(BR 40 1 38,[])::(AA 4 39,[])::(AA 5 40,[])::[]) [4,5])
 (.ret)))))
theorem G5:Ct E0 FK Ei [.t 4,.t 5] 41:=AL (fl:=[]) (by kernel_rfl)
end Go.Pw
end
