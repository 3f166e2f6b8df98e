/- A part of the proof. -/
import Derived.Test.YtibkjeolahobbaaGreatDoorPgChcS
import Derived.Test.YtibkjeolahobbaaGreatDoorPgChrN
import Derived.Test.YtibkjeolahobbaaGreatDoorPwYa
import Derived.Test.YtibkjeolahobbaaGreatDoorChPC
set_option linter.all false
open Go Go.Pw Go.Proofs
namespace Go.Pw
set_option maxRecDepth 100000
set_option maxHeartbeats 3200000
section
theorem VM {E:Co} {rs o els s}:mP E rs o els .ret s=(Hq E s rs (fun _=>True)/\Nd els (s.V.ob o)):=rfl
theorem PW {E:Co} {rs o els s}:mP E rs o els .normal s=(Hq E s rs (fun _=>True)/\Nd els (s.V.ob o)):=rfl
theorem HA {els g e n st}:Nd els (some (g,.hist e n st))=(e=els/\(st=true\/n=els.length)):=rfl
def pH (n m:Nat) (xs:List Int):List (List Int):=(List.range m).map fun i=>(xs.drop (i*n)).take n
theorem ku (n m:Nat) (xs:List Int):(pH n m xs).length=m:=by simp[pH]
theorem kw {n m:Nat}(xs:List Int) {i:Nat}(h:i<m):(pH n m xs)[i]?=some ((xs.drop (i*n)).take n):=by simp[pH,h]
def YZ (n m:Nat) (xs:List Int):List (List D):=(pH n m xs).map fun p=>[.list false (Am p)]
theorem LI (n m:Nat) (xs:List Int):(YZ n m xs).length=m:=by simp[YZ,ku]
theorem Ri {n m:Nat}(xs:List Int) {i:Nat}(h:i<m):(YZ n m xs)[i]?=some [.list false (Am ((xs.drop (i*n)).take n))]:=by simp[YZ,kw xs h]
theorem bo:DT.noR=true:=by rfl
attribute [local congr] Bf A9 A_ Aq Bg Ax Az Ay Ap Aj Ad AZ Au Ae Av BK BO BM BN BL BP BE Ah Aw Ai BC BW Ag BI BJ BD BF BH BG BA BB A8 Bj A' Ar Af
attribute [local irreducible] IntKind.wrap A4 Option.getD and or
theorem De (n1 n2:Bool) (xs ys:List Int) (hx:A1 xs=true) (hy:A1 ys=true) (hl:xs.length<=ys.length) (h128:xs.length<=1000000) :
  B' E0 Ho [.list n1 (Am xs),.list n2 (Am ys)] (.int .i64 (CM xs ys)):=by
 refine AO LF An (by simp) fun hwf=>?_
 rw[AW];unfold G5
 simp -implicitDefEqProofs only[go_sem]
 refine AY (α:=Int×Int) (l0:=?l1) (m0:=?m1) (fun x=>[(8,.d (.int .i64 x.1)),(4,.d (.int .i64 x.2))]) (fun x=>[]) (fun x=>0<=x.1/\x.1<=xs.length/\0<=x.2/\x.2<=x.1/\x.2+CM (xs.drop x.1.toNat) (ys.drop x.1.toNat)=CM xs ys) (fun x=>(xs.length-x.1).toNat) (?a1_0,?a1_1) ?h01 ?he1 ?he21 ?hI1 ?step1
 case h01=>(simp -implicitDefEqProofs only[go_sem];rfl)
 case he1=>rfl
 case he21=>rfl
 case' step1=>(rintro⟨i,n⟩ hI;try dsimp only at hI)
 case' hI1=>try dsimp only
 ·simp
 ·by_cases hi:i<xs.length
  ·obtain⟨e,he⟩:∃e:Int,(if xs[i.toNat]?.getD 0=ys[i.toNat]?.getD 0 then 0 else 1)=e:=⟨_,rfl⟩
   have hxor:=TN (Et hx (i:=i.toNat) (by omega)) (Et hy (i:=i.toNat) (by omega))
   have hd:CM (xs.drop i.toNat) (ys.drop i.toNat)=e+CM (xs.drop (i+1).toNat) (ys.drop (i+1).toNat):=by
    rw[Fw (xs:=xs) (i:=i.toNat) (by omega),Fw (xs:=ys) (i:=i.toNat) (by omega),CM,he,show (i+1).toNat=i.toNat+1 by omega]
   rw[he] at hxor
   have he1:e=0\/e=1:=by rw[←he];split<;>simp
   (try (simp -implicitDefEqProofs only[go_sem]));repeat' first|(with_reducible first|exact tI|refine aI ?_ ?_|intro _)|((first|with_reducible refine AN ?_ ?_<;>intro _)<;>try (simp -implicitDefEqProofs only[go_sem]))|simp (disch:=omega) only[Al]|((with_reducible refine Ab ?_);refine⟨(_,_),rfl,?_,?_⟩)
   all_goals (try simp only[hxor])
   all_goals (try rw[Aa _ (by omega)])
   all_goals omega
  ·(try (simp -implicitDefEqProofs only[go_sem]));repeat' first|(with_reducible first|exact tI|refine aI ?_ ?_|intro _)|((first|with_reducible refine AN ?_ ?_<;>intro _)<;>try (simp -implicitDefEqProofs only[go_sem]))|simp (disch:=omega) only[Al]|((with_reducible refine Ab ?_);refine⟨(_,_),rfl,?_,?_⟩)
   all_goals first|omega|(simp;done)|(simp;omega)|skip
   have h0:xs.drop i.toNat=[]:=List.drop_eq_nil_of_le (by omega)
   have h1:CM [] (ys.drop i.toNat)=0:=by simp[CM]
   rw[h0,h1] at hI
   rw[←hI.2.2.2.2];simp
theorem TK (nl:Bool) (xs:List Int) (n m:Nat) (hn:0<n) (hm:xs.length=m*n) (hb:xs.length<=1000000) (hnl:nl=false) :
  bx E0 Cm [] [.ptr [.list nl (Am xs)],.ptr [.int .i64 (n:Int)]] (YZ n m xs):=by
 subst hnl
 refine XO HV An bo (by simp) fun hwf _=>?_
 rw[ER];unfold DT
 (try (simp -implicitDefEqProofs only[go_sem]));repeat' first|(with_reducible first|exact tI|refine aI ?_ ?_|intro _)|((first|with_reducible refine AN ?_ ?_<;>intro _)<;>try (simp -implicitDefEqProofs only[go_sem]))|simp (disch:=omega) only[Al]|((with_reducible refine Ab ?_);refine⟨(_,_),rfl,?_,?_⟩)
 all_goals first|omega|(simp;done)|(simp;omega)|skip
 refine AY (α:=Nat×Int) (l0:=?l2) (m0:=?m2) (fun x=>[(4,.d (.int .i64 x.2))]) (fun x=>[(900000,.hist (YZ n m xs) x.1 false)]) (fun x=>x.1<=m/\x.2=((x.1*n:Nat):Int)) (fun x=>m-x.1) (0,0) ?h02 ?he2 ?he22 ?hI2 ?step2
 case h02=>(simp -implicitDefEqProofs only[go_sem];rfl)
 case he2=>rfl
 case he22=>rfl
 case' step2=>(rintro⟨i,a⟩ hI;try dsimp only at hI)
 case' hI2=>try dsimp only
 ·exact⟨Nat.zero_le _,by simp⟩
 ·obtain⟨i1,i2⟩:=hI
  change a=((i*n:Nat):Int) at i2
  subst i2
  by_cases hi:i<m
  ·have h1:i*n+n<=m*n:=by have:=Nat.mul_le_mul_right n (show i+1<=m by omega);rw[Nat.add_mul,Nat.one_mul] at this;exact this
   have h2:((i*n:Nat):Int)<(xs.length:Int):=by omega
   have wa:IntKind.i64.wrap (((i*n:Nat):Int)+(n:Int))=((i*n+n:Nat):Int):=by rw[Aa _ (by omega)];push_cast;rfl
   have hg:=Ri (n:=n) xs hi
   have hmn:min (n:Int) ((xs.drop (i*n)).length:Int)=(n:Int):=by rw[List.length_drop];omega
   (try (simp -implicitDefEqProofs only[go_sem,h2,wa,hg,hmn,VM,HA]));repeat' first|(with_reducible first|exact tI|refine aI ?_ ?_|intro _)|((first|with_reducible refine AN ?_ ?_<;>intro _)<;>try (simp -implicitDefEqProofs only[go_sem,h2,wa,hg,hmn,VM,HA]))|simp (disch:=omega) only[Al]|((with_reducible refine Ab ?_);refine⟨(_,_),rfl,?_,?_⟩)
   all_goals first|omega|(simp;done)|(simp;omega)|skip
   rw[Nat.add_mul,Nat.one_mul]
  ·have h2:¬((i*n:Nat):Int)<(xs.length:Int):=by
    have:m*n<=i*n:=Nat.mul_le_mul_right n (by omega)
    omega
   have him:i=(YZ n m xs).length:=by rw[LI];omega
   (try (simp -implicitDefEqProofs only[go_sem,h2,PW,HA]));repeat' first|(with_reducible first|exact tI|refine aI ?_ ?_|intro _)|((first|with_reducible refine AN ?_ ?_<;>intro _)<;>try (simp -implicitDefEqProofs only[go_sem,h2,PW,HA]))|simp (disch:=omega) only[Al]|((with_reducible refine Ab ?_);refine⟨(_,_),rfl,?_,?_⟩)
   all_goals first|omega|(simp;done)|(simp;omega)|skip
theorem TL (nl:Bool) (xs:List Int) (n:Nat) (hn:0<n):B' E0 F2 [.list nl (Am xs),.int .i64 (n:Int)] (.fn Cm [.ptr [.list nl (Am xs)],.ptr [.int .i64 (n:Int)]]):=by
 refine AO IU An (by simp) fun hwf=>?_
 rw[AW];unfold FV
 have h1:¬(n:Int)<1:=by omega
 (try (simp -implicitDefEqProofs only[go_sem,h1]));repeat' first|(with_reducible first|exact tI|refine aI ?_ ?_|intro _)|((first|with_reducible refine AN ?_ ?_<;>intro _)<;>try (simp -implicitDefEqProofs only[go_sem,h1]))|simp (disch:=omega) only[Al]
 all_goals first|rfl|skip
theorem X_ (n1 n2:Bool) (xs ys:List Int):B' E0 Cn [.list n1 (Am xs),.ptr [.list n2 (Am ys)]] (.bool (decide (xs=ys))):=by
 have c1:=J8 n1 n2 xs ys
 refine AO HY An (by simp) fun hwf=>?_
 rw[AW];unfold E3
 (try (simp -implicitDefEqProofs only[go_sem]));repeat' first|(with_reducible first|exact tI|refine aI ?_ ?_|intro _)|((first|with_reducible refine AN ?_ ?_<;>intro _|(with_reducible refine isCall ?_);first|refine AE c1 ?_)<;>try (simp -implicitDefEqProofs only[go_sem]))|simp (disch:=omega) only[Al]
 all_goals (rename_i h;rw[h])
end
section
def iY (c:AU) (s:Nat):List D:=(List.range 16).map fun k=>if k<s then .list false (Am (c.stm k)) else .list true []
theorem iX (c:AU) (s:Nat):(iY c s).length=16:=by simp[iY]
theorem mH (c:AU):iY c 16=FP c:=by
 unfold iY FP
 apply List.map_congr_left
 intro k hk
 rw[if_pos (by simpa using hk)]
def Hr (c:AX) (s:Nat):List AV:=(SU c (iY c.code s)).map AV.d
theorem Qz (c:AX) (s:Nat):(Hr c s).length=28:=by
 unfold Hr SU;simp[iX]
theorem Q0 (c:AX) {s k:Nat}(h:k<s) (h16:k<16):(Hr c s)[12+k]?=some (.d (.list false (Am (c.code.stm k)))):=by
 unfold Hr SU
 rw[List.getElem?_map,RC]
 simp[iY,h,h16]
theorem aN (c:AX) {s:Nat}(h:s<16):List.take (12+s) (Hr c s)++[.d (.list false (Am (c.code.stm s)))]++List.drop (12+s+1) (Hr c s)=Hr c (s+1):=by
 apply List.ext_getElem?
 intro i
 have hl:=Qz c s
 rcases Nat.lt_trichotomy i (12+s) with h1|h1|h1
 ·rw[List.append_assoc,List.getElem?_append_left (by rw[List.length_take];omega),List.getElem?_take_of_lt h1]
  unfold Hr
  rw[List.getElem?_map,List.getElem?_map]
  congr 1
  unfold SU
  by_cases h2:i<12
  ·match i,h2 with
   |0,_=>rfl|1,_=>rfl|2,_=>rfl|3,_=>rfl|4,_=>rfl|5,_=>rfl|6,_=>rfl|7,_=>rfl|8,_=>rfl|9,_=>rfl|10,_=>rfl|11,_=>rfl
  ·obtain⟨k,rfl⟩:∃k,i=12+k:=⟨i-12,by omega⟩
   rw[RC,RC]
   simp only[iY,List.getElem?_map]
   rw[List.getElem?_range (by omega)]
   simp only[Option.map_some]
   rw[if_pos (by omega),if_pos (by omega)]
 ·subst h1
  rw[List.append_assoc,List.getElem?_append_right (by rw[List.length_take];omega),List.length_take,Q0 c (by omega) h]
  rw[show 12+s-min (12+s) (Hr c s).length=0 by omega]
  rfl
 ·rw[List.getElem?_append_right (by rw[List.length_append,List.length_take];simp;omega),List.length_append,List.length_take,List.getElem?_drop]
  rw[show 12+s+1+(i-(min (12+s) (Hr c s).length+[AV.d (.list false (Am (c.code.stm s)))].length))=i by simp;omega]
  unfold Hr
  rw[List.getElem?_map,List.getElem?_map]
  congr 1
  unfold SU
  obtain⟨k,rfl⟩:∃k,i=12+k:=⟨i-12,by omega⟩
  rw[RC,RC]
  simp only[iY,List.getElem?_map]
  by_cases h3:k<16
  ·rw[List.getElem?_range h3]
   simp only[Option.map_some]
   rw[if_neg (by omega),if_neg (by omega)]
  ·rw[List.getElem?_eq_none (by simp;omega)];rfl
theorem mr (c:AX):Hr c 0=[.d (.int .i64 c.code.bits),.d (.int .i64 c.code.out),.d (.int .i64 c.code.least),.d (.int .i64 c.code.most),.d (.list c.code.nw (Cd c.code.words)),.d (.list c.code.nn (Cd c.code.next)),.d (.int .i64 c.L),.d (.int .i64 c.P),.d (.int .i64 c.Q),.d (.list c.nm (Am c.mark)),.d (.int .i64 c.seed),.d (.int .i64 c.errs),.d (.list true []),.d (.list true []),.d (.list true []),.d (.list true []),.d (.list true []),.d (.list true []),.d (.list true []),.d (.list true []),.d (.list true []),.d (.list true []),.d (.list true []),.d (.list true []),.d (.list true []),.d (.list true []),.d (.list true []),.d (.list true [])]:=rfl
theorem jy {xs:List D}(h:∀x,x∈xs->(AV.d x).toD1=some x):BR AV.toD1 (xs.map AV.d)=some xs:=by
 induction xs with
 |nil=>rfl
 |cons x xs ih =>
  simp only[List.map_cons,BR,h x (by simp),ih fun y hy=>h y (by simp[hy])]
theorem aO (c:AX):BR AV.toD1 (Hr c 16)=some (SU c (FP c.code)):=by
 unfold Hr;rw[mH]
 refine jy fun x hx=>?_
 simp only[SU,List.mem_cons] at hx
 rcases hx with rfl|rfl|rfl|rfl|rfl|rfl|rfl|rfl|rfl|rfl|rfl|rfl|hx
 all_goals first|rfl|skip
 simp only[FP,List.mem_map] at hx
 obtain⟨k,_,rfl⟩:=hx
 rfl
theorem Yx {V:AM}{o g:Nat}:AV.snap V (.ptr o g 0)=match V.get o g with
 |some (.cells xs)=>match BR AV.toD1 xs with|some (c::l)=>some (.ptr (c::l))|_=>none
 |_=>none:=rfl
theorem XV (c:AX):(match BR AV.toD1 (Hr c 16) with|some (c::l)=>some (D.ptr (c::l))|_=>none)=some (.ptr (SU c (FP c.code))):=by rw[aO];rfl
theorem WK {c:AU}{s:Nat}(h:I8 c s=true) (h2:∀k,k<s->c.stm k≠c.stm s):I8 c (s+1)=true:=by
 rw[UG] at h ⊢
 intro a b ha hb
 by_cases e:a=s
 ·subst e;exact h2 b hb
 ·exact h a b (by omega) hb
theorem gL {c:AU}{s k:Nat}(hs:s<16) (hk:k<s) (e:c.stm k=c.stm s):I8 c 16=false:=by
 cases h:I8 c 16 with
 |false=>rfl
 |true=>exact absurd e (UG.1 h s k hs hk)
theorem Gb (V:AM) (os:List Nat) (c:AX) (s:Nat):List.map (AV.nrm V os) (Hr c s)=Hr c s:=by
 unfold Hr
 rw[List.map_map]
 exact List.map_congr_left fun x _=>rfl
theorem Ga (c:AX) (s:Nat):(Hr c s).all AV.one=true:=by
 rw[List.all_eq_true]
 intro x hx
 simp only[Hr,List.mem_map,SU,List.mem_cons] at hx
 obtain⟨y,hy,rfl⟩:=hx
 rcases hy with rfl|rfl|rfl|rfl|rfl|rfl|rfl|rfl|rfl|rfl|rfl|rfl|hy
 all_goals first|rfl|skip
 simp only[iY,List.mem_map] at hy
 obtain⟨k,_,rfl⟩:=hy
 split<;>rfl
def b8 (c:AX):D:=if c.ok=true then .ptr (SU c (FP c.code)) else .nilptr
def IP (c:AX):Int:=if c.ok=true then 0 else 130
theorem Gt {c:AX}(h:c.ok=true):b8 c=.ptr (SU c (FP c.code))/\IP c=0:=by unfold b8 IP;rw[if_pos h,if_pos h];exact⟨rfl,rfl⟩
theorem GK {c:AX}(h:c.ok=false):b8 c=.nilptr/\IP c=130:=by unfold b8 IP;rw[if_neg (by simp[h]),if_neg (by simp[h])];exact⟨rfl,rfl⟩
theorem fw (mark:List Int):(K6 mark [] 0).2=if Cl mark=true then 0 else 1:=by
 unfold K6
 cases Cl mark<;>rfl
theorem Z' (s:Int):(Kg s []).2=if Ct s 1 127=true then 0 else 1:=by
 unfold Kg FO
 cases Ct s 1 127<;>rfl
attribute [local congr] Bf A9 A_ Aq Bg Ax Az Ay Ap Aj Ad AZ Au Ae Av BK BO BM BN BL BP BE Ah Aw Ai BC BW Ag BI BJ BD BF BH BG BA BB A8 Bj A' Ar Af
attribute [local irreducible] IntKind.wrap A4 Option.getD and or
theorem DI (c:AX):B' E0 LY [Dn c] (.tup [b8 c,.int .i64 (IP c)]):=by
 have c1:=J9 c.code
 have c2:=N6 c.L c.P c.Q
 have c3:=Rh c.nm true c.mark [] 0
 have c4:=Hc c.seed true []
 have f1:=fw c.mark
 have f2:=Z' c.seed
 obtain⟨fl,hfl⟩:∃x,K6 c.mark [] 0=x:=⟨_,rfl⟩
 obtain⟨sl,hsl⟩:∃x,Kg c.seed []=x:=⟨_,rfl⟩
 rw[hfl] at c3 f1
 rw[hsl] at c4 f2
 rw[f1] at c3
 rw[f2] at c4
 have e1:c.code.ok=false->K9 c.code.ok 40=40:=fun h=>by rw[h];rfl
 have e0:c.code.ok=true->K9 c.code.ok 40=0:=fun h=>by rw[h];rfl
 have no:(c.code.ok && (Cv c.L c.P c.Q && (decide (c.Q*c.L<=32) && (Cl c.mark && (Ct c.seed 1 127 && Ct c.errs 0 16)))))=false->b8 c=.nilptr/\IP c=130:=fun h=>GK (by
  unfold AX.ok
  cases h1:c.code.ok<;>cases h2:Cv c.L c.P c.Q<;>cases h3:decide (c.Q*c.L<=32)<;>cases h4:Cl c.mark<;>cases h5:Ct c.seed 1 127<;>cases h6:Ct c.errs 0 16<;>simp_all)
 cases h1:c.code.ok with
 |false =>
  obtain⟨o1,o2⟩:=no (by simp only[h1,Bool.false_and])
  rw[o1,o2];rw[e1 h1] at c1
  refine AO DH An (by simp) fun hwf=>?_
  rw[AW];unfold C1
  (try (simp -implicitDefEqProofs only[go_sem,AH,AG,BU]));repeat' first|(with_reducible first|exact tI|refine aI ?_ ?_|intro _)|((first|with_reducible refine AN ?_ ?_<;>intro _|(with_reducible refine isCall ?_);first|refine AE c1 ?_|refine AE c2 ?_|refine AE c3 ?_|refine AE c4 ?_)<;>try (simp -implicitDefEqProofs only[go_sem,AH,AG,BU]))|simp (disch:=omega) only[Al]|((with_reducible refine Ao ?_);refine⟨_,rfl,?_,?_⟩)
  all_goals first|rfl|skip
 |true =>
 rw[e0 h1] at c1
 cases h2:Cv c.L c.P c.Q with
 |false =>
  obtain⟨o1,o2⟩:=no (by simp only[h1,h2,Bool.true_and,Bool.false_and])
  rw[o1,o2];rw[h2] at c2;simp only[Bool.false_eq_true,if_false] at c2
  refine AO DH An (by simp) fun hwf=>?_
  rw[AW];unfold C1
  (try (simp -implicitDefEqProofs only[go_sem,AH,AG,BU]));repeat' first|(with_reducible first|exact tI|refine aI ?_ ?_|intro _)|((first|with_reducible refine AN ?_ ?_<;>intro _|(with_reducible refine isCall ?_);first|refine AE c1 ?_|refine AE c2 ?_|refine AE c3 ?_|refine AE c4 ?_)<;>try (simp -implicitDefEqProofs only[go_sem,AH,AG,BU]))|simp (disch:=omega) only[Al]|((with_reducible refine Ao ?_);refine⟨_,rfl,?_,?_⟩)
  all_goals first|rfl|skip
 |true =>
 rw[h2] at c2;simp only[if_true] at c2
 cases h4:Cl c.mark with
 |false =>
  obtain⟨o1,o2⟩:=no (by simp only[h1,h2,h4,Bool.true_and,Bool.false_and,Bool.and_false])
  rw[o1,o2];rw[h4] at c3;simp only[Bool.false_eq_true,if_false] at c3
  refine AO DH An (by simp) fun hwf=>?_
  rw[AW];unfold C1
  (try (simp -implicitDefEqProofs only[go_sem,AH,AG,BU]));repeat' first|(with_reducible first|exact tI|refine aI ?_ ?_|intro _)|((first|with_reducible refine AN ?_ ?_<;>intro _|(with_reducible refine isCall ?_);first|refine AE c1 ?_|refine AE c2 ?_|refine AE c3 ?_|refine AE c4 ?_)<;>try (simp -implicitDefEqProofs only[go_sem,AH,AG,BU]))|simp (disch:=omega) only[Al]|((with_reducible refine Ao ?_);refine⟨_,rfl,?_,?_⟩)
  all_goals first|rfl|skip
 |true =>
 rw[h4] at c3;simp only[if_true] at c3
 cases h5:Ct c.seed 1 127 with
 |false =>
  obtain⟨o1,o2⟩:=no (by simp only[h1,h2,h4,h5,Bool.true_and,Bool.false_and,Bool.and_false])
  rw[o1,o2];rw[h5] at c4;simp only[Bool.false_eq_true,if_false] at c4
  refine AO DH An (by simp) fun hwf=>?_
  rw[AW];unfold C1
  (try (simp -implicitDefEqProofs only[go_sem,AH,AG,BU]));repeat' first|(with_reducible first|exact tI|refine aI ?_ ?_|intro _)|((first|with_reducible refine AN ?_ ?_<;>intro _|(with_reducible refine isCall ?_);first|refine AE c1 ?_|refine AE c2 ?_|refine AE c3 ?_|refine AE c4 ?_)<;>try (simp -implicitDefEqProofs only[go_sem,AH,AG,BU]))|simp (disch:=omega) only[Al]|((with_reducible refine Ao ?_);refine⟨_,rfl,?_,?_⟩)
  all_goals first|rfl|skip
 |true =>
 rw[h5] at c4;simp only[if_true] at c4
 have c5:=fun r=>Du c r h2
 by_cases h3:c.Q*c.L<=32/\0<=c.errs/\c.errs<=16
 ·obtain⟨h3,h6,h7⟩:=h3
  have n3:¬32<c.Q*c.L:=by omega
  have n6:¬c.errs<0:=by omega
  have n7:¬16<c.errs:=by omega
  have h6i:Ct c.errs 0 16=true:=by simp only[Ct,decide_eq_true_eq];omega
  have hok:I8 c.code 16=true->c.ok=true:=fun h=>by
   unfold AX.ok;rw[h1,h2,decide_eq_true h3,h4,h5,h6i,h];simp only[Bool.and_self]
  have hnok:I8 c.code 16=false->c.ok=false:=fun h=>by
   unfold AX.ok;rw[h,Bool.and_false,Bool.and_false,Bool.and_false,Bool.and_false,Bool.and_false,Bool.and_false]
  have hce:=fun(s:Nat)=>PD c.code 0 false (KV c.code.bits.toNat s)
  have hse:=fun(s:Nat)=>GL (XB h1 s)
  simp only[ke h1,hse] at hce
  refine AO DH An (by simp) fun hwf=>?_
  rw[AW];unfold C1
  (try (simp -implicitDefEqProofs only[go_sem,AH,AG,BU,n3,n6,n7]));repeat' first|(with_reducible first|exact tI|refine aI ?_ ?_|intro _)|((first|with_reducible refine AN ?_ ?_<;>intro _|(with_reducible refine isCall ?_);first|refine AE c1 ?_|refine AE c2 ?_|refine AE c3 ?_|refine AE c4 ?_|refine AE (c5 _) ?_)<;>try (simp -implicitDefEqProofs only[go_sem,AH,AG,BU,n3,n6,n7]))|simp (disch:=omega) only[Al]|((with_reducible refine Ao ?_);refine⟨_,rfl,?_,?_⟩)
  all_goals first|omega|(simp;done)|(simp;omega)|skip
  rw[←mr]
  refine AY (α:=Nat) (l0:=?l1) (m0:=?m1) (fun x=>[(58,.d (.int .i64 (x:Int)))]) (fun x=>[(17,.cells (Hr c x))]) (fun x=>x<=16/\I8 c.code x=true) (fun x=>16-x) 0 ?h01 ?he1 ?he21 ?hI1 ?step1
  case h01=>(simp -implicitDefEqProofs only[go_sem,Gb,Ga];rfl)
  case he1=>rfl
  case he21=>rfl
  case' step1=>(rintro s hI;try dsimp only at hI)
  case' hI1=>try dsimp only
  ·exact⟨Nat.zero_le _,rfl⟩
  ·obtain⟨i1,i2⟩:=hI
   by_cases hs:s<16
   ·have hs':(s:Int)<16:=by omega
    have c6:=N9 c.code h1 s hs
    have c7:=hce s
    have hst:=aN c hs
    have hl:=Qz c s
    have hl':=Qz c (s+1)
    have hi28:12+s<28:=by omega
    have hws:IntKind.i64.wrap ((s:Int)+1)=((s+1:Nat):Int):=by rw[Aa _ (by omega)];omega
    (try (simp -implicitDefEqProofs only[go_sem,BQ,A5,hs',hst,hl,hi28,Gb,Ga]));repeat' first|(with_reducible first|exact tI|refine aI ?_ ?_|intro _)|((first|with_reducible refine AN ?_ ?_<;>intro _|(with_reducible refine isCall ?_);first|refine AE c6 ?_|refine AE c7 ?_)<;>try (simp -implicitDefEqProofs only[go_sem,BQ,A5,hs',hst,hl,hi28,Gb,Ga]))|simp (disch:=omega) only[Al]|((with_reducible refine Ao ?_);refine⟨_,rfl,?_,?_⟩)
    all_goals first|omega|(simp;done)|(simp;omega)|skip
    refine AY (α:=Nat) (l0:=?l2) (m0:=?m2) (fun x=>[(83,.d (.int .i64 (x:Int)))]) (fun x=>[(17,.cells (Hr c (s+1)))]) (fun x=>x<=s/\∀j,j<x->c.code.stm j≠c.code.stm s) (fun x=>s-x) 0 ?h02 ?he2 ?he22 ?hI2 ?step2
    case h02=>(simp -implicitDefEqProofs only[go_sem,Gb,Ga];rfl)
    case he2=>rfl
    case he22=>rfl
    case' step2=>(rintro k hI2;try dsimp only at hI2)
    case' hI2=>try dsimp only
    ·exact⟨Nat.zero_le _,fun j hj=>by omega⟩
    ·obtain⟨k1,k2⟩:=hI2
     by_cases hk:k<s
     ·have hk':(k:Int)<(s:Int):=by omega
      have g1:=Q0 c (s:=s+1) (k:=k) (by omega) (by omega)
      have g2:=Q0 c (s:=s+1) (k:=s) (by omega) hs
      have hwk:IntKind.i64.wrap ((k:Int)+1)=((k+1:Nat):Int):=by rw[Aa _ (by omega)];omega
      have c8:=J8 false false (c.code.stm k) (c.code.stm s)
      by_cases he:c.code.stm k=c.code.stm s
      ·rw[decide_eq_true he] at c8
       obtain⟨o1,o2⟩:=GK (hnok (gL hs hk he))
       rw[o1,o2]
       (try (simp -implicitDefEqProofs only[go_sem,hs',hk',hk,g1,g2,hl']));repeat' first|(with_reducible first|exact tI|refine aI ?_ ?_|intro _)|((first|with_reducible refine AN ?_ ?_<;>intro _|(with_reducible refine isCall ?_);first|refine AE c8 ?_)<;>try (simp -implicitDefEqProofs only[go_sem,hs',hk',hk,g1,g2,hl']))|simp (disch:=omega) only[Al]|((with_reducible refine Ao ?_);refine⟨_,rfl,?_,?_⟩)
       all_goals first|omega|(simp;done)|(simp;omega)|skip
       all_goals first|rfl|skip
      ·rw[decide_eq_false he] at c8
       (try (simp -implicitDefEqProofs only[go_sem,hs',hk',hk,g1,g2,hl',hwk,Gb,Ga]));repeat' first|(with_reducible first|exact tI|refine aI ?_ ?_|intro _)|((first|with_reducible refine AN ?_ ?_<;>intro _|(with_reducible refine isCall ?_);first|refine AE c8 ?_)<;>try (simp -implicitDefEqProofs only[go_sem,hs',hk',hk,g1,g2,hl',hwk,Gb,Ga]))|simp (disch:=omega) only[Al]|((with_reducible refine Ao ?_);refine⟨_,rfl,?_,?_⟩)
       all_goals first|omega|(simp;done)|(simp;omega)|skip
       rename_i j hj
       by_cases e:j=k
       ·rw[e];exact he
       ·exact k2 j (by omega)
     ·have hk':¬(k:Int)<(s:Int):=by omega
      have hds:=WK i2 fun j hj=>k2 j (by omega)
      (try (simp -implicitDefEqProofs only[go_sem,hk',hk,hws,hl',Gb,Ga]));repeat' first|(with_reducible first|exact tI|refine aI ?_ ?_|intro _)|((first|with_reducible refine AN ?_ ?_<;>intro _)<;>try (simp -implicitDefEqProofs only[go_sem,hk',hk,hws,hl',Gb,Ga]))|simp (disch:=omega) only[Al]|((with_reducible refine Ao ?_);refine⟨_,rfl,?_,?_⟩)
      all_goals first|omega|(simp;done)|(simp;omega)|skip
      all_goals first|rfl|skip
   ·have hs16:s=16:=by omega
    subst hs16
    obtain⟨o1,o2⟩:=Gt (hok i2)
    have hsn:=XV c
    rw[o1,o2]
    (try (simp -implicitDefEqProofs only[go_sem,Yx,hsn]));repeat' first|(with_reducible first|exact tI|refine aI ?_ ?_|intro _)|((first|with_reducible refine AN ?_ ?_<;>intro _)<;>try (simp -implicitDefEqProofs only[go_sem,Yx,hsn]))|simp (disch:=omega) only[Al]|((with_reducible refine Ao ?_);refine⟨_,rfl,?_,?_⟩)
    all_goals first|omega|(simp;done)|(simp;omega)|skip
    all_goals first|rfl|skip
 ·obtain⟨o1,o2⟩:=no (by
   rw[h1,h2,h4,h5]
   simp only[Bool.true_and,Ct]
   rw[Bool.and_eq_false_iff,decide_eq_false_iff_not,decide_eq_false_iff_not]
   omega)
  rw[o1,o2]
  refine AO DH An (by simp) fun hwf=>?_
  rw[AW];unfold C1
  (try (simp -implicitDefEqProofs only[go_sem,AH,AG,BU]));repeat' first|(with_reducible first|exact tI|refine aI ?_ ?_|intro _)|((first|with_reducible refine AN ?_ ?_<;>intro _|(with_reducible refine isCall ?_);first|refine AE c1 ?_|refine AE c2 ?_|refine AE c3 ?_|refine AE c4 ?_|refine AE (c5 _) ?_)<;>try (simp -implicitDefEqProofs only[go_sem,AH,AG,BU]))|simp (disch:=omega) only[Al]|((with_reducible refine Ao ?_);refine⟨_,rfl,?_,?_⟩)
  all_goals first|omega|(simp;done)|(simp;omega)|skip
  all_goals first|rfl|skip
structure Gn (c:AX):Prop where
 code:c.code.ok=true
 wev:Cv c.L c.P c.Q=true
 ql:c.Q*c.L<=32
 mark:Cl c.mark=true
 seed:Ct c.seed 1 127=true
 errs:0<=c.errs/\c.errs<=16
 dst:I8 c.code 16=true
theorem Df {c:AX}(h:c.ok=true):Gn c:=by
 unfold AX.ok at h
 simp only[Bool.and_eq_true,decide_eq_true_eq,Ct] at h
 exact⟨h.1,h.2.1,h.2.2.1,h.2.2.2.1,by simp only[Ct,decide_eq_true_eq];exact h.2.2.2.2.1,h.2.2.2.2.2.1,h.2.2.2.2.2.2⟩
theorem Gn.markl {c:AX}(h:Gn c):1<=c.mark.length/\c.mark.length<=16/\A1 c.mark=true:=by
 have h1:=h.mark
 simp only[Cl,Ct,Bool.and_eq_true,decide_eq_true_eq] at h1
 exact⟨by omega,by omega,h1.2⟩
theorem Gn.syms {c:AX}(h:Gn c):2<=c.syms/\c.syms<=32/\c.Q*c.L=((c.syms:Nat):Int):=by
 have h1:=Su h.wev
 have h2:=QF h.wev
 have h3:=h.ql
 omega
theorem Gn.tot {c:AX}(h:Gn c):c.syms*c.code.sz<=640/\c.tot<=656:=by
 have h1:=h.syms;have h2:=Ef h.code;have h3:=h.markl
 have:c.syms*c.code.sz<=32*20:=Nat.mul_le_mul h1.2.1 h2.2
 unfold AX.tot;omega
end
def EF:PC :=
 .seq (.reg [] (AJ 4 .mov [.k (.d (.list true []))]::[]) [0,1,4]) (.seq (.reg [] (AJ 5 .mov [.k (.d (.list true []))]::[]) [0,1,4,5]) (.seq (.seq (.reg [] (AA 14 1::AB 15 (.len false) 14::AL 16 0::[]) [0,4,5,14,15,16]) (.block 0 (.loop [.freeze 4,.own 5 30 3 1] [0,4,5,14,15,16] [30,39,10039,900000,900001,901000,901001,5000030,5000039,5010039] (.seq (.reg [] (AD 17 (.bin .lss) 16 15::[]) [0,4,5,14,15,16,17]) (.seq (.cond (.t 17) (.skip) (.exit 0)) (.seq (.block 1 (.seq (.reg [] (AD 18 (.iaddrS 1) 14 16::AI 19 1 18::AA 7 19::[]) [0,4,5,7,14,15,16]) (.seq (.reg [] (AL 8 3::[]) [0,4,5,7,8,14,15,16]) (.block 2 (.loop [.freeze 4,.own 5 30 3 1] [0,4,5,7,8,14,15,16] [30,39,10039,900000,900001,901000,901001,5000030,5000039,5010039] (.seq (.seq (.reg [] (AA 20 8::AQ 21 (.bin .geq) 20 0::[]) [0,4,5,7,8,14,15,16,21]) (.cond (.t 21) (.skip) (.exit 2))) (.seq (.block 3 (.reg [] (AA 24 5::AA 25 7::AA 26 8::AD 27 (.bin .shr) 25 26::AQ 28 (.bin .and) 27 1::AB 29 (.mkrow 1 (.int .i64 0) 1 [0]) 28::AD 30 (.app 3 1 none true) 24 29::AA 5 30::[]) [0,4,5,7,8,14,15,16])) (.reg [] (AA 22 8::AQ 23 (.bin .sub) 22 1::AA 8 23::[]) [0,4,5,7,8,14,15,16])))))))) (.reg [] (AQ 31 (.bin .add) 16 1::AA 16 31::[]) [0,4,5,14,15,16]))))))) (.seq (.reg [.freeze 5] (AA 33 0::AB 34 .nilck 33::AP 35 0 34::AP 36 10 35::AI 37 1 36::AA 38 5::AD 39 (.call 73) 37 38::AA 32 39::BT 40 0 32::BT 41 1 32::AA 5 40::[]) [4,5]) (.seq (.reg [] (AJ 9 (.zero [.list true []]) []::[]) [4,5,9]) (.seq (.seq (.reg [.freeze 5] (AA 42 5::AQ 43 (.call 83) 42 4::[]) [4,9,43]) (.block 4 (.rngF [.freeze 4] (.t 43) [44] [4,9] [9,59,5000009,5000059] (.reg [] (AA 10 44::[]) [9,10]) [] [9,59,5000009,5000059] (.block 5 (.seq (.reg [] (AL 11 0::[]) [9,10,11]) (.seq (.seq (.reg [] (AA 45 10::AB 46 (.len false) 45::AL 47 0::[]) [9,11,45,46,47]) (.block 6 (.loop [] [9,11,45,46,47] [9,59,5000009,5000059] (.seq (.reg [] (AD 48 (.bin .lss) 47 46::[]) [9,11,45,46,47,48]) (.seq (.cond (.t 48) (.skip) (.exit 6)) (.seq (.block 7 (.seq (.reg [] (AD 49 (.iaddrS 1) 45 47::AI 50 1 49::AA 13 50::[]) [9,11,13,45,46,47]) (.reg [] (AA 51 11::AJ 52 (.bin .mul) [.k (.d (.int .i64 2)),.t 51]::AA 53 13::AD 54 (.bin .add) 52 53::AA 11 54::[]) [9,11,45,46,47]))) (.reg [] (AQ 55 (.bin .add) 47 1::AA 47 55::[]) [9,11,45,46,47]))))))) (.reg [] (AI 56 1 9::AA 57 11::AB 58 (.mkrow 1 (.int .i64 0) 1 [0]) 57::AD 59 (.app 3 1 none true) 56 58::Br (.store 1) [.t 9,.t 59]::[]) []))))))) (.seq (.reg [] (AI 60 1 9::AA 4 60::[]) [4]) (.ret)))))))
theorem Gf:Cj E0 Ev EF [.t 4] 61:=AK (fl:=[]) (by kernel_rfl)
def En:PC :=
 .seq (.reg [] (AJ 4 .mov [.k (.d (.list true []))]::AL 5 0::[]) [0,1]) (.seq (.reg [] (AJ 6 .mov [.k (.d (.list true []))]::[]) [0,1,6]) (.seq (.reg [] (AA 10 1::AB 11 (.call 41) 10::AA 7 11::[]) [0,6,7]) (.seq (.seq (.reg [] (AA 12 7::AB 13 (.len false) 12::AL 14 0::[]) [0,6,7,12,13,14]) (.block 0 (.loop [.own 6 24 3 1] [0,6,7,12,13,14] [11,24,10011,900000,901000] (.seq (.reg [] (AD 15 (.bin .lss) 14 13::[]) [0,6,7,12,13,14,15]) (.seq (.cond (.t 15) (.skip) (.exit 0)) (.seq (.block 1 (.seq (.reg [] (AA 16 14::AD 17 (.iaddrS 1) 12 14::AI 18 1 17::AA 8 16::AA 9 18::[]) [0,6,7,8,9,12,13,14]) (.seq (.reg [] (AA 19 9::AQ 20 (.bin .eql) 19 (-1)::[]) [0,6,7,8,12,13,14,20]) (.cond (.t 20) (.seq (.reg [] (AA 21 6::AA 22 8::AB 23 (.mkrow 1 (.int .i64 0) 1 [0]) 22::AD 24 (.app 3 1 none true) 21 23::AA 6 24::[]) [0,6,7,8,12,13,14]) (.reg [] (AA 25 7::AA 26 8::AD 27 (.iaddrS 1) 25 26::Br (.store 1) [.t 27,.k (.d (.int .i64 0))]::[]) [0,6,7,12,13,14])) (.skip))))) (.reg [] (AQ 28 (.bin .add) 14 1::AA 14 28::[]) [0,6,7,12,13,14]))))))) (.seq (.draw [.freeze 6,.freeze 7] ((AA 29 0,[])::(AB 30 .nilck 29,[])::(AP 31 0 30,[])::(AP 32 6 31,[])::(AB 33 (.load true 3) 32,[])::(AA 34 0,[])::(AA 35 7,[])::(AD 36 (.call 42) 34 35,[4])::(AA 37 6,[])::(AJ 38 (.call 88) [.t 33,.t 36,.t 37],[])::(BT 39 0 38,[])::(BT 40 1 38,[])::(AA 4 39,[])::(AA 5 40,[])::[]) [4,5]) (.ret)))))
theorem HD:Cj E0 FM En [.t 4,.t 5] 41:=AK (fl:=[]) (by kernel_rfl)
end Go.Pw
