/- A part of the proof. -/
import Derived.Test.YtibkjeolahobbaaGreatDoorPgChcN
import Derived.Test.YtibkjeolahobbaaGreatDoorPgChrEnc
import Derived.Test.YtibkjeolahobbaaGreatDoorPwYa
import Derived.Test.YtibkjeolahobbaaGreatDoorChPC
set_option linter.all false
section
open Go Go.Pw Go.Proofs
namespace Go.Pw
set_option linter.unusedSimpArgs false
set_option linter.unusedVariables false
set_option maxRecDepth 100000
set_option maxHeartbeats 1600000
theorem T6 {E:Ci} {rs o els s}:ji E rs o els .ret s=(HN E s rs (fun _=>True)∧Mr els (s.V.ob o)):=rfl
theorem ON {E:Ci} {rs o els s}:ji E rs o els .normal s=(HN E s rs (fun _=>True)∧Mr els (s.V.ob o)):=rfl
theorem Gf {els g e n st}:Mr els (some (g,.hist e n st))=(e=els∧(st=true∨n=els.length)):=rfl
def lw (n m:Nat) (xs:List Int):List (List Int):=(List.range m).map fun i=>(xs.drop (i * n)).take n
theorem iJ (n m:Nat) (xs:List Int):(lw n m xs).length=m:=by simp [lw]
theorem iK {n m:Nat} (xs:List Int) {i:Nat} (h:i < m):(lw n m xs)[i]?=some ((xs.drop (i * n)).take n):=by simp [lw,h]
def XB (n m:Nat) (xs:List Int):List (List D):=(lw n m xs).map fun p=>[.list false (Ai p)]
theorem Km (n m:Nat) (xs:List Int):(XB n m xs).length=m:=by simp [XB,iJ]
theorem QO {n m:Nat} (xs:List Int) {i:Nat} (h:i < m):(XB n m xs)[i]?=some [.list false (Ai ((xs.drop (i * n)).take n))]:=by simp [XB,iK xs h]
theorem Zy:DE.noR=true:=by rfl
attribute [local congr] Bh A_ A' Ap Bi Av Ax Aw Ao Ah Ab AZ Ar Ac As BI BM BK BL BJ BN BF Af Au Ag BD BQ Ae BG BH BE BB BC A9 BA Aq Ad
attribute [local irreducible] IntKind.wrap A5 Option.getD and or
theorem ES (n1 n2:Bool) (xs ys:List Int) (hx:Ak xs=true) (hy:Ak ys=true) (hl:xs.length≤ys.length) (h128:xs.length≤1000000) :
  CF E0 HL [.list n1 (Ai xs),.list n2 (Ai ys)] (.int .i64 (CX xs ys)):=by
 refine AO Kk Am (by simp) fun hwf=>?_
 rw [AW];unfold GZ
 simp -implicitDefEqProofs only [go_sem]
 refine AY (α:=Int×Int) (l0:=?l1) (m0:=?m1) (fun x=>[(8,.d (.int .i64 x.1)),(4,.d (.int .i64 x.2))]) (fun x=>[]) (fun x=>0≤x.1∧x.1≤xs.length∧0≤x.2∧x.2≤x.1∧x.2+CX (xs.drop x.1.toNat) (ys.drop x.1.toNat)=CX xs ys) (fun x=>(xs.length - x.1).toNat) (?a1_0,?a1_1) ?h01 ?he1 ?he21 ?hI1 ?step1
 case h01=>(simp -implicitDefEqProofs only [go_sem];rfl)
 case he1=>rfl
 case he21=>rfl
 case' step1=>(rintro⟨i,n⟩ hI;try dsimp only at hI)
 case' hI1=>try dsimp only
 ·simp
 ·by_cases hi:i < xs.length
  ·obtain⟨e,he⟩:∃e:Int,(if xs[i.toNat]?.getD 0=ys[i.toNat]?.getD 0 then 0 else 1)=e:=⟨_,rfl⟩
   have hxor:=SA (ET hx (i:=i.toNat) (by omega)) (ET hy (i:=i.toNat) (by omega))
   have hd:CX (xs.drop i.toNat) (ys.drop i.toNat)=e+CX (xs.drop (i+1).toNat) (ys.drop (i+1).toNat):=by
    rw [FS (xs:=xs) (i:=i.toNat) (by omega),FS (xs:=ys) (i:=i.toNat) (by omega),CX,he,show (i+1).toNat=i.toNat+1 by omega]
   rw [he] at hxor
   have he1:e=0∨e=1:=by rw [←he];split<;>simp
   (try (simp -implicitDefEqProofs only [go_sem]));repeat' first|(with_reducible first|exact True.intro|refine And.intro ?_ ?_|intro _)|(((with_reducible refine AS ?_ ?_)<;>intro _)<;>try (simp -implicitDefEqProofs only [go_sem]))|simp (disch:=omega) only [AC,AH,AP,AJ,AD,AQ,AI,AA]|((with_reducible refine An ?_);refine⟨(_,_),rfl,?_,?_⟩)
   all_goals (try simp only [hxor])
   all_goals (try rw [AC _ (by omega)])
   all_goals omega
  ·(try (simp -implicitDefEqProofs only [go_sem]));repeat' first|(with_reducible first|exact True.intro|refine And.intro ?_ ?_|intro _)|(((with_reducible refine AS ?_ ?_)<;>intro _)<;>try (simp -implicitDefEqProofs only [go_sem]))|simp (disch:=omega) only [AC,AH,AP,AJ,AD,AQ,AI,AA]|((with_reducible refine An ?_);refine⟨(_,_),rfl,?_,?_⟩)
   all_goals first|omega|(simp;done)|(simp;omega)|skip
   have h0:xs.drop i.toNat=[]:=List.drop_eq_nil_of_le (by omega)
   have h1:CX [] (ys.drop i.toNat)=0:=by simp [CX]
   rw [h0,h1] at hI
   rw [←hI.2.2.2.2];simp
theorem R8 (nl:Bool) (xs:List Int) (n m:Nat) (hn:0 < n) (hm:xs.length=m * n) (hb:xs.length≤1000000) (hnl:nl=false) :
  Z7 E0 Ca [] [.ptr [.list nl (Ai xs)],.ptr [.int .i64 (n:Int)]] (XB n m xs):=by
 subst hnl
 refine Vz G4 Am Zy (by simp) fun hwf _=>?_
 rw [D2];unfold DE
 (try (simp -implicitDefEqProofs only [go_sem]));repeat' first|(with_reducible first|exact True.intro|refine And.intro ?_ ?_|intro _)|(((with_reducible refine AS ?_ ?_)<;>intro _)<;>try (simp -implicitDefEqProofs only [go_sem]))|simp (disch:=omega) only [AC,AH,AP,AJ,AD,AQ,AI,AA]|((with_reducible refine An ?_);refine⟨(_,_),rfl,?_,?_⟩)
 all_goals first|omega|(simp;done)|(simp;omega)|skip
 refine AY (α:=Nat×Int) (l0:=?l2) (m0:=?m2) (fun x=>[(4,.d (.int .i64 x.2))]) (fun x=>[(900000,.hist (XB n m xs) x.1 false)]) (fun x=>x.1≤m∧x.2=((x.1 * n:Nat):Int)) (fun x=>m - x.1) (0,0) ?h02 ?he2 ?he22 ?hI2 ?step2
 case h02=>(simp -implicitDefEqProofs only [go_sem];rfl)
 case he2=>rfl
 case he22=>rfl
 case' step2=>(rintro⟨i,a⟩ hI;try dsimp only at hI)
 case' hI2=>try dsimp only
 ·exact⟨Nat.zero_le _,by simp⟩
 ·obtain⟨i1,i2⟩:=hI
  change a=((i * n:Nat):Int) at i2
  subst i2
  by_cases hi:i < m
  ·have h1:i * n+n≤m * n:=by have:=Nat.mul_le_mul_right n (show i+1≤m by omega);rw [Nat.add_mul,Nat.one_mul] at this;exact this
   have h2:((i * n:Nat):Int) < (xs.length:Int):=by omega
   have wa:IntKind.i64.wrap (((i * n:Nat):Int)+(n:Int))=((i * n+n:Nat):Int):=by rw [AC _ (by omega)];push_cast;rfl
   have hg:=QO (n:=n) xs hi
   have hmn:min (n:Int) ((xs.drop (i * n)).length:Int)=(n:Int):=by rw [List.length_drop];omega
   (try (simp -implicitDefEqProofs only [go_sem,h2,wa,hg,hmn,T6,Gf]));repeat' first|(with_reducible first|exact True.intro|refine And.intro ?_ ?_|intro _)|(((with_reducible refine AS ?_ ?_)<;>intro _)<;>try (simp -implicitDefEqProofs only [go_sem,h2,wa,hg,hmn,T6,Gf]))|simp (disch:=omega) only [AC,AH,AP,AJ,AD,AQ,AI,AA]|((with_reducible refine An ?_);refine⟨(_,_),rfl,?_,?_⟩)
   all_goals first|omega|(simp;done)|(simp;omega)|skip
   rw [Nat.add_mul,Nat.one_mul]
  ·have h2:¬((i * n:Nat):Int) < (xs.length:Int):=by
    have:m * n≤i * n:=Nat.mul_le_mul_right n (by omega)
    omega
   have him:i=(XB n m xs).length:=by rw [Km];omega
   (try (simp -implicitDefEqProofs only [go_sem,h2,ON,Gf]));repeat' first|(with_reducible first|exact True.intro|refine And.intro ?_ ?_|intro _)|(((with_reducible refine AS ?_ ?_)<;>intro _)<;>try (simp -implicitDefEqProofs only [go_sem,h2,ON,Gf]))|simp (disch:=omega) only [AC,AH,AP,AJ,AD,AQ,AI,AA]|((with_reducible refine An ?_);refine⟨(_,_),rfl,?_,?_⟩)
   all_goals first|omega|(simp;done)|(simp;omega)|skip
theorem R9 (nl:Bool) (xs:List Int) (n:Nat) (hn:0 < n):CF E0 FZ [.list nl (Ai xs),.int .i64 (n:Int)] (.fn Ca [.ptr [.list nl (Ai xs)],.ptr [.int .i64 (n:Int)]]):=by
 refine AO Hw Am (by simp) fun hwf=>?_
 rw [AW];unfold E8
 have h1:¬(n:Int) < 1:=by omega
 (try (simp -implicitDefEqProofs only [go_sem,h1]));repeat' first|(with_reducible first|exact True.intro|refine And.intro ?_ ?_|intro _)|(((with_reducible refine AS ?_ ?_)<;>intro _)<;>try (simp -implicitDefEqProofs only [go_sem,h1]))|simp (disch:=omega) only [AC,AH,AP,AJ,AD,AQ,AI,AA]
 all_goals first|rfl|skip
theorem Wm (n1 n2:Bool) (xs ys:List Int):CF E0 Cb [.list n1 (Ai xs),.ptr [.list n2 (Ai ys)]] (.bool (decide (xs=ys))):=by
 have c1:=Jf n1 n2 xs ys
 refine AO G7 Am (by simp) fun hwf=>?_
 rw [AW];unfold Eb
 (try (simp -implicitDefEqProofs only [go_sem]));repeat' first|(with_reducible first|exact True.intro|refine And.intro ?_ ?_|intro _)|(((with_reducible refine isCall ?_);first|refine AF (c1) rfl ?_ ?_|refine AE (c1) rfl ?_|refine AB (c1) rfl ?_ ?_|refine AG (c1) rfl rfl ?_)<;>try (simp -implicitDefEqProofs only [go_sem]))|(((with_reducible refine AS ?_ ?_)<;>intro _)<;>try (simp -implicitDefEqProofs only [go_sem]))|simp (disch:=omega) only [AC,AH,AP,AJ,AD,AQ,AI,AA]
 all_goals (rename_i h;rw [h])
end Go.Pw
end
section
open Go Go.Pw Go.Proofs
namespace Go.Pw
set_option linter.unusedSimpArgs false
set_option linter.unusedVariables false
set_option maxRecDepth 100000
set_option maxHeartbeats 3200000
def fA (c:AU) (s:Nat):List D:=(List.range 16).map fun k=>if k < s then .list false (Ai (c.stm k)) else .list true []
theorem e_ (c:AU) (s:Nat):(fA c s).length=16:=by simp [fA]
theorem jc (c:AU):fA c 16=Fr c:=by
 unfold fA Fr
 apply List.map_congr_left
 intro k hk
 rw [if_pos (by simpa using hk)]
def HO (c:AX) (s:Nat):List AV:=(Q8 c (fA c.code s)).map AV.d
theorem Pn (c:AX) (s:Nat):(HO c s).length=28:=by
 unfold HO Q8;simp [e_]
theorem Po (c:AX) {s k:Nat} (h:k < s) (h16:k < 16):(HO c s)[12+k]?=some (.d (.list false (Ai (c.code.stm k)))):=by
 unfold HO Q8
 rw [List.getElem?_map,P0]
 simp [fA,h,h16]
theorem Yr (c:AX) {s:Nat} (h:s < 16):List.take (12+s) (HO c s)++[.d (.list false (Ai (c.code.stm s)))]++List.drop (12+s+1) (HO c s)=HO c (s+1):=by
 apply List.ext_getElem?
 intro i
 have hl:=Pn c s
 rcases Nat.lt_trichotomy i (12+s) with h1|h1|h1
 ·rw [List.append_assoc,List.getElem?_append_left (by rw [List.length_take];omega),List.getElem?_take_of_lt h1]
  unfold HO
  rw [List.getElem?_map,List.getElem?_map]
  congr 1
  unfold Q8
  by_cases h2:i < 12
  ·match i,h2 with
   |0,_=>rfl|1,_=>rfl|2,_=>rfl|3,_=>rfl|4,_=>rfl|5,_=>rfl|6,_=>rfl|7,_=>rfl|8,_=>rfl|9,_=>rfl|10,_=>rfl|11,_=>rfl
  ·obtain⟨k,rfl⟩:∃k,i=12+k:=⟨i - 12,by omega⟩
   rw [P0,P0]
   simp only [fA,List.getElem?_map]
   rw [List.getElem?_range (by omega)]
   simp only [Option.map_some]
   rw [if_pos (by omega),if_pos (by omega)]
 ·subst h1
  rw [List.append_assoc,List.getElem?_append_right (by rw [List.length_take];omega),List.length_take,Po c (by omega) h]
  rw [show 12+s - min (12+s) (HO c s).length=0 by omega]
  rfl
 ·rw [List.getElem?_append_right (by rw [List.length_append,List.length_take];simp;omega),List.length_append,List.length_take,List.getElem?_drop]
  rw [show 12+s+1+(i - (min (12+s) (HO c s).length+[AV.d (.list false (Ai (c.code.stm s)))].length))=i by simp;omega]
  unfold HO
  rw [List.getElem?_map,List.getElem?_map]
  congr 1
  unfold Q8
  obtain⟨k,rfl⟩:∃k,i=12+k:=⟨i - 12,by omega⟩
  rw [P0,P0]
  simp only [fA,List.getElem?_map]
  by_cases h3:k < 16
  ·rw [List.getElem?_range h3]
   simp only [Option.map_some]
   rw [if_neg (by omega),if_neg (by omega)]
  ·rw [List.getElem?_eq_none (by simp;omega)];rfl
theorem j7 (c:AX):HO c 0=[.d (.int .i64 c.code.bits),.d (.int .i64 c.code.out),.d (.int .i64 c.code.least),.d (.int .i64 c.code.most),.d (.list c.code.nw (F4 c.code.words)),.d (.list c.code.nn (F4 c.code.next)),.d (.int .i64 c.L),.d (.int .i64 c.P),.d (.int .i64 c.Q),.d (.list c.nm (Ai c.mark)),.d (.int .i64 c.seed),.d (.int .i64 c.errs),.d (.list true []),.d (.list true []),.d (.list true []),.d (.list true []),.d (.list true []),.d (.list true []),.d (.list true []),.d (.list true []),.d (.list true []),.d (.list true []),.d (.list true []),.d (.list true []),.d (.list true []),.d (.list true []),.d (.list true []),.d (.list true [])]:=rfl
theorem gR {xs:List D} (h:∀x,x∈xs→(AV.d x).toD1=some x):A7 AV.toD1 (xs.map AV.d)=some xs:=by
 induction xs with
 |nil=>rfl
 |cons x xs ih =>
  simp only [List.map_cons,A7,h x (by simp),ih fun y hy=>h y (by simp [hy])]
theorem Ys (c:AX):A7 AV.toD1 (HO c 16)=some (Q8 c (Fr c.code)):=by
 unfold HO;rw [jc]
 refine gR fun x hx=>?_
 simp only [Q8,List.mem_cons] at hx
 rcases hx with rfl|rfl|rfl|rfl|rfl|rfl|rfl|rfl|rfl|rfl|rfl|rfl|hx
 all_goals first|rfl|skip
 simp only [Fr,List.mem_map] at hx
 obtain⟨k,_,rfl⟩:=hx
 rfl
theorem XW {V:AN} {o g:Nat}:AV.snap V (.ptr o g 0)=match V.get o g with
 |some (.cells xs)=>match A7 AV.toD1 xs with|some (c :: l)=>some (.ptr (c :: l))|_=>none
 |_=>none:=rfl
theorem V9 (c:AX):(match A7 AV.toD1 (HO c 16) with|some (c :: l)=>some (D.ptr (c :: l))|_=>none)=some (.ptr (Q8 c (Fr c.code))):=by rw [Ys];rfl
theorem U4 {c:AU} {s:Nat} (h:Kd c s=true) (h2:∀k,k < s→c.stm k≠c.stm s):Kd c (s+1)=true:=by
 rw [S0] at h ⊢
 intro a b ha hb
 by_cases e:a=s
 ·subst e;exact h2 b hb
 ·exact h a b (by omega) hb
theorem db {c:AU} {s k:Nat} (hs:s < 16) (hk:k < s) (e:c.stm k=c.stm s):Kd c 16=false:=by
 cases h:Kd c 16 with
 |false=>rfl
 |true=>exact absurd e (S0.1 h s k hs hk)
theorem Er (V:AN) (os:List Nat) (c:AX) (s:Nat):List.map (AV.nrm V os) (HO c s)=HO c s:=by
 unfold HO
 rw [List.map_map]
 exact List.map_congr_left fun x _=>rfl
theorem Ep (c:AX) (s:Nat):(HO c s).all AV.one=true:=by
 rw [List.all_eq_true]
 intro x hx
 simp only [HO,List.mem_map,Q8,List.mem_cons] at hx
 obtain⟨y,hy,rfl⟩:=hx
 rcases hy with rfl|rfl|rfl|rfl|rfl|rfl|rfl|rfl|rfl|rfl|rfl|rfl|hy
 all_goals first|rfl|skip
 simp only [fA,List.mem_map] at hy
 obtain⟨k,_,rfl⟩:=hy
 split<;>rfl
def fw (c:AX):D:=if c.ok=true then .ptr (Q8 c (Fr c.code)) else .nilptr
def P7 (c:AX):Int:=if c.ok=true then 0 else 130
theorem KO {c:AX} (h:c.ok=true):fw c=.ptr (Q8 c (Fr c.code))∧P7 c=0:=by unfold fw P7;rw [if_pos h,if_pos h];exact⟨rfl,rfl⟩
theorem I5 {c:AX} (h:c.ok=false):fw c=.nilptr∧P7 c=130:=by unfold fw P7;rw [if_neg (by simp [h]),if_neg (by simp [h])];exact⟨rfl,rfl⟩
theorem dM (mark:List Int):(KY mark [] 0).2=if CZ mark=true then 0 else 1:=by
 unfold KY
 cases CZ mark<;>rfl
theorem Yf (s:Int):(J' s []).2=if Cj s 1 127=true then 0 else 1:=by
 unfold J' E1
 cases Cj s 1 127<;>rfl
attribute [local congr] Bh A_ A' Ap Bi Av Ax Aw Ao Ah Ab AZ Ar Ac As BI BM BK BL BJ BN BF Af Au Ag BD BQ Ae BG BH BE BB BC A9 BA Aq Ad
attribute [local irreducible] IntKind.wrap A5 Option.getD and or
theorem Fu (c:AX):CF E0 K2 [FT c] (.tup [fw c,.int .i64 (P7 c)]):=by
 have c1:=Dw c.code
 have c2:=NL c.L c.P c.Q
 have c3:=QM c.nm true c.mark [] 0
 have c4:=HB c.seed true []
 have f1:=dM c.mark
 have f2:=Yf c.seed
 obtain⟨fl,hfl⟩:∃x,KY c.mark [] 0=x:=⟨_,rfl⟩
 obtain⟨sl,hsl⟩:∃x,J' c.seed []=x:=⟨_,rfl⟩
 rw [hfl] at c3 f1
 rw [hsl] at c4 f2
 rw [f1] at c3
 rw [f2] at c4
 have e1:c.code.ok=false→Kb c.code.ok 40=40:=fun h=>by rw [h];rfl
 have e0:c.code.ok=true→Kb c.code.ok 40=0:=fun h=>by rw [h];rfl
 have no:(c.code.ok && (Ct c.L c.P c.Q && (decide (c.Q * c.L≤32) && (CZ c.mark && (Cj c.seed 1 127 && Cj c.errs 0 16)))))=false→fw c=.nilptr∧P7 c=130:=fun h=>I5 (by
  unfold AX.ok
  cases h1:c.code.ok<;>cases h2:Ct c.L c.P c.Q<;>cases h3:decide (c.Q * c.L≤32)<;>cases h4:CZ c.mark<;>cases h5:Cj c.seed 1 127<;>cases h6:Cj c.errs 0 16<;>simp_all)
 cases h1:c.code.ok with
 |false =>
  obtain⟨o1,o2⟩:=no (by simp only [h1,Bool.false_and])
  rw [o1,o2];rw [e1 h1] at c1
  refine AO C3 Am (by simp) fun hwf=>?_
  rw [AW];unfold Cq
  (try (simp -implicitDefEqProofs only [go_sem,AL,AK,A3]));repeat' first|(with_reducible first|exact True.intro|refine And.intro ?_ ?_|intro _)|(((with_reducible refine isCall ?_);first|refine AF (c1) rfl ?_ ?_|refine AE (c1) rfl ?_|refine AB (c1) rfl ?_ ?_|refine AG (c1) rfl rfl ?_|refine AF (c2) rfl ?_ ?_|refine AE (c2) rfl ?_|refine AB (c2) rfl ?_ ?_|refine AG (c2) rfl rfl ?_|refine AF (c3) rfl ?_ ?_|refine AE (c3) rfl ?_|refine AB (c3) rfl ?_ ?_|refine AG (c3) rfl rfl ?_|refine AF (c4) rfl ?_ ?_|refine AE (c4) rfl ?_|refine AB (c4) rfl ?_ ?_|refine AG (c4) rfl rfl ?_)<;>try (simp -implicitDefEqProofs only [go_sem,AL,AK,A3]))|(((with_reducible refine AS ?_ ?_)<;>intro _)<;>try (simp -implicitDefEqProofs only [go_sem,AL,AK,A3]))|simp (disch:=omega) only [AC,AH,AP,AJ,AD,AQ,AI,AA]|((with_reducible refine A4 ?_);refine⟨_,rfl,?_,?_⟩)
  all_goals first|rfl|skip
 |true =>
 rw [e0 h1] at c1
 cases h2:Ct c.L c.P c.Q with
 |false =>
  obtain⟨o1,o2⟩:=no (by simp only [h1,h2,Bool.true_and,Bool.false_and])
  rw [o1,o2];rw [h2] at c2;simp only [Bool.false_eq_true,if_false] at c2
  refine AO C3 Am (by simp) fun hwf=>?_
  rw [AW];unfold Cq
  (try (simp -implicitDefEqProofs only [go_sem,AL,AK,A3]));repeat' first|(with_reducible first|exact True.intro|refine And.intro ?_ ?_|intro _)|(((with_reducible refine isCall ?_);first|refine AF (c1) rfl ?_ ?_|refine AE (c1) rfl ?_|refine AB (c1) rfl ?_ ?_|refine AG (c1) rfl rfl ?_|refine AF (c2) rfl ?_ ?_|refine AE (c2) rfl ?_|refine AB (c2) rfl ?_ ?_|refine AG (c2) rfl rfl ?_|refine AF (c3) rfl ?_ ?_|refine AE (c3) rfl ?_|refine AB (c3) rfl ?_ ?_|refine AG (c3) rfl rfl ?_|refine AF (c4) rfl ?_ ?_|refine AE (c4) rfl ?_|refine AB (c4) rfl ?_ ?_|refine AG (c4) rfl rfl ?_)<;>try (simp -implicitDefEqProofs only [go_sem,AL,AK,A3]))|(((with_reducible refine AS ?_ ?_)<;>intro _)<;>try (simp -implicitDefEqProofs only [go_sem,AL,AK,A3]))|simp (disch:=omega) only [AC,AH,AP,AJ,AD,AQ,AI,AA]|((with_reducible refine A4 ?_);refine⟨_,rfl,?_,?_⟩)
  all_goals first|rfl|skip
 |true =>
 rw [h2] at c2;simp only [if_true] at c2
 cases h4:CZ c.mark with
 |false =>
  obtain⟨o1,o2⟩:=no (by simp only [h1,h2,h4,Bool.true_and,Bool.false_and,Bool.and_false])
  rw [o1,o2];rw [h4] at c3;simp only [Bool.false_eq_true,if_false] at c3
  refine AO C3 Am (by simp) fun hwf=>?_
  rw [AW];unfold Cq
  (try (simp -implicitDefEqProofs only [go_sem,AL,AK,A3]));repeat' first|(with_reducible first|exact True.intro|refine And.intro ?_ ?_|intro _)|(((with_reducible refine isCall ?_);first|refine AF (c1) rfl ?_ ?_|refine AE (c1) rfl ?_|refine AB (c1) rfl ?_ ?_|refine AG (c1) rfl rfl ?_|refine AF (c2) rfl ?_ ?_|refine AE (c2) rfl ?_|refine AB (c2) rfl ?_ ?_|refine AG (c2) rfl rfl ?_|refine AF (c3) rfl ?_ ?_|refine AE (c3) rfl ?_|refine AB (c3) rfl ?_ ?_|refine AG (c3) rfl rfl ?_|refine AF (c4) rfl ?_ ?_|refine AE (c4) rfl ?_|refine AB (c4) rfl ?_ ?_|refine AG (c4) rfl rfl ?_)<;>try (simp -implicitDefEqProofs only [go_sem,AL,AK,A3]))|(((with_reducible refine AS ?_ ?_)<;>intro _)<;>try (simp -implicitDefEqProofs only [go_sem,AL,AK,A3]))|simp (disch:=omega) only [AC,AH,AP,AJ,AD,AQ,AI,AA]|((with_reducible refine A4 ?_);refine⟨_,rfl,?_,?_⟩)
  all_goals first|rfl|skip
 |true =>
 rw [h4] at c3;simp only [if_true] at c3
 cases h5:Cj c.seed 1 127 with
 |false =>
  obtain⟨o1,o2⟩:=no (by simp only [h1,h2,h4,h5,Bool.true_and,Bool.false_and,Bool.and_false])
  rw [o1,o2];rw [h5] at c4;simp only [Bool.false_eq_true,if_false] at c4
  refine AO C3 Am (by simp) fun hwf=>?_
  rw [AW];unfold Cq
  (try (simp -implicitDefEqProofs only [go_sem,AL,AK,A3]));repeat' first|(with_reducible first|exact True.intro|refine And.intro ?_ ?_|intro _)|(((with_reducible refine isCall ?_);first|refine AF (c1) rfl ?_ ?_|refine AE (c1) rfl ?_|refine AB (c1) rfl ?_ ?_|refine AG (c1) rfl rfl ?_|refine AF (c2) rfl ?_ ?_|refine AE (c2) rfl ?_|refine AB (c2) rfl ?_ ?_|refine AG (c2) rfl rfl ?_|refine AF (c3) rfl ?_ ?_|refine AE (c3) rfl ?_|refine AB (c3) rfl ?_ ?_|refine AG (c3) rfl rfl ?_|refine AF (c4) rfl ?_ ?_|refine AE (c4) rfl ?_|refine AB (c4) rfl ?_ ?_|refine AG (c4) rfl rfl ?_)<;>try (simp -implicitDefEqProofs only [go_sem,AL,AK,A3]))|(((with_reducible refine AS ?_ ?_)<;>intro _)<;>try (simp -implicitDefEqProofs only [go_sem,AL,AK,A3]))|simp (disch:=omega) only [AC,AH,AP,AJ,AD,AQ,AI,AA]|((with_reducible refine A4 ?_);refine⟨_,rfl,?_,?_⟩)
  all_goals first|rfl|skip
 |true =>
 rw [h5] at c4;simp only [if_true] at c4
 have c5:=fun r=>Ga c r h2
 by_cases h3:c.Q * c.L≤32∧0≤c.errs∧c.errs≤16
 ·obtain⟨h3,h6,h7⟩:=h3
  have n3:¬32 < c.Q * c.L:=by omega
  have n6:¬c.errs < 0:=by omega
  have n7:¬16 < c.errs:=by omega
  have h6i:Cj c.errs 0 16=true:=by simp only [Cj,decide_eq_true_eq];omega
  have hok:Kd c.code 16=true→c.ok=true:=fun h=>by
   unfold AX.ok;rw [h1,h2,decide_eq_true h3,h4,h5,h6i,h];simp only [Bool.and_self]
  have hnok:Kd c.code 16=false→c.ok=false:=fun h=>by
   unfold AX.ok;rw [h,Bool.and_false,Bool.and_false,Bool.and_false,Bool.and_false,Bool.and_false,Bool.and_false]
  have hce:=fun(s:Nat)=>OB c.code 0 false (J1 c.code.bits.toNat s)
  have hse:=fun(s:Nat)=>Gn (Vm h1 s)
  simp only [hC h1,hse] at hce
  refine AO C3 Am (by simp) fun hwf=>?_
  rw [AW];unfold Cq
  (try (simp -implicitDefEqProofs only [go_sem,AL,AK,A3,n3,n6,n7]));repeat' first|(with_reducible first|exact True.intro|refine And.intro ?_ ?_|intro _)|(((with_reducible refine isCall ?_);first|refine AF (c1) rfl ?_ ?_|refine AE (c1) rfl ?_|refine AB (c1) rfl ?_ ?_|refine AG (c1) rfl rfl ?_|refine AF (c2) rfl ?_ ?_|refine AE (c2) rfl ?_|refine AB (c2) rfl ?_ ?_|refine AG (c2) rfl rfl ?_|refine AF (c3) rfl ?_ ?_|refine AE (c3) rfl ?_|refine AB (c3) rfl ?_ ?_|refine AG (c3) rfl rfl ?_|refine AF (c4) rfl ?_ ?_|refine AE (c4) rfl ?_|refine AB (c4) rfl ?_ ?_|refine AG (c4) rfl rfl ?_|refine AF (c5 _) rfl ?_ ?_|refine AE (c5 _) rfl ?_|refine AB (c5 _) rfl ?_ ?_|refine AG (c5 _) rfl rfl ?_)<;>try (simp -implicitDefEqProofs only [go_sem,AL,AK,A3,n3,n6,n7]))|(((with_reducible refine AS ?_ ?_)<;>intro _)<;>try (simp -implicitDefEqProofs only [go_sem,AL,AK,A3,n3,n6,n7]))|simp (disch:=omega) only [AC,AH,AP,AJ,AD,AQ,AI,AA]|((with_reducible refine A4 ?_);refine⟨_,rfl,?_,?_⟩)
  all_goals first|omega|(simp;done)|(simp;omega)|skip
  rw [←j7]
  refine AY (α:=Nat) (l0:=?l1) (m0:=?m1) (fun x=>[(58,.d (.int .i64 (x:Int)))]) (fun x=>[(17,.cells (HO c x))]) (fun x=>x≤16∧Kd c.code x=true) (fun x=>16 - x) 0 ?h01 ?he1 ?he21 ?hI1 ?step1
  case h01=>(simp -implicitDefEqProofs only [go_sem,Er,Ep];rfl)
  case he1=>rfl
  case he21=>rfl
  case' step1=>(rintro s hI;try dsimp only at hI)
  case' hI1=>try dsimp only
  ·exact⟨Nat.zero_le _,rfl⟩
  ·obtain⟨i1,i2⟩:=hI
   by_cases hs:s < 16
   ·have hs':(s:Int) < 16:=by omega
    have c6:=NP c.code h1 s hs
    have c7:=hce s
    have hst:=Yr c hs
    have hl:=Pn c s
    have hl':=Pn c (s+1)
    have hi28:12+s < 28:=by omega
    have hws:IntKind.i64.wrap ((s:Int)+1)=((s+1:Nat):Int):=by rw [AC _ (by omega)];omega
    (try (simp -implicitDefEqProofs only [go_sem,A6,A2,hs',hst,hl,hi28,Er,Ep]));repeat' first|(with_reducible first|exact True.intro|refine And.intro ?_ ?_|intro _)|(((with_reducible refine isCall ?_);first|refine AF (c6) rfl ?_ ?_|refine AE (c6) rfl ?_|refine AB (c6) rfl ?_ ?_|refine AG (c6) rfl rfl ?_|refine AF (c7) rfl ?_ ?_|refine AE (c7) rfl ?_|refine AB (c7) rfl ?_ ?_|refine AG (c7) rfl rfl ?_)<;>try (simp -implicitDefEqProofs only [go_sem,A6,A2,hs',hst,hl,hi28,Er,Ep]))|(((with_reducible refine AS ?_ ?_)<;>intro _)<;>try (simp -implicitDefEqProofs only [go_sem,A6,A2,hs',hst,hl,hi28,Er,Ep]))|simp (disch:=omega) only [AC,AH,AP,AJ,AD,AQ,AI,AA]|((with_reducible refine A4 ?_);refine⟨_,rfl,?_,?_⟩)
    all_goals first|omega|(simp;done)|(simp;omega)|skip
    refine AY (α:=Nat) (l0:=?l2) (m0:=?m2) (fun x=>[(83,.d (.int .i64 (x:Int)))]) (fun x=>[(17,.cells (HO c (s+1)))]) (fun x=>x≤s∧∀j,j < x→c.code.stm j≠c.code.stm s) (fun x=>s - x) 0 ?h02 ?he2 ?he22 ?hI2 ?step2
    case h02=>(simp -implicitDefEqProofs only [go_sem,Er,Ep];rfl)
    case he2=>rfl
    case he22=>rfl
    case' step2=>(rintro k hI2;try dsimp only at hI2)
    case' hI2=>try dsimp only
    ·exact⟨Nat.zero_le _,fun j hj=>by omega⟩
    ·obtain⟨k1,k2⟩:=hI2
     by_cases hk:k < s
     ·have hk':(k:Int) < (s:Int):=by omega
      have g1:=Po c (s:=s+1) (k:=k) (by omega) (by omega)
      have g2:=Po c (s:=s+1) (k:=s) (by omega) hs
      have hwk:IntKind.i64.wrap ((k:Int)+1)=((k+1:Nat):Int):=by rw [AC _ (by omega)];omega
      have c8:=Jf false false (c.code.stm k) (c.code.stm s)
      by_cases he:c.code.stm k=c.code.stm s
      ·rw [decide_eq_true he] at c8
       obtain⟨o1,o2⟩:=I5 (hnok (db hs hk he))
       rw [o1,o2]
       (try (simp -implicitDefEqProofs only [go_sem,hs',hk',hk,g1,g2,hl']));repeat' first|(with_reducible first|exact True.intro|refine And.intro ?_ ?_|intro _)|(((with_reducible refine isCall ?_);first|refine AF (c8) rfl ?_ ?_|refine AE (c8) rfl ?_|refine AB (c8) rfl ?_ ?_|refine AG (c8) rfl rfl ?_)<;>try (simp -implicitDefEqProofs only [go_sem,hs',hk',hk,g1,g2,hl']))|(((with_reducible refine AS ?_ ?_)<;>intro _)<;>try (simp -implicitDefEqProofs only [go_sem,hs',hk',hk,g1,g2,hl']))|simp (disch:=omega) only [AC,AH,AP,AJ,AD,AQ,AI,AA]|((with_reducible refine A4 ?_);refine⟨_,rfl,?_,?_⟩)
       all_goals first|omega|(simp;done)|(simp;omega)|skip
       all_goals first|rfl|skip
      ·rw [decide_eq_false he] at c8
       (try (simp -implicitDefEqProofs only [go_sem,hs',hk',hk,g1,g2,hl',hwk,Er,Ep]));repeat' first|(with_reducible first|exact True.intro|refine And.intro ?_ ?_|intro _)|(((with_reducible refine isCall ?_);first|refine AF (c8) rfl ?_ ?_|refine AE (c8) rfl ?_|refine AB (c8) rfl ?_ ?_|refine AG (c8) rfl rfl ?_)<;>try (simp -implicitDefEqProofs only [go_sem,hs',hk',hk,g1,g2,hl',hwk,Er,Ep]))|(((with_reducible refine AS ?_ ?_)<;>intro _)<;>try (simp -implicitDefEqProofs only [go_sem,hs',hk',hk,g1,g2,hl',hwk,Er,Ep]))|simp (disch:=omega) only [AC,AH,AP,AJ,AD,AQ,AI,AA]|((with_reducible refine A4 ?_);refine⟨_,rfl,?_,?_⟩)
       all_goals first|omega|(simp;done)|(simp;omega)|skip
       rename_i j hj
       by_cases e:j=k
       ·rw [e];exact he
       ·exact k2 j (by omega)
     ·have hk':¬(k:Int) < (s:Int):=by omega
      have hds:=U4 i2 fun j hj=>k2 j (by omega)
      (try (simp -implicitDefEqProofs only [go_sem,hk',hk,hws,hl',Er,Ep]));repeat' first|(with_reducible first|exact True.intro|refine And.intro ?_ ?_|intro _)|(((with_reducible refine AS ?_ ?_)<;>intro _)<;>try (simp -implicitDefEqProofs only [go_sem,hk',hk,hws,hl',Er,Ep]))|simp (disch:=omega) only [AC,AH,AP,AJ,AD,AQ,AI,AA]|((with_reducible refine A4 ?_);refine⟨_,rfl,?_,?_⟩)
      all_goals first|omega|(simp;done)|(simp;omega)|skip
      all_goals first|rfl|skip
   ·have hs16:s=16:=by omega
    subst hs16
    obtain⟨o1,o2⟩:=KO (hok i2)
    have hsn:=V9 c
    rw [o1,o2]
    (try (simp -implicitDefEqProofs only [go_sem,XW,hsn]));repeat' first|(with_reducible first|exact True.intro|refine And.intro ?_ ?_|intro _)|(((with_reducible refine AS ?_ ?_)<;>intro _)<;>try (simp -implicitDefEqProofs only [go_sem,XW,hsn]))|simp (disch:=omega) only [AC,AH,AP,AJ,AD,AQ,AI,AA]|((with_reducible refine A4 ?_);refine⟨_,rfl,?_,?_⟩)
    all_goals first|omega|(simp;done)|(simp;omega)|skip
    all_goals first|rfl|skip
 ·obtain⟨o1,o2⟩:=no (by
   rw [h1,h2,h4,h5]
   simp only [Bool.true_and,Cj]
   rw [Bool.and_eq_false_iff,decide_eq_false_iff_not,decide_eq_false_iff_not]
   omega)
  rw [o1,o2]
  refine AO C3 Am (by simp) fun hwf=>?_
  rw [AW];unfold Cq
  (try (simp -implicitDefEqProofs only [go_sem,AL,AK,A3]));repeat' first|(with_reducible first|exact True.intro|refine And.intro ?_ ?_|intro _)|(((with_reducible refine isCall ?_);first|refine AF (c1) rfl ?_ ?_|refine AE (c1) rfl ?_|refine AB (c1) rfl ?_ ?_|refine AG (c1) rfl rfl ?_|refine AF (c2) rfl ?_ ?_|refine AE (c2) rfl ?_|refine AB (c2) rfl ?_ ?_|refine AG (c2) rfl rfl ?_|refine AF (c3) rfl ?_ ?_|refine AE (c3) rfl ?_|refine AB (c3) rfl ?_ ?_|refine AG (c3) rfl rfl ?_|refine AF (c4) rfl ?_ ?_|refine AE (c4) rfl ?_|refine AB (c4) rfl ?_ ?_|refine AG (c4) rfl rfl ?_|refine AF (c5 _) rfl ?_ ?_|refine AE (c5 _) rfl ?_|refine AB (c5 _) rfl ?_ ?_|refine AG (c5 _) rfl rfl ?_)<;>try (simp -implicitDefEqProofs only [go_sem,AL,AK,A3]))|(((with_reducible refine AS ?_ ?_)<;>intro _)<;>try (simp -implicitDefEqProofs only [go_sem,AL,AK,A3]))|simp (disch:=omega) only [AC,AH,AP,AJ,AD,AQ,AI,AA]|((with_reducible refine A4 ?_);refine⟨_,rfl,?_,?_⟩)
  all_goals first|omega|(simp;done)|(simp;omega)|skip
  all_goals first|rfl|skip
structure GL (c:AX):Prop where
 code:c.code.ok=true
 wev:Ct c.L c.P c.Q=true
 ql:c.Q * c.L≤32
 mark:CZ c.mark=true
 seed:Cj c.seed 1 127=true
 errs:0≤c.errs∧c.errs≤16
 dst:Kd c.code 16=true
theorem FU {c:AX} (h:c.ok=true):GL c:=by
 unfold AX.ok at h
 simp only [Bool.and_eq_true,decide_eq_true_eq,Cj] at h
 exact⟨h.1,h.2.1,h.2.2.1,h.2.2.2.1,by simp only [Cj,decide_eq_true_eq];exact h.2.2.2.2.1,h.2.2.2.2.2.1,h.2.2.2.2.2.2⟩
theorem GL.markl {c:AX} (h:GL c):1≤c.mark.length∧c.mark.length≤16∧Ak c.mark=true:=by
 have h1:=h.mark
 simp only [CZ,Cj,Bool.and_eq_true,decide_eq_true_eq] at h1
 exact⟨by omega,by omega,h1.2⟩
theorem GL.syms {c:AX} (h:GL c):2≤c.syms∧c.syms≤32∧c.Q * c.L=((c.syms:Nat):Int):=by
 have h1:=Rd h.wev
 have h2:=O6 h.wev
 have h3:=h.ql
 omega
theorem GL.tot {c:AX} (h:GL c):c.syms * c.code.sz≤640∧c.tot≤656:=by
 have h1:=h.syms;have h2:=Gt h.code;have h3:=h.markl
 have:c.syms * c.code.sz≤32 * 20:=Nat.mul_le_mul h1.2.1 h2.2
 unfold AX.tot;omega
end Go.Pw
end
section
open Go Go.Pw Go.Proofs
namespace Go.Pw
set_option maxRecDepth 100000
def Dq:PC :=
 .seq (.reg [] (
  ⟨some 4,none,.mov,[.k (.d (.list true []))]⟩ ::
  []) [0,1,4])
 (.seq (.reg [] (
  ⟨some 5,none,.mov,[.k (.d (.list true []))]⟩ ::
  []) [0,1,4,5])
 (.seq (.seq (.reg [] (
  ⟨some 14,none,.mov,[.t 1]⟩ ::
  ⟨some 15,none,.len false,[.t 14]⟩ ::
  ⟨some 16,none,.mov,[.k (.d (.int .i64 0))]⟩ ::
  []) [0,4,5,14,15,16])
 (.block 0
  (.loop [.freeze 4,.own 5 30 3 1] [0,4,5,14,15,16] [30,39,10039,900000,900001,901000,901001,5000030,5000039,5010039]
   (.seq (.reg [] (
    ⟨some 17,none,.bin .lss,[.t 16,.t 15]⟩ ::
    []) [0,4,5,14,15,16,17])
   (.seq (.cond (.t 17)
    (.skip)
    (.exit 0))
   (.seq (.block 1
    (.seq (.reg [] (
     ⟨some 18,none,.iaddrS 1,[.t 14,.t 16]⟩ ::
     ⟨some 19,none,.load false 1,[.t 18]⟩ ::
     ⟨some 7,none,.mov,[.t 19]⟩ ::
     []) [0,4,5,7,14,15,16])
    (.seq (.reg [] (
     ⟨some 8,none,.mov,[.k (.d (.int .i64 3))]⟩ ::
     []) [0,4,5,7,8,14,15,16])
    (.block 2
     (.loop [.freeze 4,.own 5 30 3 1] [0,4,5,7,8,14,15,16] [30,39,10039,900000,900001,901000,901001,5000030,5000039,5010039]
      (.seq (.seq (.reg [] (
       ⟨some 20,none,.mov,[.t 8]⟩ ::
       ⟨some 21,none,.bin .geq,[.t 20,.k (.d (.int .i64 0))]⟩ ::
       []) [0,4,5,7,8,14,15,16,21])
      (.cond (.t 21)
       (.skip)
       (.exit 2)))
      (.seq (.block 3
       (.reg [] (
        ⟨some 24,none,.mov,[.t 5]⟩ ::
        ⟨some 25,none,.mov,[.t 7]⟩ ::
        ⟨some 26,none,.mov,[.t 8]⟩ ::
        ⟨some 27,none,.bin .shr,[.t 25,.t 26]⟩ ::
        ⟨some 28,none,.bin .and,[.t 27,.k (.d (.int .i64 1))]⟩ ::
        ⟨some 29,none,.mkrow 1 (.int .i64 0) 1 [0],[.t 28]⟩ ::
        ⟨some 30,none,.app 3 1 none true,[.t 24,.t 29]⟩ ::
        ⟨some 5,none,.mov,[.t 30]⟩ ::
        []) [0,4,5,7,8,14,15,16]))
      (.reg [] (
       ⟨some 22,none,.mov,[.t 8]⟩ ::
       ⟨some 23,none,.bin .sub,[.t 22,.k (.d (.int .i64 1))]⟩ ::
       ⟨some 8,none,.mov,[.t 23]⟩ ::
       []) [0,4,5,7,8,14,15,16]))))))))
   (.reg [] (
    ⟨some 31,none,.bin .add,[.t 16,.k (.d (.int .i64 1))]⟩ ::
    ⟨some 16,none,.mov,[.t 31]⟩ ::
    []) [0,4,5,14,15,16])))))))
 (.seq (.reg [.freeze 5] (
  ⟨some 33,none,.mov,[.t 0]⟩ ::
  ⟨some 34,none,.nilck,[.t 33]⟩ ::
  ⟨some 35,none,.faddr 0,[.t 34]⟩ ::
  ⟨some 36,none,.faddr 10,[.t 35]⟩ ::
  ⟨some 37,none,.load false 1,[.t 36]⟩ ::
  ⟨some 38,none,.mov,[.t 5]⟩ ::
  ⟨some 39,none,.call 73,[.t 37,.t 38]⟩ ::
  ⟨some 32,none,.mov,[.t 39]⟩ ::
  ⟨some 40,none,.extract 0,[.t 32]⟩ ::
  ⟨some 41,none,.extract 1,[.t 32]⟩ ::
  ⟨some 5,none,.mov,[.t 40]⟩ ::
  []) [4,5])
 (.seq (.reg [] (
  ⟨some 9,none,.zero [.list true []],[]⟩ ::
  []) [4,5,9])
 (.seq (.seq (.reg [.freeze 5] (
  ⟨some 42,none,.mov,[.t 5]⟩ ::
  ⟨some 43,none,.call 83,[.t 42,.k (.d (.int .i64 4))]⟩ ::
  []) [4,9,43])
 (.block 4
  (.rngF [.freeze 4] (.t 43) [44] [4,9] [9,59,5000009,5000059]
   (.reg [] (
    ⟨some 10,none,.mov,[.t 44]⟩ ::
    []) [9,10])
   [] [9,59,5000009,5000059]
   (.block 5
    (.seq (.reg [] (
     ⟨some 11,none,.mov,[.k (.d (.int .i64 0))]⟩ ::
     []) [9,10,11])
    (.seq (.seq (.reg [] (
     ⟨some 45,none,.mov,[.t 10]⟩ ::
     ⟨some 46,none,.len false,[.t 45]⟩ ::
     ⟨some 47,none,.mov,[.k (.d (.int .i64 0))]⟩ ::
     []) [9,11,45,46,47])
    (.block 6
     (.loop [] [9,11,45,46,47] [9,59,5000009,5000059]
      (.seq (.reg [] (
       ⟨some 48,none,.bin .lss,[.t 47,.t 46]⟩ ::
       []) [9,11,45,46,47,48])
      (.seq (.cond (.t 48)
       (.skip)
       (.exit 6))
      (.seq (.block 7
       (.seq (.reg [] (
        ⟨some 49,none,.iaddrS 1,[.t 45,.t 47]⟩ ::
        ⟨some 50,none,.load false 1,[.t 49]⟩ ::
        ⟨some 13,none,.mov,[.t 50]⟩ ::
        []) [9,11,13,45,46,47])
       (.reg [] (
        ⟨some 51,none,.mov,[.t 11]⟩ ::
        ⟨some 52,none,.bin .mul,[.k (.d (.int .i64 2)),.t 51]⟩ ::
        ⟨some 53,none,.mov,[.t 13]⟩ ::
        ⟨some 54,none,.bin .add,[.t 52,.t 53]⟩ ::
        ⟨some 11,none,.mov,[.t 54]⟩ ::
        []) [9,11,45,46,47])))
      (.reg [] (
       ⟨some 55,none,.bin .add,[.t 47,.k (.d (.int .i64 1))]⟩ ::
       ⟨some 47,none,.mov,[.t 55]⟩ ::
       []) [9,11,45,46,47])))))))
    (.reg [] (
     ⟨some 56,none,.load false 1,[.t 9]⟩ ::
     ⟨some 57,none,.mov,[.t 11]⟩ ::
     ⟨some 58,none,.mkrow 1 (.int .i64 0) 1 [0],[.t 57]⟩ ::
     ⟨some 59,none,.app 3 1 none true,[.t 56,.t 58]⟩ ::
     ⟨none,none,.store 1,[.t 9,.t 59]⟩ ::
     []) [])))))))
 (.seq (.reg [] (
  ⟨some 60,none,.load false 1,[.t 9]⟩ ::
  ⟨some 4,none,.mov,[.t 60]⟩ ::
  []) [4])
 (.ret)))))))
theorem GE:Ch E0 EV Dq [.t 4] 61:=AM (fl:=[]) (by kernel_rfl)
def EQ:PC :=
 .seq (.reg [] (
  ⟨some 4,none,.mov,[.k (.d (.list true []))]⟩ ::
  ⟨some 5,none,.mov,[.k (.d (.int .i64 0))]⟩ ::
  []) [0,1])
 (.seq (.reg [] (
  ⟨some 6,none,.mov,[.k (.d (.list true []))]⟩ ::
  []) [0,1,6])
 (.seq (.reg [] (
  ⟨some 10,none,.mov,[.t 1]⟩ ::
  ⟨some 11,none,.call 41,[.t 10]⟩ ::
  ⟨some 7,none,.mov,[.t 11]⟩ ::
  []) [0,6,7])
 (.seq (.seq (.reg [] (
  ⟨some 12,none,.mov,[.t 7]⟩ ::
  ⟨some 13,none,.len false,[.t 12]⟩ ::
  ⟨some 14,none,.mov,[.k (.d (.int .i64 0))]⟩ ::
  []) [0,6,7,12,13,14])
 (.block 0
  (.loop [.own 6 24 3 1] [0,6,7,12,13,14] [11,24,10011,900000,901000]
   (.seq (.reg [] (
    ⟨some 15,none,.bin .lss,[.t 14,.t 13]⟩ ::
    []) [0,6,7,12,13,14,15])
   (.seq (.cond (.t 15)
    (.skip)
    (.exit 0))
   (.seq (.block 1
    (.seq (.reg [] (
     ⟨some 16,none,.mov,[.t 14]⟩ ::
     ⟨some 17,none,.iaddrS 1,[.t 12,.t 14]⟩ ::
     ⟨some 18,none,.load false 1,[.t 17]⟩ ::
     ⟨some 8,none,.mov,[.t 16]⟩ ::
     ⟨some 9,none,.mov,[.t 18]⟩ ::
     []) [0,6,7,8,9,12,13,14])
    (.seq (.reg [] (
     ⟨some 19,none,.mov,[.t 9]⟩ ::
     ⟨some 20,none,.bin .eql,[.t 19,.k (.d (.int .i64 (-1)))]⟩ ::
     []) [0,6,7,8,12,13,14,20])
    (.cond (.t 20)
     (.seq (.reg [] (
      ⟨some 21,none,.mov,[.t 6]⟩ ::
      ⟨some 22,none,.mov,[.t 8]⟩ ::
      ⟨some 23,none,.mkrow 1 (.int .i64 0) 1 [0],[.t 22]⟩ ::
      ⟨some 24,none,.app 3 1 none true,[.t 21,.t 23]⟩ ::
      ⟨some 6,none,.mov,[.t 24]⟩ ::
      []) [0,6,7,8,12,13,14])
     (.reg [] (
      ⟨some 25,none,.mov,[.t 7]⟩ ::
      ⟨some 26,none,.mov,[.t 8]⟩ ::
      ⟨some 27,none,.iaddrS 1,[.t 25,.t 26]⟩ ::
      ⟨none,none,.store 1,[.t 27,.k (.d (.int .i64 0))]⟩ ::
      []) [0,6,7,12,13,14]))
     (.skip)))))
   (.reg [] (
    ⟨some 28,none,.bin .add,[.t 14,.k (.d (.int .i64 1))]⟩ ::
    ⟨some 14,none,.mov,[.t 28]⟩ ::
    []) [0,6,7,12,13,14])))))))
 (.seq (.draw [.freeze 6,.freeze 7] (
  (⟨some 29,none,.mov,[.t 0]⟩,[]) ::
  (⟨some 30,none,.nilck,[.t 29]⟩,[]) ::
  (⟨some 31,none,.faddr 0,[.t 30]⟩,[]) ::
  (⟨some 32,none,.faddr 6,[.t 31]⟩,[]) ::
  (⟨some 33,none,.load true 3,[.t 32]⟩,[]) ::
  (⟨some 34,none,.mov,[.t 0]⟩,[]) ::
  (⟨some 35,none,.mov,[.t 7]⟩,[]) ::
  (⟨some 36,none,.call 42,[.t 34,.t 35]⟩,[4]) ::
  (⟨some 37,none,.mov,[.t 6]⟩,[]) ::
  (⟨some 38,none,.call 88,[.t 33,.t 36,.t 37]⟩,[]) ::
  (⟨some 39,none,.extract 0,[.t 38]⟩,[]) ::
  (⟨some 40,none,.extract 1,[.t 38]⟩,[]) ::
  (⟨some 4,none,.mov,[.t 39]⟩,[]) ::
  (⟨some 5,none,.mov,[.t 40]⟩,[]) ::
  []) [4,5])
 (.ret)))))
theorem Gi:Ch E0 Ez EQ [.t 4,.t 5] 41:=AM (fl:=[]) (by kernel_rfl)
end Go.Pw
end
