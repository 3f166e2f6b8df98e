/- A part of the proof. -/
import Derived.Test.YtibkjeolahobbaaGreatDoorPgChcW
import Derived.Test.YtibkjeolahobbaaGreatDoorPgChrM
import Derived.Test.YtibkjeolahobbaaGreatDoorPgChrBw
import Derived.Test.YtibkjeolahobbaaGreatDoorPwYa
import Derived.Test.YtibkjeolahobbaaGreatDoorChPC
set_option linter.all false
open Go Go.Pw Go.Proofs
namespace Go.Pw
set_option maxRecDepth 100000
set_option maxHeartbeats 3200000
section
theorem Vp {E:CB} {rs o els s}:ol E rs o els .ret s=(GE E s rs (fun _=>True)/\NZ els (s.V.ob o)):=rfl
theorem PP {E:CB} {rs o els s}:ol E rs o els .normal s=(GE E s rs (fun _=>True)/\NZ els (s.V.ob o)):=rfl
theorem Gc {els g e n st}:NZ els (some (g,.hist e n st))=(e=els/\(st=true\/n=els.length)):=rfl
def rE (n m:Nat) (xs:List Int):List (List Int):=(List.range m).map fun i=>(xs.drop (i*n)).take n
theorem mH (n m:Nat) (xs:List Int):(rE n m xs).length=m:=by simp[rE]
theorem mI {n m:Nat}(xs:List Int) {i:Nat}(h:i<m):(rE n m xs)[i]?=some ((xs.drop (i*n)).take n):=by simp[rE,h]
def Y5 (n m:Nat) (xs:List Int):List (List D):=(rE n m xs).map fun p=>[.list false (Aa p)]
theorem Ky (n m:Nat) (xs:List Int):(Y5 n m xs).length=m:=by simp[Y5,mH]
theorem R9 {n m:Nat}(xs:List Int) {i:Nat}(h:i<m):(Y5 n m xs)[i]?=some [.list false (Aa ((xs.drop (i*n)).take n))]:=by simp[Y5,mI xs h]
theorem dC:Cp.noR=true:=by rfl
attribute [local irreducible] IntKind.wrap Ai Option.getD and or
theorem D5 (n1 n2:Bool) (xs ys:List Int) (hx:Al xs=true) (hy:Al ys=true) (hl:xs.length<=ys.length) (h128:xs.length<=1000000) :
  BR E0 HI [.list n1 (Aa xs),.list n2 (Aa ys)] (.int .i64 (B' xs ys)):=by
 refine AM Ku Af (by simp) fun hwf=>?_
 rw[AQ];unfold GU
 simp -implicitDefEqProofs only[go_sem]
 refine AU (α:=Int×Int) (l0:=?l1) (m0:=?m1) (fun x=>[(8,.d (.int .i64 x.1)),(4,.d (.int .i64 x.2))]) (fun x=>[]) (fun x=>0<=x.1/\x.1<=xs.length/\0<=x.2/\x.2<=x.1/\x.2+B' (xs.drop x.1.toNat) (ys.drop x.1.toNat)=B' xs ys) (fun x=>(xs.length-x.1).toNat) (?a1_0,?a1_1) ?h01 ?he1 ?he21 ?hI1 ?step1
 case h01=>(simp -implicitDefEqProofs only[go_sem];rfl)
 case he1=>rfl
 case he21=>rfl
 case' step1=>(rintro⟨i,n⟩ hI;try dsimp only at hI)
 case' hI1=>try dsimp only
 ·simp
 ·by_cases hi:i<xs.length
  ·obtain⟨e,he⟩:∃e:Int,(if xs[i.toNat]?.getD 0=ys[i.toNat]?.getD 0 then 0 else 1)=e:=⟨_,rfl⟩
   have hxor:=Tm (Et hx (i:=i.toNat) (by omega)) (Et hy (i:=i.toNat) (by omega))
   have hd:B' (xs.drop i.toNat) (ys.drop i.toNat)=e+B' (xs.drop (i+1).toNat) (ys.drop (i+1).toNat):=by
    rw[ER (xs:=xs) (i:=i.toNat) (by omega),ER (xs:=ys) (i:=i.toNat) (by omega),B',he,show (i+1).toNat=i.toNat+1 by omega]
   rw[he] at hxor
   have he1:e=0\/e=1:=by rw[←he];split<;>simp
   (try (simp -implicitDefEqProofs only[go_sem]));repeat' first|(with_reducible first|exact tI|refine aI ?_ ?_|intro _|refine AJ ?_ ?_<;>intro _<;>try simp -implicitDefEqProofs only[go_sem])|simp (disch:=omega) only[Ad]|((with_reducible apply Ae);exact rfl)
   all_goals (try simp only[hxor])
   all_goals (try rw[AZ _ (by omega)])
   all_goals omega
  ·(try (simp -implicitDefEqProofs only[go_sem]));repeat' first|(with_reducible first|exact tI|refine aI ?_ ?_|intro _|refine AJ ?_ ?_<;>intro _<;>try simp -implicitDefEqProofs only[go_sem])|simp (disch:=omega) only[Ad]|((with_reducible apply Ae);exact rfl)
   all_goals first|omega|(simp<;>omega)|skip
   have h0:xs.drop i.toNat=[]:=List.drop_eq_nil_of_le (by omega)
   have h1:B' [] (ys.drop i.toNat)=0:=by simp[B']
   rw[h0,h1] at hI
   rw[←hI.2.2.2.2];simp
theorem Ti (nl:Bool) (xs:List Int) (n m:Nat) (hn:0<n) (hm:xs.length=m*n) (hb:xs.length<=1000000) (hnl:nl=false) :
  dR E0 CF [] [.ptr [.list nl (Aa xs)],.ptr [.int .i64 (n:Int)]] (Y5 n m xs):=by
 subst hnl
 refine Xx G1 Af dC (by simp) fun hwf _=>?_
 rw[De];unfold Cp
 (try (simp -implicitDefEqProofs only[go_sem]));repeat' first|(with_reducible first|exact tI|refine aI ?_ ?_|intro _|refine AJ ?_ ?_<;>intro _<;>try simp -implicitDefEqProofs only[go_sem])|simp (disch:=omega) only[Ad]|((with_reducible apply Ae);exact rfl)
 all_goals first|omega|(simp<;>omega)|skip
 refine AU (α:=Nat×Int) (l0:=?l2) (m0:=?m2) (fun x=>[(4,.d (.int .i64 x.2))]) (fun x=>[(900000,.hist (Y5 n m xs) x.1 false)]) (fun x=>x.1<=m/\x.2=((x.1*n:Nat):Int)) (fun x=>m-x.1) (0,0) ?h02 ?he2 ?he22 ?hI2 ?step2
 case h02=>(simp -implicitDefEqProofs only[go_sem];rfl)
 case he2=>rfl
 case he22=>rfl
 case' step2=>(rintro⟨i,a⟩ hI;try dsimp only at hI)
 case' hI2=>try dsimp only
 ·exact⟨Nat.zero_le _,by simp⟩
 ·obtain⟨i1,i2⟩:=hI
  change a=((i*n:Nat):Int) at i2
  subst i2
  by_cases hi:i<m
  ·have h1:i*n+n<=m*n:=by have:=Nat.mul_le_mul_right n (show i+1<=m by omega);rw[Nat.add_mul,Nat.one_mul] at this;exact this
   have h2:((i*n:Nat):Int)<(xs.length:Int):=by omega
   have wa:IntKind.i64.wrap (((i*n:Nat):Int)+(n:Int))=((i*n+n:Nat):Int):=by rw[AZ _ (by omega)];push_cast;rfl
   have hg:=R9 (n:=n) xs hi
   have hmn:min (n:Int) ((xs.drop (i*n)).length:Int)=(n:Int):=by rw[List.length_drop];omega
   (try (simp -implicitDefEqProofs only[go_sem,h2,wa,hg,hmn,Vp,Gc]));repeat' first|(with_reducible first|exact tI|refine aI ?_ ?_|intro _|refine AJ ?_ ?_<;>intro _<;>try simp -implicitDefEqProofs only[go_sem,h2,wa,hg,hmn,Vp,Gc])|simp (disch:=omega) only[Ad]|((with_reducible apply Ae);exact rfl)
   all_goals first|omega|(simp<;>omega)|skip
   rw[Nat.add_mul,Nat.one_mul]
  ·have h2:¬((i*n:Nat):Int)<(xs.length:Int):=by
    have:m*n<=i*n:=Nat.mul_le_mul_right n (by omega)
    omega
   have him:i=(Y5 n m xs).length:=by rw[Ky];omega
   (try (simp -implicitDefEqProofs only[go_sem,h2,PP,Gc]));repeat' first|(with_reducible first|exact tI|refine aI ?_ ?_|intro _|refine AJ ?_ ?_<;>intro _<;>try simp -implicitDefEqProofs only[go_sem,h2,PP,Gc])|simp (disch:=omega) only[Ad]|((with_reducible apply Ae);exact rfl)
   all_goals first|omega|(simp<;>omega)|skip
theorem Tj (nl:Bool) (xs:List Int) (n:Nat) (hn:0<n):BR E0 FH [.list nl (Aa xs),.int .i64 (n:Int)] (.fn CF [.ptr [.list nl (Aa xs)],.ptr [.int .i64 (n:Int)]]):=by
 refine AM Ht Af (by simp) fun hwf=>?_
 rw[AQ];unfold Eh
 have h1:¬(n:Int)<1:=by omega
 (try (simp -implicitDefEqProofs only[go_sem,h1]));repeat' first|(with_reducible first|exact tI|refine aI ?_ ?_|intro _|refine AJ ?_ ?_<;>intro _<;>try simp -implicitDefEqProofs only[go_sem,h1])|simp (disch:=omega) only[Ad]
 all_goals first|rfl|skip
theorem Yf (n1 n2:Bool) (xs ys:List Int):BR E0 CG [.list n1 (Aa xs),.ptr [.list n2 (Aa ys)]] (.bool (decide (xs=ys))):=by
 have c1:=Jo n1 n2 xs ys
 refine AM G4 Af (by simp) fun hwf=>?_
 rw[AQ];unfold EE
 (try (simp -implicitDefEqProofs only[go_sem]));repeat' first|(with_reducible first|exact tI|refine aI ?_ ?_|intro _)|((first|with_reducible refine AJ ?_ ?_<;>intro _|(with_reducible refine isCall ?_);first|refine AE c1 ?_)<;>try (simp -implicitDefEqProofs only[go_sem]))|simp (disch:=omega) only[Ad]
 all_goals (rename_i h;rw[h])
end
section
def jr (c:AW) (s:Nat):List D:=(List.range 16).map fun k=>if k<s then .list false (Aa (c.stm k)) else .list true []
theorem jq (c:AW) (s:Nat):(jr c s).length=16:=by simp[jr]
theorem oX (c:AW):jr c 16=FR c:=by
 unfold jr FR
 apply List.map_congr_left
 intro k hk
 rw[if_pos (by simpa using hk)]
def HL (c:AX) (s:Nat):List AV:=(Sv c (jr c.code s)).map AV.d
theorem RN (c:AX) (s:Nat):(HL c s).length=28:=by
 unfold HL Sv;simp[jq]
theorem RO (c:AX) {s k:Nat}(h:k<s) (h16:k<16):(HL c s)[12+k]?=some (.d (.list false (Aa (c.code.stm k)))):=by
 unfold HL Sv
 rw[List.getElem?_map,RZ]
 simp[jr,h,h16]
theorem bD (c:AX) {s:Nat}(h:s<16):List.take (12+s) (HL c s)++[.d (.list false (Aa (c.code.stm s)))]++List.drop (12+s+1) (HL c s)=HL c (s+1):=by
 apply List.ext_getElem?
 intro i
 have hl:=RN c s
 rcases Nat.lt_trichotomy i (12+s) with h1|h1|h1
 ·rw[List.append_assoc,List.getElem?_append_left (by rw[List.length_take];omega),List.getElem?_take_of_lt h1]
  unfold HL
  rw[List.getElem?_map,List.getElem?_map]
  congr 1
  unfold Sv
  by_cases h2:i<12
  ·match i,h2 with
   |0,_=>rfl|1,_=>rfl|2,_=>rfl|3,_=>rfl|4,_=>rfl|5,_=>rfl|6,_=>rfl|7,_=>rfl|8,_=>rfl|9,_=>rfl|10,_=>rfl|11,_=>rfl
  ·obtain⟨k,rfl⟩:∃k,i=12+k:=⟨i-12,by omega⟩
   rw[RZ,RZ]
   simp only[jr,List.getElem?_map]
   rw[List.getElem?_range (by omega)]
   simp only[Option.map_some]
   rw[if_pos (by omega),if_pos (by omega)]
 ·subst h1
  rw[List.append_assoc,List.getElem?_append_right (by rw[List.length_take];omega),List.length_take,RO c (by omega) h]
  rw[show 12+s-min (12+s) (HL c s).length=0 by omega]
  rfl
 ·rw[List.getElem?_append_right (by rw[List.length_append,List.length_take];simp;omega),List.length_append,List.length_take,List.getElem?_drop]
  rw[show 12+s+1+(i-(min (12+s) (HL c s).length+[AV.d (.list false (Aa (c.code.stm s)))].length))=i by simp;omega]
  unfold HL
  rw[List.getElem?_map,List.getElem?_map]
  congr 1
  unfold Sv
  obtain⟨k,rfl⟩:∃k,i=12+k:=⟨i-12,by omega⟩
  rw[RZ,RZ]
  simp only[jr,List.getElem?_map]
  by_cases h3:k<16
  ·rw[List.getElem?_range h3]
   simp only[Option.map_some]
   rw[if_neg (by omega),if_neg (by omega)]
  ·rw[List.getElem?_eq_none (by simp;omega)];rfl
theorem pL (c:AX):HL c 0=[.d (.int .i64 c.code.bits),.d (.int .i64 c.code.out),.d (.int .i64 c.code.least),.d (.int .i64 c.code.most),.d (.list c.code.nw (Bv c.code.words)),.d (.list c.code.nn (Bv c.code.next)),.d (.int .i64 c.L),.d (.int .i64 c.P),.d (.int .i64 c.Q),.d (.list c.nm (Aa c.mark)),.d (.int .i64 c.seed),.d (.int .i64 c.errs),.d (.list true []),.d (.list true []),.d (.list true []),.d (.list true []),.d (.list true []),.d (.list true []),.d (.list true []),.d (.list true []),.d (.list true []),.d (.list true []),.d (.list true []),.d (.list true []),.d (.list true []),.d (.list true []),.d (.list true []),.d (.list true [])]:=rfl
theorem kx {xs:List D}(h:∀x,x∈xs->(AV.d x).toD1=some x):Ax AV.toD1 (xs.map AV.d)=some xs:=by
 induction xs with
 |nil=>rfl
 |cons x xs ih =>
  simp only[List.map_cons,Ax,h x (by simp),ih fun y hy=>h y (by simp[hy])]
theorem bE (c:AX):Ax AV.toD1 (HL c 16)=some (Sv c (FR c.code)):=by
 unfold HL;rw[oX]
 refine kx fun x hx=>?_
 simp only[Sv,List.mem_cons] at hx
 rcases hx with rfl|rfl|rfl|rfl|rfl|rfl|rfl|rfl|rfl|rfl|rfl|rfl|hx
 all_goals first|rfl|skip
 simp only[FR,List.mem_map] at hx
 obtain⟨k,_,rfl⟩:=hx
 rfl
theorem ZT {V:AN}{o g:Nat}:AV.snap V (.ptr o g 0)=match V.get o g with
 |some (.cells xs)=>match Ax AV.toD1 xs with|some (c::l)=>some (.ptr (c::l))|_=>none
 |_=>none:=rfl
theorem X4 (c:AX):(match Ax AV.toD1 (HL c 16) with|some (c::l)=>some (D.ptr (c::l))|_=>none)=some (.ptr (Sv c (FR c.code))):=by rw[bE];rfl
theorem Wo {c:AW}{s:Nat}(h:Ib c s=true) (h2:∀k,k<s->c.stm k≠c.stm s):Ib c (s+1)=true:=by
 rw[Ul] at h ⊢
 intro a b ha hb
 by_cases e:a=s
 ·subst e;exact h2 b hb
 ·exact h a b (by omega) hb
theorem iG {c:AW}{s k:Nat}(hs:s<16) (hk:k<s) (e:c.stm k=c.stm s):Ib c 16=false:=by
 cases h:Ib c 16 with
 |false=>rfl
 |true=>exact absurd e (Ul.1 h s k hs hk)
theorem F1 (V:AN) (os:List Nat) (c:AX) (s:Nat):List.map (AV.nrm V os) (HL c s)=HL c s:=by
 unfold HL
 rw[List.map_map]
 exact List.map_congr_left fun x _=>rfl
theorem F0 (c:AX) (s:Nat):(HL c s).all AV.one=true:=by
 rw[List.all_eq_true]
 intro x hx
 simp only[HL,List.mem_map,Sv,List.mem_cons] at hx
 obtain⟨y,hy,rfl⟩:=hx
 rcases hy with rfl|rfl|rfl|rfl|rfl|rfl|rfl|rfl|rfl|rfl|rfl|rfl|hy
 all_goals first|rfl|skip
 simp only[jr,List.mem_map] at hy
 obtain⟨k,_,rfl⟩:=hy
 split<;>rfl
def jO (c:AX):D:=if c.ok=true then .ptr (Sv c (FR c.code)) else .nilptr
def Oq (c:AX):Int:=if c.ok=true then 0 else 130
theorem JC {c:AX}(h:c.ok=true):jO c=.ptr (Sv c (FR c.code))/\Oq c=0:=by unfold jO Oq;rw[if_pos h,if_pos h];exact⟨rfl,rfl⟩
theorem Hn {c:AX}(h:c.ok=false):jO c=.nilptr/\Oq c=130:=by unfold jO Oq;rw[if_neg (by simp[h]),if_neg (by simp[h])];exact⟨rfl,rfl⟩
theorem gk (mark:List Int):(Ki mark [] 0).2=if CE mark=true then 0 else 1:=by
 unfold Ki
 cases CE mark<;>rfl
theorem av (s:Int):(Gn s []).2=if B_ s 1 127=true then 0 else 1:=by
 unfold Gn Cj
 cases B_ s 1 127<;>rfl
attribute [local irreducible] IntKind.wrap Ai Option.getD and or
theorem EA (c:AX):BR E0 LG [DJ c] (.tup [jO c,.int .i64 (Oq c)]):=by
 have c1:=Jp c.code
 have c2:=N0 c.L c.P c.Q
 have c3:=R8 c.nm true c.mark [] 0
 have c4:=G8 c.seed true []
 have f1:=gk c.mark
 have f2:=av c.seed
 obtain⟨fl,hfl⟩:∃x,Ki c.mark [] 0=x:=⟨_,rfl⟩
 obtain⟨sl,hsl⟩:∃x,Gn c.seed []=x:=⟨_,rfl⟩
 rw[hfl] at c3 f1
 rw[hsl] at c4 f2
 rw[f1] at c3
 rw[f2] at c4
 have e1:c.code.ok=false->Kk c.code.ok 40=40:=fun h=>by rw[h];rfl
 have e0:c.code.ok=true->Kk c.code.ok 40=0:=fun h=>by rw[h];rfl
 have no:(c.code.ok && (CL c.L c.P c.Q && (decide (c.Q*c.L<=32) && (CE c.mark && (B_ c.seed 1 127 && B_ c.errs 0 16)))))=false->jO c=.nilptr/\Oq c=130:=fun h=>Hn (by
  unfold AX.ok
  cases h1:c.code.ok<;>cases h2:CL c.L c.P c.Q<;>cases h3:decide (c.Q*c.L<=32)<;>cases h4:CE c.mark<;>cases h5:B_ c.seed 1 127<;>cases h6:B_ c.errs 0 16<;>simp_all)
 cases h1:c.code.ok with
 |false =>
  obtain⟨o1,o2⟩:=no (by simp only[h1,Bool.false_and])
  rw[o1,o2];rw[e1 h1] at c1
  refine AM CZ Af (by simp) fun hwf=>?_
  rw[AQ];unfold CP
  (try (simp -implicitDefEqProofs only[go_sem,AP,AO,A0]));repeat' first|(with_reducible first|exact tI|refine aI ?_ ?_|intro _)|((first|with_reducible refine AJ ?_ ?_<;>intro _|(with_reducible refine isCall ?_);first|refine AE c1 ?_|refine AE c2 ?_|refine AE c3 ?_|refine AE c4 ?_)<;>try (simp -implicitDefEqProofs only[go_sem,AP,AO,A0]))|simp (disch:=omega) only[Ad]|((with_reducible apply Ab);exact rfl)
  all_goals first|rfl|skip
 |true =>
 rw[e0 h1] at c1
 cases h2:CL c.L c.P c.Q with
 |false =>
  obtain⟨o1,o2⟩:=no (by simp only[h1,h2,Bool.true_and,Bool.false_and])
  rw[o1,o2];rw[h2] at c2;simp only[Bool.false_eq_true,if_false] at c2
  refine AM CZ Af (by simp) fun hwf=>?_
  rw[AQ];unfold CP
  (try (simp -implicitDefEqProofs only[go_sem,AP,AO,A0]));repeat' first|(with_reducible first|exact tI|refine aI ?_ ?_|intro _)|((first|with_reducible refine AJ ?_ ?_<;>intro _|(with_reducible refine isCall ?_);first|refine AE c1 ?_|refine AE c2 ?_|refine AE c3 ?_|refine AE c4 ?_)<;>try (simp -implicitDefEqProofs only[go_sem,AP,AO,A0]))|simp (disch:=omega) only[Ad]|((with_reducible apply Ab);exact rfl)
  all_goals first|rfl|skip
 |true =>
 rw[h2] at c2;simp only[if_true] at c2
 cases h4:CE c.mark with
 |false =>
  obtain⟨o1,o2⟩:=no (by simp only[h1,h2,h4,Bool.true_and,Bool.false_and,Bool.and_false])
  rw[o1,o2];rw[h4] at c3;simp only[Bool.false_eq_true,if_false] at c3
  refine AM CZ Af (by simp) fun hwf=>?_
  rw[AQ];unfold CP
  (try (simp -implicitDefEqProofs only[go_sem,AP,AO,A0]));repeat' first|(with_reducible first|exact tI|refine aI ?_ ?_|intro _)|((first|with_reducible refine AJ ?_ ?_<;>intro _|(with_reducible refine isCall ?_);first|refine AE c1 ?_|refine AE c2 ?_|refine AE c3 ?_|refine AE c4 ?_)<;>try (simp -implicitDefEqProofs only[go_sem,AP,AO,A0]))|simp (disch:=omega) only[Ad]|((with_reducible apply Ab);exact rfl)
  all_goals first|rfl|skip
 |true =>
 rw[h4] at c3;simp only[if_true] at c3
 cases h5:B_ c.seed 1 127 with
 |false =>
  obtain⟨o1,o2⟩:=no (by simp only[h1,h2,h4,h5,Bool.true_and,Bool.false_and,Bool.and_false])
  rw[o1,o2];rw[h5] at c4;simp only[Bool.false_eq_true,if_false] at c4
  refine AM CZ Af (by simp) fun hwf=>?_
  rw[AQ];unfold CP
  (try (simp -implicitDefEqProofs only[go_sem,AP,AO,A0]));repeat' first|(with_reducible first|exact tI|refine aI ?_ ?_|intro _)|((first|with_reducible refine AJ ?_ ?_<;>intro _|(with_reducible refine isCall ?_);first|refine AE c1 ?_|refine AE c2 ?_|refine AE c3 ?_|refine AE c4 ?_)<;>try (simp -implicitDefEqProofs only[go_sem,AP,AO,A0]))|simp (disch:=omega) only[Ad]|((with_reducible apply Ab);exact rfl)
  all_goals first|rfl|skip
 |true =>
 rw[h5] at c4;simp only[if_true] at c4
 have c5:=fun r=>EL c r h2
 by_cases h3:c.Q*c.L<=32/\0<=c.errs/\c.errs<=16
 ·obtain⟨h3,h6,h7⟩:=h3
  have n3:¬32<c.Q*c.L:=by omega
  have n6:¬c.errs<0:=by omega
  have n7:¬16<c.errs:=by omega
  have h6i:B_ c.errs 0 16=true:=by simp only[B_,decide_eq_true_eq];omega
  have hok:Ib c.code 16=true->c.ok=true:=fun h=>by
   unfold AX.ok;rw[h1,h2,decide_eq_true h3,h4,h5,h6i,h];simp only[Bool.and_self]
  have hnok:Ib c.code 16=false->c.ok=false:=fun h=>by
   unfold AX.ok;rw[h,Bool.and_false,Bool.and_false,Bool.and_false,Bool.and_false,Bool.and_false,Bool.and_false]
  have hce:=fun(s:Nat)=>PA c.code 0 false (H8 c.code.bits.toNat s)
  have hse:=fun(s:Nat)=>Fj (Xl h1 s)
  simp only[lq h1,hse] at hce
  refine AM CZ Af (by simp) fun hwf=>?_
  rw[AQ];unfold CP
  (try (simp -implicitDefEqProofs only[go_sem,AP,AO,A0,n3,n6,n7]));repeat' first|(with_reducible first|exact tI|refine aI ?_ ?_|intro _)|((first|with_reducible refine AJ ?_ ?_<;>intro _|(with_reducible refine isCall ?_);first|refine AE c1 ?_|refine AE c2 ?_|refine AE c3 ?_|refine AE c4 ?_|refine AE (c5 _) ?_)<;>try (simp -implicitDefEqProofs only[go_sem,AP,AO,A0,n3,n6,n7]))|simp (disch:=omega) only[Ad]|((with_reducible apply Ab);exact rfl)
  all_goals first|omega|(simp<;>omega)|skip
  rw[←pL]
  refine AU (α:=Nat) (l0:=?l1) (m0:=?m1) (fun x=>[(58,.d (.int .i64 (x:Int)))]) (fun x=>[(17,.cells (HL c x))]) (fun x=>x<=16/\Ib c.code x=true) (fun x=>16-x) 0 ?h01 ?he1 ?he21 ?hI1 ?step1
  case h01=>(simp -implicitDefEqProofs only[go_sem,F1,F0];rfl)
  case he1=>rfl
  case he21=>rfl
  case' step1=>(rintro s hI;try dsimp only at hI)
  case' hI1=>try dsimp only
  ·exact⟨Nat.zero_le _,rfl⟩
  ·obtain⟨i1,i2⟩:=hI
   by_cases hs:s<16
   ·have hs':(s:Int)<16:=by omega
    have c6:=N3 c.code h1 s hs
    have c7:=hce s
    have hst:=bD c hs
    have hl:=RN c s
    have hl':=RN c (s+1)
    have hi28:12+s<28:=by omega
    have hws:IntKind.i64.wrap ((s:Int)+1)=((s+1:Nat):Int):=by rw[AZ _ (by omega)];omega
    (try (simp -implicitDefEqProofs only[go_sem,Au,Aq,hs',hst,hl,hi28,F1,F0]));repeat' first|(with_reducible first|exact tI|refine aI ?_ ?_|intro _)|((first|with_reducible refine AJ ?_ ?_<;>intro _|(with_reducible refine isCall ?_);first|refine AE c6 ?_|refine AE c7 ?_)<;>try (simp -implicitDefEqProofs only[go_sem,Au,Aq,hs',hst,hl,hi28,F1,F0]))|simp (disch:=omega) only[Ad]|((with_reducible apply Ab);exact rfl)
    all_goals first|omega|(simp<;>omega)|skip
    refine AU (α:=Nat) (l0:=?l2) (m0:=?m2) (fun x=>[(83,.d (.int .i64 (x:Int)))]) (fun x=>[(17,.cells (HL c (s+1)))]) (fun x=>x<=s/\∀j,j<x->c.code.stm j≠c.code.stm s) (fun x=>s-x) 0 ?h02 ?he2 ?he22 ?hI2 ?step2
    case h02=>(simp -implicitDefEqProofs only[go_sem,F1,F0];rfl)
    case he2=>rfl
    case he22=>rfl
    case' step2=>(rintro k hI2;try dsimp only at hI2)
    case' hI2=>try dsimp only
    ·exact⟨Nat.zero_le _,fun j hj=>by omega⟩
    ·obtain⟨k1,k2⟩:=hI2
     by_cases hk:k<s
     ·have hk':(k:Int)<(s:Int):=by omega
      have g1:=RO c (s:=s+1) (k:=k) (by omega) (by omega)
      have g2:=RO c (s:=s+1) (k:=s) (by omega) hs
      have hwk:IntKind.i64.wrap ((k:Int)+1)=((k+1:Nat):Int):=by rw[AZ _ (by omega)];omega
      have c8:=Jo false false (c.code.stm k) (c.code.stm s)
      by_cases he:c.code.stm k=c.code.stm s
      ·rw[decide_eq_true he] at c8
       obtain⟨o1,o2⟩:=Hn (hnok (iG hs hk he))
       rw[o1,o2]
       (try (simp -implicitDefEqProofs only[go_sem,hs',hk',hk,g1,g2,hl']));repeat' first|(with_reducible first|exact tI|refine aI ?_ ?_|intro _)|((first|with_reducible refine AJ ?_ ?_<;>intro _|(with_reducible refine isCall ?_);first|refine AE c8 ?_)<;>try (simp -implicitDefEqProofs only[go_sem,hs',hk',hk,g1,g2,hl']))|simp (disch:=omega) only[Ad]|((with_reducible apply Ab);exact rfl)
       all_goals first|omega|(simp<;>omega)|skip
       all_goals first|rfl|skip
      ·rw[decide_eq_false he] at c8
       (try (simp -implicitDefEqProofs only[go_sem,hs',hk',hk,g1,g2,hl',hwk,F1,F0]));repeat' first|(with_reducible first|exact tI|refine aI ?_ ?_|intro _)|((first|with_reducible refine AJ ?_ ?_<;>intro _|(with_reducible refine isCall ?_);first|refine AE c8 ?_)<;>try (simp -implicitDefEqProofs only[go_sem,hs',hk',hk,g1,g2,hl',hwk,F1,F0]))|simp (disch:=omega) only[Ad]|((with_reducible apply Ab);exact rfl)
       all_goals first|omega|(simp<;>omega)|skip
       rename_i j hj
       by_cases e:j=k
       ·rw[e];exact he
       ·exact k2 j (by omega)
     ·have hk':¬(k:Int)<(s:Int):=by omega
      have hds:=Wo i2 fun j hj=>k2 j (by omega)
      (try (simp -implicitDefEqProofs only[go_sem,hk',hk,hws,hl',F1,F0]));repeat' first|(with_reducible first|exact tI|refine aI ?_ ?_|intro _|refine AJ ?_ ?_<;>intro _<;>try simp -implicitDefEqProofs only[go_sem,hk',hk,hws,hl',F1,F0])|simp (disch:=omega) only[Ad]|((with_reducible apply Ab);exact rfl)
      all_goals first|omega|(simp<;>omega)|skip
      all_goals first|rfl|skip
   ·have hs16:s=16:=by omega
    subst hs16
    obtain⟨o1,o2⟩:=JC (hok i2)
    have hsn:=X4 c
    rw[o1,o2]
    (try (simp -implicitDefEqProofs only[go_sem,ZT,hsn]));repeat' first|(with_reducible first|exact tI|refine aI ?_ ?_|intro _|refine AJ ?_ ?_<;>intro _<;>try simp -implicitDefEqProofs only[go_sem,ZT,hsn])|simp (disch:=omega) only[Ad]|((with_reducible apply Ab);exact rfl)
    all_goals first|omega|(simp<;>omega)|skip
    all_goals first|rfl|skip
 ·obtain⟨o1,o2⟩:=no (by
   rw[h1,h2,h4,h5]
   simp only[Bool.true_and,B_]
   rw[Bool.and_eq_false_iff,decide_eq_false_iff_not,decide_eq_false_iff_not]
   omega)
  rw[o1,o2]
  refine AM CZ Af (by simp) fun hwf=>?_
  rw[AQ];unfold CP
  (try (simp -implicitDefEqProofs only[go_sem,AP,AO,A0]));repeat' first|(with_reducible first|exact tI|refine aI ?_ ?_|intro _)|((first|with_reducible refine AJ ?_ ?_<;>intro _|(with_reducible refine isCall ?_);first|refine AE c1 ?_|refine AE c2 ?_|refine AE c3 ?_|refine AE c4 ?_|refine AE (c5 _) ?_)<;>try (simp -implicitDefEqProofs only[go_sem,AP,AO,A0]))|simp (disch:=omega) only[Ad]|((with_reducible apply Ab);exact rfl)
  all_goals first|omega|(simp<;>omega)|skip
  all_goals first|rfl|skip
structure HJ (c:AX):Prop where
 code:c.code.ok=true
 wev:CL c.L c.P c.Q=true
 ql:c.Q*c.L<=32
 mark:CE c.mark=true
 seed:B_ c.seed 1 127=true
 errs:0<=c.errs/\c.errs<=16
 dst:Ib c.code 16=true
theorem JO {c:AX}(h:c.ok=true):HJ c:=by
 unfold AX.ok at h
 simp only[Bool.and_eq_true,decide_eq_true_eq,B_] at h
 exact⟨h.1,h.2.1,h.2.2.1,h.2.2.2.1,by simp only[B_,decide_eq_true_eq];exact h.2.2.2.2.1,h.2.2.2.2.2.1,h.2.2.2.2.2.2⟩
theorem HJ.markl {c:AX}(h:HJ c):1<=c.mark.length/\c.mark.length<=16/\Al c.mark=true:=by
 have h1:=h.mark
 simp only[CE,B_,Bool.and_eq_true,decide_eq_true_eq] at h1
 exact⟨by omega,by omega,h1.2⟩
theorem HJ.syms {c:AX}(h:HJ c):2<=c.syms/\c.syms<=32/\c.Q*c.L=((c.syms:Nat):Int):=by
 have h1:=TE h.wev
 have h2:=QF h.wev
 have h3:=h.ql
 omega
theorem HJ.tot {c:AX}(h:HJ c):c.syms*c.code.sz<=640/\c.tot<=656:=by
 have h1:=h.syms;have h2:=Hl h.code;have h3:=h.markl
 have:c.syms*c.code.sz<=32*20:=Nat.mul_le_mul h1.2.1 h2.2
 unfold AX.tot;omega
end
def DR:PC :=
 .seq (.reg [] (AG 4 .mov [.k (.d (.list true []))]::[]) [0,1,4]) (.seq (.reg [] (AG 5 .mov [.k (.d (.list true []))]::[]) [0,1,4,5]) (.seq (.seq (.reg [] (AA 14 1::AD 15 (.len false) 14::AL 16 0::[]) [0,4,5,14,15,16]) (.block 0 (.loop [.freeze 4,.own 5 30 3 1] [0,4,5,14,15,16] [30,39,10039,900000,900001,901000,901001,5000030,5000039,5010039] (.seq (.reg [] (AB 17 (.bin .lss) 16 15::[]) [0,4,5,14,15,16,17]) (.seq (.cond (.t 17) (.skip) (.exit 0)) (.seq (.block 1 (.seq (.reg [] (AB 18 (.iaddrS 1) 14 16::AF 19 1 18::AA 7 19::[]) [0,4,5,7,14,15,16]) (.seq (.reg [] (AL 8 3::[]) [0,4,5,7,8,14,15,16]) (.block 2 (.loop [.freeze 4,.own 5 30 3 1] [0,4,5,7,8,14,15,16] [30,39,10039,900000,900001,901000,901001,5000030,5000039,5010039] (.seq (.seq (.reg [] (AA 20 8::AK 21 (.bin .geq) 20 0::[]) [0,4,5,7,8,14,15,16,21]) (.cond (.t 21) (.skip) (.exit 2))) (.seq (.block 3 (.reg [] (AA 24 5::AA 25 7::AA 26 8::AB 27 (.bin .shr) 25 26::AK 28 (.bin .and) 27 1::AD 29 (.mkrow 1 (.int .i64 0) 1 [0]) 28::AB 30 (.app 3 1 none true) 24 29::AA 5 30::[]) [0,4,5,7,8,14,15,16])) (.reg [] (AA 22 8::AK 23 (.bin .sub) 22 1::AA 8 23::[]) [0,4,5,7,8,14,15,16])))))))) (.reg [] (AK 31 (.bin .add) 16 1::AA 16 31::[]) [0,4,5,14,15,16]))))))) (.seq (.reg [.freeze 5] (AA 33 0::AD 34 .nilck 33::AR 35 0 34::AR 36 10 35::AF 37 1 36::AA 38 5::AB 39 (.call 73) 37 38::AA 32 39::Ar 40 0 32::Ar 41 1 32::AA 5 40::[]) [4,5]) (.seq (.reg [] (AG 9 (.zero [.list true []]) []::[]) [4,5,9]) (.seq (.seq (.reg [.freeze 5] (AA 42 5::AK 43 (.call 83) 42 4::[]) [4,9,43]) (.block 4 (.rngF [.freeze 4] (.t 43) [44] [4,9] [9,59,5000009,5000059] (.reg [] (AA 10 44::[]) [9,10]) [] [9,59,5000009,5000059] (.block 5 (.seq (.reg [] (AL 11 0::[]) [9,10,11]) (.seq (.seq (.reg [] (AA 45 10::AD 46 (.len false) 45::AL 47 0::[]) [9,11,45,46,47]) (.block 6 (.loop [] [9,11,45,46,47] [9,59,5000009,5000059] (.seq (.reg [] (AB 48 (.bin .lss) 47 46::[]) [9,11,45,46,47,48]) (.seq (.cond (.t 48) (.skip) (.exit 6)) (.seq (.block 7 (.seq (.reg [] (AB 49 (.iaddrS 1) 45 47::AF 50 1 49::AA 13 50::[]) [9,11,13,45,46,47]) (.reg [] (AA 51 11::AG 52 (.bin .mul) [.k (.d (.int .i64 2)),.t 51]::AA 53 13::AB 54 (.bin .add) 52 53::AA 11 54::[]) [9,11,45,46,47]))) (.reg [] (AK 55 (.bin .add) 47 1::AA 47 55::[]) [9,11,45,46,47]))))))) (.reg [] (AF 56 1 9::AA 57 11::AD 58 (.mkrow 1 (.int .i64 0) 1 [0]) 57::AB 59 (.app 3 1 none true) 56 58::BB (.store 1) [.t 9,.t 59]::[]) []))))))) (.seq (.reg [] (AF 60 1 9::AA 4 60::[]) [4]) (.ret)))))))
theorem F4:Bc E0 D6 DR [.t 4] 61:=AH (fl:=[]) (by kernel_rfl)
def D0:PC :=
 .seq (.reg [] (AG 4 .mov [.k (.d (.list true []))]::AL 5 0::[]) [0,1]) (.seq (.reg [] (AG 6 .mov [.k (.d (.list true []))]::[]) [0,1,6]) (.seq (.reg [] (AA 10 1::AD 11 (.call 41) 10::AA 7 11::[]) [0,6,7]) (.seq (.seq (.reg [] (AA 12 7::AD 13 (.len false) 12::AL 14 0::[]) [0,6,7,12,13,14]) (.block 0 (.loop [.own 6 24 3 1] [0,6,7,12,13,14] [11,24,10011,900000,901000] (.seq (.reg [] (AB 15 (.bin .lss) 14 13::[]) [0,6,7,12,13,14,15]) (.seq (.cond (.t 15) (.skip) (.exit 0)) (.seq (.block 1 (.seq (.reg [] (AA 16 14::AB 17 (.iaddrS 1) 12 14::AF 18 1 17::AA 8 16::AA 9 18::[]) [0,6,7,8,9,12,13,14]) (.seq (.reg [] (AA 19 9::AK 20 (.bin .eql) 19 (-1)::[]) [0,6,7,8,12,13,14,20]) (.cond (.t 20) (.seq (.reg [] (AA 21 6::AA 22 8::AD 23 (.mkrow 1 (.int .i64 0) 1 [0]) 22::AB 24 (.app 3 1 none true) 21 23::AA 6 24::[]) [0,6,7,8,12,13,14]) (.reg [] (AA 25 7::AA 26 8::AB 27 (.iaddrS 1) 25 26::BB (.store 1) [.t 27,.k (.d (.int .i64 0))]::[]) [0,6,7,12,13,14])) (.skip))))) (.reg [] (AK 28 (.bin .add) 14 1::AA 14 28::[]) [0,6,7,12,13,14]))))))) (.seq (.draw [.freeze 6,.freeze 7] ((AA 29 0,[])::(AD 30 .nilck 29,[])::(AR 31 0 30,[])::(AR 32 6 31,[])::(AD 33 (.load true 3) 32,[])::(AA 34 0,[])::(AA 35 7,[])::(AB 36 (.call 42) 34 35,[4])::(AA 37 6,[])::(AG 38 (.call 88) [.t 33,.t 36,.t 37],[])::(Ar 39 0 38,[])::(Ar 40 1 38,[])::(AA 4 39,[])::(AA 5 40,[])::[]) [4,5]) (.ret)))))
theorem Gf:Bc E0 EV D0 [.t 4,.t 5] 41:=AH (fl:=[]) (by kernel_rfl)
end Go.Pw
