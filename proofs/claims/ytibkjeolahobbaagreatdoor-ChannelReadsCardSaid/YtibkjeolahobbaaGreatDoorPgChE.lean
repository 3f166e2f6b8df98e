/- A part of the proof. -/
import Derived.Test.YtibkjeolahobbaaGreatDoorPgChcS
import Derived.Test.YtibkjeolahobbaaGreatDoorPgChrM
import Derived.Test.YtibkjeolahobbaaGreatDoorPwYa
import Derived.Test.YtibkjeolahobbaaGreatDoorChPC
set_option linter.all false
open Go Go.Pw Go.Proofs
namespace Go.Pw
set_option maxRecDepth 100000
set_option maxHeartbeats 3200000
section
theorem W3 {E:Cn} {rs o els s}:oT E rs o els .ret s=(G1 E s rs (fun _=>True)/\Ob els (s.V.ob o)):=rfl
theorem QZ {E:Cn} {rs o els s}:oT E rs o els .normal s=(G1 E s rs (fun _=>True)/\Ob els (s.V.ob o)):=rfl
theorem HP {els g e n st}:Ob els (some (g,.hist e n st))=(e=els/\(st=true\/n=els.length)):=rfl
def qe (n m:Nat) (xs:List Int):List (List Int):=(List.range m).map fun i=>(xs.drop (i*n)).take n
theorem mW (n m:Nat) (xs:List Int):(qe n m xs).length=m:=by simp[qe]
theorem mX {n m:Nat}(xs:List Int) {i:Nat}(h:i<m):(qe n m xs)[i]?=some ((xs.drop (i*n)).take n):=by simp[qe,h]
def Z_ (n m:Nat) (xs:List Int):List (List D):=(qe n m xs).map fun p=>[.list false (Ab p)]
theorem Lq (n m:Nat) (xs:List Int):(Z_ n m xs).length=m:=by simp[Z_,mW]
theorem S8 {n m:Nat}(xs:List Int) {i:Nat}(h:i<m):(Z_ n m xs)[i]?=some [.list false (Ab ((xs.drop (i*n)).take n))]:=by simp[Z_,mX xs h]
theorem eG:DZ.noR=true:=by rfl
attribute [local congr] Bm A' BA Au Bn Az A1 A0 Ar Al Af Aa Aw Ag Ax BM BQ BO BP BN BR BG Aj Ay Ak BE BX Ai BK BL BF BH BJ BI BC BD A_ Bp BB Av Ah
attribute [local irreducible] IntKind.wrap A3 Option.getD and or
theorem Et (n1 n2:Bool) (xs ys:List Int) (hx:A8 xs=true) (hy:A8 ys=true) (hl:xs.length<=ys.length) (h128:xs.length<=1000000) :
  CA E0 H6 [.list n1 (Ab xs),.list n2 (Ab ys)] (.int .i64 (Cs xs ys)):=by
 refine AL Ln An (by simp) fun hwf=>?_
 rw[AR];unfold HI
 simp -implicitDefEqProofs only[go_sem]
 refine AX (α:=Int×Int) (l0:=?l1) (m0:=?m1) (fun x=>[(8,.d (.int .i64 x.1)),(4,.d (.int .i64 x.2))]) (fun x=>[]) (fun x=>0<=x.1/\x.1<=xs.length/\0<=x.2/\x.2<=x.1/\x.2+Cs (xs.drop x.1.toNat) (ys.drop x.1.toNat)=Cs xs ys) (fun x=>(xs.length-x.1).toNat) (?a1_0,?a1_1) ?h01 ?he1 ?he21 ?hI1 ?step1
 case h01=>(simp -implicitDefEqProofs only[go_sem];rfl)
 case he1=>rfl
 case he21=>rfl
 case' step1=>(rintro⟨i,n⟩ hI;try dsimp only at hI)
 case' hI1=>try dsimp only
 ·simp
 ·by_cases hi:i<xs.length
  ·obtain⟨e,he⟩:∃e:Int,(if xs[i.toNat]?.getD 0=ys[i.toNat]?.getD 0 then 0 else 1)=e:=⟨_,rfl⟩
   have hxor:=Ux (Fi hx (i:=i.toNat) (by omega)) (Fi hy (i:=i.toNat) (by omega))
   have hd:Cs (xs.drop i.toNat) (ys.drop i.toNat)=e+Cs (xs.drop (i+1).toNat) (ys.drop (i+1).toNat):=by
    rw[FJ (xs:=xs) (i:=i.toNat) (by omega),FJ (xs:=ys) (i:=i.toNat) (by omega),Cs,he,show (i+1).toNat=i.toNat+1 by omega]
   rw[he] at hxor
   have he1:e=0\/e=1:=by rw[←he];split<;>simp
   (try (simp -implicitDefEqProofs only[go_sem]));repeat' first|(with_reducible first|exact tI|refine aI ?_ ?_|intro _)|((first|with_reducible refine AK ?_ ?_<;>intro _)<;>try (simp -implicitDefEqProofs only[go_sem]))|simp (disch:=omega) only[Ae]|((with_reducible refine Ap ?_);refine⟨(_,_),rfl,?_,?_⟩)
   all_goals (try simp only[hxor])
   all_goals (try rw[AZ _ (by omega)])
   all_goals omega
  ·(try (simp -implicitDefEqProofs only[go_sem]));repeat' first|(with_reducible first|exact tI|refine aI ?_ ?_|intro _)|((first|with_reducible refine AK ?_ ?_<;>intro _)<;>try (simp -implicitDefEqProofs only[go_sem]))|simp (disch:=omega) only[Ae]|((with_reducible refine Ap ?_);refine⟨(_,_),rfl,?_,?_⟩)
   all_goals first|omega|(simp<;>omega)|skip
   have h0:xs.drop i.toNat=[]:=List.drop_eq_nil_of_le (by omega)
   have h1:Cs [] (ys.drop i.toNat)=0:=by simp[Cs]
   rw[h0,h1] at hI
   rw[←hI.2.2.2.2];simp
theorem Ut (nl:Bool) (xs:List Int) (n m:Nat) (hn:0<n) (hm:xs.length=m*n) (hb:xs.length<=1000000) (hnl:nl=false) :
  eN E0 Cz [] [.ptr [.list nl (Ab xs)],.ptr [.int .i64 (n:Int)]] (Z_ n m xs):=by
 subst hnl
 refine Y2 Ho An eG (by simp) fun hwf _=>?_
 rw[ET];unfold DZ
 (try (simp -implicitDefEqProofs only[go_sem]));repeat' first|(with_reducible first|exact tI|refine aI ?_ ?_|intro _)|((first|with_reducible refine AK ?_ ?_<;>intro _)<;>try (simp -implicitDefEqProofs only[go_sem]))|simp (disch:=omega) only[Ae]|((with_reducible refine Ap ?_);refine⟨(_,_),rfl,?_,?_⟩)
 all_goals first|omega|(simp<;>omega)|skip
 refine AX (α:=Nat×Int) (l0:=?l2) (m0:=?m2) (fun x=>[(4,.d (.int .i64 x.2))]) (fun x=>[(900000,.hist (Z_ n m xs) x.1 false)]) (fun x=>x.1<=m/\x.2=((x.1*n:Nat):Int)) (fun x=>m-x.1) (0,0) ?h02 ?he2 ?he22 ?hI2 ?step2
 case h02=>(simp -implicitDefEqProofs only[go_sem];rfl)
 case he2=>rfl
 case he22=>rfl
 case' step2=>(rintro⟨i,a⟩ hI;try dsimp only at hI)
 case' hI2=>try dsimp only
 ·exact⟨Nat.zero_le _,by simp⟩
 ·obtain⟨i1,i2⟩:=hI
  change a=((i*n:Nat):Int) at i2
  subst i2
  by_cases hi:i<m
  ·have h1:i*n+n<=m*n:=by have:=Nat.mul_le_mul_right n (show i+1<=m by omega);rw[Nat.add_mul,Nat.one_mul] at this;exact this
   have h2:((i*n:Nat):Int)<(xs.length:Int):=by omega
   have wa:IntKind.i64.wrap (((i*n:Nat):Int)+(n:Int))=((i*n+n:Nat):Int):=by rw[AZ _ (by omega)];push_cast;rfl
   have hg:=S8 (n:=n) xs hi
   have hmn:min (n:Int) ((xs.drop (i*n)).length:Int)=(n:Int):=by rw[List.length_drop];omega
   (try (simp -implicitDefEqProofs only[go_sem,h2,wa,hg,hmn,W3,HP]));repeat' first|(with_reducible first|exact tI|refine aI ?_ ?_|intro _)|((first|with_reducible refine AK ?_ ?_<;>intro _)<;>try (simp -implicitDefEqProofs only[go_sem,h2,wa,hg,hmn,W3,HP]))|simp (disch:=omega) only[Ae]|((with_reducible refine Ap ?_);refine⟨(_,_),rfl,?_,?_⟩)
   all_goals first|omega|(simp<;>omega)|skip
   rw[Nat.add_mul,Nat.one_mul]
  ·have h2:¬((i*n:Nat):Int)<(xs.length:Int):=by
    have:m*n<=i*n:=Nat.mul_le_mul_right n (by omega)
    omega
   have him:i=(Z_ n m xs).length:=by rw[Lq];omega
   (try (simp -implicitDefEqProofs only[go_sem,h2,QZ,HP]));repeat' first|(with_reducible first|exact tI|refine aI ?_ ?_|intro _)|((first|with_reducible refine AK ?_ ?_<;>intro _)<;>try (simp -implicitDefEqProofs only[go_sem,h2,QZ,HP]))|simp (disch:=omega) only[Ae]|((with_reducible refine Ap ?_);refine⟨(_,_),rfl,?_,?_⟩)
   all_goals first|omega|(simp<;>omega)|skip
theorem Uu (nl:Bool) (xs:List Int) (n:Nat) (hn:0<n):CA E0 F4 [.list nl (Ab xs),.int .i64 (n:Int)] (.fn Cz [.ptr [.list nl (Ab xs)],.ptr [.int .i64 (n:Int)]]):=by
 refine AL Iq An (by simp) fun hwf=>?_
 rw[AR];unfold FY
 have h1:¬(n:Int)<1:=by omega
 (try (simp -implicitDefEqProofs only[go_sem,h1]));repeat' first|(with_reducible first|exact tI|refine aI ?_ ?_|intro _)|((first|with_reducible refine AK ?_ ?_<;>intro _)<;>try (simp -implicitDefEqProofs only[go_sem,h1]))|simp (disch:=omega) only[Ae]
 all_goals first|rfl|skip
theorem Zm (n1 n2:Bool) (xs ys:List Int):CA E0 C0 [.list n1 (Ab xs),.ptr [.list n2 (Ab ys)]] (.bool (decide (xs=ys))):=by
 have c1:=Kh n1 n2 xs ys
 refine AL Hr An (by simp) fun hwf=>?_
 rw[AR];unfold E4
 (try (simp -implicitDefEqProofs only[go_sem]));repeat' first|(with_reducible first|exact tI|refine aI ?_ ?_|intro _)|((first|with_reducible refine AK ?_ ?_<;>intro _|(with_reducible refine isCall ?_);first|refine AE c1 ?_)<;>try (simp -implicitDefEqProofs only[go_sem]))|simp (disch:=omega) only[Ae]
 all_goals (rename_i h;rw[h])
end
section
def j9 (c:AW) (s:Nat):List D:=(List.range 16).map fun k=>if k<s then .list false (Ab (c.stm k)) else .list true []
theorem j8 (c:AW) (s:Nat):(j9 c s).length=16:=by simp[j9]
theorem oD (c:AW):j9 c 16=GS c:=by
 unfold j9 GS
 apply List.map_congr_left
 intro k hk
 rw[if_pos (by simpa using hk)]
def H8 (c:AY) (s:Nat):List AV:=(T0 c (j9 c.code s)).map AV.d
theorem SN (c:AY) (s:Nat):(H8 c s).length=28:=by
 unfold H8 T0;simp[j8]
theorem SO (c:AY) {s k:Nat}(h:k<s) (h16:k<16):(H8 c s)[12+k]?=some (.d (.list false (Ab (c.code.stm k)))):=by
 unfold H8 T0
 rw[List.getElem?_map,SX]
 simp[j9,h,h16]
theorem cW (c:AY) {s:Nat}(h:s<16):List.take (12+s) (H8 c s)++[.d (.list false (Ab (c.code.stm s)))]++List.drop (12+s+1) (H8 c s)=H8 c (s+1):=by
 apply List.ext_getElem?
 intro i
 have hl:=SN c s
 rcases Nat.lt_trichotomy i (12+s) with h1|h1|h1
 ·rw[List.append_assoc,List.getElem?_append_left (by rw[List.length_take];omega),List.getElem?_take_of_lt h1]
  unfold H8
  rw[List.getElem?_map,List.getElem?_map]
  congr 1
  unfold T0
  by_cases h2:i<12
  ·match i,h2 with
   |0,_=>rfl|1,_=>rfl|2,_=>rfl|3,_=>rfl|4,_=>rfl|5,_=>rfl|6,_=>rfl|7,_=>rfl|8,_=>rfl|9,_=>rfl|10,_=>rfl|11,_=>rfl
  ·obtain⟨k,rfl⟩:∃k,i=12+k:=⟨i-12,by omega⟩
   rw[SX,SX]
   simp only[j9,List.getElem?_map]
   rw[List.getElem?_range (by omega)]
   simp only[Option.map_some]
   rw[if_pos (by omega),if_pos (by omega)]
 ·subst h1
  rw[List.append_assoc,List.getElem?_append_right (by rw[List.length_take];omega),List.length_take,SO c (by omega) h]
  rw[show 12+s-min (12+s) (H8 c s).length=0 by omega]
  rfl
 ·rw[List.getElem?_append_right (by rw[List.length_append,List.length_take];simp;omega),List.length_append,List.length_take,List.getElem?_drop]
  rw[show 12+s+1+(i-(min (12+s) (H8 c s).length+[AV.d (.list false (Ab (c.code.stm s)))].length))=i by simp;omega]
  unfold H8
  rw[List.getElem?_map,List.getElem?_map]
  congr 1
  unfold T0
  obtain⟨k,rfl⟩:∃k,i=12+k:=⟨i-12,by omega⟩
  rw[SX,SX]
  simp only[j9,List.getElem?_map]
  by_cases h3:k<16
  ·rw[List.getElem?_range h3]
   simp only[Option.map_some]
   rw[if_neg (by omega),if_neg (by omega)]
  ·rw[List.getElem?_eq_none (by simp;omega)];rfl
theorem o5 (c:AY):H8 c 0=[.d (.int .i64 c.code.bits),.d (.int .i64 c.code.out),.d (.int .i64 c.code.least),.d (.int .i64 c.code.most),.d (.list c.code.nw (DE c.code.words)),.d (.list c.code.nn (DE c.code.next)),.d (.int .i64 c.L),.d (.int .i64 c.P),.d (.int .i64 c.Q),.d (.list c.nm (Ab c.mark)),.d (.int .i64 c.seed),.d (.int .i64 c.errs),.d (.list true []),.d (.list true []),.d (.list true []),.d (.list true []),.d (.list true []),.d (.list true []),.d (.list true []),.d (.list true []),.d (.list true []),.d (.list true []),.d (.list true []),.d (.list true []),.d (.list true []),.d (.list true []),.d (.list true []),.d (.list true [])]:=rfl
theorem lJ {xs:List D}(h:∀x,x∈xs->(AV.d x).toD1=some x):BV AV.toD1 (xs.map AV.d)=some xs:=by
 induction xs with
 |nil=>rfl
 |cons x xs ih =>
  simp only[List.map_cons,BV,h x (by simp),ih fun y hy=>h y (by simp[hy])]
theorem cX (c:AY):BV AV.toD1 (H8 c 16)=some (T0 c (GS c.code)):=by
 unfold H8;rw[oD]
 refine lJ fun x hx=>?_
 simp only[T0,List.mem_cons] at hx
 rcases hx with rfl|rfl|rfl|rfl|rfl|rfl|rfl|rfl|rfl|rfl|rfl|rfl|hx
 all_goals first|rfl|skip
 simp only[GS,List.mem_map] at hx
 obtain⟨k,_,rfl⟩:=hx
 rfl
theorem aW {V:AN}{o g:Nat}:AV.snap V (.ptr o g 0)=match V.get o g with
 |some (.cells xs)=>match BV AV.toD1 xs with|some (c::l)=>some (.ptr (c::l))|_=>none
 |_=>none:=rfl
theorem Y_ (c:AY):(match BV AV.toD1 (H8 c 16) with|some (c::l)=>some (D.ptr (c::l))|_=>none)=some (.ptr (T0 c (GS c.code))):=by rw[cX];rfl
theorem X1 {c:AW}{s:Nat}(h:JV c s=true) (h2:∀k,k<s->c.stm k≠c.stm s):JV c (s+1)=true:=by
 rw[Vt] at h ⊢
 intro a b ha hb
 by_cases e:a=s
 ·subst e;exact h2 b hb
 ·exact h a b (by omega) hb
theorem ir {c:AW}{s k:Nat}(hs:s<16) (hk:k<s) (e:c.stm k=c.stm s):JV c 16=false:=by
 cases h:JV c 16 with
 |false=>rfl
 |true=>exact absurd e (Vt.1 h s k hs hk)
theorem Gj (V:AN) (os:List Nat) (c:AY) (s:Nat):List.map (AV.nrm V os) (H8 c s)=H8 c s:=by
 unfold H8
 rw[List.map_map]
 exact List.map_congr_left fun x _=>rfl
theorem Gi (c:AY) (s:Nat):(H8 c s).all AV.one=true:=by
 rw[List.all_eq_true]
 intro x hx
 simp only[H8,List.mem_map,T0,List.mem_cons] at hx
 obtain⟨y,hy,rfl⟩:=hx
 rcases hy with rfl|rfl|rfl|rfl|rfl|rfl|rfl|rfl|rfl|rfl|rfl|rfl|hy
 all_goals first|rfl|skip
 simp only[j9,List.mem_map] at hy
 obtain⟨k,_,rfl⟩:=hy
 split<;>rfl
def f6 (c:AY):D:=if c.ok=true then .ptr (T0 c (GS c.code)) else .nilptr
def JU (c:AY):Int:=if c.ok=true then 0 else 130
theorem Ig {c:AY}(h:c.ok=true):f6 c=.ptr (T0 c (GS c.code))/\JU c=0:=by unfold f6 JU;rw[if_pos h,if_pos h];exact⟨rfl,rfl⟩
theorem Hm {c:AY}(h:c.ok=false):f6 c=.nilptr/\JU c=130:=by unfold f6 JU;rw[if_neg (by simp[h]),if_neg (by simp[h])];exact⟨rfl,rfl⟩
theorem iU (mark:List Int):(La mark [] 0).2=if Cx mark=true then 0 else 1:=by
 unfold La
 cases Cx mark<;>rfl
theorem cH (s:Int):(Hc s []).2=if C1 s 1 127=true then 0 else 1:=by
 unfold Hc DU
 cases C1 s 1 127<;>rfl
attribute [local congr] Bm A' BA Au Bn Az A1 A0 Ar Al Af Aa Aw Ag Ax BM BQ BO BP BN BR BG Aj Ay Ak BE BX Ai BK BL BF BH BJ BI BC BD A_ Bp BB Av Ah
attribute [local irreducible] IntKind.wrap A3 Option.getD and or
theorem D7 (c:AY):CA E0 MC [DX c] (.tup [f6 c,.int .i64 (JU c)]):=by
 have c1:=Ki c.code
 have c2:=O9 c.L c.P c.Q
 have c3:=S7 c.nm true c.mark [] 0
 have c4:=Hw c.seed true []
 have f1:=iU c.mark
 have f2:=cH c.seed
 obtain⟨fl,hfl⟩:∃x,La c.mark [] 0=x:=⟨_,rfl⟩
 obtain⟨sl,hsl⟩:∃x,Hc c.seed []=x:=⟨_,rfl⟩
 rw[hfl] at c3 f1
 rw[hsl] at c4 f2
 rw[f1] at c3
 rw[f2] at c4
 have e1:c.code.ok=false->Ld c.code.ok 40=40:=fun h=>by rw[h];rfl
 have e0:c.code.ok=true->Ld c.code.ok 40=0:=fun h=>by rw[h];rfl
 have no:(c.code.ok && (C2 c.L c.P c.Q && (decide (c.Q*c.L<=32) && (Cx c.mark && (C1 c.seed 1 127 && C1 c.errs 0 16)))))=false->f6 c=.nilptr/\JU c=130:=fun h=>Hm (by
  unfold AY.ok
  cases h1:c.code.ok<;>cases h2:C2 c.L c.P c.Q<;>cases h3:decide (c.Q*c.L<=32)<;>cases h4:Cx c.mark<;>cases h5:C1 c.seed 1 127<;>cases h6:C1 c.errs 0 16<;>simp_all)
 cases h1:c.code.ok with
 |false =>
  obtain⟨o1,o2⟩:=no (by simp only[h1,Bool.false_and])
  rw[o1,o2];rw[e1 h1] at c1
  refine AL DL An (by simp) fun hwf=>?_
  rw[AR];unfold DB
  (try (simp -implicitDefEqProofs only[go_sem,AP,AO,BZ]));repeat' first|(with_reducible first|exact tI|refine aI ?_ ?_|intro _)|((first|with_reducible refine AK ?_ ?_<;>intro _|(with_reducible refine isCall ?_);first|refine AE c1 ?_|refine AE c2 ?_|refine AE c3 ?_|refine AE c4 ?_)<;>try (simp -implicitDefEqProofs only[go_sem,AP,AO,BZ]))|simp (disch:=omega) only[Ae]|((with_reducible refine Ad ?_);refine⟨_,rfl,?_,?_⟩)
  all_goals first|rfl|skip
 |true =>
 rw[e0 h1] at c1
 cases h2:C2 c.L c.P c.Q with
 |false =>
  obtain⟨o1,o2⟩:=no (by simp only[h1,h2,Bool.true_and,Bool.false_and])
  rw[o1,o2];rw[h2] at c2;simp only[Bool.false_eq_true,if_false] at c2
  refine AL DL An (by simp) fun hwf=>?_
  rw[AR];unfold DB
  (try (simp -implicitDefEqProofs only[go_sem,AP,AO,BZ]));repeat' first|(with_reducible first|exact tI|refine aI ?_ ?_|intro _)|((first|with_reducible refine AK ?_ ?_<;>intro _|(with_reducible refine isCall ?_);first|refine AE c1 ?_|refine AE c2 ?_|refine AE c3 ?_|refine AE c4 ?_)<;>try (simp -implicitDefEqProofs only[go_sem,AP,AO,BZ]))|simp (disch:=omega) only[Ae]|((with_reducible refine Ad ?_);refine⟨_,rfl,?_,?_⟩)
  all_goals first|rfl|skip
 |true =>
 rw[h2] at c2;simp only[if_true] at c2
 cases h4:Cx c.mark with
 |false =>
  obtain⟨o1,o2⟩:=no (by simp only[h1,h2,h4,Bool.true_and,Bool.false_and,Bool.and_false])
  rw[o1,o2];rw[h4] at c3;simp only[Bool.false_eq_true,if_false] at c3
  refine AL DL An (by simp) fun hwf=>?_
  rw[AR];unfold DB
  (try (simp -implicitDefEqProofs only[go_sem,AP,AO,BZ]));repeat' first|(with_reducible first|exact tI|refine aI ?_ ?_|intro _)|((first|with_reducible refine AK ?_ ?_<;>intro _|(with_reducible refine isCall ?_);first|refine AE c1 ?_|refine AE c2 ?_|refine AE c3 ?_|refine AE c4 ?_)<;>try (simp -implicitDefEqProofs only[go_sem,AP,AO,BZ]))|simp (disch:=omega) only[Ae]|((with_reducible refine Ad ?_);refine⟨_,rfl,?_,?_⟩)
  all_goals first|rfl|skip
 |true =>
 rw[h4] at c3;simp only[if_true] at c3
 cases h5:C1 c.seed 1 127 with
 |false =>
  obtain⟨o1,o2⟩:=no (by simp only[h1,h2,h4,h5,Bool.true_and,Bool.false_and,Bool.and_false])
  rw[o1,o2];rw[h5] at c4;simp only[Bool.false_eq_true,if_false] at c4
  refine AL DL An (by simp) fun hwf=>?_
  rw[AR];unfold DB
  (try (simp -implicitDefEqProofs only[go_sem,AP,AO,BZ]));repeat' first|(with_reducible first|exact tI|refine aI ?_ ?_|intro _)|((first|with_reducible refine AK ?_ ?_<;>intro _|(with_reducible refine isCall ?_);first|refine AE c1 ?_|refine AE c2 ?_|refine AE c3 ?_|refine AE c4 ?_)<;>try (simp -implicitDefEqProofs only[go_sem,AP,AO,BZ]))|simp (disch:=omega) only[Ae]|((with_reducible refine Ad ?_);refine⟨_,rfl,?_,?_⟩)
  all_goals first|rfl|skip
 |true =>
 rw[h5] at c4;simp only[if_true] at c4
 have c5:=fun r=>HK c r h2
 by_cases h3:c.Q*c.L<=32/\0<=c.errs/\c.errs<=16
 ·obtain⟨h3,h6,h7⟩:=h3
  have n3:¬32<c.Q*c.L:=by omega
  have n6:¬c.errs<0:=by omega
  have n7:¬16<c.errs:=by omega
  have h6i:C1 c.errs 0 16=true:=by simp only[C1,decide_eq_true_eq];omega
  have hok:JV c.code 16=true->c.ok=true:=fun h=>by
   unfold AY.ok;rw[h1,h2,decide_eq_true h3,h4,h5,h6i,h];simp only[Bool.and_self]
  have hnok:JV c.code 16=false->c.ok=false:=fun h=>by
   unfold AY.ok;rw[h,Bool.and_false,Bool.and_false,Bool.and_false,Bool.and_false,Bool.and_false,Bool.and_false]
  have hce:=fun(s:Nat)=>QL c.code 0 false (I5 c.code.bits.toNat s)
  have hse:=fun(s:Nat)=>Fe (U2 h1 s)
  simp only[mJ h1,hse] at hce
  refine AL DL An (by simp) fun hwf=>?_
  rw[AR];unfold DB
  (try (simp -implicitDefEqProofs only[go_sem,AP,AO,BZ,n3,n6,n7]));repeat' first|(with_reducible first|exact tI|refine aI ?_ ?_|intro _)|((first|with_reducible refine AK ?_ ?_<;>intro _|(with_reducible refine isCall ?_);first|refine AE c1 ?_|refine AE c2 ?_|refine AE c3 ?_|refine AE c4 ?_|refine AE (c5 _) ?_)<;>try (simp -implicitDefEqProofs only[go_sem,AP,AO,BZ,n3,n6,n7]))|simp (disch:=omega) only[Ae]|((with_reducible refine Ad ?_);refine⟨_,rfl,?_,?_⟩)
  all_goals first|omega|(simp<;>omega)|skip
  rw[←o5]
  refine AX (α:=Nat) (l0:=?l1) (m0:=?m1) (fun x=>[(58,.d (.int .i64 (x:Int)))]) (fun x=>[(17,.cells (H8 c x))]) (fun x=>x<=16/\JV c.code x=true) (fun x=>16-x) 0 ?h01 ?he1 ?he21 ?hI1 ?step1
  case h01=>(simp -implicitDefEqProofs only[go_sem,Gj,Gi];rfl)
  case he1=>rfl
  case he21=>rfl
  case' step1=>(rintro s hI;try dsimp only at hI)
  case' hI1=>try dsimp only
  ·exact⟨Nat.zero_le _,rfl⟩
  ·obtain⟨i1,i2⟩:=hI
   by_cases hs:s<16
   ·have hs':(s:Int)<16:=by omega
    have c6:=PA c.code h1 s hs
    have c7:=hce s
    have hst:=cW c hs
    have hl:=SN c s
    have hl':=SN c (s+1)
    have hi28:12+s<28:=by omega
    have hws:IntKind.i64.wrap ((s:Int)+1)=((s+1:Nat):Int):=by rw[AZ _ (by omega)];omega
    (try (simp -implicitDefEqProofs only[go_sem,BU,A9,hs',hst,hl,hi28,Gj,Gi]));repeat' first|(with_reducible first|exact tI|refine aI ?_ ?_|intro _)|((first|with_reducible refine AK ?_ ?_<;>intro _|(with_reducible refine isCall ?_);first|refine AE c6 ?_|refine AE c7 ?_)<;>try (simp -implicitDefEqProofs only[go_sem,BU,A9,hs',hst,hl,hi28,Gj,Gi]))|simp (disch:=omega) only[Ae]|((with_reducible refine Ad ?_);refine⟨_,rfl,?_,?_⟩)
    all_goals first|omega|(simp<;>omega)|skip
    refine AX (α:=Nat) (l0:=?l2) (m0:=?m2) (fun x=>[(83,.d (.int .i64 (x:Int)))]) (fun x=>[(17,.cells (H8 c (s+1)))]) (fun x=>x<=s/\∀j,j<x->c.code.stm j≠c.code.stm s) (fun x=>s-x) 0 ?h02 ?he2 ?he22 ?hI2 ?step2
    case h02=>(simp -implicitDefEqProofs only[go_sem,Gj,Gi];rfl)
    case he2=>rfl
    case he22=>rfl
    case' step2=>(rintro k hI2;try dsimp only at hI2)
    case' hI2=>try dsimp only
    ·exact⟨Nat.zero_le _,fun j hj=>by omega⟩
    ·obtain⟨k1,k2⟩:=hI2
     by_cases hk:k<s
     ·have hk':(k:Int)<(s:Int):=by omega
      have g1:=SO c (s:=s+1) (k:=k) (by omega) (by omega)
      have g2:=SO c (s:=s+1) (k:=s) (by omega) hs
      have hwk:IntKind.i64.wrap ((k:Int)+1)=((k+1:Nat):Int):=by rw[AZ _ (by omega)];omega
      have c8:=Kh false false (c.code.stm k) (c.code.stm s)
      by_cases he:c.code.stm k=c.code.stm s
      ·rw[decide_eq_true he] at c8
       obtain⟨o1,o2⟩:=Hm (hnok (ir hs hk he))
       rw[o1,o2]
       (try (simp -implicitDefEqProofs only[go_sem,hs',hk',hk,g1,g2,hl']));repeat' first|(with_reducible first|exact tI|refine aI ?_ ?_|intro _)|((first|with_reducible refine AK ?_ ?_<;>intro _|(with_reducible refine isCall ?_);first|refine AE c8 ?_)<;>try (simp -implicitDefEqProofs only[go_sem,hs',hk',hk,g1,g2,hl']))|simp (disch:=omega) only[Ae]|((with_reducible refine Ad ?_);refine⟨_,rfl,?_,?_⟩)
       all_goals first|omega|(simp<;>omega)|skip
       all_goals first|rfl|skip
      ·rw[decide_eq_false he] at c8
       (try (simp -implicitDefEqProofs only[go_sem,hs',hk',hk,g1,g2,hl',hwk,Gj,Gi]));repeat' first|(with_reducible first|exact tI|refine aI ?_ ?_|intro _)|((first|with_reducible refine AK ?_ ?_<;>intro _|(with_reducible refine isCall ?_);first|refine AE c8 ?_)<;>try (simp -implicitDefEqProofs only[go_sem,hs',hk',hk,g1,g2,hl',hwk,Gj,Gi]))|simp (disch:=omega) only[Ae]|((with_reducible refine Ad ?_);refine⟨_,rfl,?_,?_⟩)
       all_goals first|omega|(simp<;>omega)|skip
       rename_i j hj
       by_cases e:j=k
       ·rw[e];exact he
       ·exact k2 j (by omega)
     ·have hk':¬(k:Int)<(s:Int):=by omega
      have hds:=X1 i2 fun j hj=>k2 j (by omega)
      (try (simp -implicitDefEqProofs only[go_sem,hk',hk,hws,hl',Gj,Gi]));repeat' first|(with_reducible first|exact tI|refine aI ?_ ?_|intro _)|((first|with_reducible refine AK ?_ ?_<;>intro _)<;>try (simp -implicitDefEqProofs only[go_sem,hk',hk,hws,hl',Gj,Gi]))|simp (disch:=omega) only[Ae]|((with_reducible refine Ad ?_);refine⟨_,rfl,?_,?_⟩)
      all_goals first|omega|(simp<;>omega)|skip
      all_goals first|rfl|skip
   ·have hs16:s=16:=by omega
    subst hs16
    obtain⟨o1,o2⟩:=Ig (hok i2)
    have hsn:=Y_ c
    rw[o1,o2]
    (try (simp -implicitDefEqProofs only[go_sem,aW,hsn]));repeat' first|(with_reducible first|exact tI|refine aI ?_ ?_|intro _)|((first|with_reducible refine AK ?_ ?_<;>intro _)<;>try (simp -implicitDefEqProofs only[go_sem,aW,hsn]))|simp (disch:=omega) only[Ae]|((with_reducible refine Ad ?_);refine⟨_,rfl,?_,?_⟩)
    all_goals first|omega|(simp<;>omega)|skip
    all_goals first|rfl|skip
 ·obtain⟨o1,o2⟩:=no (by
   rw[h1,h2,h4,h5]
   simp only[Bool.true_and,C1]
   rw[Bool.and_eq_false_iff,decide_eq_false_iff_not,decide_eq_false_iff_not]
   omega)
  rw[o1,o2]
  refine AL DL An (by simp) fun hwf=>?_
  rw[AR];unfold DB
  (try (simp -implicitDefEqProofs only[go_sem,AP,AO,BZ]));repeat' first|(with_reducible first|exact tI|refine aI ?_ ?_|intro _)|((first|with_reducible refine AK ?_ ?_<;>intro _|(with_reducible refine isCall ?_);first|refine AE c1 ?_|refine AE c2 ?_|refine AE c3 ?_|refine AE c4 ?_|refine AE (c5 _) ?_)<;>try (simp -implicitDefEqProofs only[go_sem,AP,AO,BZ]))|simp (disch:=omega) only[Ae]|((with_reducible refine Ad ?_);refine⟨_,rfl,?_,?_⟩)
  all_goals first|omega|(simp<;>omega)|skip
  all_goals first|rfl|skip
theorem PD (c:AY):CA E0 Ku [DX c] (.int .i64 (JU c)):=by
 have c1:=D7 c
 obtain⟨r,hr⟩:∃r,f6 c=r:=⟨_,rfl⟩
 rw[hr] at c1
 refine AL O2 An (by simp) fun hwf=>?_
 rw[AR];unfold JQ
 rcases hok:c.ok with _|_
 ·have:=Hm hok
  rw[hr] at this
  rw[this.1] at c1
  (try (simp -implicitDefEqProofs only[go_sem,AP,AO]));repeat' first|(with_reducible first|exact tI|refine aI ?_ ?_|intro _)|((first|with_reducible refine AK ?_ ?_<;>intro _|(with_reducible refine isCall ?_);first|refine AE c1 ?_)<;>try (simp -implicitDefEqProofs only[go_sem,AP,AO]))|simp (disch:=omega) only[Ae]
  all_goals first|rfl|skip
 ·have:=Ig hok
  rw[hr] at this
  rw[this.1] at c1
  (try (simp -implicitDefEqProofs only[go_sem,AP,AO]));repeat' first|(with_reducible first|exact tI|refine aI ?_ ?_|intro _)|((first|with_reducible refine AK ?_ ?_<;>intro _|(with_reducible refine isCall ?_);first|refine AE c1 ?_)<;>try (simp -implicitDefEqProofs only[go_sem,AP,AO]))|simp (disch:=omega) only[Ae]
  all_goals first|rfl|skip
structure HU (c:AY):Prop where
 code:c.code.ok=true
 wev:C2 c.L c.P c.Q=true
 ql:c.Q*c.L<=32
 mark:Cx c.mark=true
 seed:C1 c.seed 1 127=true
 errs:0<=c.errs/\c.errs<=16
 dst:JV c.code 16=true
theorem HT {c:AY}(h:c.ok=true):HU c:=by
 unfold AY.ok at h
 simp only[Bool.and_eq_true,decide_eq_true_eq,C1] at h
 exact⟨h.1,h.2.1,h.2.2.1,h.2.2.2.1,by simp only[C1,decide_eq_true_eq];exact h.2.2.2.2.1,h.2.2.2.2.2.1,h.2.2.2.2.2.2⟩
theorem HU.markl {c:AY}(h:HU c):1<=c.mark.length/\c.mark.length<=16/\A8 c.mark=true:=by
 have h1:=h.mark
 simp only[Cx,C1,Bool.and_eq_true,decide_eq_true_eq] at h1
 exact⟨by omega,by omega,h1.2⟩
theorem HU.syms {c:AY}(h:HU c):2<=c.syms/\c.syms<=32/\c.Q*c.L=((c.syms:Nat):Int):=by
 have h1:=UN h.wev
 have h2:=RM h.wev
 have h3:=h.ql
 omega
theorem HU.tot {c:AY}(h:HU c):c.syms*c.code.sz<=640/\c.tot<=656:=by
 have h1:=h.syms;have h2:=Ha h.code;have h3:=h.markl
 have:c.syms*c.code.sz<=32*20:=Nat.mul_le_mul h1.2.1 h2.2
 unfold AY.tot;omega
theorem QO (c:AY):CA E0 ME [DX c] (.tup [.int .i64 (if c.ok=true then (c.tot:Int) else 0),.int .i64 (JU c)]):=by
 have c1:=D7 c
 obtain⟨r,hr⟩:∃r,f6 c=r:=⟨_,rfl⟩
 rw[hr] at c1
 refine AL QI An (by simp) fun hwf=>?_
 rw[AR];unfold Ke
 rcases hok:c.ok with _|_
 ·have:=Hm hok
  rw[hr] at this
  rw[this.1,this.2] at c1
  rw[this.2]
  (try (simp -implicitDefEqProofs only[go_sem,AP,AO]));repeat' first|(with_reducible first|exact tI|refine aI ?_ ?_|intro _)|((first|with_reducible refine AK ?_ ?_<;>intro _|(with_reducible refine isCall ?_);first|refine AE c1 ?_)<;>try (simp -implicitDefEqProofs only[go_sem,AP,AO]))|simp (disch:=omega) only[Ae]
  all_goals first|rfl|skip
 ·have:=Ig hok
  have hk:=HT hok
  rw[hr] at this
  rw[this.1,this.2] at c1
  rw[this.2]
  have c2:=Ez c hk.wev hk.code
  have ht:=hk.tot
  have hw:IntKind.i64.wrap ((c.mark.length:Int)+((c.syms*c.code.sz:Nat):Int))=((c.tot:Nat):Int):=by rw[AZ _ (by have:=hk.markl;omega)];unfold AY.tot;push_cast;rfl
  (try (simp -implicitDefEqProofs only[go_sem,AP,AO,BZ,hw]));repeat' first|(with_reducible first|exact tI|refine aI ?_ ?_|intro _)|((first|with_reducible refine AK ?_ ?_<;>intro _|(with_reducible refine isCall ?_);first|refine AE c1 ?_|refine AE c2 ?_)<;>try (simp -implicitDefEqProofs only[go_sem,AP,AO,BZ,hw]))|simp (disch:=omega) only[Ae]
  all_goals first|rfl|skip
end
def EH:PC :=
 .seq (.reg [] (AG 4 .mov [.k (.d (.list true []))]::[]) [0,1,4]) (.seq (.reg [] (AG 5 .mov [.k (.d (.list true []))]::[]) [0,1,4,5]) (.seq (.seq (.reg [] (AA 14 1::AD 15 (.len false) 14::AJ 16 0::[]) [0,4,5,14,15,16]) (.block 0 (.loop [.freeze 4,.own 5 30 3 1] [0,4,5,14,15,16] [30,39,10039,900000,900001,901000,901001,5000030,5000039,5010039] (.seq (.reg [] (AB 17 (.bin .lss) 16 15::[]) [0,4,5,14,15,16,17]) (.seq (.cond (.t 17) (.skip) (.exit 0)) (.seq (.block 1 (.seq (.reg [] (AB 18 (.iaddrS 1) 14 16::AF 19 1 18::AA 7 19::[]) [0,4,5,7,14,15,16]) (.seq (.reg [] (AJ 8 3::[]) [0,4,5,7,8,14,15,16]) (.block 2 (.loop [.freeze 4,.own 5 30 3 1] [0,4,5,7,8,14,15,16] [30,39,10039,900000,900001,901000,901001,5000030,5000039,5010039] (.seq (.seq (.reg [] (AA 20 8::AM 21 (.bin .geq) 20 0::[]) [0,4,5,7,8,14,15,16,21]) (.cond (.t 21) (.skip) (.exit 2))) (.seq (.block 3 (.reg [] (AA 24 5::AA 25 7::AA 26 8::AB 27 (.bin .shr) 25 26::AM 28 (.bin .and) 27 1::AD 29 (.mkrow 1 (.int .i64 0) 1 [0]) 28::AB 30 (.app 3 1 none true) 24 29::AA 5 30::[]) [0,4,5,7,8,14,15,16])) (.reg [] (AA 22 8::AM 23 (.bin .sub) 22 1::AA 8 23::[]) [0,4,5,7,8,14,15,16])))))))) (.reg [] (AM 31 (.bin .add) 16 1::AA 16 31::[]) [0,4,5,14,15,16]))))))) (.seq (.reg [.freeze 5] (AA 33 0::AD 34 .nilck 33::AQ 35 0 34::AQ 36 10 35::AF 37 1 36::AA 38 5::AB 39 (.call 73) 37 38::AA 32 39::A2 40 0 32::A2 41 1 32::AA 5 40::[]) [4,5]) (.seq (.reg [] (AG 9 (.zero [.list true []]) []::[]) [4,5,9]) (.seq (.seq (.reg [.freeze 5] (AA 42 5::AM 43 (.call 83) 42 4::[]) [4,9,43]) (.block 4 (.rngF [.freeze 4] (.t 43) [44] [4,9] [9,59,5000009,5000059] (.reg [] (AA 10 44::[]) [9,10]) [] [9,59,5000009,5000059] (.block 5 (.seq (.reg [] (AJ 11 0::[]) [9,10,11]) (.seq (.seq (.reg [] (AA 45 10::AD 46 (.len false) 45::AJ 47 0::[]) [9,11,45,46,47]) (.block 6 (.loop [] [9,11,45,46,47] [9,59,5000009,5000059] (.seq (.reg [] (AB 48 (.bin .lss) 47 46::[]) [9,11,45,46,47,48]) (.seq (.cond (.t 48) (.skip) (.exit 6)) (.seq (.block 7 (.seq (.reg [] (AB 49 (.iaddrS 1) 45 47::AF 50 1 49::AA 13 50::[]) [9,11,13,45,46,47]) (.reg [] (AA 51 11::AG 52 (.bin .mul) [.k (.d (.int .i64 2)),.t 51]::AA 53 13::AB 54 (.bin .add) 52 53::AA 11 54::[]) [9,11,45,46,47]))) (.reg [] (AM 55 (.bin .add) 47 1::AA 47 55::[]) [9,11,45,46,47]))))))) (.reg [] (AF 56 1 9::AA 57 11::AD 58 (.mkrow 1 (.int .i64 0) 1 [0]) 57::AB 59 (.app 3 1 none true) 56 58::Bs (.store 1) [.t 9,.t 59]::[]) []))))))) (.seq (.reg [] (AF 60 1 9::AA 4 60::[]) [4]) (.ret)))))))
theorem Gq:CO E0 Ev EH [.t 4] 61:=AI (fl:=[]) (by kernel_rfl)
def En:PC :=
 .seq (.reg [] (AG 4 .mov [.k (.d (.list true []))]::AJ 5 0::[]) [0,1]) (.seq (.reg [] (AG 6 .mov [.k (.d (.list true []))]::[]) [0,1,6]) (.seq (.reg [] (AA 10 1::AD 11 (.call 41) 10::AA 7 11::[]) [0,6,7]) (.seq (.seq (.reg [] (AA 12 7::AD 13 (.len false) 12::AJ 14 0::[]) [0,6,7,12,13,14]) (.block 0 (.loop [.own 6 24 3 1] [0,6,7,12,13,14] [11,24,10011,900000,901000] (.seq (.reg [] (AB 15 (.bin .lss) 14 13::[]) [0,6,7,12,13,14,15]) (.seq (.cond (.t 15) (.skip) (.exit 0)) (.seq (.block 1 (.seq (.reg [] (AA 16 14::AB 17 (.iaddrS 1) 12 14::AF 18 1 17::AA 8 16::AA 9 18::[]) [0,6,7,8,9,12,13,14]) (.seq (.reg [] (AA 19 9::AM 20 (.bin .eql) 19 (-1)::[]) [0,6,7,8,12,13,14,20]) (.cond (.t 20) (.seq (.reg [] (AA 21 6::AA 22 8::AD 23 (.mkrow 1 (.int .i64 0) 1 [0]) 22::AB 24 (.app 3 1 none true) 21 23::AA 6 24::[]) [0,6,7,8,12,13,14]) (.reg [] (AA 25 7::AA 26 8::AB 27 (.iaddrS 1) 25 26::Bs (.store 1) [.t 27,.k (.d (.int .i64 0))]::[]) [0,6,7,12,13,14])) (.skip))))) (.reg [] (AM 28 (.bin .add) 14 1::AA 14 28::[]) [0,6,7,12,13,14]))))))) (.seq (.draw [.freeze 6,.freeze 7] ((AA 29 0,[])::(AD 30 .nilck 29,[])::(AQ 31 0 30,[])::(AQ 32 6 31,[])::(AD 33 (.load true 3) 32,[])::(AA 34 0,[])::(AA 35 7,[])::(AB 36 (.call 42) 34 35,[4])::(AA 37 6,[])::(AG 38 (.call 88) [.t 33,.t 36,.t 37],[])::(A2 39 0 38,[])::(A2 40 1 38,[])::(AA 4 39,[])::(AA 5 40,[])::[]) [4,5]) (.ret)))))
theorem HS:CO E0 FO En [.t 4,.t 5] 41:=AI (fl:=[]) (by kernel_rfl)
end Go.Pw
