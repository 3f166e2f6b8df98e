/- A part of the proof. -/
import Derived.Test.YtmdklgapccickaaGreatDoorMvChD
import Derived.Test.YtmdklgapccickaaGreatDoorPgMvChrA
import Derived.Test.YtmdklgapccickaaGreatDoorPgMvChcS
import Derived.Test.YtmdklgapccickaaGreatDoorPwYa
import Derived.Test.YtmdklgapccickaaGreatDoorMvPC
import Derived.Test.YtmdklgapccickaaGreatDoorPgMvChrV
set_option linter.all false
open Go Go.Pw Go.Proofs
namespace Go.Pw
set_option maxRecDepth 100000
set_option maxHeartbeats 3200000
section
theorem eX {E:CW} {rs o els s}:jE E rs o els .ret s=(Fy E s rs (fun _=>True)/\MP els (s.V.ob o)):=rfl
theorem V6 {E:CW} {rs o els s}:jE E rs o els .normal s=(Fy E s rs (fun _=>True)/\MP els (s.V.ob o)):=rfl
theorem OC {els g e n st}:MP els (some (g,.hist e n st))=(e=els/\(st=true\/n=els.length)):=rfl
def qE (n m:Nat) (xs:List Int):List (List Int):=(List.range m).map fun i=>(xs.drop (i*n)).take n
theorem kw (n m:Nat) (xs:List Int):(qE n m xs).length=m:=by simp[qE]
theorem kx {n m:Nat}(xs:List Int) {i:Nat}(h:i<m):(qE n m xs)[i]?=some ((xs.drop (i*n)).take n):=by simp[qE,h]
def Y6 (n m:Nat) (xs:List Int):List (List D):=(qE n m xs).map fun p=>[.list false (BU p)]
theorem SX (n m:Nat) (xs:List Int):(Y6 n m xs).length=m:=by simp[Y6,kw]
theorem W7 {n m:Nat}(xs:List Int) {i:Nat}(h:i<m):(Y6 n m xs)[i]?=some [.list false (BU ((xs.drop (i*n)).take n))]:=by simp[Y6,kx xs h]
theorem dI:EG.noR=true:=by rfl
attribute [local congr] Bm BC BD Ak Bn Aq Au Ar Aj Af AY AU Am AZ BR BS BP Ao An Ad Ap Ae BH BZ Ab BM BN BI BJ BL BK BF BG BB Bq BE Al Aa Ba Ag Av BQ
attribute [local irreducible] IntKind.wrap A0 Option.getD and or
theorem dc (nl:Bool) (xs:List Int) (n m:Nat) (hn:0<n) (hm:xs.length=m*n) (hb:xs.length<=1000000) (hnl:nl=false) :
  TG E0 Db [] [.ptr [.list nl (BU xs)],.ptr [.int .i64 (n:Int)]] (Y6 n m xs):=by
 subst hnl
 refine NF Hw Ay dI (by simp) fun hwf _=>?_
 rw[Cg];unfold EG
 refine' HO
 all_goals try exact Ca
 refine Bh (α:=Nat×Int) (fun x=>[(4,.d (.int .i64 x.2))]) (fun x=>[(900000,.hist (Y6 n m xs) x.1 false)]) (fun x=>x.1<=m/\x.2=((x.1*n:Nat):Int)) (fun x=>m-x.1) (0,0) ?hI1 ?step1
 case' step1=>(rintro⟨i,a⟩ hI;try dsimp only at hI)
 case' hI1=>try dsimp only
 ·exact⟨Nat.zero_le _,by simp⟩
 ·obtain⟨i1,i2⟩:=hI
  change a=((i*n:Nat):Int) at i2
  subst i2
  by_cases hi:i<m
  ·have h1:i*n+n<=m*n:=by have:=Nat.mul_le_mul_right n (show i+1<=m by omega);rw[Nat.add_mul,Nat.one_mul] at this;exact this
   have h2:((i*n:Nat):Int)<(xs.length:Int):=by omega
   have wa:IntKind.i64.wrap (((i*n:Nat):Int)+(n:Int))=((i*n+n:Nat):Int):=by rw[Bd _ (by omega)];push_cast;rfl
   have hg:=W7 (n:=n) xs hi
   have hmn:min (n:Int) ((xs.drop (i*n)).length:Int)=(n:Int):=by rw[List.length_drop];omega
   refine' pf h2 wa hg hmn @eX @OC
   all_goals try exact Ca
   rw[Nat.add_mul,Nat.one_mul]
  ·have h2:¬((i*n:Nat):Int)<(xs.length:Int):=by
    have:m*n<=i*n:=Nat.mul_le_mul_right n (by omega)
    omega
   have him:i=(Y6 n m xs).length:=by rw[SX];omega
   refine' Pb h2 @V6 @OC
   all_goals try exact Ca
theorem de (nl:Bool) (xs:List Int) (n:Nat) (hn:0<n):Cc E0 GR [.list nl (BU xs),.int .i64 (n:Int)] (.fn Db [.ptr [.list nl (BU xs)],.ptr [.int .i64 (n:Int)]]):=by
 refine AN Iy Ay (by simp) fun hwf=>?_
 rw[AP];unfold F6
 have h1:¬(n:Int)<1:=by omega
 refine' K5 h1
 all_goals first|rfl|skip
end
section
def i5 (c:GCode) (s:Nat):List D:=(List.range 16).map fun k=>if k<s then .list false (BU (c.stm k)) else .list true []
theorem i4 (c:GCode) (s:Nat):(i5 c s).length=16:=by simp[i5]
theorem mX (c:GCode):i5 c 16=Rf c:=by
 unfold i5 Rf
 apply List.map_congr_left
 intro k hk
 rw[if_pos (by simpa using hk)]
def H' (c:Bb) (s:Nat):List AV:=(Y7 c (i5 c.code s)).map AV.d
theorem R3 (c:Bb) (s:Nat):(H' c s).length=28:=by
 unfold H' Y7;simp[i4]
theorem R4 (c:Bb) {s k:Nat}(h:k<s) (h16:k<16):(H' c s)[12+k]?=some (.d (.list false (BU (c.code.stm k)))):=by
 unfold H' Y7
 rw[List.getElem?_map,T1]
 simp[i5,h,h16]
theorem a_ (c:Bb) {s:Nat}(h:s<16):List.take (12+s) (H' c s)++[.d (.list false (BU (c.code.stm s)))]++List.drop (12+s+1) (H' c s)=H' c (s+1):=by
 apply List.ext_getElem?
 intro i
 have hl:=R3 c s
 rcases Nat.lt_trichotomy i (12+s) with h1|h1|h1
 ·rw[List.append_assoc,List.getElem?_append_left (by rw[List.length_take];omega),List.getElem?_take_of_lt h1]
  unfold H'
  rw[List.getElem?_map,List.getElem?_map]
  congr 1
  unfold Y7
  by_cases h2:i<12
  ·match i,h2 with
   |0,_=>rfl|1,_=>rfl|2,_=>rfl|3,_=>rfl|4,_=>rfl|5,_=>rfl|6,_=>rfl|7,_=>rfl|8,_=>rfl|9,_=>rfl|10,_=>rfl|11,_=>rfl
  ·obtain⟨k,rfl⟩:∃k,i=12+k:=⟨i-12,by omega⟩
   rw[T1,T1]
   simp only[i5,List.getElem?_map]
   rw[List.getElem?_range (by omega)]
   simp only[Option.map_some]
   rw[if_pos (by omega),if_pos (by omega)]
 ·subst h1
  rw[List.append_assoc,List.getElem?_append_right (by rw[List.length_take];omega),List.length_take,R4 c (by omega) h]
  rw[show 12+s-min (12+s) (H' c s).length=0 by omega]
  rfl
 ·rw[List.getElem?_append_right (by rw[List.length_append,List.length_take];simp;omega),List.length_append,List.length_take,List.getElem?_drop]
  rw[show 12+s+1+(i-(min (12+s) (H' c s).length+[AV.d (.list false (BU (c.code.stm s)))].length))=i by simp;omega]
  unfold H'
  rw[List.getElem?_map,List.getElem?_map]
  congr 1
  unfold Y7
  obtain⟨k,rfl⟩:∃k,i=12+k:=⟨i-12,by omega⟩
  rw[T1,T1]
  simp only[i5,List.getElem?_map]
  by_cases h3:k<16
  ·rw[List.getElem?_range h3]
   simp only[Option.map_some]
   rw[if_neg (by omega),if_neg (by omega)]
  ·rw[List.getElem?_eq_none (by simp;omega)];rfl
theorem nL (c:Bb):H' c 0=[.d (.int .i64 c.code.bits),.d (.int .i64 c.code.out),.d (.int .i64 c.code.least),.d (.int .i64 c.code.most),.d (.list c.code.nw (Gv c.code.words)),.d (.list c.code.nn (Gv c.code.next)),.d (.int .i64 c.L),.d (.int .i64 c.P),.d (.int .i64 c.Q),.d (.list c.nm (BU c.mark)),.d (.int .i64 c.seed),.d (.int .i64 c.errs),.d (.list true []),.d (.list true []),.d (.list true []),.d (.list true []),.d (.list true []),.d (.list true []),.d (.list true []),.d (.list true []),.d (.list true []),.d (.list true []),.d (.list true []),.d (.list true []),.d (.list true []),.d (.list true []),.d (.list true []),.d (.list true [])]:=rfl
theorem j4 {xs:List D}(h:∀x,x∈xs->(AV.d x).toD1=some x):BV AV.toD1 (xs.map AV.d)=some xs:=by
 induction xs with
 |nil=>rfl
 |cons x xs ih =>
  simp only[List.map_cons,BV,h x (by simp),ih fun y hy=>h y (by simp[hy])]
theorem bA (c:Bb):BV AV.toD1 (H' c 16)=some (Y7 c (Rf c.code)):=by
 unfold H';rw[mX]
 refine j4 fun x hx=>?_
 simp only[Y7,List.mem_cons] at hx
 rcases hx with rfl|rfl|rfl|rfl|rfl|rfl|rfl|rfl|rfl|rfl|rfl|rfl|hx
 all_goals first|rfl|skip
 simp only[Rf,List.mem_map] at hx
 obtain⟨k,_,rfl⟩:=hx
 rfl
theorem jA {V:AL}{o g:Nat}:AV.snap V (.ptr o g 0)=match V.get o g with
 |some (.cells xs)=>match BV AV.toD1 xs with|some (c::l)=>some (.ptr (c::l))|_=>none
 |_=>none:=rfl
theorem X8 (c:Bb):(match BV AV.toD1 (H' c 16) with|some (c::l)=>some (D.ptr (c::l))|_=>none)=some (.ptr (Y7 c (Rf c.code))):=by rw[bA];rfl
theorem Wt {c:GCode}{s:Nat}(h:OI c s=true) (h2:∀k,k<s->c.stm k≠c.stm s):OI c (s+1)=true:=by
 rw[Zt] at h ⊢
 intro a b ha hb
 by_cases e:a=s
 ·subst e;exact h2 b hb
 ·exact h a b (by omega) hb
theorem gY {c:GCode}{s k:Nat}(hs:s<16) (hk:k<s) (e:c.stm k=c.stm s):OI c 16=false:=by
 cases h:OI c 16 with
 |false=>rfl
 |true=>exact absurd e (Zt.1 h s k hs hk)
theorem Hs (V:AL) (os:List Nat) (c:Bb) (s:Nat):List.map (AV.nrm V os) (H' c s)=H' c s:=by
 unfold H'
 rw[List.map_map]
 exact List.map_congr_left fun x _=>rfl
theorem Hr (c:Bb) (s:Nat):(H' c s).all AV.one=true:=by
 rw[List.all_eq_true]
 intro x hx
 simp only[H',List.mem_map,Y7,List.mem_cons] at hx
 obtain⟨y,hy,rfl⟩:=hx
 rcases hy with rfl|rfl|rfl|rfl|rfl|rfl|rfl|rfl|rfl|rfl|rfl|rfl|hy
 all_goals first|rfl|skip
 simp only[i5,List.mem_map] at hy
 obtain⟨k,_,rfl⟩:=hy
 split<;>rfl
def nM (c:Bb):D:=if c.ok=true then .ptr (Y7 c (Rf c.code)) else .nilptr
def Pj (c:Bb):Int:=if c.ok=true then 0 else 130
theorem Uv {c:Bb}(h:c.ok=true):nM c=.ptr (Y7 c (Rf c.code))/\Pj c=0:=by unfold nM Pj;rw[if_pos h,if_pos h];exact⟨rfl,rfl⟩
theorem PX {c:Bb}(h:c.ok=false):nM c=.nilptr/\Pj c=130:=by unfold nM Pj;rw[if_neg (by simp[h]),if_neg (by simp[h])];exact⟨rfl,rfl⟩
theorem gM (mark:List Int):(Ld mark [] 0).2=if DY mark=true then 0 else 1:=by
 unfold Ld
 cases DY mark<;>rfl
theorem aj (s:Int):(LA s []).2=if DE s 1 127=true then 0 else 1:=by
 unfold LA Fv
 cases DE s 1 127<;>rfl
attribute [local congr] Bm BC BD Ak Bn Aq Au Ar Aj Af AY AU Am AZ BR BS BP Ao An Ad Ap Ae BH BZ Ab BM BN BI BJ BL BK BF BG BB Bq BE Al Aa Ba Ag Av BQ
attribute [local irreducible] IntKind.wrap A0 Option.getD and or
theorem QD (c:Bb):Cc E0 MA [Ib c] (.tup [nM c,.int .i64 (Pj c)]):=by
 have c1:=HD c.code
 have c2:=Ol c.L c.P c.Q
 have c3:=SV c.nm true c.mark [] 0
 have c4:=H0 c.seed true []
 have f1:=gM c.mark
 have f2:=aj c.seed
 obtain⟨fl,hfl⟩:∃x,Ld c.mark [] 0=x:=⟨_,rfl⟩
 obtain⟨sl,hsl⟩:∃x,LA c.seed []=x:=⟨_,rfl⟩
 rw[hfl] at c3 f1
 rw[hsl] at c4 f2
 rw[f1] at c3
 rw[f2] at c4
 have e1:c.code.ok=false->Iu c.code.ok 40=40:=fun h=>by rw[h];rfl
 have e0:c.code.ok=true->Iu c.code.ok 40=0:=fun h=>by rw[h];rfl
 have no:(c.code.ok && (D3 c.L c.P c.Q && (decide (c.Q*c.L<=32) && (DY c.mark && (DE c.seed 1 127 && DE c.errs 0 16)))))=false->nM c=.nilptr/\Pj c=130:=fun h=>PX (by
  unfold Bb.ok
  cases h1:c.code.ok<;>cases h2:D3 c.L c.P c.Q<;>cases h3:decide (c.Q*c.L<=32)<;>cases h4:DY c.mark<;>cases h5:DE c.seed 1 127<;>cases h6:DE c.errs 0 16<;>simp_all)
 cases h1:c.code.ok with
 |false =>
  obtain⟨o1,o2⟩:=no (by simp only[h1,Bool.false_and])
  rw[o1,o2];rw[e1 h1] at c1
  refine AN D0 Ay (by simp) fun hwf=>?_
  rw[AP];unfold Dh
  refine' Gb @A_ @A9 @EI;repeat' first|(refine' CQ;(first|refine AG c1 ?_|refine AG c2 ?_|refine AG c3 ?_|refine AG c4 ?_)<;>refine' Gb @A_ @A9 @EI)|refine' CP|done
  all_goals first|rfl|skip
 |true =>
 rw[e0 h1] at c1
 cases h2:D3 c.L c.P c.Q with
 |false =>
  obtain⟨o1,o2⟩:=no (by simp only[h1,h2,Bool.true_and,Bool.false_and])
  rw[o1,o2];rw[h2] at c2;simp only[Bool.false_eq_true,if_false] at c2
  refine AN D0 Ay (by simp) fun hwf=>?_
  rw[AP];unfold Dh
  refine' Gb @A_ @A9 @EI;repeat' first|(refine' CQ;(first|refine AG c1 ?_|refine AG c2 ?_|refine AG c3 ?_|refine AG c4 ?_)<;>refine' Gb @A_ @A9 @EI)|refine' CP|done
  all_goals first|rfl|skip
 |true =>
 rw[h2] at c2;simp only[if_true] at c2
 cases h4:DY c.mark with
 |false =>
  obtain⟨o1,o2⟩:=no (by simp only[h1,h2,h4,Bool.true_and,Bool.false_and,Bool.and_false])
  rw[o1,o2];rw[h4] at c3;simp only[Bool.false_eq_true,if_false] at c3
  refine AN D0 Ay (by simp) fun hwf=>?_
  rw[AP];unfold Dh
  refine' Gb @A_ @A9 @EI;repeat' first|(refine' CQ;(first|refine AG c1 ?_|refine AG c2 ?_|refine AG c3 ?_|refine AG c4 ?_)<;>refine' Gb @A_ @A9 @EI)|refine' CP|done
  all_goals first|rfl|skip
 |true =>
 rw[h4] at c3;simp only[if_true] at c3
 cases h5:DE c.seed 1 127 with
 |false =>
  obtain⟨o1,o2⟩:=no (by simp only[h1,h2,h4,h5,Bool.true_and,Bool.false_and,Bool.and_false])
  rw[o1,o2];rw[h5] at c4;simp only[Bool.false_eq_true,if_false] at c4
  refine AN D0 Ay (by simp) fun hwf=>?_
  rw[AP];unfold Dh
  refine' Gb @A_ @A9 @EI;repeat' first|(refine' CQ;(first|refine AG c1 ?_|refine AG c2 ?_|refine AG c3 ?_|refine AG c4 ?_)<;>refine' Gb @A_ @A9 @EI)|refine' CP|done
  all_goals first|rfl|skip
 |true =>
 rw[h5] at c4;simp only[if_true] at c4
 have c5:=fun r=>Mg c r h2
 by_cases h3:c.Q*c.L<=32/\0<=c.errs/\c.errs<=16
 ·obtain⟨h3,h6,h7⟩:=h3
  have n3:¬32<c.Q*c.L:=by omega
  have n6:¬c.errs<0:=by omega
  have n7:¬16<c.errs:=by omega
  have h6i:DE c.errs 0 16=true:=by simp only[DE,decide_eq_true_eq];omega
  have hok:OI c.code 16=true->c.ok=true:=fun h=>by
   unfold Bb.ok;rw[h1,h2,decide_eq_true h3,h4,h5,h6i,h];simp only[Bool.and_self]
  have hnok:OI c.code 16=false->c.ok=false:=fun h=>by
   unfold Bb.ok;rw[h,Bool.and_false,Bool.and_false,Bool.and_false,Bool.and_false,Bool.and_false,Bool.and_false]
  have hce:=fun(s:Nat)=>QA c.code 0 false (Jj c.code.bits.toNat s)
  have hse:=fun(s:Nat)=>JU (Xg h1 s)
  simp only[kh h1,hse] at hce
  refine AN D0 Ay (by simp) fun hwf=>?_
  rw[AP];unfold Dh
  refine' UB @A_ @A9 @EI n3 n6 n7;repeat' first|(refine' CQ;(first|refine AG c1 ?_|refine AG c2 ?_|refine AG c3 ?_|refine AG c4 ?_|refine AG (c5 _) ?_)<;>refine' UB @A_ @A9 @EI n3 n6 n7)|refine' CP|done
  all_goals try exact Ca
  rw[←nL]
  refine B4 (α:=Nat) (l0:=?l1) (m0:=?m1) (fun x=>[(58,.d (.int .i64 (x:Int)))]) (fun x=>[(17,.cells (H' c x))]) (fun x=>x<=16/\OI c.code x=true) (fun x=>16-x) 0 ?h01 ?he1 ?he21 ?hI1 ?step1
  case h01=>(simp -implicitDefEqProofs only[go_sem,Hs,Hr];rfl)
  case he1=>rfl
  case he21=>rfl
  case' step1=>(rintro s hI;try dsimp only at hI)
  case' hI1=>try dsimp only
  ·exact⟨Nat.zero_le _,rfl⟩
  ·obtain⟨i1,i2⟩:=hI
   by_cases hs:s<16
   ·have hs':(s:Int)<16:=by omega
    have c6:=Ou c.code h1 s hs
    have c7:=hce s
    have hst:=a_ c hs
    have hl:=R3 c s
    have hl':=R3 c (s+1)
    have hi28:12+s<28:=by omega
    have hws:=Mi (i:=s) (by omega)
    refine' Gr @AR @AQ hs' hst hl hi28 @Hs @Hr;repeat' first|(refine' CQ;(first|refine AG c6 ?_|refine AG c7 ?_)<;>refine' Gr @AR @AQ hs' hst hl hi28 @Hs @Hr)|refine' CP|done
    all_goals try exact Ca
    refine B4 (α:=Nat) (l0:=?l2) (m0:=?m2) (fun x=>[(83,.d (.int .i64 (x:Int)))]) (fun x=>[(17,.cells (H' c (s+1)))]) (fun x=>x<=s/\∀j,j<x->c.code.stm j≠c.code.stm s) (fun x=>s-x) 0 ?h02 ?he2 ?he22 ?hI2 ?step2
    case h02=>(simp -implicitDefEqProofs only[go_sem,Hs,Hr];rfl)
    case he2=>rfl
    case he22=>rfl
    case' step2=>(rintro k hI2;try dsimp only at hI2)
    case' hI2=>try dsimp only
    ·exact⟨Nat.zero_le _,fun j hj=>by omega⟩
    ·obtain⟨k1,k2⟩:=hI2
     by_cases hk:k<s
     ·have hk':(k:Int)<(s:Int):=by omega
      have g1:=R4 c (s:=s+1) (k:=k) (by omega) (by omega)
      have g2:=R4 c (s:=s+1) (k:=s) (by omega) hs
      have hwk:=Mi (i:=k) (by omega)
      have c8:=Kh false false (c.code.stm k) (c.code.stm s)
      by_cases he:c.code.stm k=c.code.stm s
      ·rw[decide_eq_true he] at c8
       obtain⟨o1,o2⟩:=PX (hnok (gY hs hk he))
       rw[o1,o2]
       refine' UB hs' hk' hk g1 g2 hl';repeat' first|(refine' CQ;(first|refine AG c8 ?_)<;>refine' UB hs' hk' hk g1 g2 hl')|refine' CP|done
       all_goals try exact Ca
       all_goals first|rfl|skip
      ·rw[decide_eq_false he] at c8
       refine' Gr hs' hk' hk g1 g2 hl' hwk (aI @Hs @Hr);repeat' first|(refine' CQ;(first|refine AG c8 ?_)<;>refine' Gr hs' hk' hk g1 g2 hl' hwk (aI @Hs @Hr))|refine' CP|done
       all_goals try exact Ca
       rename_i j hj
       by_cases e:j=k
       ·rw[e];exact he
       ·exact k2 j (by omega)
     ·have hk':¬(k:Int)<(s:Int):=by omega
      have hds:=Wt i2 fun j hj=>k2 j (by omega)
      refine' pf hk' hk hws hl' @Hs @Hr
      all_goals try exact Ca
      all_goals first|rfl|skip
   ·have hs16:s=16:=by omega
    subst hs16
    obtain⟨o1,o2⟩:=Uv (hok i2)
    have hsn:=X8 c
    rw[o1,o2]
    refine' Pc @jA hsn
    all_goals try exact Ca
    all_goals first|rfl|skip
 ·obtain⟨o1,o2⟩:=no (by
   rw[h1,h2,h4,h5]
   simp only[Bool.true_and,DE]
   rw[Bool.and_eq_false_iff,decide_eq_false_iff_not,decide_eq_false_iff_not]
   omega)
  rw[o1,o2]
  refine AN D0 Ay (by simp) fun hwf=>?_
  rw[AP];unfold Dh
  refine' Gb @A_ @A9 @EI;repeat' first|(refine' CQ;(first|refine AG c1 ?_|refine AG c2 ?_|refine AG c3 ?_|refine AG c4 ?_|refine AG (c5 _) ?_)<;>refine' Gb @A_ @A9 @EI)|refine' CP|done
  all_goals try exact Ca
  all_goals first|rfl|skip
structure iJ (c:Bb):Prop where
 code:c.code.ok=true
 wev:D3 c.L c.P c.Q=true
 ql:c.Q*c.L<=32
 mark:DY c.mark=true
 seed:DE c.seed 1 127=true
 errs:0<=c.errs/\c.errs<=16
 dst:OI c.code 16=true
theorem RM {c:Bb}(h:c.ok=true):iJ c:=by
 unfold Bb.ok at h
 simp only[Bool.and_eq_true,decide_eq_true_eq,DE] at h
 exact⟨h.1,h.2.1,h.2.2.1,h.2.2.2.1,by simp only[DE,decide_eq_true_eq];exact h.2.2.2.2.1,h.2.2.2.2.2.1,h.2.2.2.2.2.2⟩
theorem iJ.markl {c:Bb}(h:iJ c):1<=c.mark.length/\c.mark.length<=16/\Bf c.mark=true:=by
 have h1:=h.mark
 simp only[DY,DE,Bool.and_eq_true,decide_eq_true_eq] at h1
 exact⟨by omega,by omega,h1.2⟩
theorem iJ.syms {c:Bb}(h:iJ c):2<=c.syms/\c.syms<=32/\c.Q*c.L=((c.syms:Nat):Int):=by
 have h1:=WG h.wev
 have h2:=UV h.wev
 have h3:=h.ql
 omega
end
def Ey:PC :=
 .seq (.reg [] (AF 4 .mov [.k (.d (.list true []))]::[]) [0,1,4]) (.seq (.reg [] (AF 5 .mov [.k (.d (.list true []))]::[]) [0,1,4,5]) (.seq (.seq (.reg [] (AA 14 1::AB 15 (.len false) 14::AO 16 0::[]) [0,4,5,14,15,16]) (.block 0 (.loop [.freeze 4,.own 5 30 3 1] [0,4,5,14,15,16] [30,39,10039,900000,900001,901000,901001,5000030,5000039,5010039,800000,800001,801000,801001,902000,903000,902001,903001] (.seq (.reg [] (AD 17 (.bin .lss) 16 15::[]) [0,4,5,14,15,16,17]) (.seq (.cond (.t 17) (.skip) (.exit 0)) (.seq (.block 1 (.seq (.reg [] (AD 18 (.iaddrS 1) 14 16::AJ 19 1 18::AA 7 19::[]) [0,4,5,7,14,15,16]) (.seq (.reg [] (AO 8 3::[]) [0,4,5,7,8,14,15,16]) (.block 2 (.loop [.freeze 4,.own 5 30 3 1] [0,4,5,7,8,14,15,16] [30,39,10039,900000,900001,901000,901001,5000030,5000039,5010039,800000,800001,801000,801001,902000,903000,902001,903001] (.seq (.seq (.reg [] (AA 20 8::AH 21 (.bin .geq) 20 0::[]) [0,4,5,7,8,14,15,16,21]) (.cond (.t 21) (.skip) (.exit 2))) (.seq (.block 3 (.reg [] (AA 24 5::AA 25 7::AA 26 8::AD 27 (.bin .shr) 25 26::AH 28 (.bin .and) 27 1::AB 29 (.mkrow 1 (.int .i64 0) 1 [0]) 28::AD 30 (.app 3 1 none true) 24 29::AA 5 30::[]) [0,4,5,7,8,14,15,16])) (.reg [] (AA 22 8::AH 23 (.bin .sub) 22 1::AA 8 23::[]) [0,4,5,7,8,14,15,16])))))))) (.reg [] (AH 31 (.bin .add) 16 1::AA 16 31::[]) [0,4,5,14,15,16]))))))) (.seq (.reg [.freeze 5] (AA 33 0::AB 34 .nilck 33::AI 35 0 34::AI 36 10 35::AJ 37 1 36::AA 38 5::AD 39 (.call 71) 37 38::AA 32 39::Ai 40 0 32::Ai 41 1 32::AA 5 40::[]) [4,5]) (.seq (.reg [] (AF 9 (.zero [.list true []]) []::[]) [4,5,9]) (.seq (.seq (.reg [.freeze 5] (AA 42 5::AH 43 (.call 80) 42 4::[]) [4,9,43]) (.block 4 (.rngF [.freeze 4] (.t 43) [44] [4,9] [9,59,5000009,5000059] (.reg [] (AA 10 44::[]) [9,10]) [] [9,59,5000009,5000059] (.block 5 (.seq (.reg [] (AO 11 0::[]) [9,10,11]) (.seq (.seq (.reg [] (AA 45 10::AB 46 (.len false) 45::AO 47 0::[]) [9,11,45,46,47]) (.block 6 (.loop [] [9,11,45,46,47] [9,59,5000009,5000059] (.seq (.reg [] (AD 48 (.bin .lss) 47 46::[]) [9,11,45,46,47,48]) (.seq (.cond (.t 48) (.skip) (.exit 6)) (.seq (.block 7 (.seq (.reg [] (AD 49 (.iaddrS 1) 45 47::AJ 50 1 49::AA 13 50::[]) [9,11,13,45,46,47]) (.reg [] (AA 51 11::AF 52 (.bin .mul) [.k (.d (.int .i64 2)),.t 51]::AA 53 13::AD 54 (.bin .add) 52 53::AA 11 54::[]) [9,11,45,46,47]))) (.reg [] (AH 55 (.bin .add) 47 1::AA 47 55::[]) [9,11,45,46,47]))))))) (.reg [] (AJ 56 1 9::AA 57 11::AB 58 (.mkrow 1 (.int .i64 0) 1 [0]) 57::AD 59 (.app 3 1 none true) 56 58::BO (.store 1) [.t 9,.t 59]::[]) []))))))) (.seq (.reg [] (AJ 60 1 9::AA 4 60::[]) [4]) (.ret)))))))
theorem G3:Cx E0 FS Ey [.t 4] 61:=AK (fl:=[]) (by kernel_rfl)
def R1:PC :=
 .seq (.reg [] (AF 4 .mov [.k (.d (.list true []))]::AO 5 0::[]) [0,1]) (.seq (.reg [] (AF 6 .mov [.k (.d (.list true []))]::[]) [0,1,6]) (.seq (.reg [] (AA 10 1::AB 11 (.call 35) 10::AA 7 11::[]) [0,6,7]) (.seq (.seq (.reg [] (AA 12 7::AB 13 (.len false) 12::AO 14 0::[]) [0,6,7,12,13,14]) (.block 0 (.loop [.own 6 24 3 1] [0,6,7,12,13,14] [11,24,10011,900000,901000,800000,801000,902000,903000] (.seq (.reg [] (AD 15 (.bin .lss) 14 13::[]) [0,6,7,12,13,14,15]) (.seq (.cond (.t 15) (.skip) (.exit 0)) (.seq (.block 1 (.seq (.reg [] (AA 16 14::AD 17 (.iaddrS 1) 12 14::AJ 18 1 17::AA 8 16::AA 9 18::[]) [0,6,7,8,9,12,13,14]) (.seq (.reg [] (AA 19 9::AH 20 (.bin .eql) 19 (-1)::[]) [0,6,7,8,12,13,14,20]) (.cond (.t 20) (.seq (.reg [] (AA 21 6::AA 22 8::AB 23 (.mkrow 1 (.int .i64 0) 1 [0]) 22::AD 24 (.app 3 1 none true) 21 23::AA 6 24::[]) [0,6,7,8,12,13,14]) (.reg [] (AA 25 7::AA 26 8::AD 27 (.iaddrS 1) 25 26::BO (.store 1) [.t 27,.k (.d (.int .i64 0))]::[]) [0,6,7,12,13,14])) (.skip))))) (.reg [] (AH 28 (.bin .add) 14 1::AA 14 28::[]) [0,6,7,12,13,14]))))))) (.seq (.draw [.freeze 6,.freeze 7] ((AA 29 0,[])::(AB 30 .nilck 29,[])::(AI 31 0 30,[])::(AI 32 6 31,[])::(AB 33 (.load true 3) 32,[])::(AA 34 0,[])::(AA 35 7,[])::(AD 36 (.call 36) 34 35,[4])::(AA 37 6,[])::(AF 38 (.call 106) [.t 33,.t 36,.t 37],[])::(Ai 39 0 38,[])::(Ai 40 1 38,[])::(AA 4 39,[])::(AA 5 40,[])::[]) [4,5]) (.ret)))))
section
theorem T4 {α:Type}{f:α->List Int}{m:Nat}(hf:∀x,(f x).length=m):∀(l:List α) (i k:Nat) (h:i<l.length),k<m->(l.flatMap f)[m*i+k]?=(f l[i])[k]?
 |[],_,_,h,_=>by cases h
 |x::l,0,k,_,hk=>by
  rw[Nat.mul_zero,Nat.zero_add,List.flatMap_cons,List.getElem?_append_left (by rw[hf];exact hk)];rfl
 |x::l,i+1,k,h,hk=>by
  rw[List.flatMap_cons,Nat.mul_succ,List.getElem?_append_right (by rw[hf];omega),hf,show m*i+m+k-m=m*i+k by omega]
  exact T4 hf l i k (by simpa using h) hk
theorem fT (xs:List Int) {i k:Nat}(hi:i<xs.length) (hk:k<4):(IA xs).take (4*i+k)++[(xs[i]?.getD 0)/2^(3-k)%2]=(IA xs).take (4*i+(k+1)):=by
 have h1:=R9 xs
 have h2:4*i+k<(IA xs).length:=by omega
 rw[show 4*i+(k+1)=4*i+k+1 by omega,List.take_add_one]
 congr 1
 have h3:=T4 (f:=Jj 1) (m:=4) (fun x=>HV 1 x) xs i k hi hk
 unfold IA
 rw[h3,List.getElem?_eq_getElem hi]
 simp only[Option.getD_some]
 match k,hk with
 |0,_=>rfl|1,_=>rfl|2,_=>rfl|3,_=>rfl
theorem TU:∀(l:List Int) (a:Int),Bf l=true->0<=a->0<=l.foldl (fun a w=>a*2^1+w) a/\l.foldl (fun a w=>a*2^1+w) a+1<=(a+1)*2^l.length
 |[],a,_,h=>by simp;omega
 |x::l,a,hb,h=>by
  have hx:0<=x/\x<=1:=by
   simp only[Bf,List.all_cons,Bool.and_eq_true,DE,decide_eq_true_eq] at hb;exact hb.1
  have hl:Bf l=true:=by
   simp only[Bf,List.all_cons,Bool.and_eq_true] at hb;exact hb.2
  have ih:=TU l (a*2^1+x) hl (by omega)
  refine⟨ih.1,Int.le_trans ih.2 ?_⟩
  have e:(a+1)*(2:Int)^(x::l).length=((a+1)*2)*2^l.length:=by rw[List.length_cons,Int.pow_succ,Int.mul_comm (2^l.length) 2,Int.mul_assoc]
  rw[e]
  exact Int.mul_le_mul_of_nonneg_right (by omega) (Int.le_of_lt (Int.pow_pos (by omega)))
theorem ZS {l:List Int}(h:Bf l=true) (hl:l.length<=4):0<=H_ 1 l/\H_ 1 l<=15:=by
 have h1:=TU l 0 h (Int.le_refl 0)
 have h2:(2:Int)^l.length<=16:=by
  have:l.length=0\/l.length=1\/l.length=2\/l.length=3\/l.length=4:=by omega
  rcases this with e|e|e|e|e<;>rw[e]<;>omega
 unfold H_
 omega
theorem TT:∀(l:List Int) (m n:Nat),l.length=m*4->n<m->(Vh l)[n]?.getD 0=H_ 1 ((l.drop (n*4)).take 4)
 |l,0,n,_,h=>by cases h
 |a::b::c::d::l,m+1,0,hl,_=>rfl
 |a::b::c::d::l,m+1,n+1,hl,h=>by
  have:=TT l m n (by simp at hl;omega) (by omega)
  show (Vh l)[n]?.getD 0=_
  rw[this,show (n+1)*4=n*4+4 by omega]
  rfl
 |[],m+1,n,hl,_=>by simp at hl
 |[_],m+1,n,hl,_=>by simp at hl;omega
 |[_,_],m+1,n,hl,_=>by simp at hl;omega
 |[_,_,_],m+1,n,hl,_=>by simp at hl;omega
theorem ee (s:Int) (xs:List Int) {n:Nat}(h:n<xs.length):(Jp s xs).take n++[H_ 1 (((Dq s (IA xs)).drop (n*4)).take 4)]=(Jp s xs).take (n+1):=by
 have h1:(Dq s (IA xs)).length=xs.length*4:=by rw[Ip,R9];omega
 have h2:=TT _ _ n h1 h
 rw[TS] at h2
 rw[←h2,List.take_add_one,List.getElem?_eq_getElem (by rw[I5];exact h)]
 rfl
theorem aF {p:List Int}{j:Nat}(h:j<p.length):2*H_ 1 (p.take j)+(p[j]?.getD 0)=H_ 1 (p.take (j+1)):=by
 rw[List.take_add_one,List.getElem?_eq_getElem h,Option.toList_some,aG]
 simp only[Option.getD_some];omega
def qS (X:List Int):Nat->List (Nat×Nat×AW)
 |0=>[(5000009,0,.cells [.d (.list true [])])]
 |k+1=>[(59,0,.row 3 1 false (BU (X.take (k+1)))),(5000009,0,.cells [.own 59 0])]
theorem lV (X:List Int):qS X 0=[(5000009,0,.cells [.d (.list true [])])]:=rfl
theorem eg (X:List Int) (k:Nat):qS X (k+1)=[(59,0,.row 3 1 false (BU (X.take (k+1)))),(5000009,0,.cells [.own 59 0])]:=rfl
attribute [local congr] Bm BC BD Ak Bn Aq Au Ar Aj Af AY AU Am AZ BR BS BP Ao An Ad Ap Ae BH BZ Ab BM BN BI BJ BL BK BF BG BB Bq BE Al Aa Ba Ag Av BQ
attribute [local irreducible] IntKind.wrap A0 Option.getD and or
theorem Lp (c:Bb) (r:List D) (nb:Bool) (xs:List Int) (hs:DE c.seed 1 127=true) (hl:xs.length<=32) (h0:0<xs.length) :
  Cc E0 FS [.ptr (Y7 c r),.list nb (BU xs)] (.list false (BU (Jp c.seed xs))):=by
 have hnl:=R9 xs
 refine AN G3 Ay (by simp) fun hwf=>?_
 rw[AP];unfold Ey
 refine' K5 @EI
 all_goals try exact Ca
 refine Bh (α:=Nat×Bool) (fun x=>[(16,.d (.int .i64 (x.1:Int)))]) (fun x=>[(30,.row 3 1 x.2 (BU ((IA xs).take (4*x.1))))]) (fun x=>x.1<=xs.length/\x.2=decide (x.1=0)) (fun x=>xs.length-x.1) (0,true) ?hI1 ?step1
 case' step1=>(rintro⟨i,nl⟩ hI;try dsimp only at hI)
 case' hI1=>try dsimp only
 ·exact⟨Nat.zero_le _,rfl⟩
 ·obtain⟨i1,i2⟩:=hI
  change nl=decide (i=0) at i2
  subst i2
  by_cases hi:i<xs.length
  ·have hi':(i:Int)<(xs.length:Int):=by omega
   have hwi:=Mi (i:=i) (by omega)
   obtain⟨x,hx⟩:∃x,xs[i]?.getD 0=x:=⟨_,rfl⟩
   have hst:=fun k hk=>@fT xs i k hi hk
   simp only[hx] at hst
   refine' fY @EI hi' hi hx
   all_goals try exact Ca
   refine Bh (α:=Nat×Int×Bool) (fun x=>[(8,.d (.int .i64 x.2.1))]) (fun x=>[(30,.row 3 1 x.2.2 (BU ((IA xs).take (4*i+x.1))))]) (fun x=>x.1<=4/\x.2.1=3-(x.1:Int)/\x.2.2=(decide (i=0) && decide (x.1=0))) (fun x=>4-x.1) (0,3,(decide (i=0))) ?hI2 ?step2
   case' step2=>(rintro⟨k,a,e⟩ hI2;try dsimp only at hI2)
   case' hI2=>try dsimp only
   ·exact⟨Nat.zero_le _,rfl,by cases i<;>simp⟩
   ·obtain⟨k1,k2,k3⟩:=hI2
    change a=3-(k:Int) at k2
    change e=(decide (i=0) && decide (k=0)) at k3
    by_cases hk:k<4
    ·have ha:0<=a:=by omega
     have hat:a.toNat=3-k:=by omega
     have hst:=hst k hk
     have hwa:IntKind.i64.wrap (a-1)=a-1:=Bd _ (by omega)
     have hl4:((IA xs).take (4*i+k)).length<=128:=by rw[List.length_take];omega
     have hfe:false=(decide (i=0) && decide (k+1=0)):=by simp
     refine' Pc ha hwa
     all_goals try exact Ca
     rw[hat,hst]
     exact⟨(k+1,a-1,false),rfl,⟨by show k+1<=4;omega,by show a-1=3-((k+1:Nat):Int);omega,hfe⟩,by show 4-(k+1)<4-k;omega⟩
    ·have ha:¬0<=a:=by omega
     have hk4:4*i+k=4*(i+1):=by omega
     have hfe:e=decide (i+1=0):=by rw[k3];simp;omega
     refine' Pb ha hwi hk4
     all_goals try exact Ca
     all_goals skip
  ·have hi':¬(i:Int)<(xs.length:Int):=by omega
   have htk:(IA xs).take (4*i)=IA xs:=List.take_of_length_le (by omega)
   have hi0:decide (i=0)=false:=decide_eq_false (by omega)
   rw[htk,hi0]
   have hso:LA c.seed (IA xs)=(Dq c.seed (IA xs),0):=V7 (by unfold Fv;rw[hs,bP,decide_eq_true (by omega)];simp only[Bool.and_self])
   have c1:=H0 c.seed false (IA xs)
   rw[hso] at c1
   have hr1:=Ip c.seed (IA xs)
   have hrb:=QK c.seed (IA xs)
   obtain⟨R,hR⟩:∃R,Dq c.seed (IA xs)=R:=⟨_,rfl⟩
   have hsc:=fun n hn=>@ee c.seed xs n hn
   rw[hR] at c1 hr1 hrb
   simp only[hR] at hsc
   have hRe:R.isEmpty=false:=JU (fun e=>by rw[e] at hr1;simp at hr1;omega)
   rw[hRe] at c1
   have c2:=de false R 4 (by omega)
   have c3:=dc false R 4 xs.length (by omega) (by omega) (by omega) rfl
   refine' HR @EI hi';repeat' first|(refine' CQ;(first|refine AG c1 ?_|refine AG c2 ?_)<;>refine' HR @EI hi')|refine' CP|done
   all_goals try exact Ca
   refine Za (α:=Nat) (fun k=>⟨Bt (qS (Jp c.seed xs) k),fun _=>1⟩) (fun n k=>k=n) (fun e x=>False) 0 (sl1:=EC ?l7) ?h07 (fun _=>rfl) Hc (by simp[PC.noR]) c3 ?hw7 rfl ?step7 ?hend7 (fun e x h=>h.elim)
   case h07 =>
    simp -implicitDefEqProofs only[go_sem]
    simp only[or_true,true_or,true_and]
    rfl
   case hw7=>simp -implicitDefEqProofs only[go_sem,lV]
   case step7 =>
    intro n k ds hds hk
    subst hk
    have hkl:k<xs.length:=by have:=(List.getElem?_eq_some_iff.1 hds).1;rw[SX] at this;exact this
    rw[W7 R hkl] at hds
    obtain rfl:=Option.some.inj hds
    refine⟨rfl,?_⟩
    have hsk:=hsc k hkl
    obtain⟨p,hp⟩:∃p,(R.drop (k*4)).take 4=p:=⟨_,rfl⟩
    have hpl:p.length=4:=by rw[←hp,List.length_take,List.length_drop,hr1,hnl];omega
    have hpb:Bf p=true:=by rw[←hp];exact J_ (Ox hrb _) _
    rw[hp] at hsk ⊢
    have hl32:((Jp c.seed xs).take k).length<=32:=by rw[List.length_take];omega
    obtain⟨O,hO⟩:∃O,qS (Jp c.seed xs) k=O:=⟨_,rfl⟩
    have hround:∀(a:Int) (j:Nat),a=H_ 1 (p.take j)->j<4->IntKind.i64.wrap (2*a)=2*a/\IntKind.i64.wrap (2*a+p[j]?.getD 0)=H_ 1 (p.take (j+1)):=fun a j h2 hj=>by
     have hbd:=ZS (J_ hpb j) (by rw[List.length_take];omega)
     have hbd2:=ZS (J_ hpb (j+1)) (by rw[List.length_take];omega)
     have hst:=aF (show j<p.length by omega)
     refine⟨Bd _ (by omega),?_⟩
     rw[h2,hst];exact Bd _ (by omega)
    rcases Nat.eq_zero_or_pos k with h0k|h0k
    ·subst h0k
     refine' K5 @lV
     all_goals try exact Ca
     refine Bh (α:=Nat×Int) (fun x=>[(47,.d (.int .i64 (x.1:Int))),(11,.d (.int .i64 x.2))]) (fun x=>[]) (fun x=>x.1<=4/\x.2=H_ 1 (p.take x.1)) (fun x=>4-x.1) (0,0) ?hI3 ?step3
     case' step3=>(rintro⟨j,a⟩ hI3;try dsimp only at hI3)
     case' hI3=>try dsimp only
     ·exact⟨Nat.zero_le _,rfl⟩
     ·obtain⟨j1,j2⟩:=hI3
      change a=H_ 1 (p.take j) at j2
      by_cases hj:j<4
      ·have hj':(j:Int)<(p.length:Int):=by omega
       have hjl:j<p.length:=by omega
       obtain⟨hw2,hw3⟩:=hround a j j2 hj
       have hwj:=Mi (i:=j) (by omega)
       refine' Zg hj' hjl hwj hw2 hw3
       all_goals try exact Ca
       rfl
      ·have hj':¬(j:Int)<(p.length:Int):=by omega
       have hpt:p.take j=p:=List.take_of_length_le (by omega)
       rw[hpt] at j2
       subst j2
       refine' K5 hj'
       refine⟨1,?_,rfl⟩
       rw[eg,←hsk];rfl
    ·obtain⟨m,rfl⟩:∃m,k=m+1:=⟨k-1,by omega⟩
     refine' K5 @eg
     all_goals try exact Ca
     refine Bh (α:=Nat×Int) (fun x=>[(47,.d (.int .i64 (x.1:Int))),(11,.d (.int .i64 x.2))]) (fun x=>[]) (fun x=>x.1<=4/\x.2=H_ 1 (p.take x.1)) (fun x=>4-x.1) (0,0) ?hI4 ?step4
     case' step4=>(rintro⟨j,a⟩ hI4;try dsimp only at hI4)
     case' hI4=>try dsimp only
     ·exact⟨Nat.zero_le _,rfl⟩
     ·obtain⟨j1,j2⟩:=hI4
      change a=H_ 1 (p.take j) at j2
      by_cases hj:j<4
      ·have hj':(j:Int)<(p.length:Int):=by omega
       have hjl:j<p.length:=by omega
       obtain⟨hw2,hw3⟩:=hround a j j2 hj
       have hwj:=Mi (i:=j) (by omega)
       refine' Zg hj' hjl hwj hw2 hw3
       all_goals try exact Ca
       rfl
      ·have hj':¬(j:Int)<(p.length:Int):=by omega
       have hpt:p.take j=p:=List.take_of_length_le (by omega)
       rw[hpt] at j2
       subst j2
       refine' Pc hj' hsk
       ·omega
       ·exact⟨m+1+1,rfl,rfl⟩
   case hend7 =>
    intro k hk
    rw[SX] at hk
    change k=xs.length at hk
    obtain⟨m,rfl⟩:∃m,k=m+1:=⟨k-1,by omega⟩
    have hte:(Jp c.seed xs).take (m+1)=Jp c.seed xs:=List.take_of_length_le (by rw[I5];omega)
    refine' Pc @eg hte
    all_goals first|rfl|skip
end
section
def sZ (p:List Int):D:=.list false (BU p)
def te (rs:List (List Int)):List D:=rs.map sZ
def sU (c:GCode):List (List Int):=(List.range 16).map c.stm
def qn:Option Nat->Int
 |some s=>(s:Int)
 |none=>-1
def rg (l:List (Option Nat)):List Int:=l.map qn
def qa (c:Bb) (bits:List Int):D:=match c.find bits with
 |some a=>.tup [.int .i64 (a:Int),.list false (BU (rg (c.syL bits a))),.bool true]
 |none=>.tup [.int .i64 0,.list true [],.bool false]
def sC (c:Bb):Nat×Nat×AW:=(5000002,0,.cells [.d (.ptr (Y7 c (Rf c.code)))])
def tl (c:Bb) (X:List Int):Nat->List (Nat×Nat×AW)
 |0=>[sC c,(5000005,0,.cells [.d (.list true [])])]
 |k+1=>[(68,0,.row 3 1 false (BU (X.take (k+1)))),sC c,(5000005,0,.cells [.own 68 0])]
attribute [local congr] Bm BC BD Ak Bn Aq Au Ar Aj Af AY AU Am AZ BR BS BP Ao An Ad Ap Ae BH BZ Ab BM BN BI BJ BL BK BF BG BB Bq BE Al Aa Ba Ag Av BQ
attribute [local irreducible] IntKind.wrap A0 Option.getD and or
end
section
attribute [local congr] Bm BC BD Ak Bn Aq Au Ar Aj Af AY AU Am AZ BR BS BP Ao An Ad Ap Ae BH BZ Ab BM BN BI BJ BL BK BF BG BB Bq BE Al Aa Ba Ag Av BQ
attribute [local irreducible] IntKind.wrap A0 Option.getD and or
end
section
def tj (sy:List (Option Nat)) (k:Nat):List Int:=(rG sy).take k++(rg sy).drop k
def ti (sy:List (Option Nat)) (k:Nat):List Nat:=(List.range k).filter fun i=>(sy[i]?.getD none).isNone
def _root_.Go.Pw.D.NOK1:D->Prop
 |.list nl xs=>nl=true->xs=[]
 |_=>True
def _root_.Go.Pw.D.NOK:D->Prop
 |.agg cs=>∀c,c∈cs->c.NOK1
 |d=>d.NOK1
theorem jp {w:World}{fb:Nat->Prop}{d:D}{v:Value}(h:Az w fb d v):d.NOK1:=by
 cases h with
 |nil=>exact fun _=>rfl
 |empty=>exact fun h=>by cases h
 |list=>exact fun h=>by cases h
 |_=>trivial
theorem nQ {w:World}{fb:Nat->Prop}{d:D}{v:Value}(h:Az w fb d v):d.NOK:=by
 cases h with
 |nil=>exact fun _=>rfl
 |empty=>exact fun h=>by cases h
 |list=>exact fun h=>by cases h
 |agg cs vs hl h1 hh =>
  intro c hc
  obtain⟨i,hi⟩:=List.getElem?_of_mem hc
  have hlt:i<vs.size:=by rw[hl];exact(List.getElem?_eq_some_iff.1 hi).1
  exact jp (hh i c _ hi (Array.getElem?_eq_getElem hlt))
 |_=>trivial
theorem jN {E:CW}{f:FuncId}{ds:List D}{r:D}(h:(∀d,d∈ds->d.NOK)->Cc E f ds r):Cc E f ds r:=fun w fb vs hfb hg hl hd =>
 h (fun d hdm=>by
  obtain⟨i,hi⟩:=List.getElem?_of_mem hdm
  have hlt:i<vs.size:=by rw[hl];exact(List.getElem?_eq_some_iff.1 hi).1
  exact nQ (hd i d _ hi (Array.getElem?_eq_getElem hlt))) w fb vs hfb hg hl hd
theorem ky {c:Bb}(h:(Ib c).NOK) (hm:1<=c.mark.length):c.nm=false:=by
 have h1:=h (.list c.nm (BU c.mark)) (by simp[W8])
 cases hn:c.nm with
 |false=>rfl
 |true =>
  have h2:BU c.mark=[]:=h1 hn
  have h3:=congrArg List.length h2
  rw[CR] at h3
  change c.mark.length=0 at h3
  omega
theorem ZU {c:Bb}(h:D3 c.L c.P c.Q=true) {d:List Int}(he:iM c.L c.P c.Q d=0):(iL c.L c.P c.Q d).length=c.syms:=by
 unfold iM at he
 rw[if_pos h] at he
 have hs:Ed d (c.Q*(c.L-c.P))=true:=by
  cases hs:Ed d (c.Q*(c.L-c.P)) with
  |true=>rfl
  |false=>rw[hs] at he;simp at he
 unfold iL
 rw[if_pos h,if_pos hs,YT,i6]
 have h2:=dr h
 have h3:=UV h
 have:((c.L.toNat * c.Q.toNat:Nat):Int)=c.Q*c.L:=by push_cast;rw[Int.toNat_of_nonneg (by omega),Int.toNat_of_nonneg (by omega),Int.mul_comm]
 omega
theorem Y8 (c:Bb) (X:List Int) {k:Nat}(h:k<X.length):c.flat (X.take k)++c.code.stm (X[k]?.getD 0).toNat=c.flat (X.take (k+1)):=by
 rw[List.take_add_one,List.getElem?_eq_getElem h]
 unfold Bb.flat
 rw[List.flatMap_append]
 simp
attribute [local congr] Bm BC BD Ak Bn Aq Au Ar Aj Af AY AU Am AZ BR BS BP Ao An Ad Ap Ae BH BZ Ab BM BN BI BJ BL BK BF BG BB Bq BE Al Aa Ba Ag Av BQ
attribute [local irreducible] IntKind.wrap A0 Option.getD and or
theorem TK (nl:Bool) (xs:List Int) (hl:xs.length<=1000) (hne:0<xs.length) (hnl:nl=false):Ft E0 C6 [] [.d (.list nl (BU xs))] [(7,1,.row 3 1 false (BU xs))] (.own 7 1):=by
 subst hnl
 refine CT Da Ay (by simp) (by simp[Jv,Dt,C_]) (by simp[It]) fun hwf hwo=>?_
 rw[Cg];unfold Cv
 have hn:¬xs=[]:=by intro h;rw[h] at hne;simp at hne
 refine' K5 hn
 all_goals first|omega|rfl
theorem Ia (c:Bb) (nl:Bool) (d:List Int):Cc E0 Kw [Ib c,.list nl (BU d)] (.tup [.list (iQ c d).isEmpty (BU (iQ c d)),.int .i64 (dl c d)]):=by
 refine jN fun hnok=>?_
 have c1:=QD c
 obtain⟨r,hr⟩:∃r,nM c=r:=⟨_,rfl⟩
 rw[hr] at c1
 refine AN Oe Ay (by simp) fun hwf=>?_
 rw[AP];unfold JS
 unfold iQ dl
 rcases hok:c.ok with _|_
 ·have:=PX hok
  rw[hr] at this
  rw[this.1,this.2] at c1
  simp only[Bool.false_eq_true,if_false]
  refine' HR @A_ @A9;repeat' first|(refine' CQ;(first|refine AG c1 ?_)<;>refine' HR @A_ @A9)|refine' CP|done
  all_goals first|rfl|skip
 ·have:=Uv hok
  have hk:=RM hok
  have hm:=hk.markl
  have hs:=hk.syms
  have hnm:=ky (hnok _ (by simp)) hm.1
  rw[hr] at this
  rw[this.1,this.2] at c1
  have c2:=Na c.L c.P c.Q nl d
  simp only[if_true]
  by_cases hsp:iM c.L c.P c.Q d=0
  ·have hbl:=ZU hk.wev hsp
   rw[hsp] at c2 ⊢
   simp only[if_true]
   unfold ed
   obtain⟨B,hB⟩:∃B,iL c.L c.P c.Q d=B:=⟨_,rfl⟩
   rw[hB] at c2 hbl ⊢
   have hBe:B.isEmpty=false:=JU fun e=>by rw[e] at hbl;simp at hbl;omega
   rw[hBe] at c2
   have c3:=Lp c (Rf c.code) false B hk.seed (by omega) (by omega)
   have hX:=V8 B c.seed
   have hXl:=I5 B c.seed
   obtain⟨X,hXe⟩:∃X,Jp c.seed B=X:=⟨_,rfl⟩
   rw[hXe] at c3 hX hXl ⊢
   have cM:=TK c.nm c.mark (by omega) (by omega) hnm
   have hne:(c.mark++c.flat X).isEmpty=false:=JU fun e=>by have:=congrArg List.length e;simp at this;rw[this.1] at hm;simp at hm
   rw[hne]
   refine' Gb @A_ @A9 @EI;repeat' first|(refine' CQ;(first|refine AG c1 ?_|refine AG c2 ?_|refine AG c3 ?_|refine Cz ([]) ([((7,1),(37,0))]) (cM) ?_)<;>refine' Gb @A_ @A9 @EI)|refine' CP|done
   all_goals try exact Ca
   have hf0:c.mark=c.mark++c.flat (X.take 0):=by simp[Bb.flat]
   rw[show BU c.mark=BU (c.mark++c.flat (X.take 0)) from congrArg BU hf0]
   refine Bh (α:=Nat) (fun x=>[(42,.d (.int .i64 (x:Int)))]) (fun x=>[(37,.row 3 1 false (BU (c.mark++c.flat (X.take x))))]) (fun x=>x<=X.length) (fun x=>X.length-x) 0 ?hI1 ?step1
   case' step1=>(rintro k hI;try dsimp only at hI)
   case' hI1=>try dsimp only
   ·exact Nat.zero_le _
   ·by_cases hks:k<X.length
    ·have hk':(k:Int)<(X.length:Int):=by omega
     have hwk:=Mi (i:=k) (by omega)
     have hxm:=hX _ (FV hks)
     have hst:=Y8 c X hks
     obtain⟨x,hx⟩:∃x,X[k]?.getD 0=x:=⟨_,rfl⟩
     rw[hx] at hxm hst
     have hg:=eI c.code (s:=x.toNat) (by omega)
     have hx0:0<=x:=hxm.1
     have hx1:x<16:=by omega
     have hz:=Re hk.code
     have hsl:=No c.code x.toNat
     have hfl:(c.flat (X.take k)).length<=32*20:=by rw[QE,List.length_take];exact Nat.mul_le_mul (by omega) hz.2
     have hne0:=Xg hk.code x.toNat
     refine' PB @EI hk' hks hwk hx hx0 hx1 (aI @T1 (aI hg hsl))
     all_goals try exact Ca
     rw[List.append_assoc c.mark,hst]
     exact⟨k+1,rfl,hks,by omega⟩
    ·have hk':¬(k:Int)<(X.length:Int):=by omega
     have htk:X.take k=X:=List.take_of_length_le (by omega)
     rw[htk]
     refine' K5 hk'
     all_goals try exact Ca
     all_goals first|rfl|skip
  ·rw[if_neg hsp,if_neg hsp]
   obtain⟨B,hB⟩:∃B,iL c.L c.P c.Q d=B:=⟨_,rfl⟩
   rw[hB] at c2
   refine' MR @A_ @A9 @EI hsp;repeat' first|(refine' CQ;(first|refine AG c1 ?_|refine AG c2 ?_)<;>refine' MR @A_ @A9 @EI hsp)|refine' CP|done
   all_goals first|rfl|skip
noncomputable def se (c:Bb) (bits:List Int):D:=.tup [.list (lW c bits).isEmpty (BU (lW c bits)),.int .i64 (pR c bits),.int .i64 (pQ c bits)]
end
end Go.Pw
