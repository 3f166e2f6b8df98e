/- A part of the proof. -/
import Derived.Test.YtmdklgapccickaaGreatDoorPgMvChE
import Derived.Test.YtmdklgapccickaaGreatDoorPgMvChrV
import Derived.Test.YtmdklgapccickaaGreatDoorPgMvChcS
import Derived.Test.YtmdklgapccickaaGreatDoorPgMvChcD
import Derived.Test.YtmdklgapccickaaGreatDoorMvChcSpec2
set_option linter.all false
section
open Go Go.Pw Go.Proofs
namespace Go.Pw
set_option maxRecDepth 100000
set_option maxHeartbeats 3200000
def rx (c:GCode) (rest:List Int) (part q:Nat):Nat->Int
 |0=>(part:Int)
 |s+1=>min (rx c rest part q s) (Lh (rest.take part) ((c.stm s).drop q))
def jG (c:Bb) (at_:Nat) (rest:List Int):Nat:=if at_%c.tot<c.mark.length then min rest.length (c.mark.length-at_%c.tot) else min rest.length (c.code.sz-(at_%c.tot-c.mark.length)%c.code.sz)
def qp (c:Bb) (at_:Nat) (rest:List Int):Int:=if at_%c.tot<c.mark.length then Lh (rest.take (jG c at_ rest)) (c.mark.drop (at_%c.tot)) else rx c.code rest (jG c at_ rest) ((at_%c.tot-c.mark.length)%c.code.sz) 16
def apW (c:Bb):Nat->Nat->List Int->Int
 |0,_,_=>0
 |n+1,at_,rest=>if rest=[] then 0 else qp c at_ rest+apW c n (at_+jG c at_ rest) (rest.drop (jG c at_ rest))
def rX (c:Bb) (at_:Nat):Int:=apW c (c.mark.length+1) at_ c.mark
attribute [local congr] Bm BC BD Ak Bn Aq Au Ar Aj Af AY AU Am AZ BR BS BP Ao An Ad Ap Ae BH BZ Ab BM BN BI BJ BL BK BF BG BB Bq BE Al Aa Ba Ag Av BQ
attribute [local irreducible] IntKind.wrap A0 Option.getD and or
end Go.Pw
end
section
open Go Go.Pw Go.Proofs
namespace Go.Pw
set_option maxRecDepth 100000
set_option maxHeartbeats 3200000
def sM (c:Bb):Nat->Int
 |0=>(c.mark.length:Int)
 |n+1=>min (sM c n) (rX c (n+1))
def sN (c:Bb):Int:=if c.ok=true then sM c (c.tot-1) else 0
def rl (c:GCode) (a:Nat) (l:Int):Nat->Int
 |0=>l
 |b+1=>min (rl c a l b) (Lh (c.stm a) (c.stm b))
def rk (c:GCode):Nat->Int
 |0=>(c.sz:Int)
 |a+1=>rl c a (rk c a) a
def rm (c:Bb):Int:=if c.ok=true then rk c.code 16 else 0
def rS (c:Bb):Int:=if c.Q*(c.P/2)=0 then 0 else if c.Q*c.L<=c.Q*(c.P/2) then ((c.syms*c.code.sz:Nat):Int) else (c.Q*(c.P/2)-1)*c.code.sz+1
def sK (c:Bb):Int:=if c.ok=true then rS c else 0
attribute [local congr] Bm BC BD Ak Bn Aq Au Ar Aj Af AY AU Am AZ BR BS BP Ao An Ad Ap Ae BH BZ Ab BM BN BI BJ BL BK BF BG BB Bq BE Al Aa Ba Ag Av BQ
attribute [local irreducible] IntKind.wrap A0 Option.getD and or
end Go.Pw
end
section
open Go Go.Pw
namespace Go.Pw
def rR (f:Nat->Nat) (q:Nat):Nat->Nat->Nat
 |0,_=>0
 |i+1,k=>rR f q i k+if i%q=k then f i else 0
def qs (f:Nat->Nat) (q:Nat):Nat->Nat->Nat
 |0,_=>0
 |m+1,k=>qs f q m k+f (m*q+k)
end Go.Pw
end
section
open Go Go.Pw
namespace Go.Pw
end Go.Pw
end
section
open Go Go.Pw Go.Proofs
namespace Go.Pw
set_option maxRecDepth 100000
set_option maxHeartbeats 3200000
def sA (m q:Nat) (W:Nat->List F) (k j:Nat):List F:=(List.range (m*q)).map fun i=>if i%q<k\/(i%q=k/\i/q<j) then (W (i%q))[i/q]?.getD 0 else 0
attribute [local congr] Bm BC BD Ak Bn Aq Au Ar Aj Af AY AU Am AZ BR BS BP Ao An Ad Ap Ae BH BZ Ab BM BN BI BJ BL BK BF BG BB Bq BE Al Aa Ba Ag Av BQ
attribute [local irreducible] IntKind.wrap A0 Option.getD and or
theorem LF (L P Q:Int):Cc E0 H4 [.agg [.int .i64 L,.int .i64 P,.int .i64 Q]] (.int .i64 (if D3 L P Q=true then 0 else 50)):=by
 have c1:=Qt L P
 have c2:=I9 Q 1 8
 refine AN Lj Ay (by simp) fun hwf=>?_
 rw[AP];unfold HK D3
 cases hc:FG L P with
 |false =>
  rw[hc] at c1
  simp only[Bool.false_eq_true,if_false,Bool.false_and] at c1 ⊢
  refine' H9;repeat' first|(refine' CQ;(first|refine AG c1 ?_)<;>refine' H9)|refine' CP|done
  all_goals first|rfl|(simp;done)|skip
 |true =>
  rw[hc] at c1
  simp only[if_true,Bool.true_and] at c1 ⊢
  by_cases h:1<=Q/\Q<=8
  ·rw[decide_eq_true h] at c2 ⊢
   refine' H9;repeat' first|(refine' CQ;(first|refine AG c1 ?_|refine AG c2 ?_)<;>refine' H9)|refine' CP|done
   all_goals first|rfl|(simp;done)|skip
  ·rw[decide_eq_false h] at c2 ⊢
   refine' H9;repeat' first|(refine' CQ;(first|refine AG c1 ?_|refine AG c2 ?_)<;>refine' H9)|refine' CP|done
   all_goals first|rfl|(simp;done)|skip
end Go.Pw
end
section
open Go Go.Pw Go.Proofs
namespace Go.Pw
set_option maxRecDepth 100000
set_option maxHeartbeats 3200000
def bv:Bb:={ code:=gO,L:=3,P:=2,Q:=1,nm:=false,mark:=[1,1,1,0],seed:=1,errs:=0 }
def oh:List Int:=[1,1,1,0,1,0,1,0,1,0,0,1,1,0,1,0,1,0,0,1,1,0,1,0,0,1,0,0]
theorem oB:bv.ok=true:=by decide +kernel
theorem p7:iQ bv [1]=oh:=by decide +kernel
theorem p8:iM bv.L bv.P bv.Q [1]=0:=by decide +kernel
attribute [local congr] Bm BC BD Ak Bn Aq Au Ar Aj Af AY AU Am AZ BR BS BP Ao An Ad Ap Ae BH BZ Ab BM BN BI BJ BL BK BF BG BB Bq BE Al Aa Ba Ag Av BQ
attribute [local irreducible] IntKind.wrap A0 Option.getD and or
theorem N7:Cc E0 Kn [] (.tup [Ib bv,.list false (BU oh)]):=by
 have c1:=N8
 refine AN OS Ay (by simp) fun hwf=>?_
 rw[AP];unfold JF
 refine' HR @AR @AQ;repeat' first|(refine' CQ;(first|refine AG c1 ?_)<;>refine' HR @AR @AQ)|refine' CP|done
 all_goals first|rfl|skip
theorem KH (c:Bb):Cc E0 M2 [Ib c] (.int .i64 (Pj c)):=by
 have c1:=Qv c.code
 have c2:=LF c.L c.P c.Q
 have c4:=PT c.nm c.mark
 have c5:=I7 c.seed 1 127
 have c6:=I7 c.errs 0 16
 have e1:c.code.ok=false->Iu c.code.ok 40=40:=fun h=>by rw[h];rfl
 have e0:c.code.ok=true->Iu c.code.ok 40=0:=fun h=>by rw[h];rfl
 have no:(c.code.ok && (D3 c.L c.P c.Q && (decide (c.Q*c.L<=32) && (DY c.mark && (DE c.seed 1 127 && DE c.errs 0 16)))))=false->Pj c=130:=fun h=>(PX (by
  unfold Bb.ok
  cases h1:c.code.ok<;>cases h2:D3 c.L c.P c.Q<;>cases h3:decide (c.Q*c.L<=32)<;>cases h4:DY c.mark<;>cases h5:DE c.seed 1 127<;>cases h6:DE c.errs 0 16<;>simp_all)).2
 refine AN Q4 Ay (by simp) fun hwf=>?_
 rw[AP];unfold LL
 cases h1:c.code.ok with
 |false =>
  rw[no (by simp only[h1,Bool.false_and])];rw[e1 h1] at c1
  refine' HR @A_ @A9;repeat' first|(refine' CQ;(first|refine AG c1 ?_)<;>refine' HR @A_ @A9)|refine' CP|done
  all_goals first|rfl|skip
 |true =>
 rw[e0 h1] at c1
 cases h2:D3 c.L c.P c.Q with
 |false =>
  rw[no (by simp only[h1,h2,Bool.true_and,Bool.false_and])];rw[h2] at c2;simp only[Bool.false_eq_true,if_false] at c2
  refine' HR @A_ @A9;repeat' first|(refine' CQ;(first|refine AG c1 ?_|refine AG c2 ?_)<;>refine' HR @A_ @A9)|refine' CP|done
  all_goals first|rfl|skip
 |true =>
 rw[h2] at c2;simp only[if_true] at c2
 have c3:=FE c h2
 by_cases h3:c.Q*c.L<=32
 ·have h3':¬32<c.Q*c.L:=by omega
  cases h4:DY c.mark with
  |false =>
   rw[no (by simp only[h1,h2,h4,Bool.true_and,Bool.false_and,Bool.and_false])];rw[h4] at c4
   refine' Gb @A_ @A9 h3';repeat' first|(refine' CQ;(first|refine AG c1 ?_|refine AG c2 ?_|refine AG c3 ?_|refine AG c4 ?_)<;>refine' Gb @A_ @A9 h3')|refine' CP|done
   all_goals first|rfl|skip
  |true =>
  rw[h4] at c4
  cases h5:DE c.seed 1 127 with
  |false =>
   rw[no (by simp only[h1,h2,h4,h5,Bool.true_and,Bool.false_and,Bool.and_false])];rw[h5] at c5
   refine' Gb @A_ @A9 h3';repeat' first|(refine' CQ;(first|refine AG c1 ?_|refine AG c2 ?_|refine AG c3 ?_|refine AG c4 ?_|refine AG c5 ?_)<;>refine' Gb @A_ @A9 h3')|refine' CP|done
   all_goals first|rfl|skip
  |true =>
  rw[h5] at c5
  cases h6:DE c.errs 0 16 with
  |false =>
   rw[no (by simp only[h1,h2,h4,h5,h6,Bool.true_and,Bool.false_and,Bool.and_false])];rw[h6] at c6
   refine' Gb @A_ @A9 h3';repeat' first|(refine' CQ;(first|refine AG c1 ?_|refine AG c2 ?_|refine AG c3 ?_|refine AG c4 ?_|refine AG c5 ?_|refine AG c6 ?_)<;>refine' Gb @A_ @A9 h3')|refine' CP|done
   all_goals first|rfl|skip
  |true =>
  rw[h6] at c6
  have hok:OI c.code 16=true->Pj c=0:=fun h=>(Uv (by
   unfold Bb.ok;rw[h1,h2,decide_eq_true h3,h4,h5,h6,h];simp only[Bool.and_self])).2
  have hnok:OI c.code 16=false->Pj c=130:=fun h=>(PX (by
   unfold Bb.ok;rw[h,Bool.and_false,Bool.and_false,Bool.and_false,Bool.and_false,Bool.and_false,Bool.and_false])).2
  refine' Gb @A_ @A9 h3';repeat' first|(refine' CQ;(first|refine AG c1 ?_|refine AG c2 ?_|refine AG c3 ?_|refine AG c4 ?_|refine AG c5 ?_|refine AG c6 ?_)<;>refine' Gb @A_ @A9 h3')|refine' CP|done
  all_goals try exact Ca
  refine Bh (α:=Nat) (fun x=>[(3,.d (.int .i64 (x:Int)))]) (fun x=>[]) (fun x=>x<=16/\OI c.code x=true) (fun x=>16-x) 0 ?hI1 ?step1
  case' step1=>(rintro s hI;try dsimp only at hI)
  case' hI1=>try dsimp only
  ·exact⟨Nat.zero_le _,rfl⟩
  ·obtain⟨i1,i2⟩:=hI
   by_cases hs:s<16
   ·have hs':(s:Int)<16:=by omega
    have hws:=Mi (i:=s) (by omega)
    have cs:=I8 c h1 s hs
    refine' K5 hs'
    all_goals try exact Ca
    refine Bh (α:=Nat) (fun x=>[(4,.d (.int .i64 (x:Int)))]) (fun x=>[]) (fun x=>x<=s/\∀j,j<x->c.code.stm j≠c.code.stm s) (fun x=>s-x) 0 ?hI2 ?step2
    case' step2=>(rintro k hI2;try dsimp only at hI2)
    case' hI2=>try dsimp only
    ·exact⟨Nat.zero_le _,fun j hj=>by omega⟩
    ·obtain⟨k1,k2⟩:=hI2
     by_cases hk:k<s
     ·have hk':(k:Int)<(s:Int):=by omega
      have hwk:=Mi (i:=k) (by omega)
      have ck:=I8 c h1 k (by omega)
      have c8:=LE false false (c.code.stm s) (c.code.stm k)
      by_cases he:c.code.stm k=c.code.stm s
      ·rw[decide_eq_true he.symm] at c8
       rw[hnok (gY hs hk he)]
       refine' Gb @A_ @A9 hk';repeat' first|(refine' CQ;(first|refine AG cs ?_|refine AG ck ?_|refine AG c8 ?_)<;>refine' Gb @A_ @A9 hk')|refine' CP|done
       all_goals try exact Ca
       all_goals first|rfl|skip
      ·rw[decide_eq_false fun e=>he e.symm] at c8
       refine' MR @A_ @A9 hk' hwk;repeat' first|(refine' CQ;(first|refine AG cs ?_|refine AG ck ?_|refine AG c8 ?_)<;>refine' MR @A_ @A9 hk' hwk)|refine' CP|done
       all_goals try exact Ca
       rename_i j hj
       by_cases e:j=k
       ·rw[e];exact he
       ·exact k2 j (by omega)
     ·have hk':¬(k:Int)<(s:Int):=by omega
      have hds:=Wt i2 fun j hj=>k2 j (by omega)
      refine' Pc hk' hws
      all_goals try exact Ca
      all_goals first|rfl|skip
   ·have hs16:s=16:=by omega
    subst hs16
    rw[hok i2]
    refine' HO
    all_goals try exact Ca
    all_goals first|rfl|skip
 ·have h3':32<c.Q*c.L:=by omega
  rw[no (by rw[decide_eq_false h3];simp only[h1,h2,Bool.true_and,Bool.false_and])]
  refine' Gb @A_ @A9 h3';repeat' first|(refine' CQ;(first|refine AG c1 ?_|refine AG c2 ?_|refine AG c3 ?_)<;>refine' Gb @A_ @A9 h3')|refine' CP|done
  all_goals first|rfl|skip
end Go.Pw
end
section
open Go Go.Pw Go.Proofs
namespace Go.Pw
set_option maxRecDepth 100000
set_option maxHeartbeats 3200000
def gN (c:Bb):Bool:=c.code.far || (decide (40<(c.mark.length:Int)) || (decide (8<c.Q) || (decide (15<c.L) || (c.ok && decide (8<c.Q*c.L)))))
def sa (c:Bb) (d:List Int):Bool:=!gN c && (c.ok && (decide (d.length<=100) && Ed d (c.Q*(c.L-c.P))))
structure t8 (c:Bb) (d:List Int):Prop where
 ok:c.ok=true
 nf:gN c=false
 len:d.length<=100
 sym:Ed d (c.Q*(c.L-c.P))=true
def st1 (out:List Int) (f:Int):List Int:=if 0<=f/\f<out.length then out.set f.toNat (1-out[f.toNat]?.getD 0) else out
def sT (out fl:List Int):List Int:=fl.foldl st1 out
attribute [local congr] Bm BC BD Ak Bn Aq Au Ar Aj Af AY AU Am AZ BR BS BP Ao An Ad Ap Ae BH BZ Ab BM BN BI BJ BL BK BF BG BB Bq BE Al Aa Ba Ag Av BQ
attribute [local irreducible] IntKind.wrap A0 Option.getD and or
theorem S3 (c:Bb):Cc E0 Qk [Ib c] (.bool (gN c)):=by
 have c1:=S4 c.code
 have c2:=KH c
 refine AN S_ Ay (by simp) fun hwf=>?_
 rw[AP];unfold Nz gN
 obtain⟨fr,hfr⟩:∃fr,c.code.far=fr:=⟨_,rfl⟩
 rw[hfr] at c1 ⊢
 clear hfr
 rcases hok:c.ok with _|_
 ·rw[(PX hok).2] at c2
  cases fr with
  |true =>
   refine' HR @A_ @A9;repeat' first|(refine' CQ;(first|refine AG c1 ?_|refine AG c2 ?_)<;>refine' HR @A_ @A9)|refine' CP|done
   all_goals first|rfl|(simp only[Bool.true_or];done)|skip
  |false =>
   refine' HR @A_ @A9;repeat' first|(refine' CQ;(first|refine AG c1 ?_|refine AG c2 ?_)<;>refine' HR @A_ @A9)|refine' CP|done
   all_goals first|rfl|(congr 1;symm;simp;omega)|skip
 ·rw[(Uv hok).2] at c2
  have c3:=FE c (RM hok).wev
  cases fr with
  |true =>
   refine' HR @A_ @A9;repeat' first|(refine' CQ;(first|refine AG c1 ?_|refine AG c2 ?_|refine AG c3 ?_)<;>refine' HR @A_ @A9)|refine' CP|done
   all_goals first|rfl|(simp only[Bool.true_or];done)|skip
  |false =>
   refine' HR @A_ @A9;repeat' first|(refine' CQ;(first|refine AG c1 ?_|refine AG c2 ?_|refine AG c3 ?_)<;>refine' HR @A_ @A9)|refine' CP|done
   all_goals first|rfl|(congr 1;symm;simp;omega)|skip
end Go.Pw
end
section
open Go Go.Pw Go.Proofs
namespace Go.Pw
set_option maxRecDepth 100000
set_option maxHeartbeats 6400000
attribute [local congr] Bm BC BD Ak Bn Aq Au Ar Aj Af AY AU Am AZ BR BS BP Ao An Ad Ap Ae BH BZ Ab BM BN BI BJ BL BK BF BG BB Bq BE Al Aa Ba Ag Av BQ
attribute [local irreducible] IntKind.wrap A0 Option.getD and or
theorem PU (c:GCode) (nl:Bool) (l:List Int) (h:1<=c.bits/\c.bits<=2):Cc E0 L3 [Fo c,.list nl (BU l)] (.bool (c.isData l)):=by
 refine AN Pv Ay (by simp) fun hwf=>?_
 have h12:=Jt h
 simp only[FL,Ea,EZ,EM,Fd,Fc,HI,Fb,CI,CX,CY,Eb,C9,List.length_map,CR,true_and,and_true,AR,AQ,Ax] at hwf
 rw[AP];unfold KT
 simp -implicitDefEqProofs only[go_sem,AR,AQ]
 refine B4 (α:=Int) (l0:=?l1) (m0:=?m1) (fun x=>[(5,.d (.int .i64 x))]) (fun x=>[]) (fun x=>0<=x/\x<=l.length/\∀(j:Nat),(j:Int)<x->c.isWord (l[j]?.getD 0)=true) (fun x=>(l.length-x).toNat) ?a1_0 ?h01 ?he1 ?he21 ?hI1 ?step1
 case h01=>(simp -implicitDefEqProofs only[go_sem,AR,AQ];rfl)
 case he1=>rfl
 case he21=>rfl
 case' step1=>(rintro i hI;try dsimp only at hI)
 case' hI1=>try dsimp only
 ·simp;omega
 by_cases hi:i<l.length
 ·have hs:c.isWord (l[i.toNat]?.getD 0)=true->∀(j:Nat),(j:Int)<i+1->c.isWord (l[j]?.getD 0)=true:=fun h1 j hj=>by
   by_cases hji:j=i.toNat
   ·subst hji;exact h1
   ·exact hI.2.2 j (by omega)
  refine' H9;repeat' first|(refine' CQ;(first|refine AG (DQ _ _ _) ?_)<;>refine' H9)|refine' CP|done
  all_goals (try simp (disch:=omega) only[IE] at *)
  all_goals try exact Ca
  ·exact hs (by show DE _ 0 _=true;assumption) _ (by assumption)
  ·have:=all_bad (l:=l) (p:=c.isWord) (j:=i.toNat) (by omega) (by show DE _ 0 _=false;assumption)
   simp[GCode.isData,this]
 ·have hall:l.all c.isWord=true:=all_iff.2 fun j hj=>hI.2.2 j (by omega)
  refine' HO
  all_goals try exact Ca
  all_goals (simp only[GCode.isData,hall];simp;omega)
end Go.Pw
end
section
namespace Go.Pw
abbrev Cf:=Int×Int×Bool
def sB (least most:Int):List Int->Int->Bool->Option (Int×Bool)
 |[],z,o=>some (z,o)
 |b::l,z,o=>if b=0 then (if most<z+1 then none else sB least most l (z+1) o)
  else (if o=true/\z<least then none else sB least most l 0 true)
theorem X0 (a m:Int):∀(l l':List Int) (z:Int) (o:Bool),sB a m (l++l') z o=match sB a m l z o with|none=>none|some q=>sB a m l' q.1 q.2
 |[],l',z,o=>rfl
 |b::l,l',z,o=>by
  rw[List.cons_append,sB,sB]
  split
  ·split
   ·rfl
   ·exact X0 a m l l' _ _
  ·split
   ·rfl
   ·exact X0 a m l l' _ _
theorem Xz {a m:Int}(hm:0<=m):∀{l:List Int}{z:Int}{o:Bool}{q:Int×Bool},(0<=z/\z<=m)->sB a m l z o=some q->0<=q.1/\q.1<=m
 |[],z,o,q,hz,h=>by rw[sB] at h;cases h;exact hz
 |b::l,z,o,q,hz,h=>by
  rw[sB] at h
  split at h
  ·split at h
   ·cases h
   ·exact Xz hm (by omega) h
  ·split at h
   ·cases h
   ·exact Xz hm (by omega) h
namespace GCode
variable (c:GCode)
def stp (r:Cf) (w:Int):Option Cf:=(sB c.least c.most (B8 c.out.toNat (c.wrd r.1 w)) r.2.1 r.2.2).map fun q=>(c.nxt r.1 w,q.1,q.2)
def path:Cf->List Int->Option Cf
 |r,[]=>some r
 |r,w::l=>match c.stp r w with
  |none=>none
  |some r'=>path r' l
def areW (ws:List Int):Prop:=∀w,w∈ws->c.isWord w=true
def Lev (k:Nat) (r:Cf):Prop:=∃s ws,c.isState s=true/\ws.length=k/\c.areW ws/\c.path (s,0,false) ws=some r
def Brk (k:Nat):Prop:=∃s ws,c.isState s=true/\ws.length=k/\c.areW ws/\c.path (s,0,false) ws=none
def RunOk (r:Cf):Prop:=c.isState r.1=true/\0<=r.2.1/\r.2.1<=c.most
end GCode
open GCode
theorem path_app (c:GCode):∀(l l':List Int) (r:Cf),c.path r (l++l')=match c.path r l with|none=>none|some q=>c.path q l'
 |[],l',r=>rfl
 |w::l,l',r=>by
  rw[List.cons_append,path,path]
  cases c.stp r w with
  |none=>rfl
  |some r'=>exact path_app c l l' r'
theorem path_one (c:GCode) (r:Cf) (w:Int):c.path r [w]=c.stp r w:=by
 rw[path];cases c.stp r w<;>rfl
theorem path_snoc (c:GCode) (l:List Int) (r:Cf) (w:Int):c.path r (l++[w])=match c.path r l with|none=>none|some q=>c.stp q w:=by
 rw[path_app]
 cases c.path r l with
 |none=>rfl
 |some q=>exact path_one c q w
theorem stp_ok {c:GCode}(h:c.ok=true) {r q:Cf}{w:Int}(hr:c.RunOk r) (hw:c.isWord w=true) (hs:c.stp r w=some q):c.RunOk q:=by
 have hd:=ok_head h
 unfold stp at hs
 rw[Option.map_eq_some_iff] at hs
 obtain⟨p,h1,rfl⟩:=hs
 exact⟨nxt_state h hr.1 hw,Xz (by omega) hr.2 h1⟩
theorem path_ok {c:GCode}(h:c.ok=true):∀{ws:List Int}{r q:Cf},c.RunOk r->c.areW ws->c.path r ws=some q->c.RunOk q
 |[],r,q,hr,_,hp=>by rw[path] at hp;cases hp;exact hr
 |w::l,r,q,hr,hw,hp=>by
  rw[path] at hp
  cases hs:c.stp r w with
  |none=>rw[hs] at hp;cases hp
  |some r' =>
   rw[hs] at hp
   exact path_ok h (stp_ok h hr (hw w (by simp)) hs) (fun x hx=>hw x (by simp[hx])) hp
theorem start_ok {c:GCode}(h:c.ok=true) {s:Int}(hs:c.isState s=true):c.RunOk (s,0,false):=by
 have hd:=ok_head h
 exact⟨hs,Int.le_refl _,by show (0:Int)<=c.most;omega⟩
theorem path_stream (c:GCode):∀(ws:List Int) (s z:Int) (o:Bool),sB c.least c.most (c.stream s ws).1 z o=(c.path (s,z,o) ws).map fun r=>(r.2.1,r.2.2)
 |[],s,z,o=>rfl
 |w::l,s,z,o=>by
  rw[stream,path,X0]
  unfold stp
  simp only
  cases sB c.least c.most (B8 c.out.toNat (c.wrd s w)) z o with
  |none=>rfl
  |some q =>
   simp only[Option.map_some]
   rw[path_stream c l]
def GCode.keeps (c:GCode) (bits:List Int):Bool:=(sB c.least c.most bits 0 false).isSome
theorem keeps_stream (c:GCode) (s:Int) (ws:List Int):c.keeps (c.stream s ws).1=(c.path (s,0,false) ws).isSome:=by
 unfold keeps;rw[path_stream];cases c.path (s,0,false) ws<;>rfl
def GCode.refW (c:GCode) (m:Cf):Nat->Int->List Cf->Option (List Cf)
 |0,_,nx=>some nx
 |k+1,w,nx=>match c.stp m w with
  |none=>none
  |some o=>refW c m k (w+1) (if o∈nx then nx else nx++[o])
def GCode.refM (c:GCode):List Cf->List Cf->Option (List Cf)
 |[],nx=>some nx
 |m::l,nx=>match c.refW m c.W 0 nx with
  |none=>none
  |some nx'=>refM c l nx'
def GCode.refN (c:GCode):Nat->Int->List Cf->Int
 |0,_,_=>0
 |k+1,n,now=>match c.refM now [] with
  |none=>n
  |some nx=>refN c k (n+1) nx
def GCode.starts (c:GCode):List Cf:=(List.range c.words.length).map fun(s:Nat)=>((s:Int),(0:Int),false)
def GCode.breach (c:GCode):Int:=c.refN 14 1 c.starts
theorem word_iff {c:GCode}{v:Int}:(0<=v/\v<0+(c.W:Int))↔c.isWord v=true:=by
 unfold isWord DE W
 rw[decide_eq_true_eq]
 have:((2^c.bits.toNat:Nat):Int)=2^c.bits.toNat:=by simp
 omega
theorem starts_mem {c:GCode}{r:Cf}:r∈c.starts↔c.Lev 0 r:=by
 unfold starts
 rw[List.mem_map]
 constructor
 ·rintro⟨s,hs,rfl⟩
  rw[List.mem_range] at hs
  exact⟨s,[],by simp only[isState,DE,decide_eq_true_eq];omega,rfl,fun w hw=>(by cases hw),rfl⟩
 ·rintro⟨s,ws,h1,h2,h3,h4⟩
  cases ws with
  |cons _ _=>simp at h2
  |nil =>
   rw[path] at h4;cases h4
   simp only[isState,DE,decide_eq_true_eq] at h1
   exact⟨s.toNat,by rw[List.mem_range];omega,by simp;omega⟩
end Go.Pw
end
section
namespace Go.Pw
abbrev Eh:=Cf×Int×List Int
inductive rd where
 |go (q:List Eh)
 |bad (s:Int) (d:List Int)
def GCode.bfsW (c:GCode) (t:Eh):Nat->Int->List Eh->rd
 |0,_,Q=>.go Q
 |k+1,w,Q=>match c.stp t.1 w with
  |none=>.bad t.2.1 (t.2.2++[w])
  |some r=>bfsW c t k (w+1) (Q++[(r,t.2.1,t.2.2++[w])])
def GCode.bfs (c:GCode):Nat->List Eh->List Cf->Option (Int×List Int)
 |0,_,_=>none
 |_+1,[],_=>none
 |k+1,t::Q,seen=>if t.1∈seen then bfs c k Q seen else match c.bfsW t c.W 0 Q with
  |.bad s d=>some (s,d)
  |.go Q'=>bfs c k Q' (seen++[t.1])
def GCode.queue0 (c:GCode):List Eh:=c.starts.map fun r=>(r,r.1,[])
def GCode.bfsR (c:GCode):Option (Int×List Int):=c.bfs 600 c.queue0 []
def Ow (Q:List Eh) (seen:List Cf):Nat:=(105-seen.length)*5+Q.length
open GCode
theorem XB {c:GCode}{t:Eh}:∀{k:Nat}{w:Int}{Q:List Eh}{s:Int}{d:List Int},c.bfsW t k w Q=.bad s d->∃v,w<=v/\v<w+k/\c.stp t.1 v=none/\s=t.2.1/\d=t.2.2++[v]
 |0,w,Q,s,d,h=>by rw[bfsW] at h;cases h
 |k+1,w,Q,s,d,h=>by
  rw[bfsW] at h
  cases hs:c.stp t.1 w with
  |none=>rw[hs] at h;cases h;exact⟨w,by omega,by omega,hs,rfl,rfl⟩
  |some r =>
   rw[hs] at h
   obtain⟨v,h1,h2,h3⟩:=XB h
   exact⟨v,by omega,by omega,h3⟩
theorem RP {c:GCode}{t:Eh}:∀{k:Nat}{w:Int}{Q Q':List Eh},c.bfsW t k w Q=.go Q'->∃N:List Eh,Q'=Q++N/\N.length=k/\(∀u,u∈N->∃v,w<=v/\v<w+k/\c.stp t.1 v=some u.1/\u.2=(t.2.1,t.2.2++[v]))/\∀v,w<=v->v<w+k->∃r,c.stp t.1 v=some r/\(r,t.2.1,t.2.2++[v])∈N
 |0,w,Q,Q',h=>by
  rw[bfsW] at h;cases h
  exact⟨[],by simp,rfl,fun u hu=>(by cases hu),fun v h1 h2=>by omega⟩
 |k+1,w,Q,Q',h=>by
  rw[bfsW] at h
  cases hs:c.stp t.1 w with
  |none=>rw[hs] at h;cases h
  |some r =>
   rw[hs] at h
   obtain⟨N,h1,h2,h3,h4⟩:=RP h
   refine⟨(r,t.2.1,t.2.2++[w])::N,by rw[h1];simp,by simp[h2],?_,?_⟩
   ·intro u hu
    rcases List.mem_cons.1 hu with e|e
    ·rw[e];exact⟨w,by omega,by omega,hs,rfl⟩
    ·obtain⟨v,k1,k2,k3⟩:=h3 u e
     exact⟨v,by omega,by omega,k3⟩
   ·intro v k1 k2
    by_cases hv:v=w
    ·rw[hv];exact⟨r,hs,by simp⟩
    ·obtain⟨q,k3,k4⟩:=h4 v (by omega) (by omega)
     exact⟨q,k3,by simp[k4]⟩
structure IC (c:GCode) (Q:List Eh) (seen:List Cf):Prop where
 a:∀t,t∈Q->c.isState t.2.1=true/\c.areW t.2.2/\c.path (t.2.1,0,false) t.2.2=some t.1
 b:Q.Pairwise fun t u=>t.2.2.length<=u.2.2.length
 b2:∀t u,t∈Q->u∈Q->u.2.2.length<=t.2.2.length+1
 lv:∃lv:Cf->Nat,(∀r,r∈seen->∀w,c.isWord w=true->∃r',c.stp r w=some r'/\((r'∈seen/\lv r'<=lv r+1)\/∃t,t∈Q/\t.1=r'/\t.2.2.length<=lv r+1)) /\
  (∀r,r∈c.starts->(r∈seen/\lv r=0)\/∃t,t∈Q/\t.1=r/\t.2.2.length=0)/\(∀r t,r∈seen->t∈Q->lv r<=t.2.2.length)
 e:seen.Nodup/\∀r,r∈seen->c.RunOk r
 f:∀t,t∈Q->t.2.2.length<=seen.length
theorem IC.len {c:GCode}(h:c.ok=true) {Q:List Eh}{seen:List Cf}(j:IC c Q seen):seen.length<=104:=by
 have hd:=ok_head h
 have hs:∀q,q∈seen->0<=q.1/\q.1<=3/\0<=q.2.1/\q.2.1<=12:=fun q hq=>by
  have:=j.e.2 q hq
  unfold RunOk at this
  simp only[isState,DE,decide_eq_true_eq] at this
  omega
 have hm:=nodup_lt 104 (seen.map fun q=>(q.1*26+q.2.1*2+(if q.2.2 then 1 else 0)).toNat) (by
  have:=j.e.1
  rw[List.Nodup,List.pairwise_map]
  refine List.Pairwise.imp_of_mem ?_ this
  intro a b ha hb hne he
  have h1:=hs a ha
  have h2:=hs b hb
  apply hne
  obtain⟨a1,a2,a3⟩:=a
  obtain⟨b1,b2,b3⟩:=b
  simp only at h1 h2 he
  cases a3<;>cases b3<;>simp only[Bool.false_eq_true,if_true,if_false] at he
  ·rw[show a1=b1 by omega,show a2=b2 by omega]
  ·omega
  ·omega
  ·rw[show a1=b1 by omega,show a2=b2 by omega]) fun x hx=>by
   simp only[List.mem_map] at hx
   obtain⟨q,hq,rfl⟩:=hx
   have:=hs q hq
   split<;>omega
 simpa using hm
theorem IC.start {c:GCode}(h:c.ok=true):IC c c.queue0 []:=by
 have hm:∀t,t∈c.queue0->t.2.2=[]/\∃s,c.isState s=true/\t=((s,0,false),s,[]):=by
  intro t ht
  unfold queue0 starts at ht
  rw[List.map_map,List.mem_map] at ht
  obtain⟨s,hs,rfl⟩:=ht
  rw[List.mem_range] at hs
  exact⟨rfl,s,by simp only[isState,DE,decide_eq_true_eq];omega,rfl⟩
 refine⟨?_,?_,?_,⟨fun _=>0,fun r hr=>(by cases hr),fun r hr=>.inr ⟨(r,r.1,[]),?_,rfl,rfl⟩,fun r t hr=>(by cases hr)⟩,⟨List.nodup_nil,fun r hr=>(by cases hr)⟩,?_⟩
 ·intro t ht
  obtain⟨_,s,hs,rfl⟩:=hm t ht
  exact⟨hs,fun w hw=>(by cases hw),rfl⟩
 ·refine List.Pairwise.imp_of_mem ?_ (List.pairwise_of_forall (fun _ _=>True.intro):c.queue0.Pairwise fun _ _=>True)
  intro t u ht hu _
  rw[(hm t ht).1];simp
 ·intro t u ht hu
  rw[(hm u hu).1];simp
 ·unfold queue0;exact List.mem_map.2 ⟨r,hr,rfl⟩
 ·intro t ht;rw[(hm t ht).1];simp
theorem IC.old {c:GCode}{t:Eh}{Q:List Eh}{seen:List Cf}(j:IC c (t::Q) seen) (ht:t.1∈seen):IC c Q seen:=by
 obtain⟨lv,l1,l2,l3⟩:=j.lv
 have hlt:=l3 t.1 t ht (by simp)
 refine⟨fun u hu=>j.a u (by simp[hu]),(List.pairwise_cons.1 j.b).2,fun u v hu hv=>j.b2 u v (by simp[hu]) (by simp[hv]),⟨lv,?_,?_,fun r u hr hu=>l3 r u hr (by simp[hu])⟩,j.e,fun u hu=>j.f u (by simp[hu])⟩
 ·intro r hr w hw
  obtain⟨r',h1,h2⟩:=l1 r hr w hw
  refine⟨r',h1,?_⟩
  rcases h2 with h2|⟨u,h3,h4,h5⟩
  ·exact .inl h2
  ·rcases List.mem_cons.1 h3 with e|e
   ·subst e
    rw[←h4];exact .inl ⟨ht,by omega⟩
   ·exact .inr ⟨u,e,h4,h5⟩
 ·intro r hr
  rcases l2 r hr with h2|⟨u,h3,h4,h5⟩
  ·exact .inl h2
  ·rcases List.mem_cons.1 h3 with e|e
   ·subst e
    rw[←h4];exact .inl ⟨ht,by omega⟩
   ·exact .inr ⟨u,e,h4,h5⟩
theorem IC.new {c:GCode}(h:c.ok=true) {t:Eh}{Q Q':List Eh}{seen:List Cf}(j:IC c (t::Q) seen) (ht:¬t.1∈seen) (hq:c.bfsW t c.W 0 Q=.go Q'):IC c Q' (seen++[t.1]):=by
 obtain⟨N,rfl,hN,hn1,hn2⟩:=RP hq
 obtain⟨lv,l1,l2,l3⟩:=j.lv
 obtain⟨a1,a2,a3⟩:=j.a t (by simp)
 have hpw:=List.pairwise_cons.1 j.b
 have hNl:∀u,u∈N->u.2.2.length=t.2.2.length+1:=fun u hu=>by
  obtain⟨v,_,_,_,k4⟩:=hn1 u hu
  rw[k4];simp
 have hne:∀r,r∈seen->r≠t.1:=fun r hr e=>ht (by rw[←e];exact hr)
 refine⟨?_,?_,?_,⟨fun r=>if r=t.1 then t.2.2.length else lv r,?_,?_,?_⟩,⟨?_,?_⟩,?_⟩
 ·intro u hu
  rcases List.mem_append.1 hu with e|e
  ·exact j.a u (by simp[e])
  ·obtain⟨v,k1,k2,k3,k4⟩:=hn1 u e
   rw[k4]
   refine⟨a1,?_,?_⟩
   ·intro x hx
    rcases List.mem_append.1 hx with e2|e2
    ·exact a2 x e2
    ·rw[List.mem_singleton.1 e2];exact word_iff.1 ⟨k1,k2⟩
   ·show c.path (t.2.1,0,false) (t.2.2++[v])=_
    rw[path_snoc,a3];exact k3
 ·rw[List.pairwise_append]
  refine⟨hpw.2,?_,?_⟩
  ·refine List.Pairwise.imp_of_mem ?_ (List.pairwise_of_forall (fun _ _=>True.intro):N.Pairwise fun _ _=>True)
   intro u v hu hv _
   rw[hNl u hu,hNl v hv];exact Nat.le_refl _
  ·intro u hu v hv
   rw[hNl v hv]
   exact j.b2 t u (by simp) (by simp[hu])
 ·intro u v hu hv
  have hu':t.2.2.length<=u.2.2.length:=by
   rcases List.mem_append.1 hu with e|e
   ·exact hpw.1 u e
   ·rw[hNl u e];omega
  have hv':v.2.2.length<=t.2.2.length+1:=by
   rcases List.mem_append.1 hv with e|e
   ·exact j.b2 t v (by simp) (by simp[e])
   ·rw[hNl v e];exact Nat.le_refl _
  omega
 ·intro r hr w hw
  rcases List.mem_append.1 hr with e|e
  ·obtain⟨r',h1,h2⟩:=l1 r e w hw
   refine⟨r',h1,?_⟩
   simp only[if_neg (hne r e)]
   rcases h2 with⟨h2,h3⟩|⟨u,h3,h4,h5⟩
   ·refine .inl ⟨by simp[h2],?_⟩
    rw[if_neg (hne r' h2)];exact h3
   ·rcases List.mem_cons.1 h3 with e2|e2
    ·subst e2
     refine .inl ⟨by simp[h4],?_⟩
     rw[if_pos h4.symm];exact h5
    ·exact .inr ⟨u,by simp[e2],h4,h5⟩
  ·have hr':=List.mem_singleton.1 e
   subst hr'
   obtain⟨r',k1,k2⟩:=hn2 w (word_iff.2 hw).1 (word_iff.2 hw).2
   refine⟨r',k1,.inr ⟨_,List.mem_append.2 (.inr k2),rfl,?_⟩⟩
   simp
 ·intro r hr
  rcases l2 r hr with⟨h2,h3⟩|⟨u,h3,h4,h5⟩
  ·refine .inl ⟨by simp[h2],?_⟩
   show (if r=t.1 then t.2.2.length else lv r)=0
   rw[if_neg (hne r h2)];exact h3
  ·rcases List.mem_cons.1 h3 with e|e
   ·subst e
    refine .inl ⟨by simp[h4],?_⟩
    show (if r=u.1 then u.2.2.length else lv r)=0
    rw[if_pos h4.symm];exact h5
   ·exact .inr ⟨u,by simp[e],h4,h5⟩
 ·intro r u hr hu
  have hu':t.2.2.length<=u.2.2.length:=by
   rcases List.mem_append.1 hu with e|e
   ·exact hpw.1 u e
   ·rw[hNl u e];omega
  by_cases hrt:r=t.1
  ·simp only[if_pos hrt];exact hu'
  ·simp only[if_neg hrt]
   rcases List.mem_append.1 hr with e|e
   ·have:=l3 r t e (by simp);omega
   ·exact absurd (List.mem_singleton.1 e) hrt
 ·rw[List.nodup_append]
  exact⟨j.e.1,by simp,fun a ha b hb=>by rw[List.mem_singleton.1 hb];exact hne a ha⟩
 ·intro r hr
  rcases List.mem_append.1 hr with e|e
  ·exact j.e.2 r e
  ·rw[List.mem_singleton.1 e];exact path_ok h (start_ok h a1) a2 a3
 ·intro u hu
  rw[List.length_append]
  have:=j.f t (by simp)
  rcases List.mem_append.1 hu with e|e
  ·have:=j.f u (by simp[e]);simp;omega
  ·rw[hNl u e];simp;omega
theorem Sa {c:GCode}{Q:List Eh}{seen:List Cf}{lv:Cf->Nat}{n:Nat}(l1:∀r,r∈seen->∀w,c.isWord w=true->∃r',c.stp r w=some r'/\((r'∈seen/\lv r'<=lv r+1)\/∃t,t∈Q/\t.1=r'/\t.2.2.length<=lv r+1))
  (hn:∀t,t∈Q->n<=t.2.2.length):∀(ws:List Int) (r:Cf),r∈seen->c.areW ws->lv r+ws.length<=n->c.path r ws≠none
 |[],r,_,_,_=>by rw[path];simp
 |w::l,r,hr,hw,hl=>by
  obtain⟨r',h1,h2⟩:=l1 r hr w (hw w (by simp))
  rw[path,h1]
  simp only[List.length_cons] at hl
  rcases h2 with⟨h2,h3⟩|⟨t,h3,h4,h5⟩
  ·exact Sa l1 hn l r' h2 (fun x hx=>hw x (by simp[hx])) (by omega)
  ·have:=hn t h3
   have hl0:l=[]:=by
    cases l with
    |nil=>rfl
    |cons a b=>simp at hl;omega
   subst hl0
   simp[path]
theorem IC.least {c:GCode}{t:Eh}{Q:List Eh}{seen:List Cf}(j:IC c (t::Q) seen):¬c.Brk t.2.2.length:=by
 rintro⟨s,ws,h1,h2,h3,h4⟩
 obtain⟨lv,l1,l2,l3⟩:=j.lv
 have hmin:∀u,u∈t::Q->t.2.2.length<=u.2.2.length:=fun u hu=>by
  rcases List.mem_cons.1 hu with e|e
  ·rw[e];exact Nat.le_refl _
  ·exact(List.pairwise_cons.1 j.b).1 u e
 have hst:((s,0,false):Cf)∈c.starts:=starts_mem.2 ⟨s,[],h1,rfl,fun w hw=>(by cases hw),rfl⟩
 rcases l2 _ hst with⟨h5,h6⟩|⟨u,h5,h6,h7⟩
 ·exact Sa l1 hmin ws _ h5 h3 (by rw[h6,h2];omega) h4
 ·have:=hmin u h5
  have hws:ws=[]:=by
   cases ws with
   |nil=>rfl
   |cons a b=>simp at h2;omega
  subst hws
  cases h4
theorem IC.done {c:GCode}{seen:List Cf}(j:IC c [] seen):∀k,¬c.Brk k:=by
 rintro k ⟨s,ws,h1,h2,h3,h4⟩
 obtain⟨lv,l1,l2,l3⟩:=j.lv
 have hst:((s,0,false):Cf)∈c.starts:=starts_mem.2 ⟨s,[],h1,rfl,fun w hw=>(by cases hw),rfl⟩
 rcases l2 _ hst with⟨h5,h6⟩|⟨u,h5,_⟩
 ·exact Sa (n:=lv (s,0,false)+ws.length) l1 (fun t ht=>(by cases ht)) ws _ h5 h3 (Nat.le_refl _) h4
 ·cases h5
def iK (c:GCode):Option (Int×List Int)->Prop
 |none=>∀k,¬c.Brk k
 |some (s,d)=>c.isState s=true/\c.areW d/\c.path (s,0,false) d=none/\0<d.length/\¬c.Brk (d.length-1)
theorem IC.bad {c:GCode}{t:Eh}{Q:List Eh}{seen:List Cf}(j:IC c (t::Q) seen) {Q1:List Eh}{s:Int}{d:List Int}(hq:c.bfsW t c.W 0 Q1=.bad s d):iK c (some (s,d)):=by
 obtain⟨v,h1,h2,h3,rfl,rfl⟩:=XB hq
 obtain⟨a1,a2,a3⟩:=j.a t (by simp)
 refine⟨a1,?_,?_,by simp,?_⟩
 ·intro x hx
  rcases List.mem_append.1 hx with e|e
  ·exact a2 x e
  ·rw[List.mem_singleton.1 e];exact word_iff.1 ⟨h1,h2⟩
 ·rw[path_snoc,a3];exact h3
 ·simpa using j.least
theorem qN {c:GCode}(h:c.ok=true):c.W<=4:=by
 have hd:=ok_head h
 unfold W
 have:c.bits.toNat=1\/c.bits.toNat=2:=by omega
 rcases this with e|e<;>rw[e]<;>decide
theorem ZD {c:GCode}(h:c.ok=true):∀{k:Nat}{Q:List Eh}{seen:List Cf},IC c Q seen->Ow Q seen<k->iK c (c.bfs k Q seen)
 |0,Q,seen,j,hk=>by omega
 |k+1,[],seen,j,hk=>by rw[bfs];exact j.done
 |k+1,t::Q,seen,j,hk=>by
  rw[bfs]
  unfold Ow at hk
  simp only[List.length_cons] at hk
  by_cases ht:t.1∈seen
  ·rw[if_pos ht]
   exact ZD h (j.old ht) (by unfold Ow;omega)
  ·rw[if_neg ht]
   cases hq:c.bfsW t c.W 0 Q with
   |bad s d=>exact j.bad hq
   |go Q' =>
    have j':=j.new h ht hq
    have hl:=j'.len h
    rw[List.length_append] at hl
    simp at hl
    obtain⟨N,h1,h2,_⟩:=RP hq
    have hw:=qN h
    exact ZD h j' (by unfold Ow;rw[h1];simp only[List.length_append,List.length_singleton];omega)
theorem Zy {c:GCode}(h:c.ok=true):iK c c.bfsR:=by
 have hd:=ok_head h
 refine ZD h (IC.start h) ?_
 unfold Ow queue0 starts
 simp;omega
end Go.Pw
end
section
namespace Go.Pw
def fB (least most:Int):List Int->Int->Bool->(Int×Bool)×Bool
 |[],z,o=>((z,o),true)
 |b::l,z,o=>if b=0 then (if most<z+1 then ((z+1,o),false) else fB least most l (z+1) o)
  else (if o=true/\z<least then ((z,o),false) else fB least most l 0 true)
theorem Zs (a m:Int):∀(l:List Int) (z:Int) (o:Bool),sB a m l z o=if (fB a m l z o).2 then some (fB a m l z o).1 else none
 |[],z,o=>rfl
 |b::l,z,o=>by
  rw[sB,fB]
  split
  ·split
   ·rfl
   ·exact Zs a m l _ _
  ·split
   ·rfl
   ·exact Zs a m l _ _
def GCode.stepR (c:GCode) (r:Cf) (w:Int):Cf×Bool :=
 let f:=fB c.least c.most (B8 c.out.toNat (c.wrd r.1 w)) r.2.1 r.2.2
 if f.2 then ((c.nxt r.1 w,f.1.1,f.1.2),true) else ((r.1,f.1.1,f.1.2),false)
theorem Rg {c:GCode}{r:Cf}{w:Int}{q:Cf}(h:c.stp r w=some q):c.stepR r w=(q,true):=by
 unfold GCode.stp at h
 unfold GCode.stepR
 rw[Zs] at h
 cases hf:(fB c.least c.most (B8 c.out.toNat (c.wrd r.1 w)) r.2.1 r.2.2).2 with
 |true=>rw[hf] at h;simp at h;simp[hf,h]
 |false=>rw[hf] at h;simp at h
theorem Rh {c:GCode}{r:Cf}{w:Int}(h:c.stp r w=none):∃q,c.stepR r w=(q,false):=by
 unfold GCode.stp at h
 unfold GCode.stepR
 rw[Zs] at h
 cases hf:(fB c.least c.most (B8 c.out.toNat (c.wrd r.1 w)) r.2.1 r.2.2).2 with
 |true=>rw[hf] at h;simp at h
 |false=>simp[hf]
def ei (r:Cf):List D:=[.int .i64 r.1,.int .i64 r.2.1,.bool r.2.2]
def PL (r:Cf):D:=.agg (ei r)
theorem FD (r:Cf):ei r=[.int .i64 r.1,.int .i64 r.2.1,.bool r.2.2]:=rfl
theorem FC (r:Cf):PL r=.agg (ei r):=rfl
def TR (t:Eh):D:=.agg [.int .i64 t.1.1,.int .i64 t.1.2.1,.bool t.1.2.2,.int .i64 t.2.1,.list t.2.2.isEmpty (BU t.2.2)]
theorem eA (t:Eh):TR t=.agg [.int .i64 t.1.1,.int .i64 t.1.2.1,.bool t.1.2.2,.int .i64 t.2.1,.list t.2.2.isEmpty (BU t.2.2)]:=rfl
def Ec (l:List Eh):List D:=l.map TR
theorem Ep (l:List Eh):(Ec l).length=l.length:=by simp[Ec]
theorem XZ:Ec []=[]:=rfl
theorem F2 (l:List Eh):C0 5 (Ec l)=True:=K7 fun _=>rfl
theorem Vg (l:List Eh) (n:Nat):(Ec l).drop n=Ec (l.drop n):=by simp[Ec]
theorem Uy {l:List Eh}{i:Nat}{A:D->Prop}:BW (Ec l)[i]? A=(i<l.length/\A (TR (l[i]?.getD default))):=Ht
def ri (l:List Cf):List D:=l.map PL
abbrev Fq:=List (Cf×Int)
def SD (e:Cf×Int):D×D:=(PL e.1,.int .i64 e.2)
def Ek (m:Fq):List (D×D):=m.map SD
def FY (k:Cf):Fq->Option Int
 |[]=>none
 |e::m=>if k=e.1 then some e.2 else FY k m
def HY (k:Cf) (v:Int):Fq->Fq
 |[]=>[(k,v)]
 |e::m=>if k=e.1 then (e.1,v)::m else e::HY k v m
theorem MM (p q:Cf):Dl (PL p) (PL q)=decide (p=q):=by
 obtain⟨a,b,o⟩:=p;obtain⟨a',b',o'⟩:=q
 have e:(o == o')=decide (o=o'):=by cases o<;>cases o'<;>rfl
 simp[Dl,PL,ei,D.cells,E3,Fe,Prod.ext_iff,e]
theorem bV (k:Cf) (m:Fq):CG (PL k) (Ek m)=(FY k m).map (.int .i64):=by
 induction m with
 |nil=>rfl
 |cons e m ih =>
  simp only[Ek,List.map_cons,CG,SD,MM,FY] at ih ⊢
  by_cases h:k=e.1
  ·simp[h]
  ·simp only[decide_eq_true_eq,h,if_false];exact ih
theorem SA {k:Cf}{m:Fq}:FY k m=none↔k∉m.map (·.1):=by
 induction m with
 |nil=>simp[FY]
 |cons e m ih =>
  rw[FY]
  by_cases h:k=e.1
  ·simp[h]
  ·rw[if_neg h,ih];simp[h]
def ss (k:Cf) (m:Fq):Fq:=HY k ((FY k m).getD 0+1) m
theorem af (k:Cf) (v:Int) (m:Fq):(HY k v m).map (·.1)=if k∈m.map (·.1) then m.map (·.1) else m.map (·.1)++[k]:=by
 induction m with
 |nil=>simp[HY]
 |cons e m ih =>
  rw[HY]
  by_cases h:k=e.1
  ·simp[h]
  ·rw[if_neg h]
   simp only[List.map_cons,ih,List.mem_cons,h,false_or]
   split<;>simp
theorem bX (k:Cf) (v:Int) (m:Fq):FY k (HY k v m)=some v:=by
 induction m with
 |nil=>simp[HY,FY]
 |cons e m ih =>
  rw[HY]
  by_cases h:k=e.1
  ·rw[if_pos h,FY,if_pos h]
  ·rw[if_neg h,FY,if_neg h,ih]
theorem eW {k:Cf}{v:Int}{m:Fq}{e:Cf×Int}(h:e∈HY k v m):e=(k,v)\/e∈m:=by
 induction m with
 |nil=>simp[HY] at h;exact .inl h
 |cons x m ih =>
  simp only[HY] at h
  split at h
  ·rename_i hk
   rcases List.mem_cons.1 h with h|h
   ·exact .inl (by rw[h,hk])
   ·exact .inr (List.mem_cons_of_mem _ h)
  ·rcases List.mem_cons.1 h with h|h
   ·exact .inr (by rw[h];simp)
   ·exact(ih h).imp id (List.mem_cons_of_mem _)
theorem bZ {k:Cf}{m:Fq}{v:Int}(h:FY k m=some v):(k,v)∈m:=by
 induction m with
 |nil=>cases h
 |cons e m ih =>
  simp only[FY] at h
  split at h
  ·rename_i he;simp at h;subst he h;simp
  ·exact List.mem_cons_of_mem _ (ih h)
def GCode.holdsD (c:GCode):D:=match c.bfsR with
 |none=>.tup [.bool true,.agg [.int .i64 0,.list true []],.int .i64 0]
 |some (s,d)=>.tup [.bool false,.agg [.int .i64 s,.list false (BU d)],.int .i64 0]
end Go.Pw
end
section
namespace Go.Pw
def GCode.bitsM (c:GCode) (r:Cf) (w:Int):List Int:=(if r.2.2 then [1] else [])++(List.replicate r.2.1.toNat 0++B8 c.out.toNat (c.wrd r.1 w))
def lU:List Int->Int->Bool->Int×Bool
 |[],z,o=>(z,o)
 |b::l,z,o=>if b=1 then lU l 0 true else lU l (z+1) o
theorem dQ (n:Nat) (w:Int):∀b,b∈B8 n w->b=0\/b=1:=by
 induction n with
 |zero=>intro b hb;cases hb
 |succ n ih =>
  intro b hb
  rw[B8] at hb
  rcases List.mem_cons.1 hb with e|e
  ·have h1:=Int.emod_nonneg (w/2^n) (show (2:Int)≠0 by decide)
   have h2:=Int.emod_lt_of_pos (w/2^n) (show (0:Int)<2 by decide)
   omega
  ·exact ih b e
end Go.Pw
end
