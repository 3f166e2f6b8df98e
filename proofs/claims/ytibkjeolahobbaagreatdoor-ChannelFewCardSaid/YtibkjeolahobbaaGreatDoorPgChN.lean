/- A part of the proof. -/
import Derived.Test.YtibkjeolahobbaaGreatDoorPgChK
import Derived.Test.YtibkjeolahobbaaGreatDoorPgChrN
set_option linter.all false
section
open Go Go.Pw Go.Proofs
namespace Go.Pw
set_option maxRecDepth 100000
set_option maxHeartbeats 3200000
def UO (c:AX):Bool:=c.code.far || (decide (40<(c.mark.length:Int)) || (decide (8<c.Q) || (decide (15<c.L) || (c.ok && decide (8<c.Q*c.L)))))
def ah (c:AX) (d:List Int):Bool:=!UO c && (c.ok && (decide (d.length<=100) && CS d (c.Q*(c.L-c.P))))
structure lZ (c:AX) (d:List Int):Prop where
 ok:c.ok=true
 nf:UO c=false
 len:d.length<=100
 sym:CS d (c.Q*(c.L-c.P))=true
theorem eC {c:AX}{d:List Int}(h:ah c d=true):lZ c d:=by
 unfold ah at h
 simp only[Bool.and_eq_true,Bool.not_eq_true',decide_eq_true_eq] at h
 exact⟨h.2.1,h.1,h.2.2.1,h.2.2.2⟩
theorem lZ.spE {c:AX}{d:List Int}(h:lZ c d):spE c.L c.P c.Q d=0:=by
 unfold Go.Pw.spE
 rw[if_pos (Dh h.ok).wev,if_pos h.sym]
theorem lZ.syms {c:AX}{d:List Int}(h:lZ c d):c.syms<=8:=by
 have h1:=h.nf
 have h2:=(Dh h.ok).syms
 unfold UO at h1
 rw[h.ok] at h1
 simp only[Bool.or_eq_false_iff,Bool.true_and,decide_eq_false_iff_not] at h1
 omega
theorem lZ.tot {c:AX}{d:List Int}(h:lZ c d):c.tot<=176:=by
 have h1:=h.syms
 have hk:=Dh h.ok
 have h2:=EC hk.code;have h3:=hk.markl
 have:c.syms*c.code.sz<=8*20:=Nat.mul_le_mul h1 h2.2
 unfold AX.tot;omega
theorem lZ.wr {c:AX}{d:List Int}(h:lZ c d):Zw c d=IU c (Tn c.L c.P c.Q d)/\oc c d=0/\(Zw c d).length=c.tot:=by
 have h1:Zw c d=IU c (Tn c.L c.P c.Q d):=by unfold Zw;rw[if_pos h.ok,if_pos h.spE]
 refine⟨h1,by unfold oc;rw[if_pos h.ok,if_pos h.spE],?_⟩
 rw[h1,T3,NS (Dh h.ok).wev h.spE];rfl
def Y_ (out:List Int) (f:Int):List Int:=if 0<=f/\f<out.length then out.set f.toNat (1-out[f.toNat]?.getD 0) else out
def P2 (out fl:List Int):List Int:=fl.foldl Y_ out
theorem ip (out:List Int) (f:Int):(Y_ out f).length=out.length:=by unfold Y_;split<;>simp
theorem NQ (fl:List Int):∀out:List Int,(P2 out fl).length=out.length:=by
 induction fl with
 |nil=>intro out;rfl
 |cons f fl ih=>intro out;show (P2 (Y_ out f) fl).length=_;rw[ih,ip]
theorem Z9 (out fl:List Int) (f:Int):P2 out (fl++[f])=Y_ (P2 out fl) f:=by simp[P2]
theorem dS {out:List Int}(h:Ao out=true) (f:Int):Ao (Y_ out f)=true:=by
 unfold Y_
 split
 ·rename_i hf
  refine W4 h _ ?_
  have:=Et h (i:=f.toNat) (by omega)
  simp only[Cw,decide_eq_true_eq];omega
 ·exact h
theorem Ow (fl:List Int):∀{out:List Int},Ao out=true->Ao (P2 out fl)=true:=by
 induction fl with
 |nil=>intro out h;exact h
 |cons f fl ih=>intro out h;exact ih (dS h f)
attribute [local congr] Bl A_ A' Ar Bm Ay A0 Az Aq Ak Ae Aa Av Af Aw BL BP BN BO BM BQ BF Ai Ax Aj BD BX Ah BJ BK BE BG BI BH BB BC A9 Bn BA Au Ag
attribute [local irreducible] IntKind.wrap A4 Option.getD and or
theorem MS (c:AX):CE E0 Py [Dg c] (.bool (UO c)):=by
 have c1:=ST c.code
 have c2:=EH c
 refine AP SZ Ap (by simp) fun hwf=>?_
 rw[AW];unfold Ng UO
 obtain⟨fr,hfr⟩:∃fr,c.code.far=fr:=⟨_,rfl⟩
 rw[hfr] at c1 ⊢
 clear hfr
 rcases hok:c.ok with _|_
 ·rw[(Gt hok).2] at c2
  cases fr with
  |true =>
   (try (simp -implicitDefEqProofs only[go_sem,AG,AF]));repeat' first|(with_reducible first|exact tI|refine aI ?_ ?_|intro _)|((first|with_reducible refine AO ?_ ?_<;>intro _|(with_reducible refine isCall ?_);first|refine AE c1 ?_|refine AE c2 ?_)<;>try (simp -implicitDefEqProofs only[go_sem,AG,AF]))|simp (disch:=omega) only[Al]
   all_goals first|rfl|(simp only[Bool.true_or];done)|skip
  |false =>
   (try (simp -implicitDefEqProofs only[go_sem,AG,AF]));repeat' first|(with_reducible first|exact tI|refine aI ?_ ?_|intro _)|((first|with_reducible refine AO ?_ ?_<;>intro _|(with_reducible refine isCall ?_);first|refine AE c1 ?_|refine AE c2 ?_)<;>try (simp -implicitDefEqProofs only[go_sem,AG,AF]))|simp (disch:=omega) only[Al]
   all_goals first|rfl|(congr 1;symm;simp;omega)|skip
 ·rw[(HT hok).2] at c2
  have c3:=CT c (Dh hok).wev
  cases fr with
  |true =>
   (try (simp -implicitDefEqProofs only[go_sem,AG,AF]));repeat' first|(with_reducible first|exact tI|refine aI ?_ ?_|intro _)|((first|with_reducible refine AO ?_ ?_<;>intro _|(with_reducible refine isCall ?_);first|refine AE c1 ?_|refine AE c2 ?_|refine AE c3 ?_)<;>try (simp -implicitDefEqProofs only[go_sem,AG,AF]))|simp (disch:=omega) only[Al]
   all_goals first|rfl|(simp only[Bool.true_or];done)|skip
  |false =>
   (try (simp -implicitDefEqProofs only[go_sem,AG,AF]));repeat' first|(with_reducible first|exact tI|refine aI ?_ ?_|intro _)|((first|with_reducible refine AO ?_ ?_<;>intro _|(with_reducible refine isCall ?_);first|refine AE c1 ?_|refine AE c2 ?_|refine AE c3 ?_)<;>try (simp -implicitDefEqProofs only[go_sem,AG,AF]))|simp (disch:=omega) only[Al]
   all_goals first|rfl|(congr 1;symm;simp;omega)|skip
theorem KC (c:AX) (nl:Bool) (d:List Int):CE E0 Mf [Dg c,.list nl (Am d)] (.bool (ah c d)):=by
 have c1:=MS c
 have c2:=EH c
 refine AP QG Ap (by simp) fun hwf=>?_
 rw[AW];unfold K4 ah
 obtain⟨fr,hfr⟩:∃fr,UO c=fr:=⟨_,rfl⟩
 rw[hfr] at c1 ⊢
 clear hfr
 cases fr with
 |true =>
  (try (simp -implicitDefEqProofs only[go_sem,AG,AF]));repeat' first|(with_reducible first|exact tI|refine aI ?_ ?_|intro _)|((first|with_reducible refine AO ?_ ?_<;>intro _|(with_reducible refine isCall ?_);first|refine AE c1 ?_)<;>try (simp -implicitDefEqProofs only[go_sem,AG,AF]))|simp (disch:=omega) only[Al]
  all_goals first|rfl|(simp only[Bool.not_true,Bool.false_and];done)|skip
 |false =>
  rcases hok:c.ok with _|_
  ·rw[(Gt hok).2] at c2
   (try (simp -implicitDefEqProofs only[go_sem,AG,AF]));repeat' first|(with_reducible first|exact tI|refine aI ?_ ?_|intro _)|((first|with_reducible refine AO ?_ ?_<;>intro _|(with_reducible refine isCall ?_);first|refine AE c1 ?_|refine AE c2 ?_)<;>try (simp -implicitDefEqProofs only[go_sem,AG,AF]))|simp (disch:=omega) only[Al]
   all_goals first|rfl|(simp only[Bool.false_and,Bool.and_false];done)|skip
  ·rw[(HT hok).2] at c2
   have hb:=Ki (Dh hok).wev
   have w1:IntKind.i64.wrap (c.L-c.P)=c.L-c.P:=AZ _ (by omega)
   have w2:IntKind.i64.wrap (c.Q*(c.L-c.P))=c.Q*(c.L-c.P):=AZ _ (by
    have h1:0<=c.Q*(c.L-c.P):=Int.mul_nonneg (by omega) (by omega)
    have h2:c.Q*(c.L-c.P)<=8*15:=Int.mul_le_mul (by omega) (by omega) (by omega) (by omega)
    omega)
   have c3:=Kx nl d (c.Q*(c.L-c.P))
   obtain⟨sb,hsb⟩:∃sb,CS d (c.Q*(c.L-c.P))=sb:=⟨_,rfl⟩
   rw[hsb] at c3 ⊢
   by_cases hl:d.length<=100
   ·have hl':(d.length:Int)<=100:=by omega
    (try (simp -implicitDefEqProofs only[go_sem,AG,AF,w1,w2,hl']));repeat' first|(with_reducible first|exact tI|refine aI ?_ ?_|intro _)|((first|with_reducible refine AO ?_ ?_<;>intro _|(with_reducible refine isCall ?_);first|refine AE c1 ?_|refine AE c2 ?_|refine AE c3 ?_)<;>try (simp -implicitDefEqProofs only[go_sem,AG,AF,w1,w2,hl']))|simp (disch:=omega) only[Al]
    all_goals first|rfl|(rename_i h;rw[h];simp[hl];done)|skip
   ·have hl':¬(d.length:Int)<=100:=by omega
    (try (simp -implicitDefEqProofs only[go_sem,AG,AF,w1,w2,hl']));repeat' first|(with_reducible first|exact tI|refine aI ?_ ?_|intro _)|((first|with_reducible refine AO ?_ ?_<;>intro _|(with_reducible refine isCall ?_);first|refine AE c1 ?_|refine AE c2 ?_|refine AE c3 ?_)<;>try (simp -implicitDefEqProofs only[go_sem,AG,AF,w1,w2,hl']))|simp (disch:=omega) only[Al]
    all_goals first|rfl|(simp[hl];done)|skip
theorem IH (n1 n2:Bool) (bits fl:List Int) (hb:Ao bits=true) (h1000:bits.length<=1000000) (hne:¬bits=[]):CE E0 KK [.list n1 (Am bits),.list n2 (Am fl)] (.list false (Am (P2 bits fl))):=by
 refine AP N5 Ap (by simp) fun hwf=>?_
 simp only[Du,DA,C_,Cy,EB,EA,Fk,D_,Bi,Bu,Bv,DC,CA,List.length_map,B7,true_and,and_true] at hwf
 rw[AW];unfold I2
 (try (simp -implicitDefEqProofs only[go_sem,hne]));repeat' first|(with_reducible first|exact tI|refine aI ?_ ?_|intro _)|((first|with_reducible refine AO ?_ ?_<;>intro _)<;>try (simp -implicitDefEqProofs only[go_sem,hne]))|simp (disch:=omega) only[Al]|((with_reducible refine Ab ?_);refine⟨(_,_),rfl,?_,?_⟩)
 all_goals first|omega|(simp;done)|(simp;omega)|skip
 have hl0:=NQ
 refine AY (α:=Nat×(List Int)) (l0:=?l1) (m0:=?m1) (fun x=>[(6,.d (.int .i64 (x.1:Int)))]) (fun x=>[(9,.row 3 1 false (Am x.2))]) (fun x=>x.1<=fl.length/\x.2=P2 bits (fl.take x.1)) (fun x=>fl.length-x.1) (0,bits) ?h01 ?he1 ?he21 ?hI1 ?step1
 case h01=>(simp -implicitDefEqProofs only[go_sem];rfl)
 case he1=>rfl
 case he21=>rfl
 case' step1=>(rintro⟨k,R⟩ hI;try dsimp only at hI)
 case' hI1=>try dsimp only
 ·exact⟨Nat.zero_le _,rfl⟩
 ·obtain⟨k1,k2⟩:=hI
  change R=P2 bits (fl.take k) at k2
  have hRl:R.length=bits.length:=by rw[k2,NQ]
  have hRb:Ao R=true:=by rw[k2];exact Ow _ hb
  by_cases hk:k<fl.length
  ·have hk':(k:Int)<(fl.length:Int):=by omega
   have hwk:IntKind.i64.wrap ((k:Int)+1)=((k+1:Nat):Int):=by rw[AZ _ (by omega)];omega
   obtain⟨f,hf⟩:∃f,fl[k]?.getD 0=f:=⟨_,rfl⟩
   have hst:Y_ R f=P2 bits (fl.take (k+1)):=by
    rw[k2,←Z9,←hf,List.take_add_one,List.getElem?_eq_getElem hk];simp[Option.getD]
   by_cases h0:0<=f
   ·by_cases h1:f<(R.length:Int)
    ·have hv:=Et hRb (i:=f.toNat) (by omega)
     have hwv:IntKind.i64.wrap (1-R[f.toNat]?.getD 0)=1-R[f.toNat]?.getD 0:=AZ _ (by omega)
     have hs2:Y_ R f=R.set f.toNat (1-R[f.toNat]?.getD 0):=by unfold Y_;rw[if_pos ⟨h0,h1⟩]
     (try (simp -implicitDefEqProofs only[go_sem,hk',hk,hwk,hf,h0,h1,hwv]));repeat' first|(with_reducible first|exact tI|refine aI ?_ ?_|intro _)|((first|with_reducible refine AO ?_ ?_<;>intro _)<;>try (simp -implicitDefEqProofs only[go_sem,hk',hk,hwk,hf,h0,h1,hwv]))|simp (disch:=omega) only[Al]|((with_reducible refine Ab ?_);refine⟨(_,_),rfl,?_,?_⟩)
     all_goals first|omega|(simp;done)|(simp;omega)|skip
     rw[←hs2,hst]
    ·have hs2:Y_ R f=R:=by unfold Y_;rw[if_neg fun h=>h1 h.2]
     (try (simp -implicitDefEqProofs only[go_sem,hk',hk,hwk,hf,h0,h1]));repeat' first|(with_reducible first|exact tI|refine aI ?_ ?_|intro _)|((first|with_reducible refine AO ?_ ?_<;>intro _)<;>try (simp -implicitDefEqProofs only[go_sem,hk',hk,hwk,hf,h0,h1]))|simp (disch:=omega) only[Al]|((with_reducible refine Ab ?_);refine⟨(_,_),rfl,?_,?_⟩)
     all_goals first|omega|(simp;done)|(simp;omega)|skip
     rw[←hst,hs2]
   ·have hs2:Y_ R f=R:=by unfold Y_;rw[if_neg fun h=>h0 h.1]
    (try (simp -implicitDefEqProofs only[go_sem,hk',hk,hwk,hf,h0]));repeat' first|(with_reducible first|exact tI|refine aI ?_ ?_|intro _)|((first|with_reducible refine AO ?_ ?_<;>intro _)<;>try (simp -implicitDefEqProofs only[go_sem,hk',hk,hwk,hf,h0]))|simp (disch:=omega) only[Al]|((with_reducible refine Ab ?_);refine⟨(_,_),rfl,?_,?_⟩)
    all_goals first|omega|(simp;done)|(simp;omega)|skip
    rw[←hst,hs2]
  ·have hk':¬(k:Int)<(fl.length:Int):=by omega
   have hte:fl.take k=fl:=List.take_of_length_le (by omega)
   rw[hte] at k2
   rw[←k2]
   (try (simp -implicitDefEqProofs only[go_sem,hk']));repeat' first|(with_reducible first|exact tI|refine aI ?_ ?_|intro _)|((first|with_reducible refine AO ?_ ?_<;>intro _)<;>try (simp -implicitDefEqProofs only[go_sem,hk']))|simp (disch:=omega) only[Al]|((with_reducible refine Ab ?_);refine⟨(_,_),rfl,?_,?_⟩)
   all_goals first|omega|(simp;done)|(simp;omega)|skip
   all_goals first|rfl|skip
end Go.Pw
end
section
open Go Go.Pw Go.Proofs
namespace Go.Pw
set_option maxRecDepth 100000
set_option maxHeartbeats 3200000
def Fx (c:AX) (a b:List Int) (i:Nat):Nat:=if c.part a 0 i=c.part b 0 i then 0 else 1
def GC (c:AX) (a b:List Int) (n:Nat):List Int:=(List.range c.Q.toNat).map fun k=>((DU (Fx c a b) c.Q.toNat n k:Nat):Int)
theorem LT (c:AX) (a b:List Int) (n:Nat):(GC c a b n).length=c.Q.toNat:=by simp[GC]
theorem oU (c:AX) (a b:List Int):List.replicate c.Q.toNat (0:Int)=GC c a b 0:=by
 unfold GC
 rw[show (fun k=>((DU (Fx c a b) c.Q.toNat 0 k:Nat):Int))=fun _=>(0:Int) from rfl,List.map_const',List.length_range]
theorem cO (c:AX) (a b:List Int) {i:Nat}(h:c.part a 0 i=c.part b 0 i):GC c a b (i+1)=GC c a b i:=by
 unfold GC
 refine List.map_congr_left fun k _=>?_
 show ((DU (Fx c a b) c.Q.toNat i k+(if i%c.Q.toNat=k then Fx c a b i else 0):Nat):Int)=_
 have:Fx c a b i=0:=by unfold Fx;rw[if_pos h]
 rw[this];simp
theorem cP (c:AX) (a b:List Int) {i:Nat}(hq:0<c.Q.toNat) (h:¬c.part a 0 i=c.part b 0 i):(GC c a b i).set (i%c.Q.toNat) ((GC c a b i)[i%c.Q.toNat]?.getD 0+1)=GC c a b (i+1):=by
 have hm:=Nat.mod_lt i hq
 apply List.ext_getElem?
 intro k
 rw[List.getElem?_set,LT]
 have hf:Fx c a b i=1:=by unfold Fx;rw[if_neg h]
 by_cases hk:k<c.Q.toNat
 ·have e:∀n,(GC c a b n)[k]?=some ((DU (Fx c a b) c.Q.toNat n k:Nat):Int):=fun n=>by simp[GC,hk]
  have hs:DU (Fx c a b) c.Q.toNat (i+1) k=DU (Fx c a b) c.Q.toNat i k+(if i%c.Q.toNat=k then Fx c a b i else 0):=rfl
  rw[e (i+1),hs,hf]
  by_cases hik:i%c.Q.toNat=k
  ·rw[if_pos hik,if_pos (by omega),hik,e i,if_pos rfl];simp
  ·rw[if_neg hik,e i,if_neg hik];simp
 ·have e:∀n,(GC c a b n)[k]?=none:=fun n=>List.getElem?_eq_none (by rw[LT];omega)
  rw[e,e]
  split
  ·omega
  ·rfl
theorem OQ (c:AX) (a b:List Int) (n:Nat) {k:Nat}(hk:k<c.Q.toNat):(GC c a b n)[k]?.getD 0=((DU (Fx c a b) c.Q.toNat n k:Nat):Int):=by simp[GC,hk]
theorem gb (f:Nat->Nat) (hf:∀i,f i<=1) (q:Nat):∀n k,DU f q n k<=n
 |0,_=>Nat.le_refl _
 |n+1,k=>by
  have ih:=gb f hf q n k
  have:=hf n
  show DU f q n k+(if n%q=k then f n else 0)<=n+1
  split<;>omega
theorem lE (c:AX) (a b:List Int) (i:Nat):Fx c a b i<=1:=by unfold Fx;split<;>omega
def bT (c:AX) (bits:List Int):D:=.tup [.int .i64 (match c.find bits with|some a=>(a:Int)|none=>0),.bool (c.find bits).isSome]
attribute [local congr] Bl A_ A' Ar Bm Ay A0 Az Aq Ak Ae Aa Av Af Aw BL BP BN BO BM BQ BF Ai Ax Aj BD BX Ah BJ BK BE BG BI BH BB BC A9 Bn BA Au Ag
attribute [local irreducible] IntKind.wrap A4 Option.getD and or
theorem Q0 (c:AX) (hk:Fj c) (nb:Bool) (bits:List Int) (hb:bits.length<=1000):CE E0 Og [Dg c,.list nb (Am bits)] (bT c bits):=by
 have hm:=hk.markl
 have ht:=hk.tot
 have c1:=FO c hk.wev hk.code (by omega)
 refine AP Re Ap (by simp) fun hwf=>?_
 rw[AW];unfold MM
 (try (simp -implicitDefEqProofs only[go_sem,AG,AF]));repeat' first|(with_reducible first|exact tI|refine aI ?_ ?_|intro _)|((first|with_reducible refine AO ?_ ?_<;>intro _)<;>try (simp -implicitDefEqProofs only[go_sem,AG,AF]))|simp (disch:=omega) only[Al]|((with_reducible refine A1 ?_);refine⟨_,rfl,?_,?_⟩)
 all_goals first|omega|(simp;done)|(simp;omega)|skip
 refine AY (α:=Nat) (l0:=?l1) (m0:=?m1) (fun x=>[(6,.d (.int .i64 (x:Int)))]) (fun x=>[]) (fun x=>x<=bits.length+1/\∀j,j<x->c.errs<B5 c.mark (bits.drop j)) (fun x=>bits.length+1-x) 0 ?h01 ?he1 ?he21 ?hI1 ?step1
 case h01=>(simp -implicitDefEqProofs only[go_sem];rfl)
 case he1=>rfl
 case he21=>rfl
 case' step1=>(rintro a hI;try dsimp only at hI)
 case' hI1=>try dsimp only
 ·exact⟨Nat.zero_le _,fun j hj=>by omega⟩
 ·obtain⟨i1,i2⟩:=hI
  have w1:IntKind.i64.wrap ((a:Int)+(c.tot:Int))=((a+c.tot:Nat):Int):=by rw[AZ _ (by omega)];omega
  have w3:IntKind.i64.wrap ((a:Int)+1)=((a+1:Nat):Int):=by rw[AZ _ (by omega)];omega
  by_cases ha:a+c.tot<=bits.length
  ·have g1:((a+c.tot:Nat):Int)<=(bits.length:Int):=by omega
   have htm:c.mark.length<=c.tot:=by unfold AX.tot;omega
   have c2:=HN c.nm nb c.mark bits (a:Int) (by omega) (by omega) (by omega) (by omega)
   rw[Int.toNat_natCast] at c2
   by_cases hd:B5 c.mark (bits.drop a)<=c.errs
   ·have hf:=WK i2 ha hd
    have hr:bT c bits=.tup [.int .i64 (a:Int),.bool true]:=by unfold bT;rw[hf];rfl
    rw[hr]
    (try (simp -implicitDefEqProofs only[go_sem,AG,AF,w1,g1,hd]));repeat' first|(with_reducible first|exact tI|refine aI ?_ ?_|intro _)|((first|with_reducible refine AO ?_ ?_<;>intro _|(with_reducible refine isCall ?_);first|refine AE c1 ?_|refine AE c2 ?_)<;>try (simp -implicitDefEqProofs only[go_sem,AG,AF,w1,g1,hd]))|simp (disch:=omega) only[Al]|((with_reducible refine A1 ?_);refine⟨_,rfl,?_,?_⟩)
    all_goals first|omega|(simp;done)|(simp;omega)|skip
    all_goals first|rfl|skip
   ·(try (simp -implicitDefEqProofs only[go_sem,AG,AF,w1,g1,hd,w3]));repeat' first|(with_reducible first|exact tI|refine aI ?_ ?_|intro _)|((first|with_reducible refine AO ?_ ?_<;>intro _|(with_reducible refine isCall ?_);first|refine AE c1 ?_|refine AE c2 ?_)<;>try (simp -implicitDefEqProofs only[go_sem,AG,AF,w1,g1,hd,w3]))|simp (disch:=omega) only[Al]|((with_reducible refine A1 ?_);refine⟨_,rfl,?_,?_⟩)
    all_goals first|omega|(simp;done)|(simp;omega)|skip
    rename_i j hj
    by_cases e:j=a
    ·rw[e];omega
    ·exact i2 j (by omega)
  ·have g1:¬((a+c.tot:Nat):Int)<=(bits.length:Int):=by omega
   have hf:=WJ i2 ha
   have hr:bT c bits=.tup [.int .i64 0,.bool false]:=by unfold bT;rw[hf];rfl
   rw[hr]
   (try (simp -implicitDefEqProofs only[go_sem,AG,AF,w1,g1]));repeat' first|(with_reducible first|exact tI|refine aI ?_ ?_|intro _)|((first|with_reducible refine AO ?_ ?_<;>intro _|(with_reducible refine isCall ?_);first|refine AE c1 ?_)<;>try (simp -implicitDefEqProofs only[go_sem,AG,AF,w1,g1]))|simp (disch:=omega) only[Al]|((with_reducible refine A1 ?_);refine⟨_,rfl,?_,?_⟩)
   all_goals first|omega|(simp;done)|(simp;omega)|skip
   all_goals first|rfl|skip
theorem II (c:AX) (hk:Fj c) (n1 n2:Bool) (a b:List Int) (ha:a.length=c.tot) (hb:b.length=c.tot):CE E0 KL [Dg c,.list n1 (Am a),.list n2 (Am b)] (.list false (Am (GC c a b c.syms))):=by
 have hm:=hk.markl
 have ht:=hk.tot
 have hs:=hk.syms
 have hz:=EC hk.code
 have hw:=Ki hk.wev
 have c1:=CT c hk.wev
 have c2:=Dx c hk.code
 rw[hs.2.2] at c1
 have hq:c.Q=((c.Q.toNat:Nat):Int):=by omega
 have hq0:0<=c.Q:=by omega
 have hqb:c.Q<=1073741824:=by omega
 have hne0:¬c.Q=0:=by omega
 refine AP N6 Ap (by simp) fun hwf=>?_
 rw[AW];unfold I3
 (try (simp -implicitDefEqProofs only[go_sem,AG,AF,hq0,hqb]));repeat' first|(with_reducible first|exact tI|refine aI ?_ ?_|intro _)|((first|with_reducible refine AO ?_ ?_<;>intro _)<;>try (simp -implicitDefEqProofs only[go_sem,AG,AF,hq0,hqb]))|simp (disch:=omega) only[Al]|((with_reducible refine A1 ?_);refine⟨_,rfl,?_,?_⟩)
 all_goals first|omega|(simp;done)|(simp;omega)|skip
 rw[oU c a b]
 refine AY (α:=Nat) (l0:=?l2) (m0:=?m2) (fun x=>[(8,.d (.int .i64 (x:Int)))]) (fun x=>[(13,.row 3 1 false (Am (GC c a b x)))]) (fun x=>x<=c.syms) (fun x=>c.syms-x) 0 ?h02 ?he2 ?he22 ?hI2 ?step2
 case h02=>(simp -implicitDefEqProofs only[go_sem];rfl)
 case he2=>rfl
 case he22=>rfl
 case' step2=>(rintro i hI;try dsimp only at hI)
 case' hI2=>try dsimp only
 ·exact Nat.zero_le _
 ·have hcl:=LT c a b i
  by_cases hi:i<c.syms
  ·have hi':(i:Int)<(c.syms:Int):=by omega
   have h1:i*c.code.sz+c.code.sz<=c.syms*c.code.sz:=by have:=Nat.mul_le_mul_right c.code.sz (show i+1<=c.syms from hi);rw[Nat.add_mul,Nat.one_mul] at this;exact this
   have htt:c.tot=c.mark.length+c.syms*c.code.sz:=rfl
   have w1:IntKind.i64.wrap ((i:Int)*(c.code.sz:Int))=((i*c.code.sz:Nat):Int):=by rw[show (i:Int)*(c.code.sz:Int)=((i*c.code.sz:Nat):Int) by push_cast;rfl];exact AZ _ (by omega)
   have w2:IntKind.i64.wrap ((c.mark.length:Int)+((i*c.code.sz:Nat):Int))=((c.mark.length+i*c.code.sz:Nat):Int):=by rw[AZ _ (by omega)];omega
   have w3:IntKind.i64.wrap (((c.mark.length+i*c.code.sz:Nat):Int)+(c.code.sz:Int))=((c.mark.length+i*c.code.sz+c.code.sz:Nat):Int):=by rw[AZ _ (by omega)];omega
   have hwi:IntKind.i64.wrap ((i:Int)+1)=((i+1:Nat):Int):=by rw[AZ _ (by omega)];omega
   obtain⟨f,hf⟩:∃f,c.mark.length+i*c.code.sz=f:=⟨_,rfl⟩
   have hpa:(a.drop f).take c.code.sz=c.part a 0 i:=by unfold AX.part;rw[←hf,Nat.zero_add]
   have hpb:(b.drop f).take c.code.sz=c.part b 0 i:=by unfold AX.part;rw[←hf,Nat.zero_add]
   rw[hf] at w2 w3
   have hsub:f+c.code.sz-f=c.code.sz:=by omega
   have g1:((f+c.code.sz:Nat):Int)<=(a.length:Int):=by omega
   have g2:((f+c.code.sz:Nat):Int)<=(b.length:Int):=by omega
   have g3:(f:Int)<=((f+c.code.sz:Nat):Int):=by omega
   have c3:=Dy n1 n2 (c.part a 0 i) (c.part b 0 i)
   have hmd:(i:Int).tmod c.Q=((i%c.Q.toNat:Nat):Int):=by rw[hq,Int.toNat_natCast];exact Tg _ _
   have hml:=Nat.mod_lt i (show 0<c.Q.toNat by omega)
   by_cases he:c.part a 0 i=c.part b 0 i
   ·have hst:=cO c a b he
    rw[decide_eq_true he] at c3
    (try (simp -implicitDefEqProofs only[go_sem,AG,AF,hi',w1,w2,w3,hpa,hpb,hsub,g1,g2,g3,hwi]));repeat' first|(with_reducible first|exact tI|refine aI ?_ ?_|intro _)|((first|with_reducible refine AO ?_ ?_<;>intro _|(with_reducible refine isCall ?_);first|refine AE c1 ?_|refine AE c2 ?_|refine AE c3 ?_)<;>try (simp -implicitDefEqProofs only[go_sem,AG,AF,hi',w1,w2,w3,hpa,hpb,hsub,g1,g2,g3,hwi]))|simp (disch:=omega) only[Al]|((with_reducible refine A1 ?_);refine⟨_,rfl,?_,?_⟩)
    all_goals first|omega|(simp;done)|(simp;omega)|skip
    rw[←hst]
    exact⟨i+1,rfl,hi,by omega⟩
   ·have hst:=cP c a b (show 0<c.Q.toNat by omega) he
    rw[decide_eq_false he] at c3
    have hcg:=OQ c a b i hml
    have hcb:=gb _ (lE c a b) c.Q.toNat i (i%c.Q.toNat)
    have wv:IntKind.i64.wrap ((GC c a b i)[i%c.Q.toNat]?.getD 0+1)=(GC c a b i)[i%c.Q.toNat]?.getD 0+1:=AZ _ (by omega)
    (try (simp -implicitDefEqProofs only[go_sem,AG,AF,hi',w1,w2,w3,hpa,hpb,hsub,g1,g2,g3,hwi,hmd,hne0,hcl,hml,wv,hst]));repeat' first|(with_reducible first|exact tI|refine aI ?_ ?_|intro _)|((first|with_reducible refine AO ?_ ?_<;>intro _|(with_reducible refine isCall ?_);first|refine AE c1 ?_|refine AE c2 ?_|refine AE c3 ?_)<;>try (simp -implicitDefEqProofs only[go_sem,AG,AF,hi',w1,w2,w3,hpa,hpb,hsub,g1,g2,g3,hwi,hmd,hne0,hcl,hml,wv,hst]))|simp (disch:=omega) only[Al]|((with_reducible refine A1 ?_);refine⟨_,rfl,?_,?_⟩)
    all_goals first|omega|(simp;done)|(simp;omega)|skip
    all_goals skip
  ·have hi':¬(i:Int)<(c.syms:Int):=by omega
   have hie:i=c.syms:=by omega
   subst hie
   (try (simp -implicitDefEqProofs only[go_sem,AG,AF,hi']));repeat' first|(with_reducible first|exact tI|refine aI ?_ ?_|intro _)|((first|with_reducible refine AO ?_ ?_<;>intro _|(with_reducible refine isCall ?_);first|refine AE c1 ?_)<;>try (simp -implicitDefEqProofs only[go_sem,AG,AF,hi']))|simp (disch:=omega) only[Al]|((with_reducible refine A1 ?_);refine⟨_,rfl,?_,?_⟩)
   all_goals first|omega|(simp;done)|(simp;omega)|skip
   all_goals first|rfl|skip
end Go.Pw
end
section
open Go Go.Pw
namespace Go.Pw
theorem cH {L P:Nat}(hL:L<=15) {w r c:List F}{mk:List Nat}(hw:w.length=L) (h2:r.length=L) (hc:c.length=L) (hm:Y2 L mk) (h1:iE L P r) (hcode:iE L P c) (h:mk.length+(Mw L r w mk).length+(Mw L c w mk).length<=P):r=c:=by
 have hs:=N0 L c w mk
 have hs2:=N0 L r w mk
 obtain⟨at_,hat⟩:∃at_,mk++((Mw L r w mk)++(Mw L c w mk).filter fun j=>!(Mw L r w mk).contains j)=at_:=⟨_,rfl⟩
 refine TP hL (at_:=at_) h2 hc ?_ ?_ h1 hcode fun j hj=>?_
 ·rw[←hat]
  refine⟨List.nodup_append.2 ⟨EU hm.asc,List.nodup_append.2 ⟨EU hs2.asc,(EU hs.asc).filter _,fun a ha b hb e=>?_⟩,fun a ha b hb e=>?_⟩,fun j hj=>?_⟩
  ·simp at hb;exact hb.2 (e ▸ ha)
  ·subst e
   rcases List.mem_append.1 hb with hb|hb
   ·exact hs2.un a hb ha
   ·exact hs.un a (List.mem_filter.1 hb).1 ha
  ·rcases List.mem_append.1 hj with hj|hj
   ·exact hm.lt j hj
   ·rcases List.mem_append.1 hj with hj|hj
    ·exact hs2.lt j hj
    ·exact hs.lt j (List.mem_filter.1 hj).1
 ·rw[←hat]
  have:=List.length_filter_le (fun j=>!(Mw L r w mk).contains j) (Mw L c w mk)
  simp only[List.length_append]
  omega
 ·rw[←hat] at hj
  simp only[List.mem_append,not_or,List.mem_filter] at hj
  obtain⟨j1,j2,j3⟩:=hj
  have j4:j∉Mw L c w mk:=fun hh=>j3 ⟨hh,by simpa using j2⟩
  exact(N1 h2 hw (fun e=>(List.mem_append.1 e).elim j1 j2)).trans (N1 hc hw (fun e=>(List.mem_append.1 e).elim j1 j4)).symm
theorem YU {L P:Nat}(hL:L<=15) {w R r:List F}{mk:List Nat}(hw:w.length=L) (hR:R.length=L) (hm:Y2 L mk) (hcod:iE L P w) (hd:M5 L P R mk=some r) (h:(Mw L w R mk).length+mk.length+P/2<=P):r=w:=by
 obtain⟨h1,h2,h3⟩:=N2 hR hm hd
 exact cH hL hR h2 hw hm h1 hcod (by omega)
theorem Vx {l p q:Nat}(hl:l<=15) (hpl:p<l) (hq:0<q) {d R:List F}{ms:List Nat}(hd:d.length=(l-p)*q) (hR:R.length=l*q) (hm:Y2 (l*q) ms)
  (h:∀k,k<q->(Mw l (Gh p (CU (l-p) q k d)) (CU l q k R) (Pn q k ms)).length+(Pn q k ms).length+p/2<=p):YJ l p q R ms=some d\/YJ l p q R ms=none:=by
 by_cases ha:∀k,k<q->(Za l p q R ms k).isSome=true
 ·left
  have hO:∀k,k<q->Za l p q R ms k=some (Gh p (CU (l-p) q k d)):=fun k hk=>by
   have hl1:=Ca (l-p) q k d
   have hc:=Wa p (CU (l-p) q k d)
   rw[hl1,show l-p+p=l by omega] at hc
   cases hg:Za l p q R ms k with
   |none=>have:=ha k hk;rw[hg] at this;cases this
   |some r =>
    congr 1
    exact YU hl (by rw[HX,hl1];omega) (Ca ..) (UF hq hm) hc hg (h k hk)
  rw[YI ha]
  congr 1
  rw[Rz hq (V:=fun k=>CU (l-p) q k d) fun k hk=>by
   rw[Nt (hO k hk)]
   unfold Gh
   rw[List.take_append_of_le_length (by rw[Ca];omega),List.take_of_length_le (by rw[Ca];omega)]]
  exact Wy hq hd
 ·right
  unfold YJ;rw[if_neg ha]
theorem Zl (f g:Nat->Nat) (q:Nat):∀n k,DU f q n k+DU g q n k=DU (fun i=>f i+g i) q n k
 |0,_=>rfl
 |n+1,k=>by
  have ih:=Zl f g q n k
  show DU f q n k+(if n%q=k then f n else 0)+(DU g q n k+(if n%q=k then g n else 0))=DU (fun i=>f i+g i) q n k+(if n%q=k then f n+g n else 0)
  rw[←ih];split<;>omega
theorem af {c:AX}(hk:Fj c) {l p q:Nat}{e:List F}(h1:c.L=(l:Int)) (h2:c.P=(p:Int)) (h3:c.Q=(q:Int)) (b2:l<=15) (b5:p<l) (b6:1<=q) (he:e.length=(l-p)*q) (hs:c.syms=l*q)
  {sy:List (Option Nat)}(hl:sy.length=c.syms) {f:Nat->Nat}
  (hf:∀i,i<l*q->sy[i]?.getD none≠some ((Cx c.seed (iv (Sr l p q e)))[i]?.getD 0).toNat->1<=f i)
  (hc:∀k,k<q->DU f q (l*q) k+p/2<=p):(RI c sy=0/\Uy c sy=iv e)\/RI c sy=52:=by
 obtain⟨g1,g2⟩:=fP hk h1 h2 h3 hs hl
 have hBl:(Sr l p q e).length=l*q:=Tm ..
 have hrl:(fs (Cx c.seed (NL sy))).length=l*q:=by rw[UL,Dv,FP,hl,hs]
 obtain⟨mB,hmB⟩:∃mB:Nat->Bool,mB=fun i=>(sy[i]?.getD none).isNone:=⟨_,rfl⟩
 obtain⟨wB,hwB⟩:∃wB:Nat->Bool,wB=fun i=>decide (sy[i]?.getD none≠some ((Cx c.seed (iv (Sr l p q e)))[i]?.getD 0).toNat) && !mB i:=⟨_,rfl⟩
 have hmk:bC sy=(List.range (l*q)).filter mB:=by rw[hmB];unfold bC;rw[hl,hs]
 have key:=Vx (l:=l) (p:=p) (q:=q) (R:=fs (Cx c.seed (NL sy))) (ms:=(List.range (l*q)).filter mB) b2 b5 (by omega) he hrl (RG mB _) fun k hkq=>by
  have d1:=Zi (a:=[]) (wB:=wB) (mB:=mB) (R:=fs (Cx c.seed (NL sy))) (W:=fun k=>Gh p (CU (l-p) q k e)) (l:=l) hkq fun j hj hne hmj=>by
   have hlt:=RZ hkq hj
   have h4:(Sr l p q e)[j*q+k]?.getD 0=(Gh p (CU (l-p) q k e))[j]?.getD 0:=by
    unfold Sr
    rw[OW _ hlt,Uc hkq,RY hkq]
   rw[hwB]
   simp only[hmj,Bool.not_false,Bool.and_true,decide_eq_true_eq]
   intro hs2
   have hx:0<=(Cx c.seed (iv (Sr l p q e)))[j*q+k]?.getD 0:=(Iw _ _ _ (D2 (by rw[Dv,Jl,hBl];exact hlt))).1
   exact hne (h4.symm.trans (dq (by omega) (by omega) hs2 (by omega)).symm)
  have d2:=UG mB (q:=q) k (l*q)
  have d3:DU f q (l*q) k>=P5 (fun i=>if wB i then 1 else 0) q l k+DU (fun i=>if mB i then 1 else 0) q (l*q) k:=by
   rw[←Qd _ hkq,Zl]
   refine Rr (fun i hi=>?_) k
   by_cases hw:sy[i]?.getD none=some ((Cx c.seed (iv (Sr l p q e)))[i]?.getD 0).toNat
   ·have:mB i=false:=by rw[hmB];simp only[hw];rfl
    have h5:wB i=false:=by rw[hwB];simp[hw]
    rw[this,h5];simp
   ·have:=hf i hi hw
    cases hm:mB i with
    |true =>
     have h5:wB i=false:=by rw[hwB];simp[hm]
     rw[h5];simpa using this
    |false=>simp only[Bool.false_eq_true,if_false,Nat.add_zero];split<;>omega
  have:=hc k hkq
  omega
 rw[g1,g2,hmk]
 rcases key with h|h
 ·left;rw[h];exact⟨rfl,rfl⟩
 ·right;rw[h];rfl
end Go.Pw
end
section
open Go Go.Pw
namespace Go.Pw
theorem Yt {c:AX}(hk:Fj c) {b:List Int}(hb:b.length=c.syms) {R:List Int}{i:Nat}(hi:i<c.syms) (h:(c.syL R 0)[i]?.getD none≠some ((Cx c.seed b)[i]?.getD 0).toNat):Fx c (IU c b) R i=1:=by
 unfold Fx
 rw[if_neg]
 intro he
 have h1:=Xj hk hb [] hi
 rw[List.append_nil,Qp hi,he,←Qp hi] at h1
 exact h h1
theorem Zk (f:Nat->Nat) (q:Nat):∀n k,DU (fun i=>2*f i) q n k=2*DU f q n k
 |0,_=>rfl
 |n+1,k=>by
  have ih:=Zk f q n k
  show DU (fun i=>2*f i) q n k+(if n%q=k then 2*f n else 0)=2*(DU f q n k+(if n%q=k then f n else 0))
  rw[ih];split<;>omega
theorem aW {c:AX}(hk:Fj c) {d:List Int}(he:spE c.L c.P c.Q d=0) {R:List Int}
  {n:Nat}(hn:∀k,k<c.Q.toNat->DU (Fx c (IU c (Tn c.L c.P c.Q d)) R) c.Q.toNat c.syms k<=n) :
  (2*n<=c.P.toNat->RI c (c.syL R 0)=0/\Uy c (c.syL R 0)=d)/\(n+c.P.toNat/2<=c.P.toNat->(RI c (c.syL R 0)=0/\Uy c (c.syL R 0)=d)\/RI c (c.syL R 0)=52):=by
 have hbl:=NS hk.wev he
 obtain⟨l,p,q,e,h1,h2,h3,b1,b2,b3,b4,b5,b6,b7,rfl,hel,hsp,hs⟩:=Tl hk he
 have hq:c.Q.toNat=q:=by rw[h3];rfl
 have hp:c.P.toNat=p:=by rw[h2];rfl
 rw[hq] at hn
 rw[hp]
 refine⟨fun h=>?_,fun h=>?_⟩
 ·refine Q4 hk h1 h2 h3 b2 b5 b6 hel hs (Jf ..) (f:=fun i=>2*Fx c (IU c (Tn c.L c.P c.Q (iv e))) R i) (fun i hi hne=>?_) fun k hkq=>?_
  ·rw[hsp] at hbl ⊢
   rw[Yt hk hbl (by omega) hne];split<;>omega
  ·rw[Zk,←hs]
   have:=hn k hkq;omega
 ·refine af hk h1 h2 h3 b2 b5 b6 hel hs (Jf ..) (f:=Fx c (IU c (Tn c.L c.P c.Q (iv e))) R) (fun i hi hne=>?_) fun k hkq=>?_
  ·rw[hsp] at hbl ⊢
   rw[Yt hk hbl (by omega) hne];omega
  ·rw[←hs]
   have:=hn k hkq;omega
end Go.Pw
end
section
open Go Go.Pw
namespace Go.Pw
set_option maxHeartbeats 3200000
def GB (f:Nat->Bool):Nat->Nat
 |0=>0
 |n+1=>GB f n+if f n then 1 else 0
theorem Uk (f:Nat->Bool):∀n,GB f n<=n
 |0=>Nat.le_refl _
 |n+1=>by have:=Uk f n;unfold GB;split<;>omega
theorem Ey {f g:Nat->Bool}:∀{n:Nat},(∀i,i<n->f i=g i)->GB f n=GB g n
 |0,_=>rfl
 |n+1,h=>by unfold GB;rw[Ey fun i hi=>h i (by omega),h n (by omega)]
theorem LU {f:Nat->Bool}:∀{n:Nat},(∀i,i<n->f i=false)->GB f n=0
 |0,_=>rfl
 |n+1,h=>by unfold GB;rw[LU fun i hi=>h i (by omega),h n (by omega)];rfl
theorem Ly (f:Nat->Bool) (a:Nat):∀b,GB f (a+b)=GB f a+GB (fun k=>f (a+k)) b
 |0=>rfl
 |b+1=>by
  show GB f (a+b)+(if f (a+b) then 1 else 0)=GB f a+(GB (fun k=>f (a+k)) b+if f (a+b) then 1 else 0)
  rw[Ly f a b,Nat.add_assoc]
theorem Zm {f f':Nat->Bool}{n lo g:Nat}(h:lo+g<=n) (h1:∀k,k<g->f' (lo+k)=false) (h2:∀i,i<n->i<lo\/lo+g<=i->f i=f' i) :
  GB f n=GB (fun k=>f (lo+k)) g+GB f' n:=by
 obtain⟨r,rfl⟩:∃r,n=lo+g+r:=⟨n-(lo+g),by omega⟩
 rw[Ly f (lo+g) r,Ly f lo g,Ly f' (lo+g) r,Ly f' lo g,LU h1,Ey (f:=f) (g:=f') (n:=lo) fun i hi=>h2 i (by omega) (.inl hi),
  Ey (f:=fun k=>f (lo+g+k)) (g:=fun k=>f' (lo+g+k)) (n:=r) fun i hi=>h2 _ (by omega) (.inr (by omega))]
 omega
theorem QZ:∀(g:Nat) (X Y:List Int) (j q:Nat),j+g<=X.length->q+g<=Y.length ->
  B5 ((X.drop j).take g) (Y.drop q)=(GB (fun k=>decide (X[j+k]?.getD 0≠Y[q+k]?.getD 0)) g:Nat)
 |0,X,Y,j,q,_,_=>by rw[List.take_zero];rfl
 |g+1,X,Y,j,q,h1,h2=>by
  rw[List.drop_eq_getElem_cons (l:=X) (i:=j) (by omega),List.drop_eq_getElem_cons (l:=Y) (i:=q) (by omega),List.take_succ_cons]
  have ih:=QZ g X Y (j+1) (q+1) (by omega) (by omega)
  have e1:X[j]?.getD 0=X[j]'(by omega):=by rw[List.getElem?_eq_getElem (by omega)];rfl
  have e2:Y[q]?.getD 0=Y[q]'(by omega):=by rw[List.getElem?_eq_getElem (by omega)];rfl
  rw[show g+1=1+g by omega,Ly _ 1 g]
  show (if X[j]=Y[q] then (0:Int) else 1)+B5 _ _=_
  rw[ih]
  have e3:GB (fun k=>decide (X[j+k]?.getD 0≠Y[q+k]?.getD 0)) 1=if X[j]=Y[q] then 0 else 1:=by
   show 0+(if decide (X[j+0]?.getD 0≠Y[q+0]?.getD 0)=true then 1 else 0)=_
   rw[Nat.add_zero,Nat.add_zero,e1,e2]
   by_cases h:X[j]=Y[q]<;>simp[h]
  rw[e3,Ey (f:=fun k=>decide (X[j+(1+k)]?.getD 0≠Y[q+(1+k)]?.getD 0)) (g:=fun k=>decide (X[j+1+k]?.getD 0≠Y[q+1+k]?.getD 0)) fun k _=>by rw[show j+(1+k)=j+1+k by omega,show q+(1+k)=q+1+k by omega]]
  split<;>simp<;>omega
def UN (f:Nat->Nat) (z:Nat):Nat->Nat
 |0=>z
 |n+1=>min (UN f z n) (f n)
def T0 (f:Nat->Nat):Nat->Nat
 |0=>0
 |n+1=>T0 f n+f n
theorem RN (f:Nat->Nat) (z:Nat):∀n,UN f z n<=z
 |0=>Nat.le_refl _
 |n+1=>by have:=RN f z n;unfold UN;omega
theorem JE {f g:Nat->Nat}{z:Nat}:∀{n:Nat},(∀i,i<n->f i=g i)->UN f z n=UN g z n
 |0,_=>rfl
 |n+1,h=>by unfold UN;rw[JE fun i hi=>h i (by omega),h n (by omega)]
theorem Oz {f g:Nat->Nat}:∀{n:Nat},(∀i,i<n->f i=g i)->T0 f n=T0 g n
 |0,_=>rfl
 |n+1,h=>by unfold T0;rw[Oz fun i hi=>h i (by omega),h n (by omega)]
theorem ZD {f g:Nat->Nat}{s:Nat}:∀{n:Nat},s<n->(∀i,i<n->i≠s->f i=g i)->T0 f n+g s=T0 g n+f s
 |0,h,_=>by omega
 |n+1,h,h2=>by
  unfold T0
  by_cases e:s=n
  ·subst e
   rw[Oz (f:=f) (g:=g) fun i hi=>h2 i (by omega) (by omega)];omega
  ·have:=ZD (n:=n) (by omega) fun i hi=>h2 i (by omega)
   rw[h2 n (by omega) fun e'=>e e'.symm];omega
theorem dV {f:Nat->Nat}{z:Nat}(h:∀i,f i<=z):∀n,T0 f n<=n*z
 |0=>by simp[T0]
 |n+1=>by have:=dV h n;have:=h n;unfold T0;rw[Nat.succ_mul];omega
def SS (c:AX) (a j t:Nat):Bool:=decide (j<=t) && (decide (a+t<c.mark.length) && decide (c.mark[a+t]?.getD 0≠c.mark[t]?.getD 0) || decide (c.tot<=a+t) && decide (c.mark[a+t-c.tot]?.getD 0≠c.mark[t]?.getD 0))
def wF (c:AX) (a j s y i:Nat):Bool:=decide (a+j<=c.mark.length+s*c.code.sz+i) && (decide (c.mark.length+s*c.code.sz+i<a+c.mark.length) && decide ((c.code.stm y)[i]?.getD 0≠c.mark[c.mark.length+s*c.code.sz+i-a]?.getD 0))
def HV (c:AX) (a j s:Nat):Nat:=UN (fun y=>GB (wF c a j s y) c.code.sz) c.code.sz 16
def iH (c:AX) (a j:Nat):Nat:=GB (SS c a j) c.mark.length+T0 (HV c a j) c.syms
theorem et {c:AX}{rest:List Int}{part q:Nat}{f:Nat->Nat}(hf:∀y,B5 (rest.take part) ((c.code.stm y).drop q)=(f y:Nat)):∀n,XJ c.code rest part q n=(UN f part n:Nat)
 |0=>rfl
 |n+1=>by unfold XJ UN;rw[et hf n,hf];omega
theorem Zb {f:Nat->Nat}{z z':Nat}(h:∀i,f i<=z) (hz:z<=z'):∀n,0<n->UN f z' n=UN f z n
 |0,h0=>by omega
 |1,_=>by have:=h 0;simp only[UN];omega
 |n+2,_=>by
  have:=Zb h hz (n+1) (by omega)
  show min (UN f z' (n+1)) _=min (UN f z (n+1)) _
  rw[this]
theorem jK (c:AX) (a:Nat):iH c a c.mark.length=0:=by
 have h1:GB (SS c a c.mark.length) c.mark.length=0:=LU fun t ht=>by
  unfold SS
  rw[decide_eq_false (by omega),Bool.false_and]
 have h2:∀s,HV c a c.mark.length s=0:=fun s=>by
  have h3:∀y,GB (wF c a c.mark.length s y) c.code.sz=0:=fun y=>LU fun i hi=>by
   unfold wF
   by_cases h:a+c.mark.length<=c.mark.length+s*c.code.sz+i
   ·rw[decide_eq_true h,decide_eq_false (show ¬c.mark.length+s*c.code.sz+i<a+c.mark.length by omega),Bool.false_and,Bool.and_false]
   ·rw[decide_eq_false h,Bool.false_and]
  unfold HV
  rw[JE (g:=fun _=>0) fun y _=>h3 y,Zb (z:=0) (fun _=>Nat.le_refl _) (Nat.zero_le _) 16 (by omega)]
  have:=RN (fun _=>0) 0 16
  omega
 unfold iH
 rw[h1]
 have h3:∀n,T0 (HV c a c.mark.length) n=0:=fun n=>by
  induction n with
  |zero=>rfl
  |succ n ih=>unfold T0;rw[ih,h2]
 rw[h3]
theorem dz {c:AX}{a j g p:Nat}(hm:c.mark.length<=c.tot) (ha:a<c.tot) (hp:(a+j)%c.tot=p) (hpm:p<c.mark.length) (hj:j<c.mark.length)
  (hg:g=min (c.mark.length-j) (c.mark.length-p)) (htot:c.tot=c.mark.length+c.syms*c.code.sz) :
  ((iH c a j:Nat):Int)=B5 ((c.mark.drop j).take g) (c.mark.drop p)+(iH c a (j+g):Nat):=by
 have hcase:a+j=p\/a+j=p+c.tot:=by
  rcases Nat.lt_or_ge (a+j) c.tot with h|h
  ·rw[Nat.mod_eq_of_lt h] at hp;exact .inl hp
  ·rw[Nat.mod_eq_sub_mod h,Nat.mod_eq_of_lt (by omega)] at hp;exact .inr (by omega)
 have h1:GB (SS c a j) c.mark.length=GB (fun k=>SS c a j (j+k)) g+GB (SS c a (j+g)) c.mark.length:=by
  refine Zm (by omega) (fun k hk=>?_) fun i hi h=>?_
  ·unfold SS;rw[decide_eq_false (by omega),Bool.false_and]
  ·unfold SS
   rcases h with h|h
   ·rw[decide_eq_false (show ¬j<=i by omega),decide_eq_false (show ¬j+g<=i by omega)]
   ·rw[decide_eq_true (show j<=i by omega),decide_eq_true (show j+g<=i by omega)]
 have h2:∀k,k<g->SS c a j (j+k)=decide (c.mark[j+k]?.getD 0≠c.mark[p+k]?.getD 0):=fun k hk=>by
  unfold SS
  rw[decide_eq_true (show j<=j+k by omega),Bool.true_and]
  rcases hcase with h|h
  ·rw[decide_eq_true (show a+(j+k)<c.mark.length by omega),decide_eq_false (show ¬c.tot<=a+(j+k) by omega),Bool.true_and,Bool.false_and,Bool.or_false,show a+(j+k)=p+k by omega]
   exact decide_eq_decide.2 ⟨fun h e=>h e.symm,fun h e=>h e.symm⟩
  ·rw[decide_eq_false (show ¬a+(j+k)<c.mark.length by omega),decide_eq_true (show c.tot<=a+(j+k) by omega),Bool.true_and,Bool.false_and,Bool.false_or,show a+(j+k)-c.tot=p+k by omega]
   exact decide_eq_decide.2 ⟨fun h e=>h e.symm,fun h e=>h e.symm⟩
 have h3:∀s,s<c.syms->HV c a j s=HV c a (j+g) s:=fun s hs=>by
  have hs1:s*c.code.sz+c.code.sz<=c.syms*c.code.sz:=by rw[←Nat.succ_mul];exact Nat.mul_le_mul_right _ hs
  refine JE fun y _=>Ey fun i hi=>?_
  have he:decide (a+j<=c.mark.length+s*c.code.sz+i)=decide (a+(j+g)<=c.mark.length+s*c.code.sz+i):=decide_eq_decide.2 ⟨fun h=>by rcases hcase with h'|h'<;>omega,fun h=>by omega⟩
  unfold wF
  rw[he]
 have h4:=QZ g c.mark c.mark j p (by omega) (by omega)
 rw[h4]
 unfold iH
 rw[h1,Ey h2,Oz h3]
 push_cast;omega
theorem jJ {c:AX}{a j g p:Nat}(hm:c.mark.length<=c.tot) (ha:a<c.tot) (hp:(a+j)%c.tot=p) (hpm:c.mark.length<=p) (hj:j<c.mark.length) (hz:0<c.code.sz)
  (hg:g=min (c.mark.length-j) (c.code.sz-(p-c.mark.length)%c.code.sz)) (htot:c.tot=c.mark.length+c.syms*c.code.sz) :
  ((iH c a j:Nat):Int)=XJ c.code (c.mark.drop j) g ((p-c.mark.length)%c.code.sz) 16+(iH c a (j+g):Nat):=by
 have hlt:a+j<c.tot:=by
  rcases Nat.lt_or_ge (a+j) c.tot with h|h
  ·exact h
  ·rw[Nat.mod_eq_sub_mod h,Nat.mod_eq_of_lt (by omega)] at hp;omega
 rw[Nat.mod_eq_of_lt hlt] at hp
 obtain⟨q,hq⟩:∃q,(p-c.mark.length)%c.code.sz=q:=⟨_,rfl⟩
 obtain⟨s0,hs0⟩:∃s0,(p-c.mark.length)/c.code.sz=s0:=⟨_,rfl⟩
 have hdm:s0*c.code.sz+q=p-c.mark.length:=by rw[←hs0,←hq,Nat.mul_comm];exact Nat.div_add_mod ..
 have hqz:q<c.code.sz:=by rw[←hq];exact Nat.mod_lt _ hz
 rw[hq] at hg ⊢
 have hs0l:s0<c.syms:=by
  rcases Nat.lt_or_ge s0 c.syms with h|h
  ·exact h
  ·have:=Nat.mul_le_mul_right c.code.sz h;omega
 have hs0e:s0*c.code.sz+c.code.sz<=c.syms*c.code.sz:=by rw[←Nat.succ_mul];exact Nat.mul_le_mul_right _ hs0l
 have h1:GB (SS c a j) c.mark.length=GB (SS c a (j+g)) c.mark.length:=Ey fun t ht=>by
  unfold SS
  by_cases h:j+g<=t
  ·rw[decide_eq_true h,decide_eq_true (show j<=t by omega)]
  ·rw[decide_eq_false h,Bool.false_and]
   by_cases h':j<=t
   ·rw[decide_eq_true h',decide_eq_false (show ¬a+t<c.mark.length by omega),decide_eq_false (show ¬c.tot<=a+t by omega)];rfl
   ·rw[decide_eq_false h'];rfl
 have h2:∀s,s<c.syms->s≠s0->HV c a j s=HV c a (j+g) s:=fun s hs hne=>by
  have hd:s*c.code.sz+c.code.sz<=s0*c.code.sz\/s0*c.code.sz+c.code.sz<=s*c.code.sz:=by
   rcases Nat.lt_or_gt_of_ne hne with h|h
   ·left;rw[←Nat.succ_mul];exact Nat.mul_le_mul_right _ h
   ·right;rw[←Nat.succ_mul];exact Nat.mul_le_mul_right _ h
  refine JE fun y _=>Ey fun i hi=>?_
  have he:decide (a+j<=c.mark.length+s*c.code.sz+i)=decide (a+(j+g)<=c.mark.length+s*c.code.sz+i):=decide_eq_decide.2 ⟨fun h=>by rcases hd with hd|hd<;>omega,fun h=>by omega⟩
  unfold wF
  rw[he]
 have h3:∀y,GB (wF c a (j+g) s0 y) c.code.sz=0:=fun y=>LU fun i hi=>by
  unfold wF
  by_cases h:a+(j+g)<=c.mark.length+s0*c.code.sz+i
  ·rw[decide_eq_false (show ¬c.mark.length+s0*c.code.sz+i<a+c.mark.length by omega),Bool.false_and,Bool.and_false]
  ·rw[decide_eq_false h,Bool.false_and]
 have h3':HV c a (j+g) s0=0:=by
  unfold HV
  rw[JE (g:=fun _=>0) fun y _=>h3 y,Zb (z:=0) (fun _=>Nat.le_refl _) (Nat.zero_le _) 16 (by omega)]
  have:=RN (fun _=>0) 0 16
  omega
 have h4:∀y,B5 ((c.mark.drop j).take g) ((c.code.stm y).drop q)=(GB (wF c a j s0 y) c.code.sz:Nat):=fun y=>by
  have hl:=Eb c.code y
  rw[QZ g c.mark (c.code.stm y) j q (by omega) (by omega)]
  have h5:GB (wF c a j s0 y) c.code.sz=GB (fun k=>wF c a j s0 y (q+k)) g+GB (wF c a (j+g) s0 y) c.code.sz:=by
   refine Zm (by omega) (fun k hk=>?_) fun i hi h=>?_
   ·unfold wF;rw[decide_eq_false (by omega),Bool.false_and]
   ·have hd:decide (a+j<=c.mark.length+s0*c.code.sz+i)=decide (a+(j+g)<=c.mark.length+s0*c.code.sz+i):=decide_eq_decide.2 ⟨fun h'=>by omega,fun h'=>by omega⟩
    unfold wF
    rw[hd]
  rw[h5,h3,Nat.add_zero,Ey (f:=fun k=>wF c a j s0 y (q+k)) (g:=fun k=>decide (c.mark[j+k]?.getD 0≠(c.code.stm y)[q+k]?.getD 0)) fun k hk=>?_]
  show wF c a j s0 y (q+k)=_
  unfold wF
  rw[decide_eq_true (show a+j<=c.mark.length+s0*c.code.sz+(q+k) by omega),decide_eq_true (show c.mark.length+s0*c.code.sz+(q+k)<a+c.mark.length by omega),Bool.true_and,Bool.true_and,show c.mark.length+s0*c.code.sz+(q+k)-a=j+k by omega]
  exact decide_eq_decide.2 ⟨fun h e=>h e.symm,fun h e=>h e.symm⟩
 have h6:XJ c.code (c.mark.drop j) g q 16=(HV c a j s0:Nat):=by
  rw[et h4 16]
  unfold HV
  have h8:∀y,GB (wF c a j s0 y) c.code.sz<=g:=fun y=>by
   have:=HY ((c.mark.drop j).take g) ((c.code.stm y).drop q)
   rw[h4,List.length_take] at this
   omega
  rw[Zb (z':=c.code.sz) h8 (by omega) 16 (by omega)]
 rw[h6]
 have h7:=ZD hs0l h2
 unfold iH
 rw[h1]
 rw[h3'] at h7
 push_cast;omega
theorem d4 {c:AX}(hk:Fj c) {a:Nat}(ha:a<c.tot):∀(n j:Nat),j<=c.mark.length->c.mark.length<n+j->((iH c a j:Nat):Int)=apW c n (a+j) (c.mark.drop j)
 |0,j,h1,h2=>by omega
 |n+1,j,h1,h2=>by
  have hz:=EC hk.code
  have htot:c.tot=c.mark.length+c.syms*c.code.sz:=rfl
  unfold apW
  by_cases hj:j=c.mark.length
  ·subst hj
   rw[List.drop_length,if_pos rfl,jK];rfl
  ·have hne:c.mark.drop j≠[]:=fun e=>by
    have:=List.length_drop (i:=j) (l:=c.mark)
    rw[e] at this;simp at this;omega
   rw[if_neg hne]
   have hsp:=NU hk (a+j) hne
   rw[List.length_drop] at hsp
   obtain⟨g,hg⟩:∃g,IT c (a+j) (c.mark.drop j)=g:=⟨_,rfl⟩
   rw[hg] at hsp
   have ih:=d4 hk ha n (j+g) (by omega) (by omega)
   rw[List.drop_drop,hg,Nat.add_assoc,←ih]
   have hg':=hg
   unfold IT at hg'
   rw[List.length_drop] at hg'
   unfold P4
   rw[hg]
   by_cases hp:(a+j)%c.tot<c.mark.length
   ·rw[if_pos hp] at hg' ⊢
    exact dz (by omega) ha rfl hp (by omega) hg'.symm htot
   ·rw[if_neg hp] at hg' ⊢
    exact jJ (by omega) ha rfl (by omega) (by omega) (by omega) hg'.symm htot
theorem d0 {c:AX}(hk:Fj c) {a:Nat}(ha:a<c.tot):((iH c a 0:Nat):Int)=QM c a:=d4 hk ha (c.mark.length+1) 0 (Nat.zero_le _) (by omega)
end Go.Pw
end
