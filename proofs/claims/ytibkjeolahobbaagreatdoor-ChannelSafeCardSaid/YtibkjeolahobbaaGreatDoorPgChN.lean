/- A part of the proof. -/
import Derived.Test.YtibkjeolahobbaaGreatDoorPgChK
import Derived.Test.YtibkjeolahobbaaGreatDoorPgChrN
set_option linter.all false
section
open Go Go.Pw Go.Proofs
namespace Go.Pw
set_option maxRecDepth 100000
set_option maxHeartbeats 3200000
def UE (c:AX):Bool:=c.code.far || (decide (40<(c.mark.length:Int)) || (decide (8<c.Q) || (decide (15<c.L) || (c.ok && decide (8<c.Q*c.L)))))
def aV (c:AX) (d:List Int):Bool:=!UE c && (c.ok && (decide (d.length<=100) && CS d (c.Q*(c.L-c.P))))
structure lR (c:AX) (d:List Int):Prop where
 ok:c.ok=true
 nf:UE c=false
 len:d.length<=100
 sym:CS d (c.Q*(c.L-c.P))=true
theorem d5 {c:AX}{d:List Int}(h:aV c d=true):lR c d:=by
 unfold aV at h
 simp only[Bool.and_eq_true,Bool.not_eq_true',decide_eq_true_eq] at h
 exact⟨h.2.1,h.1,h.2.2.1,h.2.2.2⟩
theorem lR.spE {c:AX}{d:List Int}(h:lR c d):spE c.L c.P c.Q d=0:=by
 unfold Go.Pw.spE
 rw[if_pos (Dh h.ok).wev,if_pos h.sym]
theorem lR.syms {c:AX}{d:List Int}(h:lR c d):c.syms<=8:=by
 have h1:=h.nf
 have h2:=(Dh h.ok).syms
 unfold UE at h1
 rw[h.ok] at h1
 simp only[Bool.or_eq_false_iff,Bool.true_and,decide_eq_false_iff_not] at h1
 omega
theorem lR.tot {c:AX}{d:List Int}(h:lR c d):c.tot<=176:=by
 have h1:=h.syms
 have hk:=Dh h.ok
 have h2:=EC hk.code;have h3:=hk.markl
 have:c.syms*c.code.sz<=8*20:=Nat.mul_le_mul h1 h2.2
 unfold AX.tot;omega
theorem lR.wr {c:AX}{d:List Int}(h:lR c d):Zo c d=IR c (Tc c.L c.P c.Q d)/\oT c d=0/\(Zo c d).length=c.tot:=by
 have h1:Zo c d=IR c (Tc c.L c.P c.Q d):=by unfold Zo;rw[if_pos h.ok,if_pos h.spE]
 refine⟨h1,by unfold oT;rw[if_pos h.ok,if_pos h.spE],?_⟩
 rw[h1,Tr,NM (Dh h.ok).wev h.spE];rfl
def Y2 (out:List Int) (f:Int):List Int:=if 0<=f/\f<out.length then out.set f.toNat (1-out[f.toNat]?.getD 0) else out
def Pt (out fl:List Int):List Int:=fl.foldl Y2 out
theorem ic (out:List Int) (f:Int):(Y2 out f).length=out.length:=by unfold Y2;split<;>simp
theorem NK (fl:List Int):∀out:List Int,(Pt out fl).length=out.length:=by
 induction fl with
 |nil=>intro out;rfl
 |cons f fl ih=>intro out;show (Pt (Y2 out f) fl).length=_;rw[ih,ic]
theorem Z1 (out fl:List Int) (f:Int):Pt out (fl++[f])=Y2 (Pt out fl) f:=by simp[Pt]
theorem dJ {out:List Int}(h:Ao out=true) (f:Int):Ao (Y2 out f)=true:=by
 unfold Y2
 split
 ·rename_i hf
  refine Wu h _ ?_
  have:=Et h (i:=f.toNat) (by omega)
  simp only[Cw,decide_eq_true_eq];omega
 ·exact h
theorem Ok (fl:List Int):∀{out:List Int},Ao out=true->Ao (Pt out fl)=true:=by
 induction fl with
 |nil=>intro out h;exact h
 |cons f fl ih=>intro out h;exact ih (dJ h f)
attribute [local congr] Bl A_ A' Ar Bm Ay A0 Az Aq Ak Ae Aa Av Af Aw BL BP BN BO BM BQ BF Ai Ax Aj BD BX Ah BJ BK BE BG BI BH BB BC A9 Bn BA Au Ag
attribute [local irreducible] IntKind.wrap A4 Option.getD and or
theorem MM (c:AX):CD E0 Pp [Dg c] (.bool (UE c)):=by
 have c1:=SI c.code
 have c2:=EH c
 refine AO SO Ap (by simp) fun hwf=>?_
 rw[AW];unfold NZ UE
 obtain⟨fr,hfr⟩:∃fr,c.code.far=fr:=⟨_,rfl⟩
 rw[hfr] at c1 ⊢
 clear hfr
 rcases hok:c.ok with _|_
 ·rw[(Gt hok).2] at c2
  cases fr with
  |true =>
   (try (simp -implicitDefEqProofs only[go_sem,AG,AF]));repeat' first|(with_reducible first|exact tI|refine aI ?_ ?_|intro _)|((first|with_reducible refine AM ?_ ?_<;>intro _|(with_reducible refine isCall ?_);first|refine AE c1 ?_|refine AE c2 ?_)<;>try (simp -implicitDefEqProofs only[go_sem,AG,AF]))|simp (disch:=omega) only[Al]
   all_goals first|rfl|(simp only[Bool.true_or];done)|skip
  |false =>
   (try (simp -implicitDefEqProofs only[go_sem,AG,AF]));repeat' first|(with_reducible first|exact tI|refine aI ?_ ?_|intro _)|((first|with_reducible refine AM ?_ ?_<;>intro _|(with_reducible refine isCall ?_);first|refine AE c1 ?_|refine AE c2 ?_)<;>try (simp -implicitDefEqProofs only[go_sem,AG,AF]))|simp (disch:=omega) only[Al]
   all_goals first|rfl|(congr 1;symm;simp;omega)|skip
 ·rw[(HS hok).2] at c2
  have c3:=CT c (Dh hok).wev
  cases fr with
  |true =>
   (try (simp -implicitDefEqProofs only[go_sem,AG,AF]));repeat' first|(with_reducible first|exact tI|refine aI ?_ ?_|intro _)|((first|with_reducible refine AM ?_ ?_<;>intro _|(with_reducible refine isCall ?_);first|refine AE c1 ?_|refine AE c2 ?_|refine AE c3 ?_)<;>try (simp -implicitDefEqProofs only[go_sem,AG,AF]))|simp (disch:=omega) only[Al]
   all_goals first|rfl|(simp only[Bool.true_or];done)|skip
  |false =>
   (try (simp -implicitDefEqProofs only[go_sem,AG,AF]));repeat' first|(with_reducible first|exact tI|refine aI ?_ ?_|intro _)|((first|with_reducible refine AM ?_ ?_<;>intro _|(with_reducible refine isCall ?_);first|refine AE c1 ?_|refine AE c2 ?_|refine AE c3 ?_)<;>try (simp -implicitDefEqProofs only[go_sem,AG,AF]))|simp (disch:=omega) only[Al]
   all_goals first|rfl|(congr 1;symm;simp;omega)|skip
theorem KA (c:AX) (nl:Bool) (d:List Int):CD E0 MY [Dg c,.list nl (Am d)] (.bool (aV c d)):=by
 have c1:=MM c
 have c2:=EH c
 refine AO P9 Ap (by simp) fun hwf=>?_
 rw[AW];unfold K1 aV
 obtain⟨fr,hfr⟩:∃fr,UE c=fr:=⟨_,rfl⟩
 rw[hfr] at c1 ⊢
 clear hfr
 cases fr with
 |true =>
  (try (simp -implicitDefEqProofs only[go_sem,AG,AF]));repeat' first|(with_reducible first|exact tI|refine aI ?_ ?_|intro _)|((first|with_reducible refine AM ?_ ?_<;>intro _|(with_reducible refine isCall ?_);first|refine AE c1 ?_)<;>try (simp -implicitDefEqProofs only[go_sem,AG,AF]))|simp (disch:=omega) only[Al]
  all_goals first|rfl|(simp only[Bool.not_true,Bool.false_and];done)|skip
 |false =>
  rcases hok:c.ok with _|_
  ·rw[(Gt hok).2] at c2
   (try (simp -implicitDefEqProofs only[go_sem,AG,AF]));repeat' first|(with_reducible first|exact tI|refine aI ?_ ?_|intro _)|((first|with_reducible refine AM ?_ ?_<;>intro _|(with_reducible refine isCall ?_);first|refine AE c1 ?_|refine AE c2 ?_)<;>try (simp -implicitDefEqProofs only[go_sem,AG,AF]))|simp (disch:=omega) only[Al]
   all_goals first|rfl|(simp only[Bool.false_and,Bool.and_false];done)|skip
  ·rw[(HS hok).2] at c2
   have hb:=Kg (Dh hok).wev
   have w1:IntKind.i64.wrap (c.L-c.P)=c.L-c.P:=AZ _ (by omega)
   have w2:IntKind.i64.wrap (c.Q*(c.L-c.P))=c.Q*(c.L-c.P):=AZ _ (by
    have h1:0<=c.Q*(c.L-c.P):=Int.mul_nonneg (by omega) (by omega)
    have h2:c.Q*(c.L-c.P)<=8*15:=Int.mul_le_mul (by omega) (by omega) (by omega) (by omega)
    omega)
   have c3:=Kv nl d (c.Q*(c.L-c.P))
   obtain⟨sb,hsb⟩:∃sb,CS d (c.Q*(c.L-c.P))=sb:=⟨_,rfl⟩
   rw[hsb] at c3 ⊢
   by_cases hl:d.length<=100
   ·have hl':(d.length:Int)<=100:=by omega
    (try (simp -implicitDefEqProofs only[go_sem,AG,AF,w1,w2,hl']));repeat' first|(with_reducible first|exact tI|refine aI ?_ ?_|intro _)|((first|with_reducible refine AM ?_ ?_<;>intro _|(with_reducible refine isCall ?_);first|refine AE c1 ?_|refine AE c2 ?_|refine AE c3 ?_)<;>try (simp -implicitDefEqProofs only[go_sem,AG,AF,w1,w2,hl']))|simp (disch:=omega) only[Al]
    all_goals first|rfl|(rename_i h;rw[h];simp[hl];done)|skip
   ·have hl':¬(d.length:Int)<=100:=by omega
    (try (simp -implicitDefEqProofs only[go_sem,AG,AF,w1,w2,hl']));repeat' first|(with_reducible first|exact tI|refine aI ?_ ?_|intro _)|((first|with_reducible refine AM ?_ ?_<;>intro _|(with_reducible refine isCall ?_);first|refine AE c1 ?_|refine AE c2 ?_|refine AE c3 ?_)<;>try (simp -implicitDefEqProofs only[go_sem,AG,AF,w1,w2,hl']))|simp (disch:=omega) only[Al]
    all_goals first|rfl|(simp[hl];done)|skip
theorem IE (n1 n2:Bool) (bits fl:List Int) (hb:Ao bits=true) (h1000:bits.length<=1000000) (hne:¬bits=[]):CD E0 KI [.list n1 (Am bits),.list n2 (Am fl)] (.list false (Am (Pt bits fl))):=by
 refine AO Nz Ap (by simp) fun hwf=>?_
 simp only[Du,DA,C_,Cy,EB,EA,Fk,D_,Bi,Bs,Bt,DC,CA,List.length_map,B7,true_and,and_true] at hwf
 rw[AW];unfold I0
 (try (simp -implicitDefEqProofs only[go_sem,hne]));repeat' first|(with_reducible first|exact tI|refine aI ?_ ?_|intro _)|((first|with_reducible refine AM ?_ ?_<;>intro _)<;>try (simp -implicitDefEqProofs only[go_sem,hne]))|simp (disch:=omega) only[Al]|((with_reducible refine Ab ?_);refine⟨(_,_),rfl,?_,?_⟩)
 all_goals first|omega|(simp;done)|(simp;omega)|skip
 have hl0:=NK
 refine AY (α:=Nat×(List Int)) (l0:=?l1) (m0:=?m1) (fun x=>[(6,.d (.int .i64 (x.1:Int)))]) (fun x=>[(9,.row 3 1 false (Am x.2))]) (fun x=>x.1<=fl.length/\x.2=Pt bits (fl.take x.1)) (fun x=>fl.length-x.1) (0,bits) ?h01 ?he1 ?he21 ?hI1 ?step1
 case h01=>(simp -implicitDefEqProofs only[go_sem];rfl)
 case he1=>rfl
 case he21=>rfl
 case' step1=>(rintro⟨k,R⟩ hI;try dsimp only at hI)
 case' hI1=>try dsimp only
 ·exact⟨Nat.zero_le _,rfl⟩
 ·obtain⟨k1,k2⟩:=hI
  change R=Pt bits (fl.take k) at k2
  have hRl:R.length=bits.length:=by rw[k2,NK]
  have hRb:Ao R=true:=by rw[k2];exact Ok _ hb
  by_cases hk:k<fl.length
  ·have hk':(k:Int)<(fl.length:Int):=by omega
   have hwk:IntKind.i64.wrap ((k:Int)+1)=((k+1:Nat):Int):=by rw[AZ _ (by omega)];omega
   obtain⟨f,hf⟩:∃f,fl[k]?.getD 0=f:=⟨_,rfl⟩
   have hst:Y2 R f=Pt bits (fl.take (k+1)):=by
    rw[k2,←Z1,←hf,List.take_add_one,List.getElem?_eq_getElem hk];simp[Option.getD]
   by_cases h0:0<=f
   ·by_cases h1:f<(R.length:Int)
    ·have hv:=Et hRb (i:=f.toNat) (by omega)
     have hwv:IntKind.i64.wrap (1-R[f.toNat]?.getD 0)=1-R[f.toNat]?.getD 0:=AZ _ (by omega)
     have hs2:Y2 R f=R.set f.toNat (1-R[f.toNat]?.getD 0):=by unfold Y2;rw[if_pos ⟨h0,h1⟩]
     (try (simp -implicitDefEqProofs only[go_sem,hk',hk,hwk,hf,h0,h1,hwv]));repeat' first|(with_reducible first|exact tI|refine aI ?_ ?_|intro _)|((first|with_reducible refine AM ?_ ?_<;>intro _)<;>try (simp -implicitDefEqProofs only[go_sem,hk',hk,hwk,hf,h0,h1,hwv]))|simp (disch:=omega) only[Al]|((with_reducible refine Ab ?_);refine⟨(_,_),rfl,?_,?_⟩)
     all_goals first|omega|(simp;done)|(simp;omega)|skip
     rw[←hs2,hst]
    ·have hs2:Y2 R f=R:=by unfold Y2;rw[if_neg fun h=>h1 h.2]
     (try (simp -implicitDefEqProofs only[go_sem,hk',hk,hwk,hf,h0,h1]));repeat' first|(with_reducible first|exact tI|refine aI ?_ ?_|intro _)|((first|with_reducible refine AM ?_ ?_<;>intro _)<;>try (simp -implicitDefEqProofs only[go_sem,hk',hk,hwk,hf,h0,h1]))|simp (disch:=omega) only[Al]|((with_reducible refine Ab ?_);refine⟨(_,_),rfl,?_,?_⟩)
     all_goals first|omega|(simp;done)|(simp;omega)|skip
     rw[←hst,hs2]
   ·have hs2:Y2 R f=R:=by unfold Y2;rw[if_neg fun h=>h0 h.1]
    (try (simp -implicitDefEqProofs only[go_sem,hk',hk,hwk,hf,h0]));repeat' first|(with_reducible first|exact tI|refine aI ?_ ?_|intro _)|((first|with_reducible refine AM ?_ ?_<;>intro _)<;>try (simp -implicitDefEqProofs only[go_sem,hk',hk,hwk,hf,h0]))|simp (disch:=omega) only[Al]|((with_reducible refine Ab ?_);refine⟨(_,_),rfl,?_,?_⟩)
    all_goals first|omega|(simp;done)|(simp;omega)|skip
    rw[←hst,hs2]
  ·have hk':¬(k:Int)<(fl.length:Int):=by omega
   have hte:fl.take k=fl:=List.take_of_length_le (by omega)
   rw[hte] at k2
   rw[←k2]
   (try (simp -implicitDefEqProofs only[go_sem,hk']));repeat' first|(with_reducible first|exact tI|refine aI ?_ ?_|intro _)|((first|with_reducible refine AM ?_ ?_<;>intro _)<;>try (simp -implicitDefEqProofs only[go_sem,hk']))|simp (disch:=omega) only[Al]|((with_reducible refine Ab ?_);refine⟨(_,_),rfl,?_,?_⟩)
   all_goals first|omega|(simp;done)|(simp;omega)|skip
   all_goals first|rfl|skip
end Go.Pw
end
section
open Go Go.Pw Go.Proofs
namespace Go.Pw
set_option maxRecDepth 100000
set_option maxHeartbeats 3200000
def Fx (c:AX) (a b:List Int) (i:Nat):Nat:=if c.part a 0 i=c.part b 0 i then 0 else 1
def GC (c:AX) (a b:List Int) (n:Nat):List Int:=(List.range c.Q.toNat).map fun k=>((DU (Fx c a b) c.Q.toNat n k:Nat):Int)
theorem LP (c:AX) (a b:List Int) (n:Nat):(GC c a b n).length=c.Q.toNat:=by simp[GC]
theorem oJ (c:AX) (a b:List Int):List.replicate c.Q.toNat (0:Int)=GC c a b 0:=by
 unfold GC
 rw[show (fun k=>((DU (Fx c a b) c.Q.toNat 0 k:Nat):Int))=fun _=>(0:Int) from rfl,List.map_const',List.length_range]
theorem b9 (c:AX) (a b:List Int) {i:Nat}(h:c.part a 0 i=c.part b 0 i):GC c a b (i+1)=GC c a b i:=by
 unfold GC
 refine List.map_congr_left fun k _=>?_
 show ((DU (Fx c a b) c.Q.toNat i k+(if i%c.Q.toNat=k then Fx c a b i else 0):Nat):Int)=_
 have:Fx c a b i=0:=by unfold Fx;rw[if_pos h]
 rw[this];simp
theorem b_ (c:AX) (a b:List Int) {i:Nat}(hq:0<c.Q.toNat) (h:¬c.part a 0 i=c.part b 0 i):(GC c a b i).set (i%c.Q.toNat) ((GC c a b i)[i%c.Q.toNat]?.getD 0+1)=GC c a b (i+1):=by
 have hm:=Nat.mod_lt i hq
 apply List.ext_getElem?
 intro k
 rw[List.getElem?_set,LP]
 have hf:Fx c a b i=1:=by unfold Fx;rw[if_neg h]
 by_cases hk:k<c.Q.toNat
 ·have e:∀n,(GC c a b n)[k]?=some ((DU (Fx c a b) c.Q.toNat n k:Nat):Int):=fun n=>by simp[GC,hk]
  have hs:DU (Fx c a b) c.Q.toNat (i+1) k=DU (Fx c a b) c.Q.toNat i k+(if i%c.Q.toNat=k then Fx c a b i else 0):=rfl
  rw[e (i+1),hs,hf]
  by_cases hik:i%c.Q.toNat=k
  ·rw[if_pos hik,if_pos (by omega),hik,e i,if_pos rfl];simp
  ·rw[if_neg hik,e i,if_neg hik];simp
 ·have e:∀n,(GC c a b n)[k]?=none:=fun n=>List.getElem?_eq_none (by rw[LP];omega)
  rw[e,e]
  split
  ·omega
  ·rfl
theorem OJ (c:AX) (a b:List Int) (n:Nat) {k:Nat}(hk:k<c.Q.toNat):(GC c a b n)[k]?.getD 0=((DU (Fx c a b) c.Q.toNat n k:Nat):Int):=by simp[GC,hk]
theorem gT (f:Nat->Nat) (hf:∀i,f i<=1) (q:Nat):∀n k,DU f q n k<=n
 |0,_=>Nat.le_refl _
 |n+1,k=>by
  have ih:=gT f hf q n k
  have:=hf n
  show DU f q n k+(if n%q=k then f n else 0)<=n+1
  split<;>omega
theorem kz (c:AX) (a b:List Int) (i:Nat):Fx c a b i<=1:=by unfold Fx;split<;>omega
def bL (c:AX) (bits:List Int):D:=.tup [.int .i64 (match c.find bits with|some a=>(a:Int)|none=>0),.bool (c.find bits).isSome]
attribute [local congr] Bl A_ A' Ar Bm Ay A0 Az Aq Ak Ae Aa Av Af Aw BL BP BN BO BM BQ BF Ai Ax Aj BD BX Ah BJ BK BE BG BI BH BB BC A9 Bn BA Au Ag
attribute [local irreducible] IntKind.wrap A4 Option.getD and or
theorem Qr (c:AX) (hk:Fj c) (nb:Bool) (bits:List Int) (hb:bits.length<=1000):CD E0 OY [Dg c,.list nb (Am bits)] (bL c bits):=by
 have hm:=hk.markl
 have ht:=hk.tot
 have c1:=FO c hk.wev hk.code (by omega)
 refine AO RS Ap (by simp) fun hwf=>?_
 rw[AW];unfold MG
 (try (simp -implicitDefEqProofs only[go_sem,AG,AF]));repeat' first|(with_reducible first|exact tI|refine aI ?_ ?_|intro _)|((first|with_reducible refine AM ?_ ?_<;>intro _)<;>try (simp -implicitDefEqProofs only[go_sem,AG,AF]))|simp (disch:=omega) only[Al]|((with_reducible refine A1 ?_);refine⟨_,rfl,?_,?_⟩)
 all_goals first|omega|(simp;done)|(simp;omega)|skip
 refine AY (α:=Nat) (l0:=?l1) (m0:=?m1) (fun x=>[(6,.d (.int .i64 (x:Int)))]) (fun x=>[]) (fun x=>x<=bits.length+1/\∀j,j<x->c.errs<B5 c.mark (bits.drop j)) (fun x=>bits.length+1-x) 0 ?h01 ?he1 ?he21 ?hI1 ?step1
 case h01=>(simp -implicitDefEqProofs only[go_sem];rfl)
 case he1=>rfl
 case he21=>rfl
 case' step1=>(rintro a hI;try dsimp only at hI)
 case' hI1=>try dsimp only
 ·exact⟨Nat.zero_le _,fun j hj=>by omega⟩
 ·obtain⟨i1,i2⟩:=hI
  have w1:IntKind.i64.wrap ((a:Int)+(c.tot:Int))=((a+c.tot:Nat):Int):=by rw[AZ _ (by omega)];omega
  have w3:IntKind.i64.wrap ((a:Int)+1)=((a+1:Nat):Int):=by rw[AZ _ (by omega)];omega
  by_cases ha:a+c.tot<=bits.length
  ·have g1:((a+c.tot:Nat):Int)<=(bits.length:Int):=by omega
   have htm:c.mark.length<=c.tot:=by unfold AX.tot;omega
   have c2:=HM c.nm nb c.mark bits (a:Int) (by omega) (by omega) (by omega) (by omega)
   rw[Int.toNat_natCast] at c2
   by_cases hd:B5 c.mark (bits.drop a)<=c.errs
   ·have hf:=WB i2 ha hd
    have hr:bL c bits=.tup [.int .i64 (a:Int),.bool true]:=by unfold bL;rw[hf];rfl
    rw[hr]
    (try (simp -implicitDefEqProofs only[go_sem,AG,AF,w1,g1,hd]));repeat' first|(with_reducible first|exact tI|refine aI ?_ ?_|intro _)|((first|with_reducible refine AM ?_ ?_<;>intro _|(with_reducible refine isCall ?_);first|refine AE c1 ?_|refine AE c2 ?_)<;>try (simp -implicitDefEqProofs only[go_sem,AG,AF,w1,g1,hd]))|simp (disch:=omega) only[Al]|((with_reducible refine A1 ?_);refine⟨_,rfl,?_,?_⟩)
    all_goals first|omega|(simp;done)|(simp;omega)|skip
    all_goals first|rfl|skip
   ·(try (simp -implicitDefEqProofs only[go_sem,AG,AF,w1,g1,hd,w3]));repeat' first|(with_reducible first|exact tI|refine aI ?_ ?_|intro _)|((first|with_reducible refine AM ?_ ?_<;>intro _|(with_reducible refine isCall ?_);first|refine AE c1 ?_|refine AE c2 ?_)<;>try (simp -implicitDefEqProofs only[go_sem,AG,AF,w1,g1,hd,w3]))|simp (disch:=omega) only[Al]|((with_reducible refine A1 ?_);refine⟨_,rfl,?_,?_⟩)
    all_goals first|omega|(simp;done)|(simp;omega)|skip
    rename_i j hj
    by_cases e:j=a
    ·rw[e];omega
    ·exact i2 j (by omega)
  ·have g1:¬((a+c.tot:Nat):Int)<=(bits.length:Int):=by omega
   have hf:=WA i2 ha
   have hr:bL c bits=.tup [.int .i64 0,.bool false]:=by unfold bL;rw[hf];rfl
   rw[hr]
   (try (simp -implicitDefEqProofs only[go_sem,AG,AF,w1,g1]));repeat' first|(with_reducible first|exact tI|refine aI ?_ ?_|intro _)|((first|with_reducible refine AM ?_ ?_<;>intro _|(with_reducible refine isCall ?_);first|refine AE c1 ?_)<;>try (simp -implicitDefEqProofs only[go_sem,AG,AF,w1,g1]))|simp (disch:=omega) only[Al]|((with_reducible refine A1 ?_);refine⟨_,rfl,?_,?_⟩)
   all_goals first|omega|(simp;done)|(simp;omega)|skip
   all_goals first|rfl|skip
theorem IG (c:AX) (hk:Fj c) (n1 n2:Bool) (a b:List Int) (ha:a.length=c.tot) (hb:b.length=c.tot):CD E0 KJ [Dg c,.list n1 (Am a),.list n2 (Am b)] (.list false (Am (GC c a b c.syms))):=by
 have hm:=hk.markl
 have ht:=hk.tot
 have hs:=hk.syms
 have hz:=EC hk.code
 have hw:=Kg hk.wev
 have c1:=CT c hk.wev
 have c2:=Dx c hk.code
 rw[hs.2.2] at c1
 have hq:c.Q=((c.Q.toNat:Nat):Int):=by omega
 have hq0:0<=c.Q:=by omega
 have hqb:c.Q<=1073741824:=by omega
 have hne0:¬c.Q=0:=by omega
 refine AO N0 Ap (by simp) fun hwf=>?_
 rw[AW];unfold I1
 (try (simp -implicitDefEqProofs only[go_sem,AG,AF,hq0,hqb]));repeat' first|(with_reducible first|exact tI|refine aI ?_ ?_|intro _)|((first|with_reducible refine AM ?_ ?_<;>intro _)<;>try (simp -implicitDefEqProofs only[go_sem,AG,AF,hq0,hqb]))|simp (disch:=omega) only[Al]|((with_reducible refine A1 ?_);refine⟨_,rfl,?_,?_⟩)
 all_goals first|omega|(simp;done)|(simp;omega)|skip
 rw[oJ c a b]
 refine AY (α:=Nat) (l0:=?l2) (m0:=?m2) (fun x=>[(8,.d (.int .i64 (x:Int)))]) (fun x=>[(13,.row 3 1 false (Am (GC c a b x)))]) (fun x=>x<=c.syms) (fun x=>c.syms-x) 0 ?h02 ?he2 ?he22 ?hI2 ?step2
 case h02=>(simp -implicitDefEqProofs only[go_sem];rfl)
 case he2=>rfl
 case he22=>rfl
 case' step2=>(rintro i hI;try dsimp only at hI)
 case' hI2=>try dsimp only
 ·exact Nat.zero_le _
 ·have hcl:=LP c a b i
  by_cases hi:i<c.syms
  ·have hi':(i:Int)<(c.syms:Int):=by omega
   have h1:i*c.code.sz+c.code.sz<=c.syms*c.code.sz:=by have:=Nat.mul_le_mul_right c.code.sz (show i+1<=c.syms from hi);rw[Nat.add_mul,Nat.one_mul] at this;exact this
   have htt:c.tot=c.mark.length+c.syms*c.code.sz:=rfl
   have w1:IntKind.i64.wrap ((i:Int)*(c.code.sz:Int))=((i*c.code.sz:Nat):Int):=by rw[show (i:Int)*(c.code.sz:Int)=((i*c.code.sz:Nat):Int) by push_cast;rfl];exact AZ _ (by omega)
   have w2:IntKind.i64.wrap ((c.mark.length:Int)+((i*c.code.sz:Nat):Int))=((c.mark.length+i*c.code.sz:Nat):Int):=by rw[AZ _ (by omega)];omega
   have w3:IntKind.i64.wrap (((c.mark.length+i*c.code.sz:Nat):Int)+(c.code.sz:Int))=((c.mark.length+i*c.code.sz+c.code.sz:Nat):Int):=by rw[AZ _ (by omega)];omega
   have hwi:IntKind.i64.wrap ((i:Int)+1)=((i+1:Nat):Int):=by rw[AZ _ (by omega)];omega
   obtain⟨f,hf⟩:∃f,c.mark.length+i*c.code.sz=f:=⟨_,rfl⟩
   have hpa:(a.drop f).take c.code.sz=c.part a 0 i:=by unfold AX.part;rw[←hf,Nat.zero_add]
   have hpb:(b.drop f).take c.code.sz=c.part b 0 i:=by unfold AX.part;rw[←hf,Nat.zero_add]
   rw[hf] at w2 w3
   have hsub:f+c.code.sz-f=c.code.sz:=by omega
   have g1:((f+c.code.sz:Nat):Int)<=(a.length:Int):=by omega
   have g2:((f+c.code.sz:Nat):Int)<=(b.length:Int):=by omega
   have g3:(f:Int)<=((f+c.code.sz:Nat):Int):=by omega
   have c3:=Dy n1 n2 (c.part a 0 i) (c.part b 0 i)
   have hmd:(i:Int).tmod c.Q=((i%c.Q.toNat:Nat):Int):=by rw[hq,Int.toNat_natCast];exact TV _ _
   have hml:=Nat.mod_lt i (show 0<c.Q.toNat by omega)
   by_cases he:c.part a 0 i=c.part b 0 i
   ·have hst:=b9 c a b he
    rw[decide_eq_true he] at c3
    (try (simp -implicitDefEqProofs only[go_sem,AG,AF,hi',w1,w2,w3,hpa,hpb,hsub,g1,g2,g3,hwi]));repeat' first|(with_reducible first|exact tI|refine aI ?_ ?_|intro _)|((first|with_reducible refine AM ?_ ?_<;>intro _|(with_reducible refine isCall ?_);first|refine AE c1 ?_|refine AE c2 ?_|refine AE c3 ?_)<;>try (simp -implicitDefEqProofs only[go_sem,AG,AF,hi',w1,w2,w3,hpa,hpb,hsub,g1,g2,g3,hwi]))|simp (disch:=omega) only[Al]|((with_reducible refine A1 ?_);refine⟨_,rfl,?_,?_⟩)
    all_goals first|omega|(simp;done)|(simp;omega)|skip
    rw[←hst]
    exact⟨i+1,rfl,hi,by omega⟩
   ·have hst:=b_ c a b (show 0<c.Q.toNat by omega) he
    rw[decide_eq_false he] at c3
    have hcg:=OJ c a b i hml
    have hcb:=gT _ (kz c a b) c.Q.toNat i (i%c.Q.toNat)
    have wv:IntKind.i64.wrap ((GC c a b i)[i%c.Q.toNat]?.getD 0+1)=(GC c a b i)[i%c.Q.toNat]?.getD 0+1:=AZ _ (by omega)
    (try (simp -implicitDefEqProofs only[go_sem,AG,AF,hi',w1,w2,w3,hpa,hpb,hsub,g1,g2,g3,hwi,hmd,hne0,hcl,hml,wv,hst]));repeat' first|(with_reducible first|exact tI|refine aI ?_ ?_|intro _)|((first|with_reducible refine AM ?_ ?_<;>intro _|(with_reducible refine isCall ?_);first|refine AE c1 ?_|refine AE c2 ?_|refine AE c3 ?_)<;>try (simp -implicitDefEqProofs only[go_sem,AG,AF,hi',w1,w2,w3,hpa,hpb,hsub,g1,g2,g3,hwi,hmd,hne0,hcl,hml,wv,hst]))|simp (disch:=omega) only[Al]|((with_reducible refine A1 ?_);refine⟨_,rfl,?_,?_⟩)
    all_goals first|omega|(simp;done)|(simp;omega)|skip
    all_goals skip
  ·have hi':¬(i:Int)<(c.syms:Int):=by omega
   have hie:i=c.syms:=by omega
   subst hie
   (try (simp -implicitDefEqProofs only[go_sem,AG,AF,hi']));repeat' first|(with_reducible first|exact tI|refine aI ?_ ?_|intro _)|((first|with_reducible refine AM ?_ ?_<;>intro _|(with_reducible refine isCall ?_);first|refine AE c1 ?_)<;>try (simp -implicitDefEqProofs only[go_sem,AG,AF,hi']))|simp (disch:=omega) only[Al]|((with_reducible refine A1 ?_);refine⟨_,rfl,?_,?_⟩)
   all_goals first|omega|(simp;done)|(simp;omega)|skip
   all_goals first|rfl|skip
end Go.Pw
end
section
open Go Go.Pw
namespace Go.Pw
theorem bx {L P:Nat}(hL:L<=15) {w r c:List F}{mk:List Nat}(hw:w.length=L) (h2:r.length=L) (hc:c.length=L) (hm:Yu L mk) (h1:g9 L P r) (hcode:g9 L P c) (h:mk.length+(Mp L r w mk).length+(Mp L c w mk).length<=P):r=c:=by
 have hs:=Nu L c w mk
 have hs2:=Nu L r w mk
 obtain⟨at_,hat⟩:∃at_,mk++((Mp L r w mk)++(Mp L c w mk).filter fun j=>!(Mp L r w mk).contains j)=at_:=⟨_,rfl⟩
 refine TE hL (at_:=at_) h2 hc ?_ ?_ h1 hcode fun j hj=>?_
 ·rw[←hat]
  refine⟨List.nodup_append.2 ⟨EU hm.asc,List.nodup_append.2 ⟨EU hs2.asc,(EU hs.asc).filter _,fun a ha b hb e=>?_⟩,fun a ha b hb e=>?_⟩,fun j hj=>?_⟩
  ·simp at hb;exact hb.2 (e ▸ ha)
  ·subst e
   rcases List.mem_append.1 hb with hb|hb
   ·exact hs2.un a hb ha
   ·exact hs.un a (List.mem_filter.1 hb).1 ha
  ·rcases List.mem_append.1 hj with hj|hj
   ·exact hm.lt j hj
   ·rcases List.mem_append.1 hj with hj|hj
    ·exact hs2.lt j hj
    ·exact hs.lt j (List.mem_filter.1 hj).1
 ·rw[←hat]
  have:=List.length_filter_le (fun j=>!(Mp L r w mk).contains j) (Mp L c w mk)
  simp only[List.length_append]
  omega
 ·rw[←hat] at hj
  simp only[List.mem_append,not_or,List.mem_filter] at hj
  obtain⟨j1,j2,j3⟩:=hj
  have j4:j∉Mp L c w mk:=fun hh=>j3 ⟨hh,by simpa using j2⟩
  exact(Nv h2 hw (fun e=>(List.mem_append.1 e).elim j1 j2)).trans (Nv hc hw (fun e=>(List.mem_append.1 e).elim j1 j4)).symm
theorem YM {L P:Nat}(hL:L<=15) {w R r:List F}{mk:List Nat}(hw:w.length=L) (hR:R.length=L) (hm:Yu L mk) (hcod:g9 L P w) (hd:Mx L P R mk=some r) (h:(Mp L w R mk).length+mk.length+P/2<=P):r=w:=by
 obtain⟨h1,h2,h3⟩:=Nw hR hm hd
 exact bx hL hR h2 hw hm h1 hcod (by omega)
theorem Vp {l p q:Nat}(hl:l<=15) (hpl:p<l) (hq:0<q) {d R:List F}{ms:List Nat}(hd:d.length=(l-p)*q) (hR:R.length=l*q) (hm:Yu (l*q) ms)
  (h:∀k,k<q->(Mp l (Gh p (CU (l-p) q k d)) (CU l q k R) (Pf q k ms)).length+(Pf q k ms).length+p/2<=p):YB l p q R ms=some d\/YB l p q R ms=none:=by
 by_cases ha:∀k,k<q->(ZS l p q R ms k).isSome=true
 ·left
  have hO:∀k,k<q->ZS l p q R ms k=some (Gh p (CU (l-p) q k d)):=fun k hk=>by
   have hl1:=Ca (l-p) q k d
   have hc:=WS p (CU (l-p) q k d)
   rw[hl1,show l-p+p=l by omega] at hc
   cases hg:ZS l p q R ms k with
   |none=>have:=ha k hk;rw[hg] at this;cases this
   |some r =>
    congr 1
    exact YM hl (by rw[HW,hl1];omega) (Ca ..) (T6 hq hm) hc hg (h k hk)
  rw[YA ha]
  congr 1
  rw[Rn hq (V:=fun k=>CU (l-p) q k d) fun k hk=>by
   rw[Nn (hO k hk)]
   unfold Gh
   rw[List.take_append_of_le_length (by rw[Ca];omega),List.take_of_length_le (by rw[Ca];omega)]]
  exact Wq hq hd
 ·right
  unfold YB;rw[if_neg ha]
theorem Zd (f g:Nat->Nat) (q:Nat):∀n k,DU f q n k+DU g q n k=DU (fun i=>f i+g i) q n k
 |0,_=>rfl
 |n+1,k=>by
  have ih:=Zd f g q n k
  show DU f q n k+(if n%q=k then f n else 0)+(DU g q n k+(if n%q=k then g n else 0))=DU (fun i=>f i+g i) q n k+(if n%q=k then f n+g n else 0)
  rw[←ih];split<;>omega
theorem aU {c:AX}(hk:Fj c) {l p q:Nat}{e:List F}(h1:c.L=(l:Int)) (h2:c.P=(p:Int)) (h3:c.Q=(q:Int)) (b2:l<=15) (b5:p<l) (b6:1<=q) (he:e.length=(l-p)*q) (hs:c.syms=l*q)
  {sy:List (Option Nat)}(hl:sy.length=c.syms) {f:Nat->Nat}
  (hf:∀i,i<l*q->sy[i]?.getD none≠some ((Cx c.seed (iv (Sh l p q e)))[i]?.getD 0).toNat->1<=f i)
  (hc:∀k,k<q->DU f q (l*q) k+p/2<=p):(Q_ c sy=0/\Uq c sy=iv e)\/Q_ c sy=52:=by
 obtain⟨g1,g2⟩:=fH hk h1 h2 h3 hs hl
 have hBl:(Sh l p q e).length=l*q:=Tb ..
 have hrl:(fs (Cx c.seed (NF sy))).length=l*q:=by rw[UB,Dv,FP,hl,hs]
 obtain⟨mB,hmB⟩:∃mB:Nat->Bool,mB=fun i=>(sy[i]?.getD none).isNone:=⟨_,rfl⟩
 obtain⟨wB,hwB⟩:∃wB:Nat->Bool,wB=fun i=>decide (sy[i]?.getD none≠some ((Cx c.seed (iv (Sh l p q e)))[i]?.getD 0).toNat) && !mB i:=⟨_,rfl⟩
 have hmk:a5 sy=(List.range (l*q)).filter mB:=by rw[hmB];unfold a5;rw[hl,hs]
 have key:=Vp (l:=l) (p:=p) (q:=q) (R:=fs (Cx c.seed (NF sy))) (ms:=(List.range (l*q)).filter mB) b2 b5 (by omega) he hrl (Q8 mB _) fun k hkq=>by
  have d1:=Za (a:=[]) (wB:=wB) (mB:=mB) (R:=fs (Cx c.seed (NF sy))) (W:=fun k=>Gh p (CU (l-p) q k e)) (l:=l) hkq fun j hj hne hmj=>by
   have hlt:=RO hkq hj
   have h4:(Sh l p q e)[j*q+k]?.getD 0=(Gh p (CU (l-p) q k e))[j]?.getD 0:=by
    unfold Sh
    rw[OP _ hlt,US hkq,RN hkq]
   rw[hwB]
   simp only[hmj,Bool.not_false,Bool.and_true,decide_eq_true_eq]
   intro hs2
   have hx:0<=(Cx c.seed (iv (Sh l p q e)))[j*q+k]?.getD 0:=(Iu _ _ _ (D2 (by rw[Dv,Jj,hBl];exact hlt))).1
   exact hne (h4.symm.trans (dg (by omega) (by omega) hs2 (by omega)).symm)
  have d2:=T7 mB (q:=q) k (l*q)
  have d3:DU f q (l*q) k>=Px (fun i=>if wB i then 1 else 0) q l k+DU (fun i=>if mB i then 1 else 0) q (l*q) k:=by
   rw[←QU _ hkq,Zd]
   refine Rg (fun i hi=>?_) k
   by_cases hw:sy[i]?.getD none=some ((Cx c.seed (iv (Sh l p q e)))[i]?.getD 0).toNat
   ·have:mB i=false:=by rw[hmB];simp only[hw];rfl
    have h5:wB i=false:=by rw[hwB];simp[hw]
    rw[this,h5];simp
   ·have:=hf i hi hw
    cases hm:mB i with
    |true =>
     have h5:wB i=false:=by rw[hwB];simp[hm]
     rw[h5];simpa using this
    |false=>simp only[Bool.false_eq_true,if_false,Nat.add_zero];split<;>omega
  have:=hc k hkq
  omega
 rw[g1,g2,hmk]
 rcases key with h|h
 ·left;rw[h];exact⟨rfl,rfl⟩
 ·right;rw[h];rfl
end Go.Pw
end
section
open Go Go.Pw
namespace Go.Pw
theorem Yl {c:AX}(hk:Fj c) {b:List Int}(hb:b.length=c.syms) {R:List Int}{i:Nat}(hi:i<c.syms) (h:(c.syL R 0)[i]?.getD none≠some ((Cx c.seed b)[i]?.getD 0).toNat):Fx c (IR c b) R i=1:=by
 unfold Fx
 rw[if_neg]
 intro he
 have h1:=Xb hk hb [] hi
 rw[List.append_nil,Qg hi,he,←Qg hi] at h1
 exact h h1
theorem Zc (f:Nat->Nat) (q:Nat):∀n k,DU (fun i=>2*f i) q n k=2*DU f q n k
 |0,_=>rfl
 |n+1,k=>by
  have ih:=Zc f q n k
  show DU (fun i=>2*f i) q n k+(if n%q=k then 2*f n else 0)=2*(DU f q n k+(if n%q=k then f n else 0))
  rw[ih];split<;>omega
theorem aM {c:AX}(hk:Fj c) {d:List Int}(he:spE c.L c.P c.Q d=0) {R:List Int}
  {n:Nat}(hn:∀k,k<c.Q.toNat->DU (Fx c (IR c (Tc c.L c.P c.Q d)) R) c.Q.toNat c.syms k<=n) :
  (2*n<=c.P.toNat->Q_ c (c.syL R 0)=0/\Uq c (c.syL R 0)=d)/\(n+c.P.toNat/2<=c.P.toNat->(Q_ c (c.syL R 0)=0/\Uq c (c.syL R 0)=d)\/Q_ c (c.syL R 0)=52):=by
 have hbl:=NM hk.wev he
 obtain⟨l,p,q,e,h1,h2,h3,b1,b2,b3,b4,b5,b6,b7,rfl,hel,hsp,hs⟩:=Ta hk he
 have hq:c.Q.toNat=q:=by rw[h3];rfl
 have hp:c.P.toNat=p:=by rw[h2];rfl
 rw[hq] at hn
 rw[hp]
 refine⟨fun h=>?_,fun h=>?_⟩
 ·refine Qu hk h1 h2 h3 b2 b5 b6 hel hs (Jd ..) (f:=fun i=>2*Fx c (IR c (Tc c.L c.P c.Q (iv e))) R i) (fun i hi hne=>?_) fun k hkq=>?_
  ·rw[hsp] at hbl ⊢
   rw[Yl hk hbl (by omega) hne];split<;>omega
  ·rw[Zc,←hs]
   have:=hn k hkq;omega
 ·refine aU hk h1 h2 h3 b2 b5 b6 hel hs (Jd ..) (f:=Fx c (IR c (Tc c.L c.P c.Q (iv e))) R) (fun i hi hne=>?_) fun k hkq=>?_
  ·rw[hsp] at hbl ⊢
   rw[Yl hk hbl (by omega) hne];omega
  ·rw[←hs]
   have:=hn k hkq;omega
end Go.Pw
end
section
open Go Go.Pw Go.Proofs
namespace Go.Pw
set_option maxRecDepth 100000
set_option maxHeartbeats 3200000
theorem kK {c:AX}(hk:Fj c) {sy:List (Option Nat)}(hl:sy.length=c.syms):Q_ c sy=0\/Q_ c sy=52:=by
 obtain⟨l,p,q,h1,h2,h3,b1,b2,b3,b4,b5,b6,b7,hc⟩:=Ja hk.wev
 have hs:c.syms=l*q:=by
  have:=hk.syms.2.2
  rw[h1,h3] at this
  have e:(q:Int)*(l:Int)=((l*q:Nat):Int):=by push_cast;exact Int.mul_comm ..
  rw[e] at this;omega
 rw[(fH hk h1 h2 h3 hs hl).1]
 cases YB l p q (fs (Cx c.seed (NF sy))) (a5 sy) with
 |none=>exact .inr rfl
 |some r=>exact .inl rfl
theorem ZC {c:AX}(hok:c.ok=true) {R:List Int}(hb:Mi R=true) {a:Nat}(hf:c.find R=some a):Ve c R=.tup [.list (Uq c (c.syL R a)).isEmpty (Am (Uq c (c.syL R a))),.int .i64 (if Q_ c (c.syL R a)=0 then (a:Int) else 0),.int .i64 (Q_ c (c.syL R a))]:=by
 unfold Ve Sv Vg Vf
 simp only[hok,hb,if_true,hf]
theorem jH {c:AX}(hok:c.ok=true) {R:List Int}(hb:Mi R=true) (hf:c.find R=none):Ve c R=.tup [.list true [],.int .i64 0,.int .i64 3]:=by
 unfold Ve Sv Vg Vf
 simp only[hok,hb,if_true,hf];rfl
theorem VU {c:AX}(hk:Fj c) (b:List Int):Ao (IR c b)=true:=by
 unfold IR
 refine IL hk.markl.2.2 ?_
 unfold AX.flat
 generalize Cx c.seed b=X
 induction X with
 |nil=>rfl
 |cons x X ih=>exact IL (NL ..) ih
theorem nq {L P m:Int}(hc:De L P=true) (h0:0<=m) (hf:bK L P (min m L)=false):m+P/2<=P:=by
 have hb:=Gl hc
 unfold bK at hf
 rw[hc] at hf
 simp only[Bool.true_and,Bool.and_eq_false_iff,decide_eq_false_iff_not] at hf
 omega
theorem lp {L P m:Int}(hc:De L P=true) (h0:0<=m):kV L P (min m L)=0:=by
 have hb:=Gl hc
 unfold kV
 rw[if_pos hc,if_pos (by omega)]
attribute [local congr] Bl A_ A' Ar Bm Ay A0 Az Aq Ak Ae Aa Av Af Aw BL BP BN BO BM BQ BF Ai Ax Aj BD BX Ah BJ BK BE BG BI BH BB BC A9 Bn BA Au Ag
attribute [local irreducible] IntKind.wrap A4 Option.getD and or
theorem QE (c:AX) (n1 n2 n3:Bool) (d fl rest:List Int):CD E0 G7 [Dg c,.agg [.list n1 (Am d),.list n2 (Am fl),.list n3 (Am rest)]] (.bool true):=by
 have c0:=Gu
 have c1:=KA c n1 d
 refine AO KW Ap (by simp) fun hwf=>?_
 rw[AW];unfold GY
 cases hr:aV c d with
 |false =>
  rw[hr] at c1
  (try (simp -implicitDefEqProofs only[go_sem,AG,AF]));repeat' first|(with_reducible first|exact tI|refine aI ?_ ?_|intro _)|((first|with_reducible refine AM ?_ ?_<;>intro _|(with_reducible refine isCall ?_);first|refine AE c0 ?_|refine AE c1 ?_)<;>try (simp -implicitDefEqProofs only[go_sem,AG,AF]))|simp (disch:=omega) only[Al]|((with_reducible refine Ab ?_);refine⟨(_,_),rfl,?_,?_⟩)
  all_goals first|rfl|skip
 |true =>
 rw[hr] at c1
 have r:=d5 hr
 have hk:=Dh r.ok
 have hm:=hk.markl
 have ht:=r.tot
 have hs:=hk.syms
 by_cases hfl:100<(fl.length:Int)
 ·(try (simp -implicitDefEqProofs only[go_sem,AG,AF,hfl]));repeat' first|(with_reducible first|exact tI|refine aI ?_ ?_|intro _)|((first|with_reducible refine AM ?_ ?_<;>intro _|(with_reducible refine isCall ?_);first|refine AE c0 ?_|refine AE c1 ?_)<;>try (simp -implicitDefEqProofs only[go_sem,AG,AF,hfl]))|simp (disch:=omega) only[Al]|((with_reducible refine Ab ?_);refine⟨(_,_),rfl,?_,?_⟩)
  all_goals first|rfl|skip
 obtain⟨w1,w2,w3⟩:=r.wr
 have c2:=Fy c n1 d
 rw[w2] at c2
 have hsb:Ao (Zo c d)=true:=by rw[w1];exact VU hk _
 obtain⟨S,hS⟩:∃S,Zo c d=S:=⟨_,rfl⟩
 rw[hS] at c2 w3 hsb
 have hne:¬S=[]:=fun e=>by rw[e] at w3;have:c.tot=c.mark.length+c.syms*c.code.sz:=rfl;simp at w3;omega
 have hSe:S.isEmpty=false:=GN hne
 rw[hSe] at c2
 have c3:=FO c hk.wev hk.code (by omega)
 have c4:=IE false n2 S fl hsb (by omega) hne
 have hRl:=NK fl S
 have hRb:=Ok fl hsb
 obtain⟨R,hR⟩:∃R,Pt S fl=R:=⟨_,rfl⟩
 rw[hR] at c4 hRl hRb
 have hRok:Mi R=true:=by unfold Mi;rw[hRb,decide_eq_true (by omega)];simp only[Bool.and_self]
 have c5:=GP c false R
 have c6:=Qr c hk false R (by omega)
 unfold bL at c6
 have hlen:(S.length:Int)=(c.tot:Int):=by omega
 cases hf:c.find R with
 |none =>
  rw[hf] at c6
  rw[jH r.ok hRok hf] at c5
  simp only[Option.isSome_none] at c6
  (try (simp -implicitDefEqProofs only[go_sem,AG,AF,hfl,hlen]));repeat' first|(with_reducible first|exact tI|refine aI ?_ ?_|intro _)|((first|with_reducible refine AM ?_ ?_<;>intro _|(with_reducible refine isCall ?_);first|refine AE c0 ?_|refine AE c1 ?_|refine AE c2 ?_|refine AE c3 ?_|refine AE c4 ?_|refine AE c5 ?_|refine AE c6 ?_)<;>try (simp -implicitDefEqProofs only[go_sem,AG,AF,hfl,hlen]))|simp (disch:=omega) only[Al]|((with_reducible refine Ab ?_);refine⟨(_,_),rfl,?_,?_⟩)
  all_goals first|rfl|skip
 |some a =>
 rw[hf] at c6
 rw[ZC r.ok hRok hf] at c5
 simp only[Option.isSome_some] at c6
 by_cases ha:a=0
 ·subst ha
  have h2:=kK hk (Jd c R 0)
  have key:=fun n hn=>@aM c hk d r.spE R n hn
  rw[←w1,hS] at key
  obtain⟨E,hE⟩:∃E,Q_ c (c.syL R 0)=E:=⟨_,rfl⟩
  obtain⟨G,hG⟩:∃G,Uq c (c.syL R 0)=G:=⟨_,rfl⟩
  rw[hE,hG] at c5 key
  rw[hE] at h2
  rw[show (if E=0 then ((0:Nat):Int) else 0)=0 by split<;>rfl] at c5
  have c7:=IG c hk false false S R (by omega) (by omega)
  have hcl:=LP c S R c.syms
  have hw:=Kg hk.wev
  have hcod:De c.L c.P=true:=by
   obtain⟨l,p,q,h1,h2,h3,_,_,_,_,_,_,_,hc⟩:=Ja hk.wev
   rw[h1,h2];exact hc
  have wP:IntKind.i64.wrap (c.P.tdiv 2)=c.P/2:=by rw[Int.tdiv_eq_ediv_of_nonneg (by omega)];exact AZ _ (by omega)
  rcases h2 with h2|h2
  ·subst h2
   (try (simp -implicitDefEqProofs only[go_sem,AG,AF,hfl,hlen]));repeat' first|(with_reducible first|exact tI|refine aI ?_ ?_|intro _)|((first|with_reducible refine AM ?_ ?_<;>intro _|(with_reducible refine isCall ?_);first|refine AE c0 ?_|refine AE c1 ?_|refine AE c2 ?_|refine AE c3 ?_|refine AE c4 ?_|refine AE c5 ?_|refine AE c6 ?_|refine AE c7 ?_)<;>try (simp -implicitDefEqProofs only[go_sem,AG,AF,hfl,hlen]))|simp (disch:=omega) only[Al]|((with_reducible refine Ab ?_);refine⟨(_,_),rfl,?_,?_⟩)
   all_goals first|omega|(simp;done)|(simp;omega)|skip
   refine AY (α:=Nat×Int) (l0:=?l1) (m0:=?m1) (fun x=>[(15,.d (.int .i64 (x.1:Int))),(14,.d (.int .i64 x.2))]) (fun x=>[]) (fun x=>x.1<=c.Q.toNat/\0<=x.2/\∀j,j<x.1->((DU (Fx c S R) c.Q.toNat c.syms j:Nat):Int)<=x.2) (fun x=>c.Q.toNat-x.1) (0,0) ?h01 ?he1 ?he21 ?hI1 ?step1
   case h01=>(simp -implicitDefEqProofs only[go_sem];rfl)
   case he1=>rfl
   case he21=>rfl
   case' step1=>(rintro⟨k,m⟩ hI;try dsimp only at hI)
   case' hI1=>try dsimp only
   ·exact⟨Nat.zero_le _,Int.le_refl _,fun j hj=>by omega⟩
   ·obtain⟨k1,m0,k2⟩:=hI
    by_cases hkq:k<c.Q.toNat
    ·have hk':(k:Int)<((GC c S R c.syms).length:Int):=by omega
     have hkl:k<(GC c S R c.syms).length:=by omega
     have hg:=OJ c S R c.syms hkq
     have hwk:IntKind.i64.wrap ((k:Int)+1)=((k+1:Nat):Int):=by rw[AZ _ (by omega)];omega
     (try (simp -implicitDefEqProofs only[go_sem,hk',hkl,hg,hwk]));repeat' first|(with_reducible first|exact tI|refine aI ?_ ?_|intro _)|((first|with_reducible refine AM ?_ ?_<;>intro _)<;>try (simp -implicitDefEqProofs only[go_sem,hk',hkl,hg,hwk]))|simp (disch:=omega) only[Al]|((with_reducible refine Ab ?_);refine⟨(_,_),rfl,?_,?_⟩)
     all_goals first|omega|(simp;done)|(simp;omega)|skip
     rename_i j hj
     have hj2:j<k+1:=hj
     rcases Nat.lt_or_ge j k with h|h
     ·have:=k2 j h;omega
     ·have:j=k:=by omega
      subst this;omega
    ·have hk':¬(k:Int)<((GC c S R c.syms).length:Int):=by omega
     have hn:∀j,j<c.Q.toNat->DU (Fx c S R) c.Q.toNat c.syms j<=m.toNat:=fun j hj=>by have:=k2 j (by omega);omega
     have hkey:=key m.toNat hn
     by_cases hmp:m<=c.P/2
     ·obtain⟨_,hd⟩:=hkey.1 (by omega)
      subst hd
      have c9:=Dy G.isEmpty n1 G G
      rw[decide_eq_true rfl] at c9
      (try (simp -implicitDefEqProofs only[go_sem,hk',hmp,wP]));repeat' first|(with_reducible first|exact tI|refine aI ?_ ?_|intro _)|((first|with_reducible refine AM ?_ ?_<;>intro _|(with_reducible refine isCall ?_);first|refine AE c0 ?_|refine AE c9 ?_)<;>try (simp -implicitDefEqProofs only[go_sem,hk',hmp,wP]))|simp (disch:=omega) only[Al]|((with_reducible refine Ab ?_);refine⟨(_,_),rfl,?_,?_⟩)
      all_goals first|rfl|skip
     ·have c8:=He c.L c.P (min m c.L)
      rw[lp hcod m0] at c8
      obtain⟨fb,hfb⟩:∃fb,bK c.L c.P (min m c.L)=fb:=⟨_,rfl⟩
      rw[hfb] at c8
      cases fb with
      |true =>
       (try (simp -implicitDefEqProofs only[go_sem,hk',hmp,wP]));repeat' first|(with_reducible first|exact tI|refine aI ?_ ?_|intro _)|((first|with_reducible refine AM ?_ ?_<;>intro _|(with_reducible refine isCall ?_);first|refine AE c0 ?_|refine AE c8 ?_)<;>try (simp -implicitDefEqProofs only[go_sem,hk',hmp,wP]))|simp (disch:=omega) only[Al]|((with_reducible refine Ab ?_);refine⟨(_,_),rfl,?_,?_⟩)
       all_goals first|rfl|skip
      |false =>
       have hfn:=nq hcod m0 hfb
       rcases hkey.2 (by omega) with⟨_,hd⟩|h52
       ·subst hd
        have c9:=Dy G.isEmpty n1 G G
        rw[decide_eq_true rfl] at c9
        (try (simp -implicitDefEqProofs only[go_sem,hk',hmp,wP]));repeat' first|(with_reducible first|exact tI|refine aI ?_ ?_|intro _)|((first|with_reducible refine AM ?_ ?_<;>intro _|(with_reducible refine isCall ?_);first|refine AE c0 ?_|refine AE c8 ?_|refine AE c9 ?_)<;>try (simp -implicitDefEqProofs only[go_sem,hk',hmp,wP]))|simp (disch:=omega) only[Al]|((with_reducible refine Ab ?_);refine⟨(_,_),rfl,?_,?_⟩)
        all_goals first|rfl|skip
       ·exact absurd h52 (by omega)
  ·subst h2
   (try (simp -implicitDefEqProofs only[go_sem,AG,AF,hfl,hlen]));repeat' first|(with_reducible first|exact tI|refine aI ?_ ?_|intro _)|((first|with_reducible refine AM ?_ ?_<;>intro _|(with_reducible refine isCall ?_);first|refine AE c0 ?_|refine AE c1 ?_|refine AE c2 ?_|refine AE c3 ?_|refine AE c4 ?_|refine AE c5 ?_|refine AE c6 ?_|refine AE c7 ?_)<;>try (simp -implicitDefEqProofs only[go_sem,AG,AF,hfl,hlen]))|simp (disch:=omega) only[Al]|((with_reducible refine Ab ?_);refine⟨(_,_),rfl,?_,?_⟩)
   all_goals first|omega|(simp;done)|(simp;omega)|skip
   refine AY (α:=Nat×Int) (l0:=?l2) (m0:=?m2) (fun x=>[(15,.d (.int .i64 (x.1:Int))),(14,.d (.int .i64 x.2))]) (fun x=>[]) (fun x=>x.1<=c.Q.toNat/\0<=x.2/\∀j,j<x.1->((DU (Fx c S R) c.Q.toNat c.syms j:Nat):Int)<=x.2) (fun x=>c.Q.toNat-x.1) (0,0) ?h02 ?he2 ?he22 ?hI2 ?step2
   case h02=>(simp -implicitDefEqProofs only[go_sem];rfl)
   case he2=>rfl
   case he22=>rfl
   case' step2=>(rintro⟨k,m⟩ hI2;try dsimp only at hI2)
   case' hI2=>try dsimp only
   ·exact⟨Nat.zero_le _,Int.le_refl _,fun j hj=>by omega⟩
   ·obtain⟨k1,m0,k2⟩:=hI2
    by_cases hkq:k<c.Q.toNat
    ·have hk':(k:Int)<((GC c S R c.syms).length:Int):=by omega
     have hkl:k<(GC c S R c.syms).length:=by omega
     have hg:=OJ c S R c.syms hkq
     have hwk:IntKind.i64.wrap ((k:Int)+1)=((k+1:Nat):Int):=by rw[AZ _ (by omega)];omega
     (try (simp -implicitDefEqProofs only[go_sem,hk',hkl,hg,hwk]));repeat' first|(with_reducible first|exact tI|refine aI ?_ ?_|intro _)|((first|with_reducible refine AM ?_ ?_<;>intro _)<;>try (simp -implicitDefEqProofs only[go_sem,hk',hkl,hg,hwk]))|simp (disch:=omega) only[Al]|((with_reducible refine Ab ?_);refine⟨(_,_),rfl,?_,?_⟩)
     all_goals first|omega|(simp;done)|(simp;omega)|skip
     rename_i j hj
     have hj2:j<k+1:=hj
     rcases Nat.lt_or_ge j k with h|h
     ·have:=k2 j h;omega
     ·have:j=k:=by omega
      subst this;omega
    ·have hk':¬(k:Int)<((GC c S R c.syms).length:Int):=by omega
     have hn:∀j,j<c.Q.toNat->DU (Fx c S R) c.Q.toNat c.syms j<=m.toNat:=fun j hj=>by have:=k2 j (by omega);omega
     have hkey:=key m.toNat hn
     by_cases hmp:m<=c.P/2
     ·have:=(hkey.1 (by omega)).1
      exact absurd this (by omega)
     ·have c8:=He c.L c.P (min m c.L)
      rw[lp hcod m0] at c8
      obtain⟨fb,hfb⟩:∃fb,bK c.L c.P (min m c.L)=fb:=⟨_,rfl⟩
      rw[hfb] at c8
      cases fb with
      |true =>
       (try (simp -implicitDefEqProofs only[go_sem,hk',hmp,wP]));repeat' first|(with_reducible first|exact tI|refine aI ?_ ?_|intro _)|((first|with_reducible refine AM ?_ ?_<;>intro _|(with_reducible refine isCall ?_);first|refine AE c0 ?_|refine AE c8 ?_)<;>try (simp -implicitDefEqProofs only[go_sem,hk',hmp,wP]))|simp (disch:=omega) only[Al]|((with_reducible refine Ab ?_);refine⟨(_,_),rfl,?_,?_⟩)
       all_goals first|rfl|skip
      |false =>
       (try (simp -implicitDefEqProofs only[go_sem,hk',hmp,wP]));repeat' first|(with_reducible first|exact tI|refine aI ?_ ?_|intro _)|((first|with_reducible refine AM ?_ ?_<;>intro _|(with_reducible refine isCall ?_);first|refine AE c0 ?_|refine AE c8 ?_)<;>try (simp -implicitDefEqProofs only[go_sem,hk',hmp,wP]))|simp (disch:=omega) only[Al]|((with_reducible refine Ab ?_);refine⟨(_,_),rfl,?_,?_⟩)
       all_goals first|rfl|skip
 ·have ha':¬(a:Int)=0:=by omega
  obtain⟨E,hE⟩:∃E,Q_ c (c.syL R a)=E:=⟨_,rfl⟩
  obtain⟨G,hG⟩:∃G,Uq c (c.syL R a)=G:=⟨_,rfl⟩
  rw[hE,hG] at c5
  obtain⟨A,hA⟩:∃A,(if E=0 then (a:Int) else 0)=A:=⟨_,rfl⟩
  rw[hA] at c5
  (try (simp -implicitDefEqProofs only[go_sem,AG,AF,hfl,hlen,ha']));repeat' first|(with_reducible first|exact tI|refine aI ?_ ?_|intro _)|((first|with_reducible refine AM ?_ ?_<;>intro _|(with_reducible refine isCall ?_);first|refine AE c0 ?_|refine AE c1 ?_|refine AE c2 ?_|refine AE c3 ?_|refine AE c4 ?_|refine AE c5 ?_|refine AE c6 ?_)<;>try (simp -implicitDefEqProofs only[go_sem,AG,AF,hfl,hlen,ha']))|simp (disch:=omega) only[Al]|((with_reducible refine Ab ?_);refine⟨(_,_),rfl,?_,?_⟩)
  all_goals first|rfl|skip
end Go.Pw
end
