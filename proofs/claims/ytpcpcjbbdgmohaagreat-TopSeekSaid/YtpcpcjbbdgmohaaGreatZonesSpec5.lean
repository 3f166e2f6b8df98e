/- A part of the proof. -/
import Derived.Test.YtpcpcjbbdgmohaaGreatZonesSpec4
set_option linter.all false
namespace Go.Pw
def AG.swLo (d:AG) (e:Int):Int:=if e=1 then d.hlo else if e=2 then d.clo else 0
def AG.swHi (d:AG) (e:Int):Int:=if e=1 then d.hhi else if e=2 then d.chi else 0
def AG.swSk (d:AG) (e:Int):Int:=if e=1 then d.hskew else if e=2 then d.cskew else 0
def AG.gapAt (d:AG) (a:Int) (xs:List Int) (i:Int):Int:=if 0<d.kindN (a+1+i) then d.gapK (d.kindN (a+1+i)) (xs[i.toNat]?.getD 0) else 0
def AG.gapsL (d:AG) (a:Int) (xs:List Int) (m:Nat):Int:=Dy (d.gapAt a xs) 0 m
def AG.ticksL (d:AG) (a:Int) (c:Nat) (xs:List Int):Int:=d.ticksR a c+d.gapsL a xs (c-1)
theorem Qe (f:Int->Int) (a:Int):∀m,Dy (fun i=>f (a+i)) 0 m=Dy f a m
 |0=>rfl
 |m+1=>by rw[Dy,Dy,Qe f a m];simp
theorem Yn {d:AG}(A B a:Int):∀m,Dy (fun n=>if 0<d.kindN n then (if d.kindN n=1 then A else B) else 0) a m=A*Dy (d.isK 1) a m+B*Dy (d.isK 2) a m
 |0=>by simp[Dy]
 |m+1=>by
  rw[Dy,Dy,Dy,Yn A B a m,Int.mul_add,Int.mul_add]
  unfold AG.isK
  rcases Kh d (a+m) with h|h|h<;>rw[h]<;>simp<;>omega
theorem V6 {d:AG}(a:Int) (xs:List Int) (A B:Int) (m:Nat) (h1:∀i:Nat,i<m->d.kindN (a+1+i)=1->d.gapK 1 (xs[i]?.getD 0)=A) (h2:∀i:Nat,i<m->d.kindN (a+1+i)=2->d.gapK 2 (xs[i]?.getD 0)=B) :
  d.gapsL a xs m=A*Dy (d.isK 1) (a+1) m+B*Dy (d.isK 2) (a+1) m:=by
 unfold AG.gapsL
 refine Eq.trans (Eq.trans ?_ (Qe (fun n=>if 0<d.kindN n then (if d.kindN n=1 then A else B) else 0) (a+1) m)) (Yn A B (a+1) m)
 refine Qf m fun i hi=>?_
 unfold AG.gapAt
 simp only[Int.zero_add,Int.toNat_natCast]
 have k1:=h1 i hi;have k2:=h2 i hi
 rcases Kh d (a+1+i) with h|h|h
 ·rw[h];simp
 ·rw[h,k1 h];simp
 ·rw[h,k2 h];simp
theorem Ez {d:AG}(f:Int->Int) (a:Int) (m i:Nat) (h:i<m):((d.kinds a m).map f)[i]?.getD 0=f (d.kindN (a+1+i)):=by
 have:=TK d a m i h
 have hl:=LO d a m
 rw[List.getElem?_map]
 rw[List.getElem?_eq_getElem (by omega)] at this ⊢
 simp only[Option.getD_some,Option.map_some] at this ⊢
 rw[this]
theorem W4 {d:AG}(a:Int) (c:Nat):d.ticksL a c ((d.kinds a (c-1)).map d.swLo)=d.ticksR a c+De d.turn d.hskew d.hlo*d.swR 1 a c+De d.turn d.cskew d.clo*d.swR 2 a c:=by
 unfold AG.ticksL AG.swR
 rw[V6 a _ (De d.turn d.hskew d.hlo) (De d.turn d.cskew d.clo) (c-1) (fun i hi h=>by rw[Ez _ _ _ _ hi,h];simp[AG.gapK,AG.swLo]) (fun i hi h=>by rw[Ez _ _ _ _ hi,h];simp[AG.gapK,AG.swLo])]
 omega
theorem U4 {d:AG}(a:Int) (c:Nat):d.ticksL a c ((d.kinds a (c-1)).map d.swHi)=d.ticksR a c+De d.turn d.hskew d.hhi*d.swR 1 a c+De d.turn d.cskew d.chi*d.swR 2 a c:=by
 unfold AG.ticksL AG.swR
 rw[V6 a _ (De d.turn d.hskew d.hhi) (De d.turn d.cskew d.chi) (c-1) (fun i hi h=>by rw[Ez _ _ _ _ hi,h];simp[AG.gapK,AG.swHi]) (fun i hi h=>by rw[Ez _ _ _ _ hi,h];simp[AG.gapK,AG.swHi])]
 omega
theorem PR {d:AG}(g:d.Good) (a:Int) (xs:List Int) (i:Int) (h:0<d.kindN (a+1+i)->0<=xs[i.toNat]?.getD 0/\xs[i.toNat]?.getD 0<=2000):0<=d.gapAt a xs i/\d.gapAt a xs i<=2001000:=by
 unfold AG.gapAt
 have t1:=g.t1;have t2:=g.t2;have k1:=g.k1;have k2:=g.k2;have c1:=g.c1;have c2:=g.c2
 split
 ·rename_i hk
  have hx:=h hk
  have key:∀s,0<=s/\s<d.turn->0<=De d.turn s (xs[i.toNat]?.getD 0)/\De d.turn s (xs[i.toNat]?.getD 0)<=2001000:=fun s hs=>by
   obtain⟨q0,q1,q2⟩:=Fv (t:=d.turn) (skew:=s) (ticks:=xs[i.toNat]?.getD 0) (by omega)
   have hle:=UY (t:=d.turn) (skew:=s) (ticks:=xs[i.toNat]?.getD 0) (by omega) hx.2 hs.1
   have h1:0<=Fe d.turn s (xs[i.toNat]?.getD 0)*d.turn/\Fe d.turn s (xs[i.toNat]?.getD 0)*d.turn<=2000*1000:=⟨Int.mul_nonneg (by omega) (by omega),Int.mul_le_mul (by omega) (by omega) (by omega) (by omega)⟩
   unfold De;omega
  unfold AG.gapK
  split
  ·exact key _ ⟨k1,k2⟩
  ·exact key _ ⟨c1,c2⟩
 ·omega
structure mh (d e:AG):Prop where
 heads:e.heads=d.heads
 zones:e.zones=d.zones
 turn:e.turn=d.turn
section
variable {d e:AG}(s:mh d e)
end
def AG.cp (d:AG):AG:={ d with zn:=false }
def AG.skews (d:AG) (h c:Int):AG:={ d with hskew:=h,cskew:=c }
end Go.Pw
