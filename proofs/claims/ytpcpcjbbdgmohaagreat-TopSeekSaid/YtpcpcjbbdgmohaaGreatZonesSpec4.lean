/- A part of the proof. -/
import Derived.Test.YtpcpcjbbdgmohaaGreatZonesSpec3
set_option linter.all false
namespace Go.Pw
def mC (p:Int×Int×Int):D:=.agg [.int .i64 p.1,.int .i64 p.2.1,.int .i64 p.2.2]
theorem Hz (p:Int×Int×Int):mC p=.agg [.int .i64 p.1,.int .i64 p.2.1,.int .i64 p.2.2]:=rfl
def Q4 (l:List (Int×Int×Int)):List D:=l.map mC
theorem DU (l:List (Int×Int×Int)):(Q4 l).length=l.length:=by simp[Q4]
theorem S9 (l:List (Int×Int×Int)) (a b c:Int):Q4 l++[.agg [.int .i64 a,.int .i64 b,.int .i64 c]]=Q4 (l++[(a,b,c)]):=by simp[Q4,mC]
theorem C_ (l:List (Int×Int×Int)):Ci 3 (Q4 l)=True:=J7 fun _=>rfl
theorem DG {l:List (Int×Int×Int)}{i:Nat}{A:D->Prop}:Ax (Q4 l)[i]? A=(i<l.length/\A (mC (l[i]?.getD default))):=HA
def AG.pl (d:AG) (m:Int):Int×Int×Int:=match d.kOf m with|some k=>(d.tc k,d.th k,m-d.tf k)|none=>(0,0,0)
def AG.plsN (d:AG) (n:Nat):List (Int×Int×Int):=(List.range n).map fun(i:Nat)=>d.pl (i:Int)
def AG.pls (d:AG):List (Int×Int×Int):=d.plsN d.size.toNat
theorem Q3 (d:AG) (n:Nat):(d.plsN n).length=n:=by simp[AG.plsN]
theorem Zt (d:AG) (n:Nat):d.plsN (n+1)=d.plsN n++[d.pl n]:=by simp[AG.plsN,List.range_succ]
theorem dK (d:AG) (n i:Nat) (h:i<n):(d.plsN n)[i]?.getD default=d.pl i:=by
 unfold AG.plsN
 rw[List.getElem?_map,List.getElem?_eq_getElem (by simpa using h)];simp
section
variable {d:AG}
theorem lV (g:d.Good) {k:Nat}(hk:k<d.nt) {s:Int}(h:0<=s/\s<d.ts k):d.pl (d.tf k+s)=(d.tc k,d.th k,s):=by
 unfold AG.pl
 rw[GF g hk (by unfold AG.holds;omega)]
 simp only[Prod.mk.injEq,true_and];omega
theorem cG (c:Nat):∀h,h<=d.heads.toNat->d.tf (c*d.heads.toNat+h)=d.tf (c*d.heads.toNat)+h*(d.secs[c]?.getD 0)
 |0,_=>by simp
 |h+1,hh=>by
  rw[←Nat.add_assoc,AG.tf,cG c h (by omega),cA c h (by omega),show ((h+1:Nat):Int)=(h:Int)+1 by omega,Int.add_mul];omega
theorem jL (c:Nat):d.tf ((c+1)*d.heads.toNat)=d.tf (c*d.heads.toNat)+d.heads.toNat * (d.secs[c]?.getD 0):=by
 rw[Nat.succ_mul];exact cG c _ (Nat.le_refl _)
theorem Yj {i:Nat}(hi:i<d.zones.length):∀j,j<=(d.zones[i]?.getD default).1.toNat->d.tf ((d.base i+j)*d.heads.toNat)=d.tf (d.base i*d.heads.toNat)+j*((d.zones[i]?.getD default).2*d.heads.toNat)
 |0,_=>by simp
 |j+1,hj=>by
  rw[←Nat.add_assoc,jL,Yj hi j (by omega),UF d i j hi (by omega),Option.getD_some,show ((j+1:Nat):Int)=(j:Int)+1 by omega,Int.add_mul,Int.mul_comm (d.heads.toNat:Int)];omega
theorem Yd (c:Nat):∀i,i<=d.zones.length->c<d.base i->∃j,j<i/\d.base j<=c/\c<d.base (j+1)
 |0,_,h=>by simp[AG.base] at h
 |i+1,hi,h=>by
  by_cases hc:c<d.base i
  ·obtain⟨j,h1,h2⟩:=Yd c i (by omega) hc
   exact⟨j,by omega,h2⟩
  ·exact⟨i,by omega,by omega,h⟩
theorem Zi {i c:Nat}(hi:i<d.zones.length) (h1:d.base i<=c) (h2:c<d.base (i+1)):d.secs[c]?.getD 0=(d.zones[i]?.getD default).2:=by
 rw[AG.base] at h2
 have:=UF d i (c-d.base i) hi (by omega)
 rw[show d.base i+(c-d.base i)=c by omega] at this
 rw[this,Option.getD_some]
theorem Yl {k:Nat}(hk:k<d.nt):d.tc k<d.cyls:=by
 unfold AG.tc
 have:=Ta k d.heads.toNat d.cyls hk
 omega
theorem Tt (k:Nat):d.ts k=d.secs[(d.tc k).toNat]?.getD 0:=by
 unfold AG.ts AG.tc;rw[Int.toNat_natCast]
end
def AG.kinds (d:AG) (a:Int) (m:Nat):List Int:=(List.range m).map fun(i:Nat)=>d.kindN (a+1+(i:Int))
theorem LO (d:AG) (a:Int) (m:Nat):(d.kinds a m).length=m:=by simp[AG.kinds]
theorem Xw (d:AG) (a:Int) (m:Nat):d.kinds a (m+1)=d.kinds a m++[d.kindN (a+1+m)]:=by simp[AG.kinds,List.range_succ]
theorem TK (d:AG) (a:Int) (m i:Nat) (h:i<m):(d.kinds a m)[i]?.getD 0=d.kindN (a+1+i):=by
 unfold AG.kinds
 rw[List.getElem?_map,List.getElem?_eq_getElem (by simpa using h)];simp
theorem dx {d:AG}(g:d.Good) {m:Int}(h1:1<=m) (h2:m<d.size):d.kindN m=if (d.pl m).1≠(d.pl (m-1)).1 then 2 else if (d.pl m).2.1≠(d.pl (m-1)).2.1 then 1 else 0:=by
 obtain⟨a,ha⟩:=Option.isSome_iff_exists.1 ((LP g m).2 (by omega))
 obtain⟨b,hb⟩:=Option.isSome_iff_exists.1 ((LP g (m-1)).2 (by omega))
 unfold AG.kindN AG.pl
 rw[ha,hb]
theorem Kh (d:AG) (m:Int):d.kindN m=0\/d.kindN m=1\/d.kindN m=2:=by
 unfold AG.kindN
 split
 ·split
  ·simp
  ·split<;>simp
 ·simp
def AG.gapK (d:AG) (e x:Int):Int:=if e=1 then De d.turn d.hskew x else De d.turn d.cskew x
theorem X0 {t s x:Int}(ht:0<t) (hs:0<=s/\s<t) (hx:0<=x):x+((s-x).tmod t+t).tmod t=De t s x:=by
 have h1:((s-x).tmod t+t).tmod t=(s-x)%t:=by
  have h2:-t<(s-x).tmod t:=by have:=Int.lt_tmod_of_pos (s-x) ht;omega
  rw[Int.tmod_eq_emod_of_nonneg (by omega),Int.add_emod_right]
  have h3:=Int.mul_tdiv_add_tmod (s-x) t
  have h4:(s-x).tmod t=(s-x)+t*(-(s-x).tdiv t):=by rw[Int.mul_neg];omega
  rw[h4,Int.add_mul_emod_self_left]
 rw[h1]
 have h5:=Int.emod_nonneg (s-x) (b:=t) (by omega)
 have h6:=Int.emod_lt_of_pos (s-x) ht
 have h7:=Int.emod_add_mul_ediv (s-x) t
 obtain⟨q,hq⟩:∃q,q=-((s-x)/t):=⟨_,rfl⟩
 have h8:x+(s-x)%t=s+q*t:=by rw[hq,Int.neg_mul,Int.mul_comm];omega
 have h0:0<=q:=by
  rcases Int.lt_or_le q 0 with h|h
  ·exfalso
   have:q*t<=-1*t:=Int.mul_le_mul_of_nonneg_right (by omega) (by omega)
   omega
  ·exact h
 have:=V7 (t:=t) (skew:=s) (ticks:=x) (q:=q) ht h0 (by omega) fun r hr _=>by
  have:(r+1)*t<=q*t:=Int.mul_le_mul_of_nonneg_right (by omega) (by omega)
  rw[Int.add_mul] at this;omega
 unfold De;rw[←this];exact h8
end Go.Pw
