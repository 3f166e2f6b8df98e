/- A part of the proof. -/
import Derived.Test.YtpcpcjbbdgmohaaGreatZonesSpec
set_option linter.all false
namespace Go.Pw
def AG.own (d:AG) (k:Nat):Int:=d.turn/d.ts k
def AG.place (d:AG) (n:Int):(Int×Int×Int)×Int:=if d.ok then (match d.kOf n with|some k=>((d.tc k,d.th k,n-d.tf k),0)|none=>((0,0,0),1)) else ((0,0,0),10)
def AG.angle (d:AG) (n:Int):Int×Int×Int:=if d.ok then (match d.kOf n with|some k=>((d.to k+(n-d.tf k)*d.own k)%d.turn,d.own k,0)|none=>(0,0,1)) else (0,0,10)
def AG.wait (d:AG) (n time:Int):Int×Int:=if (d.angle n).2.2≠0 then (0,(d.angle n).2.2) else if FR time 0 1000000 then (((d.angle n).1-time)%d.turn,0) else (0,1)
theorem AG.Good.own {d:AG}(g:d.Good) {k:Nat}(hk:k<d.nt):1<=d.own k/\d.own k<=d.turn/\d.own k*d.ts k=d.turn/\d.turn.tdiv (d.ts k)=d.own k:=by
 have h1:=g.ts hk
 have h2:=g.t1
 have h3:d.turn%d.ts k=0:=by rw[←Int.tmod_eq_emod_of_nonneg (by omega)];exact h1.2.2
 have h4:d.own k*d.ts k=d.turn:=Int.ediv_mul_cancel (Int.dvd_of_emod_eq_zero h3)
 have h5:0<=d.own k:=Int.ediv_nonneg (by omega) (by omega)
 have h6:d.own k≠0:=fun h=>by rw[h] at h4;simp at h4;omega
 refine⟨by omega,?_,h4,Int.tdiv_eq_ediv_of_nonneg (by omega)⟩
 exact Int.ediv_le_self _ (by omega)
theorem Wj {d:AG}(g:d.Good) {k:Nat}(hk:k<d.nt) {n:Int}(hh:d.holds n k):0<=(n-d.tf k)*d.own k/\(n-d.tf k)*d.own k<=16000:=by
 have h1:=g.own hk
 have h2:=g.ts hk
 have h3:=g.t2
 unfold AG.holds at hh
 refine⟨Int.mul_nonneg (by omega) (by omega),?_⟩
 calc (n-d.tf k)*d.own k<=16*1000:=Int.mul_le_mul (by omega) (by omega) (by omega) (by omega)
  _=16000:=rfl
def Fe (t skew ticks:Int):Int:=if ticks<=skew then 0 else (ticks-skew+t-1)/t
def De (t skew ticks:Int):Int:=skew+Fe t skew ticks*t
theorem Fv {t skew ticks:Int}(ht:0<t):0<=Fe t skew ticks/\ticks<=skew+Fe t skew ticks*t/\∀q,q<Fe t skew ticks->0<=q->skew+q*t<ticks:=by
 unfold Fe
 by_cases h:ticks<=skew
 ·rw[if_pos h];exact⟨by omega,by omega,fun q h1 h2=>by omega⟩
 ·rw[if_neg h]
  have h1:=Int.ediv_mul_add_emod (ticks-skew+t-1) t
  have h2:=Int.emod_nonneg (ticks-skew+t-1) (b:=t) (by omega)
  have h3:=Int.emod_lt_of_pos (ticks-skew+t-1) ht
  refine⟨Int.ediv_nonneg (by omega) (by omega),by omega,fun q hq h0=>?_⟩
  have:(q+1)*t<=(ticks-skew+t-1)/t*t:=Int.mul_le_mul_of_nonneg_right (by omega) (by omega)
  rw[Int.add_mul] at this
  omega
theorem V7 {t skew ticks q:Int}(ht:0<t) (h0:0<=q) (h1:ticks<=skew+q*t) (h2:∀r,r<q->0<=r->skew+r*t<ticks):q=Fe t skew ticks:=by
 obtain⟨k0,k1,k2⟩:=Fv (skew:=skew) (ticks:=ticks) ht
 rcases Int.lt_trichotomy q (Fe t skew ticks) with h|h|h
 ·have:=k2 q h h0;omega
 ·exact h
 ·have:=h2 _ h k0;omega
theorem UY {t skew ticks:Int}(ht:0<t) (h1:ticks<=2000) (h2:0<=skew):Fe t skew ticks<=2000:=by
 obtain⟨k0,k1,k2⟩:=Fv (skew:=skew) (ticks:=ticks) ht
 by_cases h:Fe t skew ticks<=2000
 ·exact h
 ·have h3:=k2 2000 (by omega) (by omega)
  have:(2000:Int)*1<=2000*t:=Int.mul_le_mul_of_nonneg_left (by omega) (by omega)
  omega
end Go.Pw
