/- A part of the proof. -/
import Derived.Test.YtpcpcjbbdgmohaaGreatZonesSpec2
set_option linter.all false
namespace Go.Pw
def Dy (f:Int->Int) (a:Int):Nat->Int
 |0=>0
 |m+1=>Dy f a m+f (a+m)
theorem Mt (f:Int->Int) (a:Int) (u:Nat):∀v,Dy f a (u+v)=Dy f a u+Dy f (a+u) v
 |0=>by simp[Dy]
 |v+1=>by
  rw[←Nat.add_assoc,Dy,Mt f a u v,Dy,show a+((u+v:Nat):Int)=a+u+v by omega];omega
theorem I0 (f:Int->Int) (a w:Int):∀v:Nat,(∀i:Nat,i<v->f (a+i)=w)->Dy f a v=v*w
 |0,_=>by simp[Dy]
 |v+1,h=>by
  rw[Dy,I0 f a w v fun i hi=>h i (by omega),h v (by omega)]
  rw[show ((v+1:Nat):Int)=(v:Int)+1 by omega,Int.add_mul];omega
theorem Qf {f g:Int->Int}{a:Int}:∀v:Nat,(∀i:Nat,i<v->f (a+i)=g (a+i))->Dy f a v=Dy g a v
 |0,_=>rfl
 |v+1,h=>by rw[Dy,Dy,Qf v fun i hi=>h i (by omega),h v (by omega)]
theorem E8 {f:Int->Int}{a M:Int}:∀v:Nat,(∀i:Nat,i<v->0<=f (a+i)/\f (a+i)<=M)->0<=Dy f a v/\Dy f a v<=v*M
 |0,_=>by simp[Dy]
 |v+1,h=>by
  have h1:=E8 v fun i hi=>h i (by omega)
  have h2:=h v (by omega)
  rw[Dy,show ((v+1:Nat):Int)=(v:Int)+1 by omega,Int.add_mul];omega
def AG.ownN (d:AG) (m:Int):Int:=match d.kOf m with|some k=>d.own k|none=>0
def AG.kindN (d:AG) (m:Int):Int:=match d.kOf (m-1),d.kOf m with
 |some a,some b=>if d.tc b≠d.tc a then 2 else if d.th b≠d.th a then 1 else 0
 |_,_=>0
def AG.isK (d:AG) (e m:Int):Int:=if d.kindN m=e then 1 else 0
def AG.ticksR (d:AG) (a:Int) (m:Nat):Int:=Dy d.ownN a m
def AG.swR (d:AG) (e a:Int) (m:Nat):Int:=Dy (d.isK e) (a+1) (m-1)
section
variable {d:AG}
theorem dP (g:d.Good) {k:Nat}(hk:k<d.nt) {m:Int}(h:d.holds m k):d.ownN m=d.own k:=by
 unfold AG.ownN;rw[GF g hk h]
theorem Y6 (g:d.Good) {k:Nat}(hk:k<d.nt) {m:Int}(h1:d.tf k<m) (h2:m<d.tf k+d.ts k):d.kindN m=0:=by
 unfold AG.kindN
 rw[GF g hk (n:=m) (by unfold AG.holds;omega),GF g hk (n:=m-1) (by unfold AG.holds;omega)]
 simp
theorem U6 (g:d.Good) (k:Nat):(d.th k=d.heads-1->d.tc (k+1)=d.tc k+1)/\(¬d.th k=d.heads-1->d.tc (k+1)=d.tc k/\d.th (k+1)=d.th k+1):=by
 have hp:=g.hp
 have hn:=g.hn
 have h1:=Nat.div_add_mod k d.heads.toNat
 have h2:=Nat.mod_lt k hp
 unfold AG.tc AG.th
 generalize d.heads.toNat=H at *
 refine⟨fun h=>?_,fun h=>?_⟩
 ·have hr:k%H=H-1:=by omega
  have:k+1=H*(k/H+1):=by rw[Nat.mul_add];omega
  rw[this,Nat.mul_div_cancel_left _ hp];simp
 ·have hr:k%H+1<H:=by omega
  have he:k+1=H*(k/H)+(k%H+1):=by omega
  constructor
  ·have:(k+1)/H=k/H:=by rw[he,Nat.mul_add_div hp,Nat.div_eq_of_lt hr];simp
   rw[this]
  ·have:(k+1)%H=k%H+1:=by rw[he,Nat.mul_add_mod,Nat.mod_eq_of_lt hr]
   rw[this];simp
theorem gm (g:d.Good) {k:Nat}(hk:k+1<d.nt):d.kindN (d.tf (k+1))=if d.th k=d.heads-1 then 2 else 1:=by
 have h1:=g.ts (k:=k) (by omega)
 have h2:=g.ts hk
 unfold AG.kindN
 rw[GF g hk (n:=d.tf (k+1)) (by unfold AG.holds;omega),GF g (k:=k) (by omega) (n:=d.tf (k+1)-1) (by unfold AG.holds;rw[AG.tf];omega)]
 obtain⟨n1,n2⟩:=U6 g k
 by_cases h:d.th k=d.heads-1
 ·have:=n1 h
  simp only[if_pos h];rw[if_pos (by omega)]
 ·have:=n2 h
  simp only[if_neg h];rw[if_neg (by omega),if_pos (by omega)]
theorem Q9 (g:d.Good) (m:Int):0<=d.ownN m/\d.ownN m<=1000:=by
 unfold AG.ownN
 have:=g.t2
 split
 ·rename_i k hk
  have:=g.own (E3 hk).1
  omega
 ·omega
theorem Oe (e m:Int):0<=d.isK e m/\d.isK e m<=1:=by unfold AG.isK;split<;>omega
theorem Gc (g:d.Good) (a:Int) (m:Nat):0<=d.ticksR a m/\d.ticksR a m<=m*1000:=E8 m fun i _=>Q9 g _
theorem LH (e a:Int) (m:Nat):0<=d.swR e a m/\d.swR e a m<=m:=by
 have:=E8 (f:=d.isK e) (a:=a+1) (M:=1) (m-1) fun i _=>Oe e _
 unfold AG.swR;omega
def AG.cov (d:AG) (a c:Int) (k:Nat):Nat:=(max 0 (min (d.tf k-a) c)).toNat
def AG.sws (d:AG) (e a c:Int) (k:Nat):Int:=Dy (d.isK e) (a+1) (max 0 (min (d.tf k-a) (c-1))).toNat
def AG.tks (d:AG) (a c:Int) (k:Nat):Int:=Dy d.ownN a (d.cov a c k)
theorem VS {a c:Int}{k:Nat}(hc:1<=c) (h:min (a+c) (d.tf k+d.ts k)-1<max a (d.tf k)) (h1:1<=d.ts k) (e:Int):d.tks a c (k+1)=d.tks a c k/\d.sws e a c (k+1)=d.sws e a c k:=by
 unfold AG.tks AG.sws AG.cov
 rw[AG.tf]
 have h2:(max 0 (min (d.tf k+d.ts k-a) c)).toNat=(max 0 (min (d.tf k-a) c)).toNat:=by omega
 have h3:(max 0 (min (d.tf k+d.ts k-a) (c-1))).toNat=(max 0 (min (d.tf k-a) (c-1))).toNat:=by omega
 rw[h2,h3];exact⟨rfl,rfl⟩
theorem Zj (g:d.Good) {a c:Int}{k:Nat}(hk:k<d.nt) (h:max a (d.tf k)<=min (a+c) (d.tf k+d.ts k)-1):d.tks a c (k+1)=d.tks a c k+(min (a+c) (d.tf k+d.ts k)-1-max a (d.tf k)+1)*d.own k:=by
 have h1:=g.ts hk
 obtain⟨u,hu⟩:∃u:Nat,u=(max 0 (d.tf k-a)).toNat:=⟨_,rfl⟩
 obtain⟨v,hv⟩:∃v:Nat,v=(min (a+c) (d.tf k+d.ts k)-1-max a (d.tf k)+1).toNat:=⟨_,rfl⟩
 have e1:d.cov a c k=u:=by unfold AG.cov;omega
 have e2:d.cov a c (k+1)=u+v:=by unfold AG.cov;rw[AG.tf];omega
 unfold AG.tks
 rw[e1,e2,Mt,I0 d.ownN (a+u) (d.own k) v fun i hi=>dP g hk (by unfold AG.holds;omega)]
 rw[show (v:Int)=min (a+c) (d.tf k+d.ts k)-1-max a (d.tf k)+1 by omega]
theorem VU (g:d.Good) {a c:Int}{k:Nat}(hk:k<d.nt) (hc:1<=c) (h:max a (d.tf k)<=min (a+c) (d.tf k+d.ts k)-1) (hl:a+c<=d.tf k+d.ts k) (e:Int) (he:e≠0):d.sws e a c (k+1)=d.sws e a c k:=by
 have h1:=g.ts hk
 obtain⟨u,hu⟩:∃u:Nat,u=(max 0 (d.tf k-a)).toNat:=⟨_,rfl⟩
 obtain⟨v,hv⟩:∃v:Nat,v=(c-1-u).toNat:=⟨_,rfl⟩
 have e1:(max 0 (min (d.tf k-a) (c-1))).toNat=u:=by omega
 have e2:(max 0 (min (d.tf k+d.ts k-a) (c-1))).toNat=u+v:=by omega
 unfold AG.sws
 rw[AG.tf,e1,e2,Mt,I0 (d.isK e) (a+1+u) 0 v fun i hi=>by unfold AG.isK;rw[Y6 g hk (by omega) (by omega),if_neg (Ne.symm he)]]
 simp
theorem VT (g:d.Good) {a c:Int}{k:Nat}(hk:k<d.nt) (hc:1<=c) (h:max a (d.tf k)<=min (a+c) (d.tf k+d.ts k)-1) (hl:d.tf k+d.ts k<a+c) (hs:a+c<=d.size) (e:Int) (he:e≠0):d.sws e a c (k+1)=d.sws e a c k+(if (if d.th k=d.heads-1 then (2:Int) else 1)=e then 1 else 0):=by
 have h1:=g.ts hk
 have hk1:k+1<d.nt:=by
  rcases Nat.lt_or_ge (k+1) d.nt with h2|h2
  ·exact h2
  ·have:k+1=d.nt:=by omega
   unfold AG.size at hs;rw[←this,AG.tf] at hs;omega
 obtain⟨u,hu⟩:∃u:Nat,u=(max 0 (d.tf k-a)).toNat:=⟨_,rfl⟩
 obtain⟨v,hv⟩:∃v:Nat,v=(d.tf k+d.ts k-a-u-1).toNat:=⟨_,rfl⟩
 have e1:(max 0 (min (d.tf k-a) (c-1))).toNat=u:=by omega
 have e2:(max 0 (min (d.tf k+d.ts k-a) (c-1))).toNat=u+(v+1):=by omega
 have hat:=gm g hk1
 rw[AG.tf] at hat
 unfold AG.sws
 rw[AG.tf,e1,e2,Mt,Dy,I0 (d.isK e) (a+1+u) 0 v fun i hi=>by unfold AG.isK;rw[Y6 g hk (by omega) (by omega),if_neg (Ne.symm he)]]
 rw[show a+1+(u:Int)+v=d.tf k+d.ts k by omega]
 unfold AG.isK
 rw[hat];simp
theorem ct {a c:Int}(ha:0<=a) (e:Int):d.tks a c 0=0/\d.sws e a c 0=0:=by
 unfold AG.tks AG.sws AG.cov
 rw[AG.tf]
 have h1:(max 0 (min (0-a) c)).toNat=0:=by omega
 have h2:(max 0 (min (0-a) (c-1))).toNat=0:=by omega
 rw[h1,h2];exact⟨rfl,rfl⟩
theorem cr {a c:Int}(hc:1<=c) (hs:a+c<=d.size) (e:Int):d.tks a c d.nt=d.ticksR a c.toNat/\d.sws e a c d.nt=d.swR e a c.toNat:=by
 unfold AG.tks AG.sws AG.cov AG.ticksR AG.swR
 unfold AG.size at hs
 have h1:(max 0 (min (d.tf d.nt-a) c)).toNat=c.toNat:=by omega
 have h2:(max 0 (min (d.tf d.nt-a) (c-1))).toNat=c.toNat-1:=by omega
 rw[h1,h2];exact⟨rfl,rfl⟩
end
theorem Cm {d:AG}(g:d.Good):1<=d.size/\d.size<=5120:=by
 have h1:=g.tf d.nt (Nat.le_refl _)
 have h2:=g.nt
 have h3:1<=d.nt:=by
  unfold AG.nt
  have hp:=g.hp
  have hz:=g.z1
  have h0:=g.z 0 (by omega)
  have hb:=QT d 1 d.zones.length (by omega)
  rw[FV,AG.base,AG.base] at hb
  calc 1=1*1:=rfl
   _<=d.cyls*d.heads.toNat:=Nat.mul_le_mul (by omega) hp
 unfold AG.size;omega
end Go.Pw
