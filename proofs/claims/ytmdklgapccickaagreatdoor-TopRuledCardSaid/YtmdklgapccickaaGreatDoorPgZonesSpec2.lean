/- A part of the proof. -/
import Derived.Test.YtmdklgapccickaaGreatDoorZonesSpec
set_option linter.all false
section
namespace Go.Pw
def AX.own (d:AX) (k:Nat):Int:=d.turn/d.ts k
def AX.place (d:AX) (n:Int):(Int×Int×Int)×Int:=if d.ok then (match d.kOf n with|some k=>((d.tc k,d.th k,n-d.tf k),0)|none=>((0,0,0),1)) else ((0,0,0),10)
def AX.angle (d:AX) (n:Int):Int×Int×Int:=if d.ok then (match d.kOf n with|some k=>((d.to k+(n-d.tf k)*d.own k)%d.turn,d.own k,0)|none=>(0,0,1)) else (0,0,10)
def AX.wait (d:AX) (n time:Int):Int×Int:=if (d.angle n).2.2≠0 then (0,(d.angle n).2.2) else if VW time 0 1000000 then (((d.angle n).1-time)%d.turn,0) else (0,1)
def rH (t skew ticks:Int):Int:=if ticks<=skew then 0 else (ticks-skew+t-1)/t
def sx (t skew ticks:Int):Int:=skew+rH t skew ticks*t
end Go.Pw
end
section
namespace Go.Pw
def eH (f:Int->Int) (a:Int):Nat->Int
 |0=>0
 |m+1=>eH f a m+f (a+m)
def AX.ownN (d:AX) (m:Int):Int:=match d.kOf m with|some k=>d.own k|none=>0
def AX.kindN (d:AX) (m:Int):Int:=match d.kOf (m-1),d.kOf m with
 |some a,some b=>if d.tc b≠d.tc a then 2 else if d.th b≠d.th a then 1 else 0
 |_,_=>0
def AX.isK (d:AX) (e m:Int):Int:=if d.kindN m=e then 1 else 0
def AX.ticksR (d:AX) (a:Int) (m:Nat):Int:=eH d.ownN a m
def AX.swR (d:AX) (e a:Int) (m:Nat):Int:=eH (d.isK e) (a+1) (m-1)
section
variable {d:AX}
def AX.cov (d:AX) (a c:Int) (k:Nat):Nat:=(max 0 (min (d.tf k-a) c)).toNat
def AX.sws (d:AX) (e a c:Int) (k:Nat):Int:=eH (d.isK e) (a+1) (max 0 (min (d.tf k-a) (c-1))).toNat
def AX.tks (d:AX) (a c:Int) (k:Nat):Int:=eH d.ownN a (d.cov a c k)
end
theorem Xs {d:AX}(g:d.Good):1<=d.size/\d.size<=5120:=by
 have h1:=g.tf d.nt (Nat.le_refl _)
 have h2:=g.nt
 have h3:1<=d.nt:=by
  unfold AX.nt
  have hp:=g.hp
  have hz:=g.z1
  have h0:=g.z 0 (by omega)
  have hb:=lF d 1 d.zones.length (by omega)
  rw[Sb,AX.base,AX.base] at hb
  calc 1=1*1:=rfl
   _<=d.cyls*d.heads.toNat:=Nat.mul_le_mul (by omega) hp
 unfold AX.size;omega
end Go.Pw
end
