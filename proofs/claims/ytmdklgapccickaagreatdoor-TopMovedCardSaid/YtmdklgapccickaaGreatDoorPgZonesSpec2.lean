/- Part. -/
import Derived.Test.YtmdklgapccickaaGreatDoorZonesSpec
set_option linter.all false
section
namespace Go.Pw
def AQ.own(d:AQ)(k:Nat):Int:=d.turn/d.ts k
def AQ.place(d:AQ)(n:Int):(Int×Int×Int)×Int:=if d.ok then(match d.kOf n with|some k=>((d.tc k,d.th k,n-d.tf k),0)|none=>((0,0,0),1))else((0,0,0),10)
def AQ.angle(d:AQ)(n:Int):Int×Int×Int:=if d.ok then(match d.kOf n with|some k=>((d.to k+(n-d.tf k)*d.own k)%d.turn,d.own k,0)|none=>(0,0,1))else(0,0,10)
def AQ.wait(d:AQ)(n time:Int):Int×Int:=if(d.angle n).2.2≠0 then(0,(d.angle n).2.2)else if Oe time 0 1000000 then(((d.angle n).1-time)%d.turn,0)else(0,1)
end Go.Pw
end
section
namespace Go.Pw
def AQ.kindN(d:AQ)(m:Int):Int:=match d.kOf (m-1),d.kOf m with
 |some a,some b=>if d.tc b≠d.tc a then 2 else if d.th b≠d.th a then 1 else 0
 |_,_=>0
section
variable {d:AQ}
end
theorem Pq{d:AQ}(g:d.Good):1<=d.size/\d.size<=5120:=by
 have h1:=g.tf d.nt (Nat.le_refl _);have h2:=g.nt
 have h:1<=d.nt:=by
  unfold AQ.nt;have hp:=g.hp;have e:=g.z1;have h0:=g.z 0 (by omega);have hb:=jI d 1 d.zones.length (by omega);rw[N3,AQ.base,AQ.base]at hb
  calc 1=1*1:=rfl
   _<=d.cyls*d.heads.toNat:=Nat.mul_le_mul (by omega) hp
 unfold AQ.size;omega
end Go.Pw
end
