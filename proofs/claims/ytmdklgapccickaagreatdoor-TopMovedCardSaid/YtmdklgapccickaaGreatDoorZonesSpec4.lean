/- Part. -/
import Derived.Test.YtmdklgapccickaaGreatDoorPgZonesSpec2
set_option linter.all false
namespace Go.Pw
def AQ.pl(d:AQ)(m:Int):Int×Int×Int:=match d.kOf m with|some k=>(d.tc k,d.th k,m-d.tf k)|none=>(0,0,0)
section
variable {d:AQ}
theorem nK(c:Nat):∀h,h<=d.heads.toNat->d.tf (c*d.heads.toNat+h)=d.tf (c*d.heads.toNat)+h*(d.secs[c]?.getD 0)
 |0,_=>by simp
 |h+1,hh=>by
  rw[←Nat.add_assoc,AQ.tf,nK c h (by omega),xC c h (by omega),show((h+1:Nat):Int)=(h:Int)+1 by omega,Int.add_mul];omega
theorem xr(c:Nat):d.tf ((c+1)*d.heads.toNat)=d.tf (c*d.heads.toNat)+d.heads.toNat * (d.secs[c]?.getD 0):=by
 rw[Nat.succ_mul];exact nK c _ (Nat.le_refl _)
theorem h_{i:Nat}(hi:i<d.zones.length):∀j,j<=(d.zones[i]?.getD default).1.toNat->d.tf ((d.base i+j)*d.heads.toNat)=d.tf (d.base i*d.heads.toNat)+j*((d.zones[i]?.getD default).2*d.heads.toNat)
 |0,_=>by simp
 |j+1,hj=>by
  rw[←Nat.add_assoc,xr,h_ hi j (by omega),iI d i j hi (by omega),Option.getD_some,show((j+1:Nat):Int)=(j:Int)+1 by omega,Int.add_mul,Int.mul_comm (d.heads.toNat:Int)];omega
end
def AQ.kinds(d:AQ)(a:Int)(m:Nat):List Int:=(List.range m).map fun(i:Nat)=>d.kindN (a+1+(i:Int))
end Go.Pw
