/- A part of the proof. -/
import Derived.Test.YtpcpcjbbdgmohaaPkLaw
import Derived.Test.YtpcpcjbbdgmohaaTsLgB
import Derived.Test.YtpcpcjbbdgmohaaPgTsC
set_option linter.all false
namespace Go.Pw
def iH:Ty:=.str [.int .i64,.int .i64]
def VJ:Ty:=.str [.int .i64,.list (.str [.int .i64,.int .i64])]
def VL:Ty:=.str [.int .i64,.int .i64,.int .i64,.int .i64,.int .i64]
def Z6:Ty:=.list (.str [.int .i64,.int .i64])
theorem Pq {cs:List D}(h:Dd (.str [.int .i64,.int .i64]) cs):∃x y,cs=[.int .i64 x,.int .i64 y]:=by
 obtain⟨_,_,e1,h1,h⟩:=EP h
 obtain⟨_,_,e2,h2,h⟩:=EP h
 obtain rfl:=Mf h
 obtain⟨n1,rfl⟩:=FT h1
 obtain⟨n2,rfl⟩:=FT h2
 subst e2
 exact⟨n1,n2,e1⟩
theorem Rt {x:D}(h:M5 VJ x):∃c,x=HN c:=by
 obtain⟨h,hx⟩:=h
 obtain⟨_,_,e1,h1,h⟩:=EP h
 obtain⟨_,_,e2,h2,h⟩:=EP h
 obtain rfl:=Mf h
 obtain⟨n1,rfl⟩:=FT h1
 obtain⟨nl,l,rfl⟩:=OB Nh (fun cs h=>by obtain⟨a,b,rfl⟩:=Pq h;exact⟨⟨a,b⟩,rfl⟩) h2
 subst e2
 rw[e1] at hx
 exact⟨⟨n1,nl,l⟩,hx⟩
theorem Ru {x:D}(h:M5 VL x):∃b,x=Fv b:=by
 obtain⟨h,hx⟩:=h
 obtain⟨_,_,e1,h1,h⟩:=EP h
 obtain⟨_,_,e2,h2,h⟩:=EP h
 obtain⟨_,_,e3,h3,h⟩:=EP h
 obtain⟨_,_,e4,h4,h⟩:=EP h
 obtain⟨_,_,e5,h5,h⟩:=EP h
 obtain rfl:=Mf h
 obtain⟨n1,rfl⟩:=FT h1
 obtain⟨n2,rfl⟩:=FT h2
 obtain⟨n3,rfl⟩:=FT h3
 obtain⟨n4,rfl⟩:=FT h4
 obtain⟨n5,rfl⟩:=FT h5
 subst e5 e4 e3 e2
 rw[e1] at hx
 exact⟨⟨n1,n2,n3,n4,n5⟩,hx⟩
theorem Tr {x:D}(h:M5 Z6 x):∃nd ds,x=.list nd (Oy ds):=by
 obtain⟨h,hx⟩:=h
 obtain⟨nl,l,hn⟩:=OB cx (fun cs h=>by obtain⟨a,b,rfl⟩:=Pq h;exact⟨⟨a,b⟩,rfl⟩) h
 rw[hn] at hx
 exact⟨nl,l,hx⟩
end Go.Pw
