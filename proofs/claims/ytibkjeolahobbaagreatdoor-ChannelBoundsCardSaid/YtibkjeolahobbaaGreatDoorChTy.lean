/- A part of the proof. -/
import Derived.Test.YtibkjeolahobbaaGreatDoorPgChcJ
import Derived.Test.YtibkjeolahobbaaGreatDoorPwLaid
set_option linter.all false
namespace Go.Pw
def oe:Ty:=.str [.str [.int .i64,.int .i64],.int .i64]
def Wc:Ty:=.str [lj,oe,.list (.int .i64),.int .i64,.int .i64]
def qM:Ty:=.str [.list (.int .i64),.list (.int .i64),.list (.int .i64)]
theorem Ux {cs:List D}(h:C2 lj cs):∃c,cs=MI c:=by
 obtain⟨_,_,e1,h1,h⟩:=CH h
 obtain⟨_,_,e2,h2,h⟩:=CH h
 obtain⟨_,_,e3,h3,h⟩:=CH h
 obtain⟨_,_,e4,h4,h⟩:=CH h
 obtain⟨_,_,e5,h5,h⟩:=CH h
 obtain⟨_,_,e6,h6,h⟩:=CH h
 obtain rfl:=Le h
 obtain⟨n1,rfl⟩:=EM h1
 obtain⟨n2,rfl⟩:=EM h2
 obtain⟨n3,rfl⟩:=EM h3
 obtain⟨n4,rfl⟩:=EM h4
 obtain⟨nw,w,rfl⟩:=MY h5
 obtain⟨nn,v,rfl⟩:=MY h6
 subst e6 e5 e4 e3 e2
 exact⟨⟨n1,n2,n3,n4,nw,w,nn,v⟩,e1⟩
theorem Zj {cs:List D}(h:C2 oe cs):∃a b d,cs=[.int .i64 a,.int .i64 b,.int .i64 d]:=by
 obtain⟨_,_,e1,h1,h⟩:=CH h
 obtain⟨_,_,e2,h2,h⟩:=CH h
 obtain rfl:=Le h
 obtain⟨_,_,e3,h3,h1⟩:=CH h1
 obtain⟨_,_,e4,h4,h1⟩:=CH h1
 obtain rfl:=Le h1
 obtain⟨a,rfl⟩:=EM h3
 obtain⟨b,rfl⟩:=EM h4
 obtain⟨d,rfl⟩:=EM h2
 subst e4 e3 e2
 exact⟨a,b,d,e1⟩
theorem PP {x:D}(h:PK Wc x):∃c,x=Dn c:=by
 obtain⟨h,hx⟩:=h
 obtain⟨_,_,e1,h1,h⟩:=CH h
 obtain⟨_,_,e2,h2,h⟩:=CH h
 obtain⟨_,_,e3,h3,h⟩:=CH h
 obtain⟨_,_,e4,h4,h⟩:=CH h
 obtain⟨_,_,e5,h5,h⟩:=CH h
 obtain rfl:=Le h
 obtain⟨c,rfl⟩:=Ux h1
 obtain⟨L,P,Q,rfl⟩:=Zj h2
 obtain⟨nm,m,rfl⟩:=MZ h3
 obtain⟨sd,rfl⟩:=EM h4
 obtain⟨er,rfl⟩:=EM h5
 subst e5 e4 e3 e2
 rw[e1] at hx
 exact⟨⟨c,L,P,Q,nm,m,sd,er⟩,hx⟩
end Go.Pw
