/- A part of the proof. -/
import Derived.Test.YtibkjeolahobbaaGreatDoorPgChcJ
import Derived.Test.YtibkjeolahobbaaGreatDoorPwLaid
set_option linter.all false
namespace Go.Pw
def qm:Ty:=.str [.str [.int .i64,.int .i64],.int .i64]
def iZ:Ty:=.str [ng,qm,.list (.int .i64),.int .i64,.int .i64]
def sY:Ty:=.str [.list (.int .i64),.list (.int .i64),.list (.int .i64)]
theorem VN {cs:List D}(h:CQ ng cs):∃c,cs=MA c:=by
 obtain⟨_,_,e1,h1,h⟩:=Bi h
 obtain⟨_,_,e2,h2,h⟩:=Bi h
 obtain⟨_,_,e3,h3,h⟩:=Bi h
 obtain⟨_,_,e4,h4,h⟩:=Bi h
 obtain⟨_,_,e5,h5,h⟩:=Bi h
 obtain⟨_,_,e6,h6,h⟩:=Bi h
 obtain rfl:=LN h
 obtain⟨n1,rfl⟩:=Da h1
 obtain⟨n2,rfl⟩:=Da h2
 obtain⟨n3,rfl⟩:=Da h3
 obtain⟨n4,rfl⟩:=Da h4
 obtain⟨nw,w,rfl⟩:=MT h5
 obtain⟨nn,v,rfl⟩:=MT h6
 subst e6 e5 e4 e3 e2
 exact⟨⟨n1,n2,n3,n4,nw,w,nn,v⟩,e1⟩
theorem aH {cs:List D}(h:CQ qm cs):∃a b d,cs=[.int .i64 a,.int .i64 b,.int .i64 d]:=by
 obtain⟨_,_,e1,h1,h⟩:=Bi h
 obtain⟨_,_,e2,h2,h⟩:=Bi h
 obtain rfl:=LN h
 obtain⟨_,_,e3,h3,h1⟩:=Bi h1
 obtain⟨_,_,e4,h4,h1⟩:=Bi h1
 obtain rfl:=LN h1
 obtain⟨a,rfl⟩:=Da h3
 obtain⟨b,rfl⟩:=Da h4
 obtain⟨d,rfl⟩:=Da h2
 subst e4 e3 e2
 exact⟨a,b,d,e1⟩
theorem VO {x:D}(h:SQ iZ x):∃c,x=DJ c:=by
 obtain⟨h,hx⟩:=h
 obtain⟨_,_,e1,h1,h⟩:=Bi h
 obtain⟨_,_,e2,h2,h⟩:=Bi h
 obtain⟨_,_,e3,h3,h⟩:=Bi h
 obtain⟨_,_,e4,h4,h⟩:=Bi h
 obtain⟨_,_,e5,h5,h⟩:=Bi h
 obtain rfl:=LN h
 obtain⟨c,rfl⟩:=VN h1
 obtain⟨L,P,Q,rfl⟩:=aH h2
 obtain⟨nm,m,rfl⟩:=Qj h3
 obtain⟨sd,rfl⟩:=Da h4
 obtain⟨er,rfl⟩:=Da h5
 subst e5 e4 e3 e2
 rw[e1] at hx
 exact⟨⟨c,L,P,Q,nm,m,sd,er⟩,hx⟩
end Go.Pw
