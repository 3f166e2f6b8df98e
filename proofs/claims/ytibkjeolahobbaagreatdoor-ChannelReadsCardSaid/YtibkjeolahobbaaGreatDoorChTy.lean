/- A part of the proof. -/
import Derived.Test.YtibkjeolahobbaaGreatDoorPgChcJ
import Derived.Test.YtibkjeolahobbaaGreatDoorPwLaid
set_option linter.all false
namespace Go.Pw
def qJ:Ty:=.str [.str [.int .i64,.int .i64],.int .i64]
def jK:Ty:=.str [nW,qJ,.list (.int .i64),.int .i64,.int .i64]
def rm:Ty:=.str [.list (.int .i64),.list (.int .i64),.list (.int .i64)]
theorem WW {cs:List D}(h:DC nW cs):∃c,cs=M_ c:=by
 obtain⟨_,_,e1,h1,h⟩:=CB h
 obtain⟨_,_,e2,h2,h⟩:=CB h
 obtain⟨_,_,e3,h3,h⟩:=CB h
 obtain⟨_,_,e4,h4,h⟩:=CB h
 obtain⟨_,_,e5,h5,h⟩:=CB h
 obtain⟨_,_,e6,h6,h⟩:=CB h
 obtain rfl:=I7 h
 obtain⟨n1,rfl⟩:=EO h1
 obtain⟨n2,rfl⟩:=EO h2
 obtain⟨n3,rfl⟩:=EO h3
 obtain⟨n4,rfl⟩:=EO h4
 obtain⟨nw,w,rfl⟩:=Rn h5
 obtain⟨nn,v,rfl⟩:=Rn h6
 subst e6 e5 e4 e3 e2
 exact⟨⟨n1,n2,n3,n4,nw,w,nn,v⟩,e1⟩
theorem bZ {cs:List D}(h:DC qJ cs):∃a b d,cs=[.int .i64 a,.int .i64 b,.int .i64 d]:=by
 obtain⟨_,_,e1,h1,h⟩:=CB h
 obtain⟨_,_,e2,h2,h⟩:=CB h
 obtain rfl:=I7 h
 obtain⟨_,_,e3,h3,h1⟩:=CB h1
 obtain⟨_,_,e4,h4,h1⟩:=CB h1
 obtain rfl:=I7 h1
 obtain⟨a,rfl⟩:=EO h3
 obtain⟨b,rfl⟩:=EO h4
 obtain⟨d,rfl⟩:=EO h2
 subst e4 e3 e2
 exact⟨a,b,d,e1⟩
theorem WX {x:D}(h:TR jK x):∃c,x=DX c:=by
 obtain⟨h,hx⟩:=h
 obtain⟨_,_,e1,h1,h⟩:=CB h
 obtain⟨_,_,e2,h2,h⟩:=CB h
 obtain⟨_,_,e3,h3,h⟩:=CB h
 obtain⟨_,_,e4,h4,h⟩:=CB h
 obtain⟨_,_,e5,h5,h⟩:=CB h
 obtain rfl:=I7 h
 obtain⟨c,rfl⟩:=WW h1
 obtain⟨L,P,Q,rfl⟩:=bZ h2
 obtain⟨nm,m,rfl⟩:=Jv h3
 obtain⟨sd,rfl⟩:=EO h4
 obtain⟨er,rfl⟩:=EO h5
 subst e5 e4 e3 e2
 rw[e1] at hx
 exact⟨⟨c,L,P,Q,nm,m,sd,er⟩,hx⟩
end Go.Pw
