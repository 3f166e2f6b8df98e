/- A part of the proof. -/
import Derived.Test.YtibkjeolahobbaaGreatDoorPgChcJ
import Derived.Test.YtibkjeolahobbaaGreatDoorPwLaid
set_option linter.all false
namespace Go.Pw
def mO:Ty:=.str [.str [.int .i64,.int .i64],.int .i64]
def ej:Ty:=.str [jq,mO,.list (.int .i64),.int .i64,.int .i64]
def oY:Ty:=.str [.list (.int .i64),.list (.int .i64),.list (.int .i64)]
theorem T_ {cs:List D}(h:Cw jq cs):∃c,cs=L2 c:=by
 obtain⟨_,_,e1,h1,h⟩:=CG h
 obtain⟨_,_,e2,h2,h⟩:=CG h
 obtain⟨_,_,e3,h3,h⟩:=CG h
 obtain⟨_,_,e4,h4,h⟩:=CG h
 obtain⟨_,_,e5,h5,h⟩:=CG h
 obtain⟨_,_,e6,h6,h⟩:=CG h
 obtain rfl:=LS h
 obtain⟨n1,rfl⟩:=D9 h1
 obtain⟨n2,rfl⟩:=D9 h2
 obtain⟨n3,rfl⟩:=D9 h3
 obtain⟨n4,rfl⟩:=D9 h4
 obtain⟨nw,w,rfl⟩:=ME h5
 obtain⟨nn,v,rfl⟩:=ME h6
 subst e6 e5 e4 e3 e2
 exact⟨⟨n1,n2,n3,n4,nw,w,nn,v⟩,e1⟩
theorem Yg {cs:List D}(h:Cw mO cs):∃a b d,cs=[.int .i64 a,.int .i64 b,.int .i64 d]:=by
 obtain⟨_,_,e1,h1,h⟩:=CG h
 obtain⟨_,_,e2,h2,h⟩:=CG h
 obtain rfl:=LS h
 obtain⟨_,_,e3,h3,h1⟩:=CG h1
 obtain⟨_,_,e4,h4,h1⟩:=CG h1
 obtain rfl:=LS h1
 obtain⟨a,rfl⟩:=D9 h3
 obtain⟨b,rfl⟩:=D9 h4
 obtain⟨d,rfl⟩:=D9 h2
 subst e4 e3 e2
 exact⟨a,b,d,e1⟩
theorem UA {x:D}(h:Oo ej x):∃c,x=Fj c:=by
 obtain⟨h,hx⟩:=h
 obtain⟨_,_,e1,h1,h⟩:=CG h
 obtain⟨_,_,e2,h2,h⟩:=CG h
 obtain⟨_,_,e3,h3,h⟩:=CG h
 obtain⟨_,_,e4,h4,h⟩:=CG h
 obtain⟨_,_,e5,h5,h⟩:=CG h
 obtain rfl:=LS h
 obtain⟨c,rfl⟩:=T_ h1
 obtain⟨L,P,Q,rfl⟩:=Yg h2
 obtain⟨nm,m,rfl⟩:=MF h3
 obtain⟨sd,rfl⟩:=D9 h4
 obtain⟨er,rfl⟩:=D9 h5
 subst e5 e4 e3 e2
 rw[e1] at hx
 exact⟨⟨c,L,P,Q,nm,m,sd,er⟩,hx⟩
end Go.Pw
