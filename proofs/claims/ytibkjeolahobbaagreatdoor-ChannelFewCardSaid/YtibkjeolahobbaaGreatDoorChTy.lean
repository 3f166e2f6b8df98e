/- A part of the proof. -/
import Derived.Test.YtibkjeolahobbaaGreatDoorPgChcJ
import Derived.Test.YtibkjeolahobbaaGreatDoorPwLaid
set_option linter.all false
namespace Go.Pw
def o7:Ty:=.str [.str [.int .i64,.int .i64],.int .i64]
def Rt:Ty:=.str [mI,o7,.list (.int .i64),.int .i64,.int .i64]
def dQ:Ty:=.str [.list (.int .i64),.list (.int .i64),.list (.int .i64)]
theorem VB {cs:List D}(h:C5 mI cs):∃c,cs=MW c:=by
 obtain⟨_,_,e1,h1,h⟩:=B2 h
 obtain⟨_,_,e2,h2,h⟩:=B2 h
 obtain⟨_,_,e3,h3,h⟩:=B2 h
 obtain⟨_,_,e4,h4,h⟩:=B2 h
 obtain⟨_,_,e5,h5,h⟩:=B2 h
 obtain⟨_,_,e6,h6,h⟩:=B2 h
 obtain rfl:=Iu h
 obtain⟨n1,rfl⟩:=EO h1
 obtain⟨n2,rfl⟩:=EO h2
 obtain⟨n3,rfl⟩:=EO h3
 obtain⟨n4,rfl⟩:=EO h4
 obtain⟨nw,w,rfl⟩:=Ql h5
 obtain⟨nn,v,rfl⟩:=Ql h6
 subst e6 e5 e4 e3 e2
 exact⟨⟨n1,n2,n3,n4,nw,w,nn,v⟩,e1⟩
theorem Z1 {cs:List D}(h:C5 o7 cs):∃a b d,cs=[.int .i64 a,.int .i64 b,.int .i64 d]:=by
 obtain⟨_,_,e1,h1,h⟩:=B2 h
 obtain⟨_,_,e2,h2,h⟩:=B2 h
 obtain rfl:=Iu h
 obtain⟨_,_,e3,h3,h1⟩:=B2 h1
 obtain⟨_,_,e4,h4,h1⟩:=B2 h1
 obtain rfl:=Iu h1
 obtain⟨a,rfl⟩:=EO h3
 obtain⟨b,rfl⟩:=EO h4
 obtain⟨d,rfl⟩:=EO h2
 subst e4 e3 e2
 exact⟨a,b,d,e1⟩
theorem Kj {x:D}(h:SD Rt x):∃c,x=Dg c:=by
 obtain⟨h,hx⟩:=h
 obtain⟨_,_,e1,h1,h⟩:=B2 h
 obtain⟨_,_,e2,h2,h⟩:=B2 h
 obtain⟨_,_,e3,h3,h⟩:=B2 h
 obtain⟨_,_,e4,h4,h⟩:=B2 h
 obtain⟨_,_,e5,h5,h⟩:=B2 h
 obtain rfl:=Iu h
 obtain⟨c,rfl⟩:=VB h1
 obtain⟨L,P,Q,rfl⟩:=Z1 h2
 obtain⟨nm,m,rfl⟩:=HL h3
 obtain⟨sd,rfl⟩:=EO h4
 obtain⟨er,rfl⟩:=EO h5
 subst e5 e4 e3 e2
 rw[e1] at hx
 exact⟨⟨c,L,P,Q,nm,m,sd,er⟩,hx⟩
theorem Qk {x:D}(h:SD dQ x):∃n1 l1 n2 l2 n3 l3,x=.agg [.list n1 (Am l1),.list n2 (Am l2),.list n3 (Am l3)]:=by
 obtain⟨h,hx⟩:=h
 obtain⟨_,_,e1,h1,h⟩:=B2 h
 obtain⟨_,_,e2,h2,h⟩:=B2 h
 obtain⟨_,_,e3,h3,h⟩:=B2 h
 obtain rfl:=Iu h
 obtain⟨n1,l1,rfl⟩:=HL h1
 obtain⟨n2,l2,rfl⟩:=HL h2
 obtain⟨n3,l3,rfl⟩:=HL h3
 subst e3 e2
 rw[e1] at hx
 exact⟨n1,l1,n2,l2,n3,l3,hx⟩
end Go.Pw
