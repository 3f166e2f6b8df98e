/- A part of the proof. -/
import Derived.Test.YtibkjeolahobbaaGreatDoorPgChcJ
import Derived.Test.YtibkjeolahobbaaGreatDoorPwLaid
set_option linter.all false
namespace Go.Pw
def lM:Ty:=.str [.str [.int .i64,.int .i64],.int .i64]
def dq:Ty:=.str [jL,lM,.list (.int .i64),.int .i64,.int .i64]
def jW:Ty:=.str [.list (.int .i64),.list (.int .i64),.list (.int .i64)]
theorem Tb {cs:List D} (h:Cr jL cs):∃c,cs=Lf c:=by
 obtain⟨_,_,e1,h1,h⟩:=Bq h
 obtain⟨_,_,e2,h2,h⟩:=Bq h
 obtain⟨_,_,e3,h3,h⟩:=Bq h
 obtain⟨_,_,e4,h4,h⟩:=Bq h
 obtain⟨_,_,e5,h5,h⟩:=Bq h
 obtain⟨_,_,e6,h6,h⟩:=Bq h
 obtain rfl:=H7 h
 obtain⟨n1,rfl⟩:=Dy h1
 obtain⟨n2,rfl⟩:=Dy h2
 obtain⟨n3,rfl⟩:=Dy h3
 obtain⟨n4,rfl⟩:=Dy h4
 obtain⟨nw,w,rfl⟩:=PM h5
 obtain⟨nn,v,rfl⟩:=PM h6
 subst e6 e5 e4 e3 e2
 exact⟨⟨n1,n2,n3,n4,nw,w,nn,v⟩,e1⟩
theorem YC {cs:List D} (h:Cr lM cs):∃a b d,cs=[.int .i64 a,.int .i64 b,.int .i64 d]:=by
 obtain⟨_,_,e1,h1,h⟩:=Bq h
 obtain⟨_,_,e2,h2,h⟩:=Bq h
 obtain rfl:=H7 h
 obtain⟨_,_,e3,h3,h1⟩:=Bq h1
 obtain⟨_,_,e4,h4,h1⟩:=Bq h1
 obtain rfl:=H7 h1
 obtain⟨a,rfl⟩:=Dy h3
 obtain⟨b,rfl⟩:=Dy h4
 obtain⟨d,rfl⟩:=Dy h2
 subst e4 e3 e2
 exact⟨a,b,d,e1⟩
theorem Tc {x:D} (h:Qh dq x):∃c,x=FT c:=by
 obtain⟨h,hx⟩:=h
 obtain⟨_,_,e1,h1,h⟩:=Bq h
 obtain⟨_,_,e2,h2,h⟩:=Bq h
 obtain⟨_,_,e3,h3,h⟩:=Bq h
 obtain⟨_,_,e4,h4,h⟩:=Bq h
 obtain⟨_,_,e5,h5,h⟩:=Bq h
 obtain rfl:=H7 h
 obtain⟨c,rfl⟩:=Tb h1
 obtain⟨L,P,Q,rfl⟩:=YC h2
 obtain⟨nm,m,rfl⟩:=Gs h3
 obtain⟨sd,rfl⟩:=Dy h4
 obtain⟨er,rfl⟩:=Dy h5
 subst e5 e4 e3 e2
 rw [e1] at hx
 exact⟨⟨c,L,P,Q,nm,m,sd,er⟩,hx⟩
theorem Vj {x:D} (h:Qh jW x):∃n1 l1 n2 l2 n3 l3,x=.agg [.list n1 (Ai l1),.list n2 (Ai l2),.list n3 (Ai l3)]:=by
 obtain⟨h,hx⟩:=h
 obtain⟨_,_,e1,h1,h⟩:=Bq h
 obtain⟨_,_,e2,h2,h⟩:=Bq h
 obtain⟨_,_,e3,h3,h⟩:=Bq h
 obtain rfl:=H7 h
 obtain⟨n1,l1,rfl⟩:=Gs h1
 obtain⟨n2,l2,rfl⟩:=Gs h2
 obtain⟨n3,l3,rfl⟩:=Gs h3
 subst e3 e2
 rw [e1] at hx
 exact⟨n1,l1,n2,l2,n3,l3,hx⟩
end Go.Pw
