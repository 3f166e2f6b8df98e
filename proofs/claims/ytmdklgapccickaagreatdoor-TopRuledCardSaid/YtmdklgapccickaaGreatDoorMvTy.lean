/- A part of the proof. -/
import Derived.Test.YtmdklgapccickaaGreatDoorPgMvChcJ
import Derived.Test.YtmdklgapccickaaGreatDoorPkLaid
set_option linter.all false
namespace Go.Pw
def pU:Ty:=.str [.str [.int .i64,.int .i64],.int .i64]
def gk:Ty:=.str [ly,pU,.list (.int .i64),.int .i64,.int .i64]
def sS:Ty:=.str [.list (.int .i64),.list (.int .i64),.list (.int .i64)]
theorem RZ {cs:List D}(h:DT (.list (.list (.int .i64))) cs):∃nl l,cs=[.list nl (Gv l)]:=by
 cases h with|list _ nl xs h0 h1 h2 =>
 have:∃l,xs=Gv l:=by
  clear h0
  induction xs with
  |nil=>exact⟨[],rfl⟩
  |cons x xs ih =>
   obtain⟨l,rfl⟩:=ih (fun y hy=>h1 y (by simp[hy])) fun y hy=>h2 y (by simp[hy])
   obtain⟨b,n,hn⟩:=NB (h1 x (by simp))
   have:=h2 x (by simp)
   rw[hn] at this
   exact⟨(b,n)::l,by rw[this];rfl⟩
 obtain⟨l,rfl⟩:=this
 exact⟨nl,l,rfl⟩
theorem Vd {cs:List D}(h:DT ly cs):∃c,cs=Mx c:=by
 obtain⟨_,_,e1,h1,h⟩:=Cr h
 obtain⟨_,_,e2,h2,h⟩:=Cr h
 obtain⟨_,_,e3,h3,h⟩:=Cr h
 obtain⟨_,_,e4,h4,h⟩:=Cr h
 obtain⟨_,_,e5,h5,h⟩:=Cr h
 obtain⟨_,_,e6,h6,h⟩:=Cr h
 obtain rfl:=MG h
 obtain⟨n1,rfl⟩:=E6 h1
 obtain⟨n2,rfl⟩:=E6 h2
 obtain⟨n3,rfl⟩:=E6 h3
 obtain⟨n4,rfl⟩:=E6 h4
 obtain⟨nw,w,rfl⟩:=RZ h5
 obtain⟨nn,v,rfl⟩:=RZ h6
 subst e6 e5 e4 e3 e2
 exact⟨⟨n1,n2,n3,n4,nw,w,nn,v⟩,e1⟩
theorem Z_ {cs:List D}(h:DT pU cs):∃a b d,cs=[.int .i64 a,.int .i64 b,.int .i64 d]:=by
 obtain⟨_,_,e1,h1,h⟩:=Cr h
 obtain⟨_,_,e2,h2,h⟩:=Cr h
 obtain rfl:=MG h
 obtain⟨_,_,e3,h3,h1⟩:=Cr h1
 obtain⟨_,_,e4,h4,h1⟩:=Cr h1
 obtain rfl:=MG h1
 obtain⟨a,rfl⟩:=E6 h3
 obtain⟨b,rfl⟩:=E6 h4
 obtain⟨d,rfl⟩:=E6 h2
 subst e4 e3 e2
 exact⟨a,b,d,e1⟩
theorem Ve {x:D}(h:So gk x):∃c,x=Ib c:=by
 obtain⟨h,hx⟩:=h
 obtain⟨_,_,e1,h1,h⟩:=Cr h
 obtain⟨_,_,e2,h2,h⟩:=Cr h
 obtain⟨_,_,e3,h3,h⟩:=Cr h
 obtain⟨_,_,e4,h4,h⟩:=Cr h
 obtain⟨_,_,e5,h5,h⟩:=Cr h
 obtain rfl:=MG h
 obtain⟨c,rfl⟩:=Vd h1
 obtain⟨L,P,Q,rfl⟩:=Z_ h2
 obtain⟨nm,m,rfl⟩:=NB h3
 obtain⟨sd,rfl⟩:=E6 h4
 obtain⟨er,rfl⟩:=E6 h5
 subst e5 e4 e3 e2
 rw[e1] at hx
 exact⟨⟨c,L,P,Q,nm,m,sd,er⟩,hx⟩
end Go.Pw
