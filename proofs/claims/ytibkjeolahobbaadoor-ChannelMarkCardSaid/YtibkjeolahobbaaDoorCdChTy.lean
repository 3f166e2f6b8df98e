/- A part of the proof. -/
import Derived.Test.YtibkjeolahobbaaDoorPgCdChcJ
import Derived.Test.YtibkjeolahobbaaDoorPwLaid
set_option linter.all false
namespace Go.Pw
def ly:Ty:=.str [.str [.int .i64,.int .i64],.int .i64]
def Qs:Ty:=.str [jd,ly,.list (.int .i64),.int .i64,.int .i64]
def jp:Ty:=.str [.list (.int .i64),.list (.int .i64),.list (.int .i64)]
theorem UE {cs:List D}(h:C1 jd cs):∃c,cs=L2 c:=by
 obtain⟨_,_,e1,h1,h⟩:=Ba h
 obtain⟨_,_,e2,h2,h⟩:=Ba h
 obtain⟨_,_,e3,h3,h⟩:=Ba h
 obtain⟨_,_,e4,h4,h⟩:=Ba h
 obtain⟨_,_,e5,h5,h⟩:=Ba h
 obtain⟨_,_,e6,h6,h⟩:=Ba h
 obtain rfl:=GC h
 obtain⟨n1,rfl⟩:=DP h1
 obtain⟨n2,rfl⟩:=DP h2
 obtain⟨n3,rfl⟩:=DP h3
 obtain⟨n4,rfl⟩:=DP h4
 obtain⟨nw,w,rfl⟩:=Pz h5
 obtain⟨nn,v,rfl⟩:=Pz h6
 subst e6 e5 e4 e3 e2
 exact⟨⟨n1,n2,n3,n4,nw,w,nn,v⟩,e1⟩
theorem Yq {cs:List D}(h:C1 ly cs):∃a b d,cs=[.int .i64 a,.int .i64 b,.int .i64 d]:=by
 obtain⟨_,_,e1,h1,h⟩:=Ba h
 obtain⟨_,_,e2,h2,h⟩:=Ba h
 obtain rfl:=GC h
 obtain⟨_,_,e3,h3,h1⟩:=Ba h1
 obtain⟨_,_,e4,h4,h1⟩:=Ba h1
 obtain rfl:=GC h1
 obtain⟨a,rfl⟩:=DP h3
 obtain⟨b,rfl⟩:=DP h4
 obtain⟨d,rfl⟩:=DP h2
 subst e4 e3 e2
 exact⟨a,b,d,e1⟩
theorem KN {x:D}(h:Mj Qs x):∃c,x=FG c:=by
 obtain⟨h,hx⟩:=h
 obtain⟨_,_,e1,h1,h⟩:=Ba h
 obtain⟨_,_,e2,h2,h⟩:=Ba h
 obtain⟨_,_,e3,h3,h⟩:=Ba h
 obtain⟨_,_,e4,h4,h⟩:=Ba h
 obtain⟨_,_,e5,h5,h⟩:=Ba h
 obtain rfl:=GC h
 obtain⟨c,rfl⟩:=UE h1
 obtain⟨L,P,Q,rfl⟩:=Yq h2
 obtain⟨nm,m,rfl⟩:=Dh h3
 obtain⟨sd,rfl⟩:=DP h4
 obtain⟨er,rfl⟩:=DP h5
 subst e5 e4 e3 e2
 rw[e1] at hx
 exact⟨⟨c,L,P,Q,nm,m,sd,er⟩,hx⟩
theorem WN {x:D}(h:Mj jp x):∃n1 l1 n2 l2 n3 l3,x=.agg [.list n1 (Al l1),.list n2 (Al l2),.list n3 (Al l3)]:=by
 obtain⟨h,hx⟩:=h
 obtain⟨_,_,e1,h1,h⟩:=Ba h
 obtain⟨_,_,e2,h2,h⟩:=Ba h
 obtain⟨_,_,e3,h3,h⟩:=Ba h
 obtain rfl:=GC h
 obtain⟨n1,l1,rfl⟩:=Dh h1
 obtain⟨n2,l2,rfl⟩:=Dh h2
 obtain⟨n3,l3,rfl⟩:=Dh h3
 subst e3 e2
 rw[e1] at hx
 exact⟨n1,l1,n2,l2,n3,l3,hx⟩
end Go.Pw
