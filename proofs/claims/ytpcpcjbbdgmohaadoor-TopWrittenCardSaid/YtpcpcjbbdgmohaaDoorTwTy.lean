/- A part of the proof. -/
import Derived.Test.YtpcpcjbbdgmohaaDoorTwcJ
import Derived.Test.YtpcpcjbbdgmohaaDoorPwLaid
set_option linter.all false
namespace Go.Pw
def de:Ty:=.str [.str [.int .i64,.int .i64],.int .i64]
def ct:Ty:=.str [.list (.int .i64),.list (.int .i64)]
theorem S6 {x:D}(h:Me de x):∃L P Q,x=.agg [.int .i64 L,.int .i64 P,.int .i64 Q]:=by
 obtain⟨h,hx⟩:=h
 obtain⟨_,_,e1,h1,h⟩:=Cl h
 obtain⟨_,_,e2,h2,h⟩:=Cl h
 obtain rfl:=Jx h
 obtain⟨_,_,e3,h3,h1⟩:=Cl h1
 obtain⟨_,_,e4,h4,h1⟩:=Cl h1
 obtain rfl:=Jx h1
 obtain⟨a,rfl⟩:=Ex h3
 obtain⟨b,rfl⟩:=Ex h4
 obtain⟨d,rfl⟩:=Ex h2
 subst e4 e3 e2
 rw[e1] at hx
 exact⟨a,b,d,hx⟩
theorem S5 {x:D}(h:Me ct x):∃n1 l1 n2 l2,x=.agg [.list n1 (A4 l1),.list n2 (A4 l2)]:=by
 obtain⟨h,hx⟩:=h
 obtain⟨_,_,e1,h1,h⟩:=Cl h
 obtain⟨_,_,e2,h2,h⟩:=Cl h
 obtain rfl:=Jx h
 obtain⟨n1,l1,rfl⟩:=Kh h1
 obtain⟨n2,l2,rfl⟩:=Kh h2
 subst e2
 rw[e1] at hx
 exact⟨n1,l1,n2,l2,hx⟩
end Go.Pw
