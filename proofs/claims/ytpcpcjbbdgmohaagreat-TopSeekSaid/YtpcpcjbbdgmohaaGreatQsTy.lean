/- A part of the proof. -/
import Derived.Test.YtpcpcjbbdgmohaaGreatPkLaw
import Derived.Test.YtpcpcjbbdgmohaaGreatPgQsO
set_option linter.all false
namespace Go.Pw
def mm:Ty:=.str [.int .i64,.int .i64]
def jD:Ty:=.str [.int .i64,.int .i64,.list (.str [.int .i64,.int .i64]),.int .i64,.int .i64,.str [.int .i64,.int .i64],.str [.int .i64,.int .i64]]
def kw:Ty:=.str [.int .i64,.int .i64,.int .i64,.int .i64,.int .i64,.int .i64]
def lS:Ty:=.str [.int .i64,.int .i64,.int .i64,.int .i64,.bool]
def jv:Ty:=.str [jD,.int .i64,.int .i64,.list mm,.list lS]
def jh:Ty:=.str [.list (.int .i64),.list (.int .i64),.list (.int .i64),.int .i64]
theorem Mr {cs:List D}(h:Cw mm cs):∃a b,cs=[.int .i64 a,.int .i64 b]:=by
 obtain⟨_,_,e1,h1,h⟩:=A8 h
 obtain⟨_,_,e2,h2,h⟩:=A8 h
 obtain rfl:=Gi h
 obtain⟨n1,rfl⟩:=CQ h1
 obtain⟨n2,rfl⟩:=CQ h2
 subst e2
 exact⟨n1,n2,e1⟩
theorem W2 {cs:List D}(h:Cw .bool cs):∃b,cs=[.bool b]:=by cases h with|bool b=>exact⟨b,rfl⟩
theorem U2 {cs:List D}(h:Cw jD cs):∃s,cs=WP s:=by
 obtain⟨_,_,e1,h1,h⟩:=A8 h
 obtain⟨_,_,e2,h2,h⟩:=A8 h
 obtain⟨_,_,e3,h3,h⟩:=A8 h
 obtain⟨_,_,e4,h4,h⟩:=A8 h
 obtain⟨_,_,e5,h5,h⟩:=A8 h
 obtain⟨_,_,e6,h6,h⟩:=A8 h
 obtain⟨_,_,e7,h7,h⟩:=A8 h
 obtain rfl:=Gi h
 obtain⟨n1,rfl⟩:=CQ h1
 obtain⟨n2,rfl⟩:=CQ h2
 obtain⟨nw,w,rfl⟩:=Ix bh (fun cs h=>by obtain⟨a,b,rfl⟩:=Mr h;exact⟨(a,b),rfl⟩) h3
 obtain⟨n4,rfl⟩:=CQ h4
 obtain⟨n5,rfl⟩:=CQ h5
 obtain⟨a,b,rfl⟩:=Mr h6
 obtain⟨c,d,rfl⟩:=Mr h7
 subst e7 e6 e5 e4 e3 e2
 exact⟨⟨n1,n2,nw,w,n4,n5,a,b,c,d⟩,e1⟩
theorem ZI {cs:List D}(h:Cw lS cs):∃r:Kz,cs=gA r:=by
 obtain⟨_,_,e1,h1,h⟩:=A8 h
 obtain⟨_,_,e2,h2,h⟩:=A8 h
 obtain⟨_,_,e3,h3,h⟩:=A8 h
 obtain⟨_,_,e4,h4,h⟩:=A8 h
 obtain⟨_,_,e5,h5,h⟩:=A8 h
 obtain rfl:=Gi h
 obtain⟨n1,rfl⟩:=CQ h1
 obtain⟨n2,rfl⟩:=CQ h2
 obtain⟨n3,rfl⟩:=CQ h3
 obtain⟨n4,rfl⟩:=CQ h4
 obtain⟨b,rfl⟩:=W2 h5
 subst e5 e4 e3 e2
 exact⟨⟨n1,n2,n3,n4,b⟩,e1⟩
theorem ZK {x:D}(h:O4 kw x):∃a,x=FW a:=by
 obtain⟨h,hx⟩:=h
 obtain⟨_,_,e1,h1,h⟩:=A8 h
 obtain⟨_,_,e2,h2,h⟩:=A8 h
 obtain⟨_,_,e3,h3,h⟩:=A8 h
 obtain⟨_,_,e4,h4,h⟩:=A8 h
 obtain⟨_,_,e5,h5,h⟩:=A8 h
 obtain⟨_,_,e6,h6,h⟩:=A8 h
 obtain rfl:=Gi h
 obtain⟨n1,rfl⟩:=CQ h1
 obtain⟨n2,rfl⟩:=CQ h2
 obtain⟨n3,rfl⟩:=CQ h3
 obtain⟨n4,rfl⟩:=CQ h4
 obtain⟨n5,rfl⟩:=CQ h5
 obtain⟨n6,rfl⟩:=CQ h6
 subst e6 e5 e4 e3 e2
 rw[e1] at hx
 exact⟨⟨n1,n2,n3,n4,n5,n6⟩,hx⟩
theorem ZJ {x:D}(h:O4 jv x):∃q,x=Hy q:=by
 obtain⟨h,hx⟩:=h
 obtain⟨_,_,e1,h1,h⟩:=A8 h
 obtain⟨_,_,e2,h2,h⟩:=A8 h
 obtain⟨_,_,e3,h3,h⟩:=A8 h
 obtain⟨_,_,e4,h4,h⟩:=A8 h
 obtain⟨_,_,e5,h5,h⟩:=A8 h
 obtain rfl:=Gi h
 obtain⟨d,rfl⟩:=U2 h1
 obtain⟨c,rfl⟩:=CQ h2
 obtain⟨p,rfl⟩:=CQ h3
 obtain⟨ns,s,rfl⟩:=Ix bh (fun cs h=>by obtain⟨a,b,rfl⟩:=Mr h;exact⟨(a,b),rfl⟩) h4
 obtain⟨nr,r,rfl⟩:=Ix f_ (fun cs h=>by obtain⟨a,rfl⟩:=ZI h;exact⟨a,rfl⟩) h5
 subst e5 e4 e3 e2
 rw[e1] at hx
 exact⟨⟨d,c,p,ns,s,nr,r⟩,hx⟩
theorem ZH {x:D}(h:O4 jh x):∃no ord nr runs nk ks K,x=ji no ord nr runs nk ks K:=by
 obtain⟨h,hx⟩:=h
 obtain⟨_,_,e1,h1,h⟩:=A8 h
 obtain⟨_,_,e2,h2,h⟩:=A8 h
 obtain⟨_,_,e3,h3,h⟩:=A8 h
 obtain⟨_,_,e4,h4,h⟩:=A8 h
 obtain rfl:=Gi h
 obtain⟨n1,l1,rfl⟩:=MN h1
 obtain⟨n2,l2,rfl⟩:=MN h2
 obtain⟨n3,l3,rfl⟩:=MN h3
 obtain⟨K,rfl⟩:=CQ h4
 subst e4 e3 e2
 rw[e1] at hx
 exact⟨n1,l1,n2,l2,n3,l3,K,hx⟩
end Go.Pw
