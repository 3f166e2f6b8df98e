/- A part of the proof. -/
import Derived.Test.YtpcpcjbbdgmohaaDoorPkLaw
import Derived.Test.YtpcpcjbbdgmohaaDoorPwLaid
import Derived.Test.YtpcpcjbbdgmohaaDoorPgZonesSpec
set_option linter.all false
namespace Go.Pw
theorem G8 {T:Ty}{α:Type}(f:α->D) (hf:∀cs,C7 T cs->∃a,T.val cs=f a) {cs:List D}(h:C7 (.list T) cs):∃nl l,cs=[.list nl (List.map f l)]/\(nl=true->l=[]):=by
 cases h with|list _ nl xs h0 h1 h2 =>
 have:∃l,xs=List.map f l:=by
  clear h0
  induction xs with
  |nil=>exact⟨[],rfl⟩
  |cons x xs ih =>
   obtain⟨l,rfl⟩:=ih (fun y hy=>h1 y (by simp[hy])) fun y hy=>h2 y (by simp[hy])
   obtain⟨a,ha⟩:=hf _ (h1 x (by simp))
   have:=h2 x (by simp)
   rw[ha] at this
   exact⟨a::l,by rw[this];rfl⟩
 obtain⟨l,rfl⟩:=this
 exact⟨nl,l,rfl,fun hn=>by simpa using h0 hn⟩
theorem Ng {cs:List D}(h:C7 .bool cs):∃b,cs=[.bool b]:=by cases h with|bool b=>exact⟨b,rfl⟩
def zT:Ty:=.str [.int .i64,.int .i64]
def dX:Ty:=.str [.int .i64,.int .i64,.list (.str [.int .i64,.int .i64]),.int .i64,.int .i64,.str [.int .i64,.int .i64],.str [.int .i64,.int .i64]]
def dN:Ty:=.str [.int .i64,.int .i64,.int .i64,.int .i64,.bool]
def a_:Ty:=.str [.str [.int .i64,.int .i64,.list (.str [.int .i64,.int .i64]),.int .i64,.int .i64,.str [.int .i64,.int .i64],.str [.int .i64,.int .i64]],.int .i64,.int .i64,.list (.str [.int .i64,.int .i64,.int .i64,.int .i64,.bool])]
theorem K2 {cs:List D}(h:C7 zT cs):∃a b,cs=[.int .i64 a,.int .i64 b]:=by
 obtain⟨_,_,e1,h1,h⟩:=Bt h
 obtain⟨_,_,e2,h2,h⟩:=Bt h
 obtain rfl:=GY h
 obtain⟨n1,rfl⟩:=DT h1
 obtain⟨n2,rfl⟩:=DT h2
 subst e2
 exact⟨n1,n2,e1⟩
theorem Uq {cs:List D}(h:C7 dN cs):∃r,cs=TF r:=by
 obtain⟨_,_,e1,h1,h⟩:=Bt h
 obtain⟨_,_,e2,h2,h⟩:=Bt h
 obtain⟨_,_,e3,h3,h⟩:=Bt h
 obtain⟨_,_,e4,h4,h⟩:=Bt h
 obtain⟨_,_,e5,h5,h⟩:=Bt h
 obtain rfl:=GY h
 obtain⟨n1,rfl⟩:=DT h1
 obtain⟨n2,rfl⟩:=DT h2
 obtain⟨n3,rfl⟩:=DT h3
 obtain⟨n4,rfl⟩:=DT h4
 obtain⟨b,rfl⟩:=Ng h5
 subst e5 e4 e3 e2
 exact⟨⟨n1,n2,n3,n4,b⟩,e1⟩
theorem Us {cs:List D}(h:C7 dX cs):∃s,cs=SQ s/\(s.zn=true->s.zones=[]):=by
 obtain⟨_,_,e1,h1,h⟩:=Bt h
 obtain⟨_,_,e2,h2,h⟩:=Bt h
 obtain⟨_,_,e3,h3,h⟩:=Bt h
 obtain⟨_,_,e4,h4,h⟩:=Bt h
 obtain⟨_,_,e5,h5,h⟩:=Bt h
 obtain⟨_,_,e6,h6,h⟩:=Bt h
 obtain⟨_,_,e7,h7,h⟩:=Bt h
 obtain rfl:=GY h
 obtain⟨n1,rfl⟩:=DT h1
 obtain⟨n2,rfl⟩:=DT h2
 obtain⟨nw,w,rfl,hz⟩:=G8 dA (fun cs h=>by obtain⟨a,b,rfl⟩:=K2 h;exact⟨(a,b),rfl⟩) h3
 obtain⟨n4,rfl⟩:=DT h4
 obtain⟨n5,rfl⟩:=DT h5
 obtain⟨a,b,rfl⟩:=K2 h6
 obtain⟨c,d,rfl⟩:=K2 h7
 subst e7 e6 e5 e4 e3 e2
 exact⟨⟨n1,n2,nw,w,n4,n5,a,b,c,d⟩,e1,hz⟩
theorem Ur {x:D}(h:Md a_ x):∃l,x=J2 l/\(l.sn=true->l.slots=[])/\(l.disk.zn=true->l.disk.zones=[]):=by
 obtain⟨h,hx⟩:=h
 obtain⟨_,_,e1,h1,h⟩:=Bt h
 obtain⟨_,_,e2,h2,h⟩:=Bt h
 obtain⟨_,_,e3,h3,h⟩:=Bt h
 obtain⟨_,_,e4,h4,h⟩:=Bt h
 obtain rfl:=GY h
 obtain⟨d,rfl,hz⟩:=Us h1
 obtain⟨n2,rfl⟩:=DT h2
 obtain⟨n3,rfl⟩:=DT h3
 obtain⟨ns,s,rfl,hs⟩:=G8 O3 (fun cs h=>by obtain⟨r,rfl⟩:=Uq h;exact⟨r,rfl⟩) h4
 subst e4 e3 e2
 rw[e1] at hx
 exact⟨⟨d,n2,n3,ns,s⟩,hx,hs,hz⟩
end Go.Pw
