/- A part of the proof. -/
import Derived.Test.YtpcpcjbbdgmohaaPwLaw
import Derived.Test.YtpcpcjbbdgmohaaServoSpec
set_option linter.all false
namespace Go.Pw
theorem CQ {k:IntKind}{cs:List D}(h:Ch (.int k) cs):∃n,cs=[.int k n]:=by cases h with|int _ n _=>exact⟨n,rfl⟩
theorem Bm {T:Ty}{Ts:List Ty}{cs:List D}(h:Ch (.str (T::Ts)) cs):∃a b,cs=a++b/\Ch T a/\Ch (.str Ts) b:=by
 cases h with|cons _ _ a b h1 h2=>exact⟨a,b,rfl,h1,h2⟩
theorem It {cs:List D}(h:Ch (.str []) cs):cs=[]:=by cases h;rfl
theorem Md {T:Ty}{α:Type}(f:α->D) (hf:∀cs,Ch T cs->∃a,T.val cs=f a) {cs:List D}(h:Ch (.list T) cs):∃nl l,cs=[.list nl (List.map f l)]:=by
 cases h with|list _ nl xs h0 h1 h2 =>
 have:∃l,xs=List.map f l:=by
  clear h0
  induction xs with
  |nil=>exact⟨[],rfl⟩
  |cons x xs ih =>
   obtain⟨l,rfl⟩:=ih (fun y hy=>h1 y (by simp[hy])) fun y hy=>h2 y (by simp[hy])
   obtain⟨a,ha⟩:=hf _ (h1 x (by simp))
   have:=h2 x (by simp)
   rw[ha] at this
   exact⟨a::l,by rw[this];rfl⟩
 obtain⟨l,rfl⟩:=this
 exact⟨nl,l,rfl⟩
theorem Me {cs:List D}(h:Ch (.list (.int .i64)) cs):∃nl l,cs=[.list nl (CT l)] :=
 Md (D.int .i64) (fun cs h=>by obtain⟨n,rfl⟩:=CQ h;exact⟨n,rfl⟩) h
def Ra:Ty:=.str [.int .i64,.int .i64,.int .i64,.int .i64,.int .i64,.list (.int .i64)]
def bn:Ty:=.str [.int .i64,.int .i64]
def bT:Ty:=.list (.str [.int .i64,.int .i64])
def bm:Ty:=.str [.list (.int .i64),.list (.int .i64)]
def bd:Ty:=.str [.str [.list (.int .i64),.list (.int .i64)],.str [.int .i64,.int .i64]]
def bl:Ty:=.str [.int .i64,.int .i64,.int .i64,.int .i64]
theorem Po {x:D}(h:Ld Ra x):∃s,x=Cl s:=by
 obtain⟨h,hx⟩:=h
 obtain⟨_,_,e1,h1,h⟩:=Bm h
 obtain⟨_,_,e2,h2,h⟩:=Bm h
 obtain⟨_,_,e3,h3,h⟩:=Bm h
 obtain⟨_,_,e4,h4,h⟩:=Bm h
 obtain⟨_,_,e5,h5,h⟩:=Bm h
 obtain⟨_,_,e6,h6,h⟩:=Bm h
 obtain rfl:=It h
 obtain⟨n1,rfl⟩:=CQ h1
 obtain⟨n2,rfl⟩:=CQ h2
 obtain⟨n3,rfl⟩:=CQ h3
 obtain⟨n4,rfl⟩:=CQ h4
 obtain⟨n5,rfl⟩:=CQ h5
 obtain⟨nw,w,rfl⟩:=Me h6
 subst e6 e5 e4 e3 e2
 rw[e1] at hx
 exact⟨⟨n1,n2,n3,n4,n5,nw,w⟩,hx⟩
end Go.Pw
