/- A part of the proof. -/
import Derived.Test.YtlmkpaimjpdhiaaDoorPkLaw
import Derived.Test.YtlmkpaimjpdhiaaDoorPwLaid
set_option linter.all false
namespace Go.Pw
theorem MX {T:Ty} {α:Type} (f:α→D) (hf:∀cs,CH T cs→∃a,T.val cs=f a) {cs:List D} (h:CH (.list T) cs):∃nl l,cs=[.list nl (List.map f l)]∧(nl=true→l=[]):=by
 cases h with|list _ nl xs h0 h1 h2 =>
 have:∃l,xs=List.map f l:=by
  clear h0
  induction xs with
  |nil=>exact⟨[],rfl⟩
  |cons x xs ih =>
   obtain⟨l,rfl⟩:=ih (fun y hy=>h1 y (by simp [hy])) fun y hy=>h2 y (by simp [hy])
   obtain⟨a,ha⟩:=hf _ (h1 x (by simp))
   have:=h2 x (by simp)
   rw [ha] at this
   exact⟨a :: l,by rw [this];rfl⟩
 obtain⟨l,rfl⟩:=this
 exact⟨nl,l,rfl,fun hn=>by simpa using h0 hn⟩
theorem S2 {cs:List D} (h:CH .bool cs):∃b,cs=[.bool b]:=by cases h with|bool b=>exact⟨b,rfl⟩
theorem Dy {cs:List D} (h:CH (.list (.int .i64)) cs):∃nl l,cs=[.list nl (AY l)]∧(nl=true→l=[]) :=
 MX (T:=.int .i64) (D.int .i64) (fun cs h=>by obtain⟨n,rfl⟩:=FJ h;exact⟨n,rfl⟩) h
theorem RK {x:D} (h:HM (.list (.int .i64)) x):∃nl l,x=.list nl (AY l)∧(nl=true→l=[]):=by
 obtain⟨h,hx⟩:=h
 obtain⟨nl,l,hn,h0⟩:=Dy h
 rw [hn] at hx
 exact⟨nl,l,hx,h0⟩
def Rp:Ty:=.str [.int .i64,.int .i64]
def cB:Ty:=.str [.list (.int .i64),.list (.int .i64),.list (.int .i64)]
def W5:Ty:=.str [.str [.int .i64,.int .i64],.int .i64]
def ce:Ty:=.str [.list (.int .i64),.int .i64,.int .i64,.list (.int .i64),.bool]
theorem O6 {cs:List D} (h:CH Rp cs):∃a b,cs=[.int .i64 a,.int .i64 b]:=by
 obtain⟨_,_,e1,h1,h⟩:=CQ h
 obtain⟨_,_,e2,h2,h⟩:=CQ h
 obtain rfl:=Ji h
 obtain⟨n1,rfl⟩:=FJ h1
 obtain⟨n2,rfl⟩:=FJ h2
 subst e2
 exact⟨n1,n2,e1⟩
theorem Kb {x:D} (h:HM Rp x):∃a b,x=.agg [.int .i64 a,.int .i64 b]:=by
 obtain⟨h,hx⟩:=h
 obtain⟨a,b,hr⟩:=O6 h
 rw [hr] at hx
 exact⟨a,b,hx⟩
theorem NX {x:D} (h:HM W5 x):∃a b d,x=.agg [.int .i64 a,.int .i64 b,.int .i64 d]:=by
 obtain⟨h,hx⟩:=h
 obtain⟨_,_,e1,h1,h⟩:=CQ h
 obtain⟨_,_,e2,h2,h⟩:=CQ h
 obtain rfl:=Ji h
 obtain⟨a,b,rfl⟩:=O6 h1
 obtain⟨n2,rfl⟩:=FJ h2
 subst e2
 rw [e1] at hx
 exact⟨a,b,n2,hx⟩
theorem Sz {x:D} (h:HM cB x):∃n1 l1 n2 l2 n3 l3,x=.agg [.list n1 (AY l1),.list n2 (AY l2),.list n3 (AY l3)]∧(n1=true→l1=[])∧(n2=true→l2=[])∧(n3=true→l3=[]):=by
 obtain⟨h,hx⟩:=h
 obtain⟨_,_,e1,h1,h⟩:=CQ h
 obtain⟨_,_,e2,h2,h⟩:=CQ h
 obtain⟨_,_,e3,h3,h⟩:=CQ h
 obtain rfl:=Ji h
 obtain⟨n1,l1,rfl,q1⟩:=Dy h1
 obtain⟨n2,l2,rfl,q2⟩:=Dy h2
 obtain⟨n3,l3,rfl,q3⟩:=Dy h3
 subst e3 e2
 rw [e1] at hx
 exact⟨n1,l1,n2,l2,n3,l3,hx,q1,q2,q3⟩
theorem S0 {x:D} (h:HM ce x):∃n1 l1 a b n2 l2 m,x=.agg [.list n1 (AY l1),.int .i64 a,.int .i64 b,.list n2 (AY l2),.bool m]∧(n1=true→l1=[])∧(n2=true→l2=[]):=by
 obtain⟨h,hx⟩:=h
 obtain⟨_,_,e1,h1,h⟩:=CQ h
 obtain⟨_,_,e2,h2,h⟩:=CQ h
 obtain⟨_,_,e3,h3,h⟩:=CQ h
 obtain⟨_,_,e4,h4,h⟩:=CQ h
 obtain⟨_,_,e5,h5,h⟩:=CQ h
 obtain rfl:=Ji h
 obtain⟨n1,l1,rfl,q1⟩:=Dy h1
 obtain⟨a,rfl⟩:=FJ h2
 obtain⟨b,rfl⟩:=FJ h3
 obtain⟨n2,l2,rfl,q2⟩:=Dy h4
 obtain⟨m,rfl⟩:=S2 h5
 subst e5 e4 e3 e2
 rw [e1] at hx
 exact⟨n1,l1,a,b,n2,l2,m,hx,q1,q2⟩
def Ta (l:List (Bool×List Int)):List D:=l.map fun r=>.list r.1 (AY r.2)
theorem O7 {x:D} (h:HM (.list (.list (.int .i64))) x):∃nl l,x=.list nl (Ta l)∧(nl=true→l=[]):=by
 obtain⟨h,hx⟩:=h
 obtain⟨nl,l,hn,h0⟩:=MX (T:=.list (.int .i64)) (fun r:Bool×List Int=>.list r.1 (AY r.2)) (fun cs h=>by
  obtain⟨n,l,rfl,_⟩:=Dy h
  exact⟨(n,l),rfl⟩) h
 rw [hn] at hx
 exact⟨nl,l,hx,h0⟩
end Go.Pw
