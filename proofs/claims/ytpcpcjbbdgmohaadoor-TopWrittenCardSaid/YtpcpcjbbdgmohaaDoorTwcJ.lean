/- A part of the proof. -/
import Derived.Test.YtpcpcjbbdgmohaaDoorPgTwcD
import Derived.Test.YtpcpcjbbdgmohaaDoorPwLaw
set_option linter.all false
open Go Go.Pw Go.Proofs
namespace Go.Pw
set_option maxRecDepth 100000
set_option maxHeartbeats 1600000
attribute [local congr] Bx A9 A_ Au Bz A0 A2 A1 Ar An Ai Ab Av Aj Ax BG BK BI BJ BH BL BD Ay Aw Al Az Am BB BT Ak BE BF BC A' BA B1
attribute [local irreducible] IntKind.wrap BM Option.getD and or
theorem Kj (c:GCode):∀(l:List Int) (s:Int),(c.stream s l).1.length=l.length*c.out.toNat
 |[],s=>by simp[GCode.stream]
 |w::l,s=>by
  simp only[GCode.stream,List.length_append,En,Kj c l,List.length_cons,Nat.succ_mul]
  omega
theorem Ex {k:IntKind}{cs:List D}(h:C9 (.int k) cs):∃n,cs=[.int k n]:=by cases h with|int _ n _=>exact⟨n,rfl⟩
theorem Kh {cs:List D}(h:C9 (.list (.int .i64)) cs):∃nl l,cs=[.list nl (A4 l)]:=by
 cases h with|list _ nl xs h0 h1 h2 =>
 have:∃l,xs=A4 l:=by
  clear h0
  induction xs with
  |nil=>exact⟨[],rfl⟩
  |cons x xs ih =>
   obtain⟨l,rfl⟩:=ih (fun y hy=>h1 y (by simp[hy])) fun y hy=>h2 y (by simp[hy])
   obtain⟨n,hn⟩:=Ex (h1 x (by simp))
   have:=h2 x (by simp)
   rw[hn] at this
   exact⟨n::l,by rw[this];rfl⟩
 obtain⟨l,rfl⟩:=this
 exact⟨nl,l,rfl⟩
theorem Nf {cs:List D}(h:C9 (.list (.list (.int .i64))) cs):∃nl l,cs=[.list nl (Ns l)]:=by
 cases h with|list _ nl xs h0 h1 h2 =>
 have:∃l,xs=Ns l:=by
  clear h0
  induction xs with
  |nil=>exact⟨[],rfl⟩
  |cons x xs ih =>
   obtain⟨l,rfl⟩:=ih (fun y hy=>h1 y (by simp[hy])) fun y hy=>h2 y (by simp[hy])
   obtain⟨b,n,hn⟩:=Kh (h1 x (by simp))
   have:=h2 x (by simp)
   rw[hn] at this
   exact⟨(b,n)::l,by rw[this];rfl⟩
 obtain⟨l,rfl⟩:=this
 exact⟨nl,l,rfl⟩
theorem Cl {T:Ty}{Ts:List Ty}{cs:List D}(h:C9 (.str (T::Ts)) cs):∃a b,cs=a++b/\C9 T a/\C9 (.str Ts) b:=by
 cases h with|cons _ _ a b h1 h2=>exact⟨a,b,rfl,h1,h2⟩
theorem Jx {cs:List D}(h:C9 (.str []) cs):cs=[]:=by cases h;rfl
def ZP:Ty:=.str [.int .i64,.int .i64,.int .i64,.int .i64,.list (.list (.int .i64)),.list (.list (.int .i64))]
def gE:Ty:=.str [.int .i64,.list (.int .i64),.list (.int .i64)]
theorem S7 {x:D}(h:Me ZP x):∃c,x=E7 c:=by
 obtain⟨h,hx⟩:=h
 obtain⟨_,_,e1,h1,h⟩:=Cl h
 obtain⟨_,_,e2,h2,h⟩:=Cl h
 obtain⟨_,_,e3,h3,h⟩:=Cl h
 obtain⟨_,_,e4,h4,h⟩:=Cl h
 obtain⟨_,_,e5,h5,h⟩:=Cl h
 obtain⟨_,_,e6,h6,h⟩:=Cl h
 obtain rfl:=Jx h
 obtain⟨n1,rfl⟩:=Ex h1
 obtain⟨n2,rfl⟩:=Ex h2
 obtain⟨n3,rfl⟩:=Ex h3
 obtain⟨n4,rfl⟩:=Ex h4
 obtain⟨nw,w,rfl⟩:=Nf h5
 obtain⟨nn,v,rfl⟩:=Nf h6
 subst e6 e5 e4 e3 e2
 rw[e1] at hx
 exact⟨⟨n1,n2,n3,n4,nw,w,nn,v⟩,hx⟩
end Go.Pw
