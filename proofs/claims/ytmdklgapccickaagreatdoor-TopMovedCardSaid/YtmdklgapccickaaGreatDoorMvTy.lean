/- Part. -/
import Derived.Test.YtmdklgapccickaaGreatDoorPgMvChcJ
import Derived.Test.YtmdklgapccickaaGreatDoorPkLaid
set_option linter.all false
namespace Go.Pw
def AAa:Ty:=.str [.str [.int .i64,.int .i64],.int .i64]
def rL:Ty:=.str [xZ,AAa,.list (.int .i64),.int .i64,.int .i64]
theorem Pm{cs:List D}(h:Ck (.list (.list (.int .i64))) cs):∃nl l,cs=[.list nl (Hn l)]:=by
 cases h with|list _ nl xs h0 h1 h2 =>
 have:∃l,xs=Hn l:=by
  clear h0
  induction xs with
  |nil=>exact⟨[],rfl⟩
  |cons x xs ih =>
   obtain⟨l,rfl⟩:=ih (fun y e=>h1 y (by simp[e])) fun y e=>h2 y (by simp[e])
   obtain⟨b,n,hn⟩:=Iq (h1 x (by simp));have:=h2 x (by simp);rw[hn]at this;exact⟨(b,n)::l,by rw[this];rfl⟩
 obtain⟨l,rfl⟩:=this;exact⟨nl,l,rfl⟩
theorem aR{cs:List D}(h:Ck xZ cs):∃c,cs=PP c:=by
 obtain⟨_,_,e1,h1,h⟩:=Az h;obtain⟨_,_,e2,h2,h⟩:=Az h;obtain⟨_,_,i,p,h⟩:=Az h;obtain⟨_,_,e,j,h⟩:=Az h;obtain⟨_,_,o,l,h⟩:=Az h;obtain⟨_,_,n,m,h⟩:=Az h;obtain rfl:=Fq h;obtain⟨n1,rfl⟩:=Bw h1;obtain⟨n2,rfl⟩:=Bw h2;obtain⟨n3,rfl⟩:=Bw p;obtain⟨n4,rfl⟩:=Bw j;obtain⟨nw,w,rfl⟩:=Pm l;obtain⟨nn,v,rfl⟩:=Pm m;subst n o e i e2;exact⟨⟨n1,n2,n3,n4,nw,w,nn,v⟩,e1⟩
theorem jb{cs:List D}(h:Ck AAa cs):∃a b d,cs=[.int .i64 a,.int .i64 b,.int .i64 d]:=by
 obtain⟨_,_,e1,h1,h⟩:=Az h;obtain⟨_,_,e2,h2,h⟩:=Az h;obtain rfl:=Fq h;obtain⟨_,_,j,l,h1⟩:=Az h1;obtain⟨_,_,e,i,h1⟩:=Az h1;obtain rfl:=Fq h1;obtain⟨a,rfl⟩:=Bw l;obtain⟨b,rfl⟩:=Bw i;obtain⟨d,rfl⟩:=Bw h2;subst e j e2;exact⟨a,b,d,e1⟩
theorem aU{x:D}(h:TK rL x):∃c,x=IU c:=by
 obtain⟨h,hx⟩:=h;obtain⟨_,_,e1,h1,h⟩:=Az h;obtain⟨_,_,e2,h2,h⟩:=Az h;obtain⟨_,_,i,q,h⟩:=Az h;obtain⟨_,_,e,l,h⟩:=Az h;obtain⟨_,_,p,n,h⟩:=Az h;obtain rfl:=Fq h;obtain⟨c,rfl⟩:=aR h1;obtain⟨L,P,Q,rfl⟩:=jb h2;obtain⟨nm,m,rfl⟩:=Iq q;obtain⟨j,rfl⟩:=Bw l;obtain⟨o,rfl⟩:=Bw n;subst p e i e2;rw[e1]at hx;exact⟨⟨c,L,P,Q,nm,m,j,o⟩,hx⟩
end Go.Pw
