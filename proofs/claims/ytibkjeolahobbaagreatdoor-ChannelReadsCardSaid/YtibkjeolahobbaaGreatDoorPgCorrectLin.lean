/- A part of the proof. -/
import Derived.Test.YtibkjeolahobbaaGreatDoorCorrectSpec
import Derived.Test.YtibkjeolahobbaaGreatDoorPgChrD
set_option linter.all false
section
namespace Go.Pw
def FS:List F->List F->F
 |a::asq,b::bs=>fa (fm a b) (FS asq bs)
 |_,_=>0
def Du (r o:List F) (b:F):List F:=List.zipWith (fun x y=>fa x (fm y b)) r o
def H7 (r:List F) (b:F):List F:=r.map fun x=>fm x b
def EY (r:List F) (j:Nat):F:=r[j]?.getD 0
def A4 (M:List (List F)) (i:Nat):List F:=M[i]?.getD []
def CV (M:List (List F)) (i j:Nat):F:=EY (A4 M i) j
theorem ly (a b c:F):fa a (fa b c)=fa b (fa a c):=by rw[←EJ,Oh a b,EJ]
theorem rG (a b c d:F):fa (fa a b) (fa c d)=fa (fa a c) (fa b d):=by rw[EJ,EJ,ly b c d]
theorem nQ (a b c:F):fm (fa a b) c=fa (fm a c) (fm b c):=by rw[DV,M7,DV c a,DV c b]
theorem Oe (a b c:F):fm a (fm b c)=fm b (fm a c):=by rw[←Fx,DV a b,Fx]
theorem MU (w:List F):FS [] w=0:=rfl
theorem Sk (w:List F):FS w []=0:=by cases w<;>rfl
theorem D4 (a b:F) (asq bs:List F):FS (a::asq) (b::bs)=fa (fm a b) (FS asq bs):=rfl
theorem Oi (b:F):∀(r o w:List F),r.length=o.length->FS (Du r o b) w=fa (FS r w) (fm b (FS o w))
 |[],[],w,_=>by simp[Du,MU,Dj,C8]
 |x::r,y::o,[],_=>by simp[Sk,Dj,C8]
 |x::r,y::o,c::w,h=>by
  have ih:=Oi b r o w (by simpa using h)
  simp only[Du,List.zipWith_cons_cons,D4] at ih ⊢
  rw[ih,nQ,M7,Fx,Oe,rG]
theorem Sj (b:F):∀(r w:List F),FS (H7 r b) w=fm b (FS r w)
 |[],w=>by simp[H7,MU,Dj]
 |x::r,[]=>by simp[Sk,Dj]
 |x::r,c::w=>by
  have ih:=Sj b r w
  simp only[H7,List.map_cons,D4] at ih ⊢
  rw[ih,M7,Fx,Oe]
theorem Si (x y:F):∀(r w:List F),r.length=w.length->FS (r++[x]) (w++[y])=fa (FS r w) (fm x y)
 |[],[],_=>by simp[FS,C8,IA]
 |a::r,b::w,h=>by
  have ih:=Si x y r w (by simpa using h)
  simp only[List.cons_append,D4]
  rw[ih,EJ]
theorem RZ:∀(r w:List F) (i:Nat),i<r.length->r.length=w.length->(∀j,j≠i->fm (EY r j) (EY w j)=0)->FS r w=fm (EY r i) (EY w i)
 |a::r,b::w,0,_,hl,h=>by
  have hz:FS r w=0:=by
   have key:∀(r w:List F),(∀j,fm (EY r j) (EY w j)=0)->FS r w=0:=by
    intro r
    induction r with
    |nil=>intro w _;rfl
    |cons a r ih =>
     intro w h
     cases w with
     |nil=>rfl
     |cons b w =>
      rw[D4,ih w fun j=>h (j+1),show fm a b=0 from h 0];rfl
   exact key r w fun j=>h (j+1) (by omega)
  rw[D4,hz,C8];rfl
 |a::r,b::w,i+1,hi,hl,h=>by
  have ih:=RZ r w i (by simpa using hi) (by simpa using hl) fun j hj=>h (j+1) (by omega)
  rw[D4,ih,show fm a b=0 from h 0 (by omega),IA];rfl
theorem Vu:∀(r w:List F) (i k:Nat),i<k->k<r.length->r.length=w.length->(∀j,j≠i->j≠k->fm (EY r j) (EY w j)=0)->FS r w=fa (fm (EY r i) (EY w i)) (fm (EY r k) (EY w k))
 |a::r,b::w,0,k+1,_,hk,hl,h=>by
  rw[D4,RZ r w k (by simpa using hk) (by simpa using hl) fun j hj=>h (j+1) (by omega) (by omega)];rfl
 |a::r,b::w,i+1,k+1,hik,hk,hl,h=>by
  have ih:=Vu r w i k (by omega) (by simpa using hk) (by simpa using hl) fun j hj hj2=>h (j+1) (by omega) (by omega)
  rw[D4,ih,show fm a b=0 from h 0 (by omega) (by omega),IA];rfl
def RK (c:F) (M:List (List F)) (v:List F):Prop:=∀i,i<M.length->FS (A4 M i) (v++[c])=0
structure Ri (M:List (List F)) (n m:Nat):Prop where
 len:M.length=n
 row:∀i,i<n->(A4 M i).length=m
def Bg (f:F->F->F) (M:List (List F)) (k:Nat):List (List F):=(List.range M.length).map fun i=>if i=k then A4 M k else Du (A4 M i) (A4 M k) (f (CV M i k) (CV M k k))
def swp (M:List (List F)) (k p:Nat):List (List F):=(M.set k (A4 M p)).set p (A4 M k)
theorem NS {α:Type}(n i:Nat) (g:Nat->List F) (h:i<n):A4 ((List.range n).map g) i=g i:=by simp[A4,h]
theorem Gc (M:List (List F)) (k i:Nat) (r:List F) (hk:k<M.length):A4 (M.set k r) i=if i=k then r else A4 M i:=by
 unfold A4
 by_cases h:i=k
 ·subst h;simp[hk]
 ·rw[List.getElem?_set_ne (fun e=>h e.symm),if_neg h]
theorem Df (f:F->F->F) (M:List (List F)) (k i:Nat) (h:i<M.length):A4 (Bg f M k) i=if i=k then A4 M k else Du (A4 M i) (A4 M k) (f (CV M i k) (CV M k k)) :=
 NS (α:=F) M.length i _ h
theorem Ei (M:List (List F)) (k p i:Nat) (hk:k<M.length) (hp:p<M.length):A4 (swp M k p) i=if i=p then A4 M k else if i=k then A4 M p else A4 M i:=by
 unfold swp
 rw[Gc _ _ _ _ (by simpa using hp),Gc _ _ _ _ hk]
theorem Hz (r o:List F) (b:F) (h:r.length=o.length):(Du r o b).length=r.length:=by simp[Du,h]
theorem W6 (r:List F) (b:F):(H7 r b).length=r.length:=by simp[H7]
theorem Ri.swp {M:List (List F)}{n m k p:Nat}(h:Ri M n m) (hk:k<n) (hp:p<n):Ri (swp M k p) n m:=by
 have hl:=h.len
 refine⟨by simp[Go.Pw.swp,hl],fun i hi=>?_⟩
 rw[Ei _ _ _ _ (by omega) (by omega)]
 split
 ·exact h.row k hk
 ·split
  ·exact h.row p hp
  ·exact h.row i hi
theorem Ri.scl {M:List (List F)}{n m k:Nat}(h:Ri M n m) (hk:k<n) (b:F):Ri (M.set k (H7 (A4 M k) b)) n m:=by
 have hl:=h.len
 refine⟨by simp[hl],fun i hi=>?_⟩
 rw[Gc _ _ _ _ (by omega)]
 split
 ·rw[W6];exact h.row k hk
 ·exact h.row i hi
theorem Ri.red {M:List (List F)}{n m k:Nat}(f:F->F->F) (h:Ri M n m) (hk:k<n):Ri (Bg f M k) n m:=by
 have hl:=h.len
 refine⟨by simp[Bg,hl],fun i hi=>?_⟩
 rw[Df _ _ _ _ (by omega)]
 split
 ·exact h.row k hk
 ·rw[Hz]
  ·exact h.row i hi
  ·rw[h.row i hi,h.row k hk]
theorem bP {M:List (List F)}{n m k p:Nat}(h:Ri M n m) (hk:k<n) (hp:p<n) (c:F) (v:List F):RK c (swp M k p) v↔RK c M v:=by
 have hl:=h.len
 have hl2:=(h.swp hk hp).len
 constructor
 ·intro hs i hi
  by_cases h1:i=k
  ·subst h1
   have:=hs p (by omega)
   rwa [Ei _ _ _ _ (by omega) (by omega),if_pos rfl] at this
  ·by_cases h2:i=p
   ·subst h2
    have:=hs k (by omega)
    rwa [Ei _ _ _ _ (by omega) (by omega),if_neg (fun e=>h1 e.symm),if_pos rfl] at this
   ·have:=hs i (by omega)
    rwa [Ei _ _ _ _ (by omega) (by omega),if_neg h2,if_neg h1] at this
 ·intro hs i hi
  rw[Ei _ _ _ _ (by omega) (by omega)]
  split
  ·exact hs k (by omega)
  ·split
   ·exact hs p (by omega)
   ·exact hs i (by omega)
theorem my {M:List (List F)}{n m k:Nat}(h:Ri M n m) (hk:k<n) {b:F}(hb:b≠0) (c:F) (v:List F):RK c (M.set k (H7 (A4 M k) b)) v↔RK c M v:=by
 have hl:=h.len
 constructor
 ·intro hs i hi
  have:=hs i (by simpa using hi)
  rw[Gc _ _ _ _ (by omega)] at this
  split at this
  ·rename_i e;subst e
   rw[Sj] at this
   exact(SZ _ _ this).resolve_left hb
  ·exact this
 ·intro hs i hi
  rw[Gc _ _ _ _ (by omega)]
  split
  ·rename_i e;subst e;rw[Sj,hs i (by omega),Dj]
  ·exact hs i (by simpa using hi)
theorem bQ {M:List (List F)}{n m k:Nat}(f:F->F->F) (h:Ri M n m) (hk:k<n) (c:F) (v:List F):RK c (Bg f M k) v↔RK c M v:=by
 have hl:=h.len
 have hl2:=(h.red f hk).len
 constructor
 ·intro hs i hi
  have h1:=hs k (by omega)
  rw[Df _ _ _ _ (by omega),if_pos rfl] at h1
  by_cases hik:i=k
  ·subst hik;exact h1
  ·have h2:=hs i (by omega)
   rw[Df _ _ _ _ (by omega),if_neg hik,Oi _ _ _ _ (by rw[h.row i (by omega),h.row k hk]),h1,Dj,C8] at h2
   exact h2
 ·intro hs i hi
  rw[Df _ _ _ _ (by omega)]
  split
  ·exact hs k (by omega)
  ·rw[Oi _ _ _ _ (by rw[h.row i (by omega),h.row k hk]),hs i (by omega),hs k (by omega),Dj,C8]
structure eO (M:List (List F)) (k:Nat):Prop where
 off:∀i j,i<M.length->j<k->i≠j->CV M i j=0
 dia:∀j,j<k->CV M j j≠0
theorem Lr (r o:List F) (b:F) (j:Nat) (h:r.length=o.length):EY (Du r o b) j=fa (EY r j) (fm (EY o j) b):=by
 unfold EY Du
 rw[List.getElem?_zipWith]
 by_cases hj:j<r.length
 ·rw[List.getElem?_eq_getElem hj,List.getElem?_eq_getElem (by omega)];rfl
 ·rw[List.getElem?_eq_none (by omega),List.getElem?_eq_none (l:=o) (by omega)]
  show (0:F)=fa 0 (fm 0 b)
  rw[Cj];rfl
theorem TG (r:List F) (b:F) (j:Nat):EY (H7 r b) j=fm (EY r j) b:=by
 unfold EY H7
 rw[List.getElem?_map]
 cases r[j]? with
 |none=>exact(Cj b).symm
 |some x=>rfl
theorem eO.swp {M:List (List F)}{n m k p:Nat}(hs:Ri M n m) (h:eO M k) (hk:k<n) (hkp:k<=p) (hp:p<n):eO (swp M k p) k:=by
 have hl:=hs.len
 have hl2:=(hs.swp hk hp).len
 refine⟨fun i j hi hj hij=>?_,fun j hj=>?_⟩
 ·unfold CV
  rw[Ei _ _ _ _ (by omega) (by omega)]
  split
  ·exact h.off k j (by omega) hj (by omega)
  ·split
   ·exact h.off p j (by omega) hj (by omega)
   ·exact h.off i j (by omega) hj hij
 ·unfold CV
  rw[Ei _ _ _ _ (by omega) (by omega),if_neg (by omega),if_neg (by omega)]
  exact h.dia j hj
theorem Vs {M:List (List F)}{n m k p:Nat}(hs:Ri M n m) (hk:k<n) (hp:p<n) (j:Nat):CV (swp M k p) k j=CV M p j:=by
 have hl:=hs.len
 unfold CV
 rw[Ei _ _ _ _ (by omega) (by omega)]
 split
 ·rename_i e;subst e;rfl
 ·rw[if_pos rfl]
theorem eO.scl {M:List (List F)}{n m k:Nat}(hs:Ri M n m) (h:eO M k) (hk:k<n) (b:F):eO (M.set k (H7 (A4 M k) b)) k:=by
 have hl:=hs.len
 refine⟨fun i j hi hj hij=>?_,fun j hj=>?_⟩
 ·unfold CV
  rw[Gc _ _ _ _ (by omega)]
  split
  ·rw[TG,show EY (A4 M k) j=0 from h.off k j (by omega) hj (by omega),Cj]
  ·exact h.off i j (by simpa using hi) hj hij
 ·unfold CV
  rw[Gc _ _ _ _ (by omega),if_neg (by omega)]
  exact h.dia j hj
theorem bK {M:List (List F)}{n m k:Nat}(hs:Ri M n m) (hk:k<n) (b:F) (i j:Nat):CV (M.set k (H7 (A4 M k) b)) i j=if i=k then fm (CV M k j) b else CV M i j:=by
 have hl:=hs.len
 unfold CV
 rw[Gc _ _ _ _ (by omega)]
 split
 ·rw[TG]
 ·rfl
theorem eO.red {M:List (List F)}{n m k:Nat}(f:F->F->F) (hs:Ri M n m) (h:eO M k) (hk:k<n) (hd:CV M k k≠0) (hf:∀a,fm (CV M k k) (f a (CV M k k))=a):eO (Bg f M k) (k+1):=by
 have hl:=hs.len
 have hl2:=(hs.red f hk).len
 have e:∀i j,i<n->CV (Bg f M k) i j=if i=k then CV M k j else fa (CV M i j) (fm (CV M k j) (f (CV M i k) (CV M k k))):=fun i j hi=>by
  show EY (A4 (Bg f M k) i) j=_
  rw[Df _ _ _ _ (by omega)]
  split
  ·rfl
  ·rw[Lr _ _ _ _ (by rw[hs.row i hi,hs.row k hk])];rfl
 refine⟨fun i j hi hj hij=>?_,fun j hj=>?_⟩
 ·rw[e i j (by omega)]
  rcases Nat.lt_succ_iff_lt_or_eq.1 hj with hj|rfl
  ·split
   ·exact h.off k j (by omega) hj (by omega)
   ·rw[h.off i j (by omega) hj hij,h.off k j (by omega) hj (by omega),Cj];rfl
  ·rw[if_neg hij,hf,Fy]
 ·rcases Nat.lt_succ_iff_lt_or_eq.1 hj with hj|rfl
  ·rw[e j j (by omega),if_neg (by omega),h.off k j (by omega) hj (by omega),Cj,C8];exact h.dia j hj
  ·rw[e j j (by omega),if_pos rfl];exact hd
theorem Qo {M:List (List F)}{n m k:Nat}(f:F->F->F) (hs:Ri M n m) (h:eO M k) (hk:k<n) (j:Nat) (hj:j<=k):CV (Bg f M k) j j=CV M j j:=by
 have hl:=hs.len
 show EY (A4 (Bg f M k) j) j=_
 rw[Df _ _ _ _ (by omega)]
 split
 ·rename_i e;subst e;rfl
 ·rename_i hne
  rw[Lr _ _ _ _ (by rw[hs.row j (by omega),hs.row k hk]),show EY (A4 M k) j=0 from h.off k j (by omega) (by omega) (by omega),Cj,C8];rfl
theorem KD (v:List F) (c:F) (j:Nat) (h:j<v.length):EY (v++[c]) j=EY v j:=by unfold EY;rw[List.getElem?_append_left h]
theorem N1 (v:List F) (c:F):EY (v++[c]) v.length=c:=by unfold EY;simp
theorem WA (v:List F) (j:Nat) (h:v.length<=j):EY v j=0:=by unfold EY;rw[List.getElem?_eq_none h];rfl
theorem ab {M:List (List F)}{n m:Nat}(hs:Ri M n (m+1)) (h:eO M m) (hm:m<=n) (v:List F) (hv:v.length=m) :
  RK 1 M v↔(∀i,i<m->fm (CV M i i) (EY v i)=CV M i m)/\∀i,m<=i->i<n->CV M i m=0:=by
 have hl:=hs.len
 have hw:(v++[1]).length=m+1:=by simp[hv]
 have low:∀i,i<m->FS (A4 M i) (v++[1])=fa (fm (CV M i i) (EY v i)) (CV M i m):=fun i hi=>by
  rw[Vu (A4 M i) (v++[1]) i m hi (by rw[hs.row i (by omega)];omega) (by rw[hs.row i (by omega),hw]) fun j h1 h2=>?_]
  ·rw[KD _ _ _ (by omega),show EY (v++[1]) m=1 by rw[←hv];exact N1 v 1,J6];rfl
  ·by_cases hj:j<m
   ·rw[show EY (A4 M i) j=0 from h.off i j (by omega) hj (fun e=>h1 e.symm),Cj]
   ·rw[WA (A4 M i) j (by rw[hs.row i (by omega)];omega),Cj]
 have high:∀i,m<=i->i<n->FS (A4 M i) (v++[1])=CV M i m:=fun i hi hi2=>by
  rw[RZ (A4 M i) (v++[1]) m (by rw[hs.row i (by omega)];omega) (by rw[hs.row i (by omega),hw]) fun j h1=>?_]
  ·rw[show EY (v++[1]) m=1 by rw[←hv];exact N1 v 1,J6];rfl
  ·by_cases hj:j<m
   ·rw[show EY (A4 M i) j=0 from h.off i j (by omega) hj (by omega),Cj]
   ·rw[WA (A4 M i) j (by rw[hs.row i (by omega)];omega),Cj]
 constructor
 ·intro hsat
  refine⟨fun i hi=>?_,fun i hi hi2=>?_⟩
  ·have:=hsat i (by omega)
   rw[low i hi] at this
   exact Hn _ _ this
  ·have:=hsat i (by omega)
   rwa [high i hi hi2] at this
 ·rintro⟨h1,h2⟩ i hi
  by_cases him:i<m
  ·rw[low i him,h1 i him,Fy]
  ·rw[high i (by omega) (by omega)];exact h2 i (by omega) (by omega)
theorem fS {M:List (List F)}{n m k:Nat}(hs:Ri M n (m+1)) (h:eO M k) (hk:k<m) (hm:m<=n) (hz:∀i,k<=i->i<n->CV M i k=0) :
  ∃v:List F,v.length=m/\RK 0 M v/\EY v k=1:=by
 have hl:=hs.len
 obtain⟨v,hvd⟩:∃v:List F,v=(List.range m).map fun j=>if j<k then fm (CV M j k) (fi (CV M j j)) else if j=k then 1 else 0:=⟨_,rfl⟩
 have hv:v.length=m:=by simp[hvd]
 have ha:∀j,j<m->EY v j=if j<k then fm (CV M j k) (fi (CV M j j)) else if j=k then 1 else 0:=fun j hj=>by rw[hvd];simp[EY,hj]
 have hvk:EY v k=1:=by rw[ha k hk,if_neg (by omega),if_pos rfl]
 refine⟨v,hv,fun i hi=>?_,hvk⟩
 have hw:(v++[0]).length=m+1:=by simp[hv]
 have hw0:∀j,j≠k->¬j<k->EY (v++[0]) j=0:=fun j h1 h2=>by
  by_cases hj:j<m
  ·rw[KD _ _ _ (by omega),ha j hj,if_neg h2,if_neg h1]
  ·by_cases hjm:j=m
   ·subst hjm;rw[←hv];exact N1 v 0
   ·exact WA _ _ (by omega)
 have hwk:EY (v++[0]) k=1:=by rw[KD _ _ _ (by omega)];exact hvk
 by_cases hik:i<k
 ·rw[Vu (A4 M i) (v++[0]) i k hik (by rw[hs.row i (by omega)];omega) (by rw[hs.row i (by omega),hw]) fun j h1 h2=>?_]
  ·rw[hwk,J6,KD _ _ _ (by omega),ha i (by omega),if_pos hik]
   show fa (fm (CV M i i) (fm (CV M i k) (fi (CV M i i)))) (CV M i k)=0
   rw[Oe,nO _ (h.dia i hik),J6,Fy]
  ·by_cases hj:j<k
   ·rw[show EY (A4 M i) j=0 from h.off i j (by omega) hj (fun e=>h1 e.symm),Cj]
   ·rw[hw0 j h2 hj,Dj]
 ·rw[RZ (A4 M i) (v++[0]) k (by rw[hs.row i (by omega)];omega) (by rw[hs.row i (by omega),hw]) fun j h1=>?_]
  ·rw[show EY (A4 M i) k=0 from hz i (by omega) (by omega),Cj]
  ·by_cases hj:j<k
   ·rw[show EY (A4 M i) j=0 from h.off i j (by omega) hj (by omega),Cj]
   ·rw[hw0 j h1 hj,Dj]
end Go.Pw
end
section
namespace Go.Pw
def TL (v w:List F):List F:=List.zipWith fa v w
theorem jb (v w:List F) (h:v.length=w.length):(TL v w).length=v.length:=by simp[TL,h]
theorem jQ (v w:List F) (j:Nat) (h:v.length=w.length):EY (TL v w) j=fa (EY v j) (EY w j):=by
 unfold EY TL
 rw[List.getElem?_zipWith]
 by_cases hj:j<v.length
 ·rw[List.getElem?_eq_getElem hj,List.getElem?_eq_getElem (by omega)];rfl
 ·rw[List.getElem?_eq_none (by omega),List.getElem?_eq_none (l:=w) (by omega)];rfl
theorem X4:∀(r v w:List F),v.length=w.length->FS r (TL v w)=fa (FS r v) (FS r w)
 |[],v,w,_=>by simp[MU,C8]
 |x::r,[],[],_=>by simp[TL,Sk,C8]
 |x::r,a::v,b::w,h=>by
  have ih:=X4 r v w (by simpa using h)
  simp only[TL,List.zipWith_cons_cons,D4] at ih ⊢
  rw[ih,M7,rG]
theorem Xo {v w:List F}(hl:v.length=w.length) (h:∀j,j<v.length->EY v j=EY w j):v=w:=by
 apply List.ext_getElem hl
 intro j h1 h2
 have:=h j h1
 unfold EY at this
 rwa [List.getElem?_eq_getElem h1,List.getElem?_eq_getElem h2] at this
def Vg (x:F):Nat->F
 |0=>1
 |n+1=>fm x (Vg x n)
theorem pQ (t i:Nat):gp (i*t)=Vg (gp t) i:=by
 induction i with
 |zero=>rw[Nat.zero_mul];exact Va
 |succ i ih=>rw[Nat.add_mul,Nat.one_mul,Nat.add_comm,Vd,ih];rfl
theorem p6:∀(xs vs:List F),vs.length=xs.length->xs.Nodup->(∀i,i<xs.length->FS (xs.map fun x=>Vg x i) vs=0)->∀j,EY vs j=0
 |[],[],_,_,_=>fun j=>rfl
 |x::xs,v::vs,hl,hn,h=>by
  have hl':vs.length=xs.length:=by simpa using hl
  rw[List.nodup_cons] at hn
  have key:∀(i:Nat) (ys ws:List F),ws.length=ys.length->FS (ys.map fun y=>Vg y i) (List.zipWith (fun y w=>fm w (fa y x)) ys ws)=fa (FS (ys.map fun y=>Vg y (i+1)) ws) (fm x (FS (ys.map fun y=>Vg y i) ws)):=by
   intro i ys
   induction ys with
   |nil=>intro ws _;rw[List.map_nil,MU,List.map_nil,MU,Dj];rfl
   |cons y ys ih =>
    intro ws hw
    cases ws with
    |nil=>simp at hw
    |cons w ws =>
     have:=ih ws (by simpa using hw)
     simp only[List.map_cons,List.zipWith_cons_cons,D4]
     rw[this,M7 w,M7 (Vg y i),M7 x,rG]
     congr 1
     ·congr 1
      show fm (Vg y i) (fm w y)=fm (fm y (Vg y i)) w
      rw[DV w y,←Fx,DV (Vg y i) y]
     ·congr 1
      rw[Oe,DV,Fx]
      rw[Oe]
  have hz:∀i,i<xs.length->FS (xs.map fun y=>Vg y i) (List.zipWith (fun y w=>fm w (fa y x)) xs vs)=0:=fun i hi=>by
   rw[key i xs vs hl']
   have h1:=h i (by simp;omega)
   have h2:=h (i+1) (by simpa using hi)
   simp only[List.map_cons,D4] at h1 h2
   have e1:FS (xs.map fun y=>Vg y i) vs=fm (Vg x i) v:=(Hn _ _ h1).symm
   have e2:FS (xs.map fun y=>Vg y (i+1)) vs=fm (Vg x (i+1)) v:=(Hn _ _ h2).symm
   rw[e1,e2,←Fx]
   exact Fy _
  have ih:=p6 xs (List.zipWith (fun y w=>fm w (fa y x)) xs vs) (by simp[hl']) hn.2 hz
  have htail:∀j,EY vs j=0:=fun j=>by
   by_cases hj:j<xs.length
   ·have:=ih j
    unfold EY at this ⊢
    rw[List.getElem?_zipWith,List.getElem?_eq_getElem hj,List.getElem?_eq_getElem (by omega)] at this
    rw[List.getElem?_eq_getElem (by omega)]
    have hne:fa xs[j] x≠0:=fun e=>hn.1 (by rw[←Hn _ _ e];exact List.getElem_mem hj)
    exact(SZ _ _ this).resolve_right hne
   ·exact WA _ _ (by omega)
  have hhead:v=0:=by
   have h0:=h 0 (by simp)
   simp only[List.map_cons,D4] at h0
   have:FS (xs.map fun y=>Vg y 0) vs=0:=by
    have hvs:vs=List.replicate vs.length 0:=by
     apply Xo (by simp)
     intro j hj
     rw[htail j]
     simp[EY,hj]
    rw[hvs]
    generalize xs.map (fun y=>Vg y 0)=zs
    generalize vs.length=n
    induction zs generalizing n with
    |nil=>rfl
    |cons z zs ih2 =>
     cases n with
     |zero=>rfl
     |succ n=>rw[List.replicate_succ,D4,Dj,ih2];rfl
   rw[this,C8] at h0
   rw[show Vg x 0=1 from rfl,VP] at h0
   exact h0
  intro j
  cases j with
  |zero=>exact hhead
  |succ j=>exact htail j
def WN (L i j:Nat):F:=gp (i*(L-1-j))
def K4 (L P:Nat) (at_:List Nat) (s:List F):List (List F):=(List.range P).map fun i=>(at_.map fun j=>WN L i j)++[EY s i]
theorem MT (L P:Nat) (at_:List Nat) (s:List F):Ri (K4 L P at_ s) P (at_.length+1):=by
 refine⟨by simp[K4],fun i hi=>?_⟩
 unfold K4
 rw[NS (α:=F) _ _ _ hi];simp
theorem R9 (L P:Nat) (at_:List Nat) (s:List F) (i:Nat) (h:i<P):A4 (K4 L P at_ s) i=(at_.map fun j=>WN L i j)++[EY s i]:=NS (α:=F) _ _ _ h
structure YZ (L:Nat) (at_:List Nat):Prop where
 nd:at_.Nodup
 lt:∀j,j∈at_->j<L
theorem Vw (L P:Nat) (at_:List Nat) (s v:List F) (c:F) (hv:v.length=at_.length) (i:Nat) (h:i<P):FS (A4 (K4 L P at_ s) i) (v++[c])=fa (FS (at_.map fun j=>WN L i j) v) (fm (EY s i) c):=by
 rw[R9 _ _ _ _ _ h,Si _ _ _ _ (by simp[hv])]
theorem Xa {L P:Nat}(hL:L<=15) {at_:List Nat}(hp:YZ L at_) (hm:at_.length<=P) {s v:List F}(hv:v.length=at_.length) (h:RK 0 (K4 L P at_ s) v):∀j,EY v j=0:=by
 have hx:(at_.map fun j=>gp (L-1-j)).Nodup:=by
  have h1:=hp.nd
  have h2:=hp.lt
  clear h hv hm
  induction at_ with
  |nil=>simp
  |cons a l ih =>
   rw[List.nodup_cons] at h1
   rw[List.map_cons,List.nodup_cons]
   refine⟨fun hmem=>?_,ih ⟨h1.2,fun j hj=>h2 j (by simp[hj])⟩ h1.2 fun j hj=>h2 j (by simp[hj])⟩
   obtain⟨b,hb,he⟩:=List.mem_map.1 hmem
   have ha:=h2 a (by simp)
   have hb2:=h2 b (by simp[hb])
   have:=pR (by omega) (by omega) he
   have:a=b:=by omega
   subst this
   exact h1.1 hb
 refine p6 _ v (by simp[hv]) hx fun i hi=>?_
 have hi':i<P:=by simp at hi;omega
 have:=h i (by rw[(MT L P at_ s).len];exact hi')
 rw[Vw _ _ _ _ _ _ hv i hi',Dj,C8] at this
 rw[List.map_map]
 have e:(at_.map ((fun x=>Vg x i) ∘ fun j=>gp (L-1-j)))=at_.map fun j=>WN L i j:=List.map_congr_left fun j _=>(pQ _ _).symm
 rw[e];exact this
theorem kR {c d:F}{M:List (List F)}{v w:List F}(hl:v.length=w.length) (h1:RK c M v) (h2:RK d M w):RK (fa c d) M (TL v w):=by
 intro i hi
 have:TL v w++[fa c d]=TL (v++[c]) (w++[d]):=by
  unfold TL
  rw[List.zipWith_append hl];rfl
 rw[this,X4 _ _ _ (by simp[hl]),h1 i hi,h2 i hi,C8]
theorem fR {L P:Nat}(hL:L<=15) {at_:List Nat}(hp:YZ L at_) (hm:at_.length<=P) {s v w:List F}(hv:v.length=at_.length) (hw:w.length=at_.length) (h1:RK 1 (K4 L P at_ s) v) (h2:RK 1 (K4 L P at_ s) w):v=w:=by
 have h:=kR (by omega) h1 h2
 rw[Fy] at h
 have:=Xa hL hp hm (by rw[jb _ _ (by omega)];exact hv) h
 refine Xo (by omega) fun j _=>?_
 have hj:=this j
 rw[jQ _ _ _ (by omega)] at hj
 exact Hn _ _ hj
open Classical in
noncomputable def HN (L P:Nat) (at_:List Nat) (s:List F):Option (List F) :=
 if h:∃v:List F,v.length=at_.length/\RK 1 (K4 L P at_ s) v then some h.choose else none
theorem MJ {L P:Nat}(hL:L<=15) {at_:List Nat}(hp:YZ L at_) (hm:at_.length<=P) {s v:List F}(hv:v.length=at_.length) (h:RK 1 (K4 L P at_ s) v):HN L P at_ s=some v:=by
 have hex:∃v:List F,v.length=at_.length/\RK 1 (K4 L P at_ s) v:=⟨v,hv,h⟩
 unfold HN
 rw[dif_pos hex]
 congr 1
 exact fR hL hp hm hex.choose_spec.1 hv hex.choose_spec.2 h
theorem bn {L P:Nat}{at_:List Nat}{s:List F}(h:∀v:List F,v.length=at_.length->¬RK 1 (K4 L P at_ s) v):HN L P at_ s=none:=by
 unfold HN
 rw[dif_neg fun⟨v,h1,h2⟩=>h v h1 h2]
theorem GT {L P:Nat}{at_:List Nat}{s v:List F}(h:HN L P at_ s=some v):v.length=at_.length/\RK 1 (K4 L P at_ s) v:=by
 unfold HN at h
 split at h
 ·rename_i hex
  simp only[Option.some.injEq] at h
  rw[←h];exact hex.choose_spec
 ·cases h
end Go.Pw
end
section
open Go Go.Pw Go.Proofs
namespace Go.Pw
set_option maxRecDepth 100000
set_option maxHeartbeats 3200000
theorem N7 {A B:List F}(hl:A.length=B.length) (i:Nat) (h:i<A.length):(A.take i++B.drop i)[i]?.getD 0=B[i]?.getD 0:=by
 rw[List.getElem?_append_right (by simp;omega)]
 simp only[List.length_take,List.getElem?_drop]
 congr 2;omega
theorem N5 {A B:List F}(hl:A.length=B.length) (i:Nat) (h:i<A.length):(A.take i++B.drop i).set i (A[i]?.getD 0)=A.take (i+1)++B.drop (i+1):=by
 have h1:(A.take i).length=i:=by simp;omega
 have h2:A.take (i+1)=A.take i++[A[i]]:=by rw[List.take_succ,List.getElem?_eq_getElem h];rfl
 rw[List.set_append_right _ _ (by omega),h1,Nat.sub_self,List.drop_eq_getElem_cons (by omega),List.set_cons_zero,h2,List.getElem?_eq_getElem h,List.append_assoc]
 rfl
theorem N6 {A B:List F}(hl:A.length=B.length) (i:Nat) (h:i<=A.length):(A.take i++B.drop i).length=A.length:=by simp;omega
theorem N8 {A B:List F}(hl:A.length=B.length):A.take A.length++B.drop A.length=A:=by rw[List.take_length,List.drop_eq_nil_of_le (by omega),List.append_nil]
theorem TM (r o:List F) (b:F) (i:Nat) (h:r.length=o.length):(Du r o b)[i]?.getD 0=fa (r[i]?.getD 0) (fm (o[i]?.getD 0) b):=Lr r o b i h
theorem W2 {R:List (List F)}{a:Nat}{r:List F}(h:a<R.length):(R.set a r)[a]?.getD []=r:=by simp[h]
theorem fI {R:List (List F)}{a b:Nat}{r:List F}(h:a≠b):(R.set a r)[b]?.getD []=R[b]?.getD []:=by rw[List.getElem?_set_ne h]
theorem Wy {R:List (List F)}{a:Nat}{r r':List F}:(R.set a r).set a r'=R.set a r':=List.set_set ..
theorem Pf {R:List (List F)}{a:Nat}(h:a<R.length):R.set a (R[a]?.getD [])=R:=by
 rw[List.getElem?_eq_getElem h];simp
attribute [local congr] Bm A' BA Au Bn Az A1 A0 Ar Al Af Aa Aw Ag Ax BM BQ BO BP BN BR BG Aj Ay Ak BE BX Ai BK BL BF BH BJ BI BC BD A_ Bp BB Av Ah
attribute [local irreducible] IntKind.wrap A3 Option.getD and or
theorem mt (e1 e2:Nat) (nl:Bool) (ix:List Nat) (R:List (List F)) (a b:Nat) (s:F) (hab:a≠b) (ha:a<R.length) (hb:b<R.length) (hl:(R[a]?.getD []).length=(R[b]?.getD []).length) (hs:(R[b]?.getD []).length<=1000) :
  Ic E0 F7 [(900000,0,.mat e1 e2 nl ix (EZ R))] [.mref (.row a) 900000 0,.mref (.row b) 900000 0,.d (.int .u8 (s.val:Int))]
   [(900000,0,.mat e1 e2 nl ix (EZ (R.set a (Du (R[a]?.getD []) (R[b]?.getD []) s))))] (.tup []):=by
 obtain⟨ra,hra⟩:∃ra,R[a]?.getD []=ra:=⟨_,rfl⟩
 obtain⟨rb,hrb⟩:∃rb,R[b]?.getD []=rb:=⟨_,rfl⟩
 rw[hra,hrb] at hl ⊢
 rw[hrb] at hs
 have hA:=Hz ra rb s hl
 have hRR:R.set a ra=R:=by rw[←hra];exact Pf ha
 have hl2:(R.set a ra).length=R.length:=by simp
 suffices hsu:Ic E0 F7 [(900000,0,.mat e1 e2 nl ix (EZ (R.set a ra)))] [.mref (.row a) 900000 0,.mref (.row b) 900000 0,.d (.int .u8 (s.val:Int))]
   [(900000,0,.mat e1 e2 nl ix (EZ (R.set a (Du ra rb s))))] (.tup []) by rwa [hRR] at hsu
 have hB0:(R.set a ra)[b]?.getD []=rb:=by rw[fI hab];exact hrb
 refine Dm Me An (by simp) (by simp[Q3,Cc,EF,Am.isHist]) (by simp[E']) fun hwf hwo=>?_
 rw[ET];unfold Hh
 (try (simp -implicitDefEqProofs only[go_sem,hB0,hb,List.length_set]));repeat' first|(with_reducible first|exact tI|refine aI ?_ ?_|intro _)|((first|with_reducible refine AK ?_ ?_<;>intro _)<;>try (simp -implicitDefEqProofs only[go_sem,hB0,hb,List.length_set]))|simp (disch:=omega) only[Ae]|((with_reducible refine Ap ?_);refine⟨(_,_),rfl,?_,?_⟩)
 refine AX (α:=Nat×(List F)) (l0:=?l1) (m0:=?m1) (fun x=>[(10,.d (.int .i64 (x.1:Int)))]) (fun x=>[(900000,.mat e1 e2 nl ix (EZ (R.set a x.2)))]) (fun x=>x.1<=rb.length/\x.2=(Du ra rb s).take x.1++ra.drop x.1) (fun x=>rb.length-x.1) (0,ra) ?h01 ?he1 ?he21 ?hI1 ?step1
 case h01=>(simp -implicitDefEqProofs only[go_sem,List.length_set];rfl)
 case he1=>rfl
 case he21=>rfl
 case' step1=>(rintro⟨i,r⟩ hI;try dsimp only at hI)
 case' hI1=>try dsimp only
 ·exact⟨by omega,by simp⟩
 ·obtain⟨h1,h2⟩:=hI
  have hr:r.length=rb.length:=by rw[h2,N6 hA i (by omega)];omega
  by_cases h:i<rb.length
  ·have h':(i:Int)<(rb.length:Int):=by omega
   have hw:IntKind.i64.wrap ((i:Int)+1)=((i+1:Nat):Int):=by rw[AZ _ (by omega)];omega
   have c1:=Dl (rb[i]?.getD 0) s
   have k1:r[i]?.getD 0=ra[i]?.getD 0:=by rw[h2];exact N7 hA i (by omega)
   have k2:r.set i (fa (ra[i]?.getD 0) (fm (rb[i]?.getD 0) s))=(Du ra rb s).take (i+1)++ra.drop (i+1):=by
    rw[h2,←TM ra rb s i hl];exact N5 hA i (by omega)
   have hB:(R.set a r)[b]?.getD []=rb:=by rw[fI hab];exact hrb
   (try (simp -implicitDefEqProofs only[go_sem,h',hw,k1,W2 ha,hB,Wy,List.length_set]));repeat' first|(with_reducible first|exact tI|refine aI ?_ ?_|intro _)|((first|with_reducible refine AK ?_ ?_<;>intro _|(with_reducible refine isCall ?_);first|refine AE c1 ?_)<;>try (simp -implicitDefEqProofs only[go_sem,h',hw,k1,W2 ha,hB,Wy,List.length_set]))|simp (disch:=omega) only[Ae]|((with_reducible refine Ap ?_);refine⟨(_,_),rfl,?_,?_⟩)
   all_goals first|omega|(simp<;>omega)|skip
   all_goals first|exact k2|skip
  ·have h':¬(i:Int)<(rb.length:Int):=by omega
   have hk:i=rb.length:=by omega
   have hf:r=Du ra rb s:=by
    rw[h2,hk]
    have:=N8 hA
    rwa [hA,hl] at this
   subst hf
   have hB:(R.set a (Du ra rb s))[b]?.getD []=rb:=by rw[fI hab];exact hrb
   (try (simp -implicitDefEqProofs only[go_sem,h',hB,List.length_set]));repeat' first|(with_reducible first|exact tI|refine aI ?_ ?_|intro _)|((first|with_reducible refine AK ?_ ?_<;>intro _)<;>try (simp -implicitDefEqProofs only[go_sem,h',hB,List.length_set]))|simp (disch:=omega) only[Ae]|((with_reducible refine Ap ?_);refine⟨(_,_),rfl,?_,?_⟩)
   all_goals first|omega|(simp<;>omega)|skip
theorem V8 (nl nb na:Bool) (M:List (List F)) (at_:List Nat) (m:Nat) (hm:m=at_.length) (hl:M.length<=1000) (hs:∀i,i<M.length->m<(M[i]?.getD []).length) :
  CA E0 CZ [.list nl (M.map fun r=>.list nb (us r)),.fn DJ [.ptr [.list na (Ab (ni at_))]]] (.list M.isEmpty (us (M.map fun r=>r[m]?.getD 0))):=by
 subst hm
 have c0:∀r:List F,at_.length<r.length->CA E0 DJ [.list nb (us r),.ptr [.list na (Ab (ni at_))]] (.int .u8 ((r[at_.length]?.getD 0).val:Int)):=by
  intro r hr
  refine AL It An (by simp) fun hwf=>?_
  rw[AR];unfold Fa
  (try (simp -implicitDefEqProofs only[go_sem]));repeat' first|(with_reducible first|exact tI|refine aI ?_ ?_|intro _)|((first|with_reducible refine AK ?_ ?_<;>intro _)<;>try (simp -implicitDefEqProofs only[go_sem]))|simp (disch:=omega) only[Ae]|((with_reducible refine Ao ?_);refine⟨(_,_,_),rfl,?_,?_⟩)
  all_goals first|omega|(simp<;>omega)|skip
 refine AL Dt An (by simp) fun hwf=>?_
 rw[AR];unfold CR
 (try (simp -implicitDefEqProofs only[go_sem]));repeat' first|(with_reducible first|exact tI|refine aI ?_ ?_|intro _)|((first|with_reducible refine AK ?_ ?_<;>intro _)<;>try (simp -implicitDefEqProofs only[go_sem]))|simp (disch:=omega) only[Ae]|((with_reducible refine Ao ?_);refine⟨(_,_,_),rfl,?_,?_⟩)
 refine AX (α:=Nat×Bool×(List F)) (l0:=?l2) (m0:=?m2) (fun x=>[(10,.d (.int .i64 (x.1:Int)))]) (fun x=>[(19,.row 135 1 x.2.1 (us x.2.2))]) (fun x=>x.1<=M.length/\x.2.2=(M.take x.1).map (fun r=>r[at_.length]?.getD 0)/\x.2.1=x.2.2.isEmpty) (fun x=>M.length-x.1) (0,true,[]) ?h02 ?he2 ?he22 ?hI2 ?step2
 case h02=>(simp -implicitDefEqProofs only[go_sem];rfl)
 case he2=>rfl
 case he22=>rfl
 case' step2=>(rintro⟨i,b,l⟩ hI;try dsimp only at hI)
 case' hI2=>try dsimp only
 ·exact⟨by omega,rfl,rfl⟩
 ·obtain⟨h1,h2,h3⟩:=hI
  subst h3
  by_cases h:i<M.length
  ·have h':(i:Int)<(M.length:Int):=by omega
   have hw:IntKind.i64.wrap ((i:Int)+1)=((i+1:Nat):Int):=by rw[AZ _ (by omega)];omega
   have c1:=c0 (M[i]?.getD default) (hs i h)
   have hk:l++[(M[i]?.getD default)[at_.length]?.getD 0]=(M.take (i+1)).map (fun r=>r[at_.length]?.getD 0):=by
    rw[h2,List.take_succ,List.getElem?_eq_getElem h,List.map_append,Option.getD_some];rfl
   have hl3:l.length<=1000:=by rw[h2];simp;omega
   (try (simp -implicitDefEqProofs only[go_sem,h',hw,PF,NY]));repeat' first|(with_reducible first|exact tI|refine aI ?_ ?_|intro _)|((first|with_reducible refine AK ?_ ?_<;>intro _|(with_reducible refine isCall ?_);first|refine AE c1 ?_)<;>try (simp -implicitDefEqProofs only[go_sem,h',hw,PF,NY]))|simp (disch:=omega) only[Ae]|((with_reducible refine Ao ?_);refine⟨(_,_,_),rfl,?_,?_⟩)
   all_goals first|omega|(simp<;>omega)|skip
   all_goals first|exact hk|(exact(Le _ _).symm)|(simp at *;done)|(simp at *;omega)|skip
  ·have h':¬(i:Int)<(M.length:Int):=by omega
   have hk:i=M.length:=by omega
   subst hk
   rw[List.take_length] at h2
   have he:l.isEmpty=M.isEmpty:=by rw[h2];cases M<;>rfl
   rw[←h2,←he]
   (try (simp -implicitDefEqProofs only[go_sem,h']));repeat' first|(with_reducible first|exact tI|refine aI ?_ ?_|intro _)|((first|with_reducible refine AK ?_ ?_<;>intro _)<;>try (simp -implicitDefEqProofs only[go_sem,h']))|simp (disch:=omega) only[Ae]|((with_reducible refine Ao ?_);refine⟨(_,_,_),rfl,?_,?_⟩)
   all_goals first|omega|(simp<;>omega)|skip
   all_goals first|rfl|skip
end Go.Pw
end
section
namespace Go.Pw
def lm (ix:List Nat) (R:List (List F)):List (List F):=ix.map fun j=>R[j]?.getD []
structure PQ (n:Nat) (ix:List Nat) (R:List (List F)):Prop where
 li:ix.length=n
 lr:R.length=n
 nd:ix.Nodup
 lt:∀j,j∈ix->j<n
def GC (ix:List Nat) (i:Nat):Nat:=ix[i]?.getD 0
theorem LV {l:List Nat}{i:Nat}(h:i<l.length):GC l i=l[i]:=by unfold GC;rw[List.getElem?_eq_getElem h];rfl
theorem lR {ix:List Nat}{i:Nat}(h:i<ix.length):GC ix i∈ix:=by unfold GC;rw[List.getElem?_eq_getElem h];exact List.getElem_mem h
theorem PQ.ix_lt {n ix R} (h:PQ n ix R) {i:Nat}(hi:i<n):GC ix i<n:=h.lt _ (lR (by rw[h.li];exact hi))
theorem PQ.ix_inj {n ix R} (h:PQ n ix R) {i j:Nat}(hi:i<n) (hj:j<n) (he:GC ix i=GC ix j):i=j:=by
 have h1:=h.li
 unfold GC at he
 rw[List.getElem?_eq_getElem (by omega),List.getElem?_eq_getElem (by omega)] at he
 exact(List.getElem_inj h.nd).1 he
theorem G5 (ix R):(lm ix R).length=ix.length:=by simp[lm]
theorem D_ {n ix R} (h:PQ n ix R) {i:Nat}(hi:i<n):A4 (lm ix R) i=R[GC ix i]?.getD []:=by
 have h1:=h.li
 unfold A4 lm GC
 rw[List.getElem?_map,List.getElem?_eq_getElem (by omega)];rfl
theorem PQ.set {n ix R} (h:PQ n ix R) (a:Nat) (r:List F):PQ n ix (R.set a r):=⟨h.li,by simpa using h.lr,h.nd,h.lt⟩
theorem VX {n ix R} (h:PQ n ix R) {i:Nat}(hi:i<n) (r:List F):lm ix (R.set (GC ix i) r)=(lm ix R).set i r:=by
 have h1:=h.li
 apply List.ext_getElem?
 intro j
 by_cases hj:j<n
 ·have e1:(lm ix (R.set (GC ix i) r))[j]?=some (A4 (lm ix (R.set (GC ix i) r)) j):=by
   unfold A4;rw[List.getElem?_eq_getElem (by rw[G5];omega)];rfl
  rw[e1,D_ (h.set _ _) hj]
  by_cases hij:i=j
  ·subst hij
   rw[List.getElem?_set_self (by rw[h.lr];exact h.ix_lt hi),List.getElem?_set_self (by rw[G5];omega)];rfl
  ·rw[List.getElem?_set_ne (fun e=>hij (h.ix_inj hi hj e)),List.getElem?_set_ne hij]
   unfold lm
   rw[List.getElem?_map,List.getElem?_eq_getElem (l:=ix) (by omega)]
   show some _=some _
   unfold GC
   rw[List.getElem?_eq_getElem (l:=ix) (by omega)];rfl
 ·rw[List.getElem?_eq_none (by rw[G5];omega),List.getElem?_eq_none (by simp[G5];omega)]
theorem bA {n ix R} (h:PQ n ix R) {k p:Nat}(hk:k<n) (hp:p<n):PQ n ((ix.set k (GC ix p)).set p (GC ix k)) R/\lm ((ix.set k (GC ix p)).set p (GC ix k)) R=swp (lm ix R) k p/\GC ((ix.set k (GC ix p)).set p (GC ix k)) k=GC ix p:=by
 have h1:=h.li
 have hget:∀j,j<n->GC ((ix.set k (GC ix p)).set p (GC ix k)) j=if j=p then GC ix k else if j=k then GC ix p else GC ix j:=fun j hj=>by
  rw[show GC ((ix.set k (GC ix p)).set p (GC ix k)) j=((ix.set k (GC ix p)).set p (GC ix k))[j]?.getD 0 from rfl]
  by_cases e1:j=p
  ·subst e1;rw[List.getElem?_set_self (by simp;omega),if_pos rfl];rfl
  ·rw[List.getElem?_set_ne fun e=>e1 e.symm,if_neg e1]
   by_cases e2:j=k
   ·subst e2;rw[List.getElem?_set_self (by omega),if_pos rfl];rfl
   ·rw[List.getElem?_set_ne fun e=>e2 e.symm,if_neg e2];rfl
 have hlen:((ix.set k (GC ix p)).set p (GC ix k)).length=n:=by simp[h1]
 have hP:PQ n ((ix.set k (GC ix p)).set p (GC ix k)) R:=by
  refine⟨hlen,h.lr,?_,fun j hj=>?_⟩
  ·refine List.pairwise_iff_getElem.2 fun i j hi hj hij he=>?_
   have e1:=hget i (by omega)
   have e2:=hget j (by omega)
   have he':GC ((ix.set k (GC ix p)).set p (GC ix k)) i=GC ((ix.set k (GC ix p)).set p (GC ix k)) j:=by
    rw[LV hi,LV hj];exact he
   rw[e1,e2] at he'
   have inj:∀{a b},a<n->b<n->GC ix a=GC ix b->a=b:=fun ha hb=>h.ix_inj ha hb
   have:i=j:=by
    by_cases c1:i=p<;>by_cases c2:j=p
    ·omega
    ·rw[if_pos c1,if_neg c2] at he'
     by_cases c3:j=k
     ·rw[if_pos c3] at he';have:=inj hk hp he';omega
     ·rw[if_neg c3] at he';have:=inj hk (by omega) he';omega
    ·rw[if_neg c1,if_pos c2] at he'
     by_cases c3:i=k
     ·rw[if_pos c3] at he';have:=inj hp hk he';omega
     ·rw[if_neg c3] at he';have:=inj (by omega) hk he';omega
    ·rw[if_neg c1,if_neg c2] at he'
     by_cases c3:i=k<;>by_cases c4:j=k
     ·omega
     ·rw[if_pos c3,if_neg c4] at he';have:=inj hp (by omega) he';omega
     ·rw[if_neg c3,if_pos c4] at he';have:=inj (by omega) hp he';omega
     ·rw[if_neg c3,if_neg c4] at he';exact inj (by omega) (by omega) he'
   omega
  ·obtain⟨i,hi,rfl⟩:=List.getElem_of_mem hj
   rw[←LV hi,hget i (by omega)]
   split
   ·exact h.ix_lt hk
   ·split
    ·exact h.ix_lt hp
    ·exact h.ix_lt (by omega)
 refine⟨hP,?_,?_⟩
 ·apply List.ext_getElem
  ·simp[G5,swp,h1]
  ·intro j h2 h3
   have hj:j<n:=by rw[G5,hlen] at h2;exact h2
   have e1:=D_ hP hj
   have e2:=Ei (lm ix R) k p j (by rw[G5];omega) (by rw[G5];omega)
   unfold A4 at e1
   rw[List.getElem?_eq_getElem h2] at e1
   rw[show A4 (swp (lm ix R) k p) j=(swp (lm ix R) k p)[j]?.getD [] from rfl,List.getElem?_eq_getElem h3] at e2
   have e1':(lm ((ix.set k (GC ix p)).set p (GC ix k)) R)[j]=R[GC ((ix.set k (GC ix p)).set p (GC ix k)) j]?.getD []:=e1
   have e2':(swp (lm ix R) k p)[j]=if j=p then A4 (lm ix R) k else if j=k then A4 (lm ix R) p else A4 (lm ix R) j:=e2
   rw[e1',e2',hget j hj]
   split
   ·rw[D_ h hk]
   ·split
    ·rw[D_ h hp]
    ·rw[D_ h hj]
 ·rw[hget k hk]
  split
  ·rename_i e;subst e;rfl
  ·rw[if_pos rfl]
structure Ur (L P:Nat) (at_:List Nat) (s:List F) (ix:List Nat) (R:List (List F)) (k:Nat):Prop where
 pq:PQ P ix R
 shp:Ri (lm ix R) P (at_.length+1)
 red:eO (lm ix R) k
 sat:∀c v,v.length=at_.length->(RK c (lm ix R) v↔RK c (K4 L P at_ s) v)
theorem gO (R:List (List F)):lm (List.range R.length) R=R:=by
 apply List.ext_getElem
 ·simp[lm]
 ·intro i h1 h2
  simp[lm,h2]
theorem Ur.start {L P:Nat}{at_:List Nat}{s:List F}:Ur L P at_ s (List.range P) (K4 L P at_ s) 0:=by
 have hl:=(MT L P at_ s).len
 have e:lm (List.range P) (K4 L P at_ s)=K4 L P at_ s:=by
  have:=gO (K4 L P at_ s)
  rwa [hl] at this
 refine⟨⟨by simp,hl,List.nodup_range,fun j hj=>by simpa using hj⟩,by rw[e];exact MT L P at_ s,⟨fun i j hi hj=>by omega,fun j hj=>by omega⟩,fun c v hv=>by rw[e]⟩
theorem Ur.rlen {L P at_ s ix R k} (h:Ur L P at_ s ix R k) {i:Nat}(hi:i<P):(R[GC ix i]?.getD []).length=at_.length+1:=by
 have:=h.shp.row i hi
 rwa [D_ h.pq hi] at this
theorem Ur.fail {L P at_ s ix R k} (h:Ur L P at_ s ix R k) (hL:L<=15) (hp:YZ L at_) (hm:at_.length<=P) (hk:k<at_.length) (hz:∀i,k<=i->i<P->CV (lm ix R) i k=0):False:=by
 obtain⟨v,h1,h2,h3⟩:=fS h.shp h.red hk hm hz
 have:=Xa hL hp hm h1 ((h.sat 0 v h1).1 h2) k
 rw[h3] at this
 exact absurd this (by decide)
theorem Ur.step {L P at_ s ix R k} (h:Ur L P at_ s ix R k) {p:Nat}(hk:k<P) (hkp:k<=p) (hp:p<P) (hnz:CV (lm ix R) p k≠0) {f:F->F->F}(hf:∀a,fm (CV (lm ix R) p k) (f a (CV (lm ix R) p k))=a)
  {ix':List Nat}{R':List (List F)}(hpq:PQ P ix' R') (hr:lm ix' R'=Bg f (swp (lm ix R) k p) k):Ur L P at_ s ix' R' (k+1)/\(∀j,j<k->CV (lm ix' R') j j=CV (lm ix R) j j):=by
 have s1:=h.shp.swp hk hp
 have r1:=h.red.swp h.shp hk hkp hp
 have e1:=Vs h.shp hk hp k
 refine⟨⟨hpq,by rw[hr];exact s1.red f hk,by rw[hr];exact r1.red f s1 hk (by rw[e1];exact hnz) (by rw[e1];exact hf),fun c v hv=>?_⟩,fun j hj=>?_⟩
 ·rw[hr,bQ f s1 hk,bP h.shp hk hp];exact h.sat c v hv
 ·rw[hr,Qo f s1 r1 hk j (by omega)]
  unfold CV
  rw[Ei _ _ _ _ (by rw[h.shp.len];omega) (by rw[h.shp.len];omega),if_neg (by omega),if_neg (by omega)]
theorem Ur.stepS {L P at_ s ix R k} (h:Ur L P at_ s ix R k) (h1:∀j,j<k->CV (lm ix R) j j=1) {p:Nat}(hk:k<P) (hkp:k<=p) (hp:p<P) (hnz:CV (lm ix R) p k≠0)
  {ix':List Nat}{R':List (List F)}(hpq:PQ P ix' R') (hr:lm ix' R'=Bg (fun a _=>a) ((swp (lm ix R) k p).set k (H7 (A4 (swp (lm ix R) k p) k) (fi (CV (lm ix R) p k)))) k) :
  Ur L P at_ s ix' R' (k+1)/\∀j,j<k+1->CV (lm ix' R') j j=1:=by
 have s1:=h.shp.swp hk hp
 have r1:=h.red.swp h.shp hk hkp hp
 have e1:=Vs h.shp hk hp k
 have s2:=s1.scl hk (fi (CV (lm ix R) p k))
 have r2:=r1.scl s1 hk (fi (CV (lm ix R) p k))
 have e2:CV ((swp (lm ix R) k p).set k (H7 (A4 (swp (lm ix R) k p) k) (fi (CV (lm ix R) p k)))) k k=1:=by
  rw[bK s1 hk,if_pos rfl,e1,nO _ hnz]
 refine⟨⟨hpq,by rw[hr];exact s2.red _ hk,by rw[hr];exact r2.red _ s2 hk (by rw[e2];decide) (by rw[e2];exact fun a=>VP a),fun c v hv=>?_⟩,fun j hj=>?_⟩
 ·rw[hr,bQ _ s2 hk,my s1 hk (qY _),bP h.shp hk hp];exact h.sat c v hv
 ·rw[hr,Qo _ s2 r2 hk j (by omega)]
  rcases Nat.lt_succ_iff_lt_or_eq.1 hj with hj|rfl
  ·rw[bK s1 hk,if_neg (by omega)]
   have:CV (swp (lm ix R) k p) j j=CV (lm ix R) j j:=by
    unfold CV
    rw[Ei _ _ _ _ (by rw[h.shp.len];omega) (by rw[h.shp.len];omega),if_neg (by omega),if_neg (by omega)]
   rw[this];exact h1 j hj
  ·exact e2
theorem Ur.ends {L P at_ s ix R} (h:Ur L P at_ s ix R at_.length) (hL:L<=15) (hp:YZ L at_) (hm:at_.length<=P) (v:List F) (hv:v.length=at_.length)
  (hd:∀i,i<at_.length->fm (CV (lm ix R) i i) (EY v i)=CV (lm ix R) i at_.length) (hz:∀i,at_.length<=i->i<P->CV (lm ix R) i at_.length=0):HN L P at_ s=some v :=
 MJ hL hp hm hv ((h.sat 1 v hv).1 ((ab h.shp h.red hm v hv).2 ⟨hd,hz⟩))
theorem Ur.endsN {L P at_ s ix R} (h:Ur L P at_ s ix R at_.length) (hm:at_.length<=P) {i:Nat}(h1:at_.length<=i) (h2:i<P) (hz:CV (lm ix R) i at_.length≠0):HN L P at_ s=none :=
 bn fun v hv hs=>hz (((ab h.shp h.red hm v hv).1 ((h.sat 1 v hv).2 hs)).2 i h1 h2)
theorem SH {f:F->F->F}{M:List (List F)}{k i:Nat}(hi:i<M.length) (hik:i≠k):((Bg f M k).take i++M.drop i).set i (Du (A4 M i) (A4 M k) (f (CV M i k) (CV M k k)))=(Bg f M k).take (i+1)++M.drop (i+1):=by
 have hl:(Bg f M k).length=M.length:=by simp[Bg]
 have h1:((Bg f M k).take i).length=i:=by simp;omega
 have h2:(Bg f M k).take (i+1)=(Bg f M k).take i++[Du (A4 M i) (A4 M k) (f (CV M i k) (CV M k k))]:=by
  rw[List.take_add_one,List.getElem?_eq_getElem (by omega)]
  have:=Df f M k i hi
  rw[show A4 (Bg f M k) i=(Bg f M k)[i]?.getD [] from rfl,List.getElem?_eq_getElem (by omega),if_neg hik] at this
  rw[show (Bg f M k)[i]=Du (A4 M i) (A4 M k) (f (CV M i k) (CV M k k)) from this];rfl
 rw[List.set_append_right _ _ (by omega),h1,Nat.sub_self,List.drop_eq_getElem_cons hi,List.set_cons_zero,h2,List.append_assoc]
 rfl
theorem SF {f:F->F->F}{M:List (List F)}{k:Nat}(hk:k<M.length):(Bg f M k).take k++M.drop k=(Bg f M k).take (k+1)++M.drop (k+1):=by
 have hl:(Bg f M k).length=M.length:=by simp[Bg]
 have h2:(Bg f M k).take (k+1)=(Bg f M k).take k++[M[k]]:=by
  rw[List.take_add_one,List.getElem?_eq_getElem (by omega)]
  have:=Df f M k k hk
  rw[show A4 (Bg f M k) k=(Bg f M k)[k]?.getD [] from rfl,List.getElem?_eq_getElem (by omega),if_pos rfl] at this
  rw[show (Bg f M k)[k]=A4 M k from this]
  unfold A4
  rw[List.getElem?_eq_getElem hk];rfl
 rw[List.drop_eq_getElem_cons hk,h2,List.append_assoc];rfl
theorem VJ {f:F->F->F}{M:List (List F)}{k i:Nat}(hi:i<M.length):A4 ((Bg f M k).take i++M.drop i) i=A4 M i:=by
 have hl:(Bg f M k).length=M.length:=by simp[Bg]
 unfold A4
 rw[List.getElem?_append_right (by simp;omega)]
 simp only[List.length_take,List.getElem?_drop]
 congr 2;omega
theorem SG {f:F->F->F}{M:List (List F)}{k i:Nat}(hk:k<M.length) (hi:i<=M.length):A4 ((Bg f M k).take i++M.drop i) k=A4 M k:=by
 have hl:(Bg f M k).length=M.length:=by simp[Bg]
 by_cases h:k<i
 ·have:=Df f M k k hk
  rw[if_pos rfl] at this
  rw[←this]
  unfold A4
  rw[List.getElem?_append_left (by simp;omega),List.getElem?_take_of_lt h]
 ·unfold A4
  rw[List.getElem?_append_right (by simp;omega)]
  simp only[List.length_take,List.getElem?_drop]
  congr 2;omega
theorem VK {f:F->F->F}{M:List (List F)}{k:Nat}:(Bg f M k).take M.length++M.drop M.length=Bg f M k:=by
 have hl:(Bg f M k).length=M.length:=by simp[Bg]
 rw[List.take_of_length_le (by omega),List.drop_eq_nil_of_le (by omega),List.append_nil]
end Go.Pw
end
