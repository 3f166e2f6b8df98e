/- A part of the proof. -/
import Derived.Test.YtpcpcjbbdgmohaaDoorCorrectSpec
set_option linter.all false
section
namespace Go.Pw
def E':List F->List F->F
 |a::asq,b::bs=>fa (fm a b) (E' asq bs)
 |_,_=>0
def Fz (r o:List F) (b:F):List F:=List.zipWith (fun x y=>fa x (fm y b)) r o
def Gv (r:List F) (b:F):List F:=r.map fun x=>fm x b
def EG (r:List F) (j:Nat):F:=r[j]?.getD 0
def BV (M:List (List F)) (i:Nat):List F:=M[i]?.getD []
def DW (M:List (List F)) (i j:Nat):F:=EG (BV M i) j
theorem bd (a b c:F):fa a (fa b c)=fa b (fa a c):=by rw[←D0,Lh a b,D0]
theorem f7 (a b c d:F):fa (fa a b) (fa c d)=fa (fa a c) (fa b d):=by rw[D0,D0,bd b c d]
theorem ce (a b c:F):fm (fa a b) c=fa (fm a c) (fm b c):=by rw[Df,KQ,Df c a,Df c b]
theorem Lb (a b c:F):fm a (fm b c)=fm b (fm a c):=by rw[←FJ,Df a b,FJ]
theorem J4 (w:List F):E' [] w=0:=rfl
theorem OG (w:List F):E' w []=0:=by cases w<;>rfl
theorem Dm (a b:F) (asq bs:List F):E' (a::asq) (b::bs)=fa (fm a b) (E' asq bs):=rfl
theorem Ll (b:F):∀(r o w:List F),r.length=o.length->E' (Fz r o b) w=fa (E' r w) (fm b (E' o w))
 |[],[],w,_=>by simp[Fz,J4,De,Cy]
 |x::r,y::o,[],_=>by simp[OG,De,Cy]
 |x::r,y::o,c::w,h=>by
  have ih:=Ll b r o w (by simpa using h)
  simp only[Fz,List.zipWith_cons_cons,Dm] at ih ⊢
  rw[ih,ce,KQ,FJ,Lb,f7]
theorem OE (b:F):∀(r w:List F),E' (Gv r b) w=fm b (E' r w)
 |[],w=>by simp[Gv,J4,De]
 |x::r,[]=>by simp[OG,De]
 |x::r,c::w=>by
  have ih:=OE b r w
  simp only[Gv,List.map_cons,Dm] at ih ⊢
  rw[ih,KQ,FJ,Lb]
theorem OD (x y:F):∀(r w:List F),r.length=w.length->E' (r++[x]) (w++[y])=fa (E' r w) (fm x y)
 |[],[],_=>by simp[E',Cy,H3]
 |a::r,b::w,h=>by
  have ih:=OD x y r w (by simpa using h)
  simp only[List.cons_append,Dm]
  rw[ih,D0]
theorem NS:∀(r w:List F) (i:Nat),i<r.length->r.length=w.length->(∀j,j≠i->fm (EG r j) (EG w j)=0)->E' r w=fm (EG r i) (EG w i)
 |a::r,b::w,0,_,hl,h=>by
  have hz:E' r w=0:=by
   have key:∀(r w:List F),(∀j,fm (EG r j) (EG w j)=0)->E' r w=0:=by
    intro r
    induction r with
    |nil=>intro w _;rfl
    |cons a r ih =>
     intro w h
     cases w with
     |nil=>rfl
     |cons b w =>
      rw[Dm,ih w fun j=>h (j+1),show fm a b=0 from h 0];rfl
   exact key r w fun j=>h (j+1) (by omega)
  rw[Dm,hz,Cy];rfl
 |a::r,b::w,i+1,hi,hl,h=>by
  have ih:=NS r w i (by simpa using hi) (by simpa using hl) fun j hj=>h (j+1) (by omega)
  rw[Dm,ih,show fm a b=0 from h 0 (by omega),H3];rfl
theorem Qn:∀(r w:List F) (i k:Nat),i<k->k<r.length->r.length=w.length->(∀j,j≠i->j≠k->fm (EG r j) (EG w j)=0)->E' r w=fa (fm (EG r i) (EG w i)) (fm (EG r k) (EG w k))
 |a::r,b::w,0,k+1,_,hk,hl,h=>by
  rw[Dm,NS r w k (by simpa using hk) (by simpa using hl) fun j hj=>h (j+1) (by omega) (by omega)];rfl
 |a::r,b::w,i+1,k+1,hik,hk,hl,h=>by
  have ih:=Qn r w i k (by omega) (by simpa using hk) (by simpa using hl) fun j hj hj2=>h (j+1) (by omega) (by omega)
  rw[Dm,ih,show fm a b=0 from h 0 (by omega) (by omega),H3];rfl
def Ox (c:F) (M:List (List F)) (v:List F):Prop:=∀i,i<M.length->E' (BV M i) (v++[c])=0
structure Ot (M:List (List F)) (n m:Nat):Prop where
 len:M.length=n
 row:∀i,i<n->(BV M i).length=m
def BX (f:F->F->F) (M:List (List F)) (k:Nat):List (List F):=(List.range M.length).map fun i=>if i=k then BV M k else Fz (BV M i) (BV M k) (f (DW M i k) (DW M k k))
def swp (M:List (List F)) (k p:Nat):List (List F):=(M.set k (BV M p)).set p (BV M k)
theorem Kn {α:Type}(n i:Nat) (g:Nat->List F) (h:i<n):BV ((List.range n).map g) i=g i:=by simp[BV,h]
theorem Fm (M:List (List F)) (k i:Nat) (r:List F) (hk:k<M.length):BV (M.set k r) i=if i=k then r else BV M i:=by
 unfold BV
 by_cases h:i=k
 ·subst h;simp[hk]
 ·rw[List.getElem?_set_ne (fun e=>h e.symm),if_neg h]
theorem DP (f:F->F->F) (M:List (List F)) (k i:Nat) (h:i<M.length):BV (BX f M k) i=if i=k then BV M k else Fz (BV M i) (BV M k) (f (DW M i k) (DW M k k)) :=
 Kn (α:=F) M.length i _ h
theorem EM (M:List (List F)) (k p i:Nat) (hk:k<M.length) (hp:p<M.length):BV (swp M k p) i=if i=p then BV M k else if i=k then BV M p else BV M i:=by
 unfold swp
 rw[Fm _ _ _ _ (by simpa using hp),Fm _ _ _ _ hk]
theorem L9 (r o:List F) (b:F) (h:r.length=o.length):(Fz r o b).length=r.length:=by simp[Fz,h]
theorem Rq (r:List F) (b:F):(Gv r b).length=r.length:=by simp[Gv]
theorem Ot.swp {M:List (List F)}{n m k p:Nat}(h:Ot M n m) (hk:k<n) (hp:p<n):Ot (swp M k p) n m:=by
 have hl:=h.len
 refine⟨by simp[Go.Pw.swp,hl],fun i hi=>?_⟩
 rw[EM _ _ _ _ (by omega) (by omega)]
 split
 ·exact h.row k hk
 ·split
  ·exact h.row p hp
  ·exact h.row i hi
theorem Ot.scl {M:List (List F)}{n m k:Nat}(h:Ot M n m) (hk:k<n) (b:F):Ot (M.set k (Gv (BV M k) b)) n m:=by
 have hl:=h.len
 refine⟨by simp[hl],fun i hi=>?_⟩
 rw[Fm _ _ _ _ (by omega)]
 split
 ·rw[Rq];exact h.row k hk
 ·exact h.row i hi
theorem Ot.red {M:List (List F)}{n m k:Nat}(f:F->F->F) (h:Ot M n m) (hk:k<n):Ot (BX f M k) n m:=by
 have hl:=h.len
 refine⟨by simp[BX,hl],fun i hi=>?_⟩
 rw[DP _ _ _ _ (by omega)]
 split
 ·exact h.row k hk
 ·rw[L9]
  ·exact h.row i hi
  ·rw[h.row i hi,h.row k hk]
theorem VC {M:List (List F)}{n m k p:Nat}(h:Ot M n m) (hk:k<n) (hp:p<n) (c:F) (v:List F):Ox c (swp M k p) v↔Ox c M v:=by
 have hl:=h.len
 have hl2:=(h.swp hk hp).len
 constructor
 ·intro hs i hi
  by_cases h1:i=k
  ·subst h1
   have:=hs p (by omega)
   rwa [EM _ _ _ _ (by omega) (by omega),if_pos rfl] at this
  ·by_cases h2:i=p
   ·subst h2
    have:=hs k (by omega)
    rwa [EM _ _ _ _ (by omega) (by omega),if_neg (fun e=>h1 e.symm),if_pos rfl] at this
   ·have:=hs i (by omega)
    rwa [EM _ _ _ _ (by omega) (by omega),if_neg h2,if_neg h1] at this
 ·intro hs i hi
  rw[EM _ _ _ _ (by omega) (by omega)]
  split
  ·exact hs k (by omega)
  ·split
   ·exact hs p (by omega)
   ·exact hs i (by omega)
theorem cT {M:List (List F)}{n m k:Nat}(h:Ot M n m) (hk:k<n) {b:F}(hb:b≠0) (c:F) (v:List F):Ox c (M.set k (Gv (BV M k) b)) v↔Ox c M v:=by
 have hl:=h.len
 constructor
 ·intro hs i hi
  have:=hs i (by simpa using hi)
  rw[Fm _ _ _ _ (by omega)] at this
  split at this
  ·rename_i e;subst e
   rw[OE] at this
   exact(N_ _ _ this).resolve_left hb
  ·exact this
 ·intro hs i hi
  rw[Fm _ _ _ _ (by omega)]
  split
  ·rename_i e;subst e;rw[OE,hs i (by omega),De]
  ·exact hs i (by simpa using hi)
theorem VD {M:List (List F)}{n m k:Nat}(f:F->F->F) (h:Ot M n m) (hk:k<n) (c:F) (v:List F):Ox c (BX f M k) v↔Ox c M v:=by
 have hl:=h.len
 have hl2:=(h.red f hk).len
 constructor
 ·intro hs i hi
  have h1:=hs k (by omega)
  rw[DP _ _ _ _ (by omega),if_pos rfl] at h1
  by_cases hik:i=k
  ·subst hik;exact h1
  ·have h2:=hs i (by omega)
   rw[DP _ _ _ _ (by omega),if_neg hik,Ll _ _ _ _ (by rw[h.row i (by omega),h.row k hk]),h1,De,Cy] at h2
   exact h2
 ·intro hs i hi
  rw[DP _ _ _ _ (by omega)]
  split
  ·exact hs k (by omega)
  ·rw[Ll _ _ _ _ (by rw[h.row i (by omega),h.row k hk]),hs i (by omega),hs k (by omega),De,Cy]
structure Wx (M:List (List F)) (k:Nat):Prop where
 off:∀i j,i<M.length->j<k->i≠j->DW M i j=0
 dia:∀j,j<k->DW M j j≠0
theorem L6 (r o:List F) (b:F) (j:Nat) (h:r.length=o.length):EG (Fz r o b) j=fa (EG r j) (fm (EG o j) b):=by
 unfold EG Fz
 rw[List.getElem?_zipWith]
 by_cases hj:j<r.length
 ·rw[List.getElem?_eq_getElem hj,List.getElem?_eq_getElem (by omega)];rfl
 ·rw[List.getElem?_eq_none (by omega),List.getElem?_eq_none (l:=o) (by omega)]
  show (0:F)=fa 0 (fm 0 b)
  rw[CP];rfl
theorem Od (r:List F) (b:F) (j:Nat):EG (Gv r b) j=fm (EG r j) b:=by
 unfold EG Gv
 rw[List.getElem?_map]
 cases r[j]? with
 |none=>exact(CP b).symm
 |some x=>rfl
theorem Wx.swp {M:List (List F)}{n m k p:Nat}(hs:Ot M n m) (h:Wx M k) (hk:k<n) (hkp:k<=p) (hp:p<n):Wx (swp M k p) k:=by
 have hl:=hs.len
 have hl2:=(hs.swp hk hp).len
 refine⟨fun i j hi hj hij=>?_,fun j hj=>?_⟩
 ·unfold DW
  rw[EM _ _ _ _ (by omega) (by omega)]
  split
  ·exact h.off k j (by omega) hj (by omega)
  ·split
   ·exact h.off p j (by omega) hj (by omega)
   ·exact h.off i j (by omega) hj hij
 ·unfold DW
  rw[EM _ _ _ _ (by omega) (by omega),if_neg (by omega),if_neg (by omega)]
  exact h.dia j hj
theorem U5 {M:List (List F)}{n m k p:Nat}(hs:Ot M n m) (hk:k<n) (hp:p<n) (j:Nat):DW (swp M k p) k j=DW M p j:=by
 have hl:=hs.len
 unfold DW
 rw[EM _ _ _ _ (by omega) (by omega)]
 split
 ·rename_i e;subst e;rfl
 ·rw[if_pos rfl]
theorem Wx.scl {M:List (List F)}{n m k:Nat}(hs:Ot M n m) (h:Wx M k) (hk:k<n) (b:F):Wx (M.set k (Gv (BV M k) b)) k:=by
 have hl:=hs.len
 refine⟨fun i j hi hj hij=>?_,fun j hj=>?_⟩
 ·unfold DW
  rw[Fm _ _ _ _ (by omega)]
  split
  ·rw[Od,show EG (BV M k) j=0 from h.off k j (by omega) hj (by omega),CP]
  ·exact h.off i j (by simpa using hi) hj hij
 ·unfold DW
  rw[Fm _ _ _ _ (by omega),if_neg (by omega)]
  exact h.dia j hj
theorem U6 {M:List (List F)}{n m k:Nat}(hs:Ot M n m) (hk:k<n) (b:F) (i j:Nat):DW (M.set k (Gv (BV M k) b)) i j=if i=k then fm (DW M k j) b else DW M i j:=by
 have hl:=hs.len
 unfold DW
 rw[Fm _ _ _ _ (by omega)]
 split
 ·rw[Od]
 ·rfl
theorem Wx.red {M:List (List F)}{n m k:Nat}(f:F->F->F) (hs:Ot M n m) (h:Wx M k) (hk:k<n) (hd:DW M k k≠0) (hf:∀a,fm (DW M k k) (f a (DW M k k))=a):Wx (BX f M k) (k+1):=by
 have hl:=hs.len
 have hl2:=(hs.red f hk).len
 have e:∀i j,i<n->DW (BX f M k) i j=if i=k then DW M k j else fa (DW M i j) (fm (DW M k j) (f (DW M i k) (DW M k k))):=fun i j hi=>by
  show EG (BV (BX f M k) i) j=_
  rw[DP _ _ _ _ (by omega)]
  split
  ·rfl
  ·rw[L6 _ _ _ _ (by rw[hs.row i hi,hs.row k hk])];rfl
 refine⟨fun i j hi hj hij=>?_,fun j hj=>?_⟩
 ·rw[e i j (by omega)]
  rcases Nat.lt_succ_iff_lt_or_eq.1 hj with hj|rfl
  ·split
   ·exact h.off k j (by omega) hj (by omega)
   ·rw[h.off i j (by omega) hj hij,h.off k j (by omega) hj (by omega),CP];rfl
  ·rw[if_neg hij,hf,FK]
 ·rcases Nat.lt_succ_iff_lt_or_eq.1 hj with hj|rfl
  ·rw[e j j (by omega),if_neg (by omega),h.off k j (by omega) hj (by omega),CP,Cy];exact h.dia j hj
  ·rw[e j j (by omega),if_pos rfl];exact hd
theorem Mv {M:List (List F)}{n m k:Nat}(f:F->F->F) (hs:Ot M n m) (h:Wx M k) (hk:k<n) (j:Nat) (hj:j<=k):DW (BX f M k) j j=DW M j j:=by
 have hl:=hs.len
 show EG (BV (BX f M k) j) j=_
 rw[DP _ _ _ _ (by omega)]
 split
 ·rename_i e;subst e;rfl
 ·rename_i hne
  rw[L6 _ _ _ _ (by rw[hs.row j (by omega),hs.row k hk]),show EG (BV M k) j=0 from h.off k j (by omega) (by omega) (by omega),CP,Cy];rfl
theorem IV (v:List F) (c:F) (j:Nat) (h:j<v.length):EG (v++[c]) j=EG v j:=by unfold EG;rw[List.getElem?_append_left h]
theorem K9 (v:List F) (c:F):EG (v++[c]) v.length=c:=by unfold EG;simp
theorem Q3 (v:List F) (j:Nat) (h:v.length<=j):EG v j=0:=by unfold EG;rw[List.getElem?_eq_none h];rfl
theorem Ul {M:List (List F)}{n m:Nat}(hs:Ot M n (m+1)) (h:Wx M m) (hm:m<=n) (v:List F) (hv:v.length=m) :
  Ox 1 M v↔(∀i,i<m->fm (DW M i i) (EG v i)=DW M i m)/\∀i,m<=i->i<n->DW M i m=0:=by
 have hl:=hs.len
 have hw:(v++[1]).length=m+1:=by simp[hv]
 have low:∀i,i<m->E' (BV M i) (v++[1])=fa (fm (DW M i i) (EG v i)) (DW M i m):=fun i hi=>by
  rw[Qn (BV M i) (v++[1]) i m hi (by rw[hs.row i (by omega)];omega) (by rw[hs.row i (by omega),hw]) fun j h1 h2=>?_]
  ·rw[IV _ _ _ (by omega),show EG (v++[1]) m=1 by rw[←hv];exact K9 v 1,II];rfl
  ·by_cases hj:j<m
   ·rw[show EG (BV M i) j=0 from h.off i j (by omega) hj (fun e=>h1 e.symm),CP]
   ·rw[Q3 (BV M i) j (by rw[hs.row i (by omega)];omega),CP]
 have high:∀i,m<=i->i<n->E' (BV M i) (v++[1])=DW M i m:=fun i hi hi2=>by
  rw[NS (BV M i) (v++[1]) m (by rw[hs.row i (by omega)];omega) (by rw[hs.row i (by omega),hw]) fun j h1=>?_]
  ·rw[show EG (v++[1]) m=1 by rw[←hv];exact K9 v 1,II];rfl
  ·by_cases hj:j<m
   ·rw[show EG (BV M i) j=0 from h.off i j (by omega) hj (by omega),CP]
   ·rw[Q3 (BV M i) j (by rw[hs.row i (by omega)];omega),CP]
 constructor
 ·intro hsat
  refine⟨fun i hi=>?_,fun i hi hi2=>?_⟩
  ·have:=hsat i (by omega)
   rw[low i hi] at this
   exact Gc _ _ this
  ·have:=hsat i (by omega)
   rwa [high i hi hi2] at this
 ·rintro⟨h1,h2⟩ i hi
  by_cases him:i<m
  ·rw[low i him,h1 i him,FK]
  ·rw[high i (by omega) (by omega)];exact h2 i (by omega) (by omega)
theorem Xj {M:List (List F)}{n m k:Nat}(hs:Ot M n (m+1)) (h:Wx M k) (hk:k<m) (hm:m<=n) (hz:∀i,k<=i->i<n->DW M i k=0) :
  ∃v:List F,v.length=m/\Ox 0 M v/\EG v k=1:=by
 have hl:=hs.len
 obtain⟨v,hvd⟩:∃v:List F,v=(List.range m).map fun j=>if j<k then fm (DW M j k) (fi (DW M j j)) else if j=k then 1 else 0:=⟨_,rfl⟩
 have hv:v.length=m:=by simp[hvd]
 have ha:∀j,j<m->EG v j=if j<k then fm (DW M j k) (fi (DW M j j)) else if j=k then 1 else 0:=fun j hj=>by rw[hvd];simp[EG,hj]
 have hvk:EG v k=1:=by rw[ha k hk,if_neg (by omega),if_pos rfl]
 refine⟨v,hv,fun i hi=>?_,hvk⟩
 have hw:(v++[0]).length=m+1:=by simp[hv]
 have hw0:∀j,j≠k->¬j<k->EG (v++[0]) j=0:=fun j h1 h2=>by
  by_cases hj:j<m
  ·rw[IV _ _ _ (by omega),ha j hj,if_neg h2,if_neg h1]
  ·by_cases hjm:j=m
   ·subst hjm;rw[←hv];exact K9 v 0
   ·exact Q3 _ _ (by omega)
 have hwk:EG (v++[0]) k=1:=by rw[IV _ _ _ (by omega)];exact hvk
 by_cases hik:i<k
 ·rw[Qn (BV M i) (v++[0]) i k hik (by rw[hs.row i (by omega)];omega) (by rw[hs.row i (by omega),hw]) fun j h1 h2=>?_]
  ·rw[hwk,II,IV _ _ _ (by omega),ha i (by omega),if_pos hik]
   show fa (fm (DW M i i) (fm (DW M i k) (fi (DW M i i)))) (DW M i k)=0
   rw[Lb,cZ _ (h.dia i hik),II,FK]
  ·by_cases hj:j<k
   ·rw[show EG (BV M i) j=0 from h.off i j (by omega) hj (fun e=>h1 e.symm),CP]
   ·rw[hw0 j h2 hj,De]
 ·rw[NS (BV M i) (v++[0]) k (by rw[hs.row i (by omega)];omega) (by rw[hs.row i (by omega),hw]) fun j h1=>?_]
  ·rw[show EG (BV M i) k=0 from hz i (by omega) (by omega),CP]
  ·by_cases hj:j<k
   ·rw[show EG (BV M i) j=0 from h.off i j (by omega) hj (by omega),CP]
   ·rw[hw0 j h1 hj,De]
end Go.Pw
end
section
namespace Go.Pw
def Ok (v w:List F):List F:=List.zipWith fa v w
theorem Zh (v w:List F) (h:v.length=w.length):(Ok v w).length=v.length:=by simp[Ok,h]
theorem ZX (v w:List F) (j:Nat) (h:v.length=w.length):EG (Ok v w) j=fa (EG v j) (EG w j):=by
 unfold EG Ok
 rw[List.getElem?_zipWith]
 by_cases hj:j<v.length
 ·rw[List.getElem?_eq_getElem hj,List.getElem?_eq_getElem (by omega)];rfl
 ·rw[List.getElem?_eq_none (by omega),List.getElem?_eq_none (l:=w) (by omega)];rfl
theorem SV:∀(r v w:List F),v.length=w.length->E' r (Ok v w)=fa (E' r v) (E' r w)
 |[],v,w,_=>by simp[J4,Cy]
 |x::r,[],[],_=>by simp[Ok,OG,Cy]
 |x::r,a::v,b::w,h=>by
  have ih:=SV r v w (by simpa using h)
  simp only[Ok,List.zipWith_cons_cons,Dm] at ih ⊢
  rw[ih,KQ,f7]
theorem Y8 {v w:List F}(hl:v.length=w.length) (h:∀j,j<v.length->EG v j=EG w j):v=w:=by
 apply List.ext_getElem hl
 intro j h1 h2
 have:=h j h1
 unfold EG at this
 rwa [List.getElem?_eq_getElem h1,List.getElem?_eq_getElem h2] at this
def Qd (x:F):Nat->F
 |0=>1
 |n+1=>fm x (Qd x n)
theorem d5 (t i:Nat):gp (i*t)=Qd (gp t) i:=by
 induction i with
 |zero=>rw[Nat.zero_mul];exact U1
 |succ i ih=>rw[Nat.add_mul,Nat.one_mul,Nat.add_comm,Tu,ih];rfl
theorem ec:∀(xs vs:List F),vs.length=xs.length->xs.Nodup->(∀i,i<xs.length->E' (xs.map fun x=>Qd x i) vs=0)->∀j,EG vs j=0
 |[],[],_,_,_=>fun j=>rfl
 |x::xs,v::vs,hl,hn,h=>by
  have hl':vs.length=xs.length:=by simpa using hl
  rw[List.nodup_cons] at hn
  have key:∀(i:Nat) (ys ws:List F),ws.length=ys.length->E' (ys.map fun y=>Qd y i) (List.zipWith (fun y w=>fm w (fa y x)) ys ws)=fa (E' (ys.map fun y=>Qd y (i+1)) ws) (fm x (E' (ys.map fun y=>Qd y i) ws)):=by
   intro i ys
   induction ys with
   |nil=>intro ws _;rw[List.map_nil,J4,List.map_nil,J4,De];rfl
   |cons y ys ih =>
    intro ws hw
    cases ws with
    |nil=>simp at hw
    |cons w ws =>
     have:=ih ws (by simpa using hw)
     simp only[List.map_cons,List.zipWith_cons_cons,Dm]
     rw[this,KQ w,KQ (Qd y i),KQ x,f7]
     congr 1
     ·congr 1
      show fm (Qd y i) (fm w y)=fm (fm y (Qd y i)) w
      rw[Df w y,←FJ,Df (Qd y i) y]
     ·congr 1
      rw[Lb,Df,FJ]
      rw[Lb]
  have hz:∀i,i<xs.length->E' (xs.map fun y=>Qd y i) (List.zipWith (fun y w=>fm w (fa y x)) xs vs)=0:=fun i hi=>by
   rw[key i xs vs hl']
   have h1:=h i (by simp;omega)
   have h2:=h (i+1) (by simpa using hi)
   simp only[List.map_cons,Dm] at h1 h2
   have e1:E' (xs.map fun y=>Qd y i) vs=fm (Qd x i) v:=(Gc _ _ h1).symm
   have e2:E' (xs.map fun y=>Qd y (i+1)) vs=fm (Qd x (i+1)) v:=(Gc _ _ h2).symm
   rw[e1,e2,←FJ]
   exact FK _
  have ih:=ec xs (List.zipWith (fun y w=>fm w (fa y x)) xs vs) (by simp[hl']) hn.2 hz
  have htail:∀j,EG vs j=0:=fun j=>by
   by_cases hj:j<xs.length
   ·have:=ih j
    unfold EG at this ⊢
    rw[List.getElem?_zipWith,List.getElem?_eq_getElem hj,List.getElem?_eq_getElem (by omega)] at this
    rw[List.getElem?_eq_getElem (by omega)]
    have hne:fa xs[j] x≠0:=fun e=>hn.1 (by rw[←Gc _ _ e];exact List.getElem_mem hj)
    exact(N_ _ _ this).resolve_right hne
   ·exact Q3 _ _ (by omega)
  have hhead:v=0:=by
   have h0:=h 0 (by simp)
   simp only[List.map_cons,Dm] at h0
   have:E' (xs.map fun y=>Qd y 0) vs=0:=by
    have hvs:vs=List.replicate vs.length 0:=by
     apply Y8 (by simp)
     intro j hj
     rw[htail j]
     simp[EG,hj]
    rw[hvs]
    generalize xs.map (fun y=>Qd y 0)=zs
    generalize vs.length=n
    induction zs generalizing n with
    |nil=>rfl
    |cons z zs ih2 =>
     cases n with
     |zero=>rfl
     |succ n=>rw[List.replicate_succ,Dm,De,ih2];rfl
   rw[this,Cy] at h0
   rw[show Qd x 0=1 from rfl,QV] at h0
   exact h0
  intro j
  cases j with
  |zero=>exact hhead
  |succ j=>exact htail j
def T8 (L i j:Nat):F:=gp (i*(L-1-j))
def Mu (L P:Nat) (at_:List Nat) (s:List F):List (List F):=(List.range P).map fun i=>(at_.map fun j=>T8 L i j)++[EG s i]
theorem Li (L P:Nat) (at_:List Nat) (s:List F):Ot (Mu L P at_ s) P (at_.length+1):=by
 refine⟨by simp[Mu],fun i hi=>?_⟩
 unfold Mu
 rw[Kn (α:=F) _ _ _ hi];simp
theorem Rs (L P:Nat) (at_:List Nat) (s:List F) (i:Nat) (h:i<P):BV (Mu L P at_ s) i=(at_.map fun j=>T8 L i j)++[EG s i]:=Kn (α:=F) _ _ _ h
structure Wz (L:Nat) (at_:List Nat):Prop where
 nd:at_.Nodup
 lt:∀j,j∈at_->j<L
theorem Qp (L P:Nat) (at_:List Nat) (s v:List F) (c:F) (hv:v.length=at_.length) (i:Nat) (h:i<P):E' (BV (Mu L P at_ s) i) (v++[c])=fa (E' (at_.map fun j=>T8 L i j) v) (fm (EG s i) c):=by
 rw[Rs _ _ _ _ _ h,OD _ _ _ _ (by simp[hv])]
theorem SB {L P:Nat}(hL:L<=15) {at_:List Nat}(hp:Wz L at_) (hm:at_.length<=P) {s v:List F}(hv:v.length=at_.length) (h:Ox 0 (Mu L P at_ s) v):∀j,EG v j=0:=by
 have hx:(at_.map fun j=>gp (L-1-j)).Nodup:=by
  have h1:=hp.nd
  have h2:=hp.lt
  clear h hv hm
  induction at_ with
  |nil=>simp
  |cons a l ih =>
   rw[List.nodup_cons] at h1
   rw[List.map_cons,List.nodup_cons]
   refine⟨fun hmem=>?_,ih ⟨h1.2,fun j hj=>h2 j (by simp[hj])⟩ h1.2 fun j hj=>h2 j (by simp[hj])⟩
   obtain⟨b,hb,he⟩:=List.mem_map.1 hmem
   have ha:=h2 a (by simp)
   have hb2:=h2 b (by simp[hb])
   have:=d6 (by omega) (by omega) he
   have:a=b:=by omega
   subst this
   exact h1.1 hb
 refine ec _ v (by simp[hv]) hx fun i hi=>?_
 have hi':i<P:=by simp at hi;omega
 have:=h i (by rw[(Li L P at_ s).len];exact hi')
 rw[Qp _ _ _ _ _ _ hv i hi',De,Cy] at this
 rw[List.map_map]
 have e:(at_.map ((fun x=>Qd x i) ∘ fun j=>gp (L-1-j)))=at_.map fun j=>T8 L i j:=List.map_congr_left fun j _=>(d5 _ _).symm
 rw[e];exact this
theorem aK {c d:F}{M:List (List F)}{v w:List F}(hl:v.length=w.length) (h1:Ox c M v) (h2:Ox d M w):Ox (fa c d) M (Ok v w):=by
 intro i hi
 have:Ok v w++[fa c d]=Ok (v++[c]) (w++[d]):=by
  unfold Ok
  rw[List.zipWith_append hl];rfl
 rw[this,SV _ _ _ (by simp[hl]),h1 i hi,h2 i hi,Cy]
theorem Xi {L P:Nat}(hL:L<=15) {at_:List Nat}(hp:Wz L at_) (hm:at_.length<=P) {s v w:List F}(hv:v.length=at_.length) (hw:w.length=at_.length) (h1:Ox 1 (Mu L P at_ s) v) (h2:Ox 1 (Mu L P at_ s) w):v=w:=by
 have h:=aK (by omega) h1 h2
 rw[FK] at h
 have:=SB hL hp hm (by rw[Zh _ _ (by omega)];exact hv) h
 refine Y8 (by omega) fun j _=>?_
 have hj:=this j
 rw[ZX _ _ _ (by omega)] at hj
 exact Gc _ _ hj
open Classical in
noncomputable def J_ (L P:Nat) (at_:List Nat) (s:List F):Option (List F) :=
 if h:∃v:List F,v.length=at_.length/\Ox 1 (Mu L P at_ s) v then some h.choose else none
theorem PV {L P:Nat}(hL:L<=15) {at_:List Nat}(hp:Wz L at_) (hm:at_.length<=P) {s v:List F}(hv:v.length=at_.length) (h:Ox 1 (Mu L P at_ s) v):J_ L P at_ s=some v:=by
 have hex:∃v:List F,v.length=at_.length/\Ox 1 (Mu L P at_ s) v:=⟨v,hv,h⟩
 unfold J_
 rw[dif_pos hex]
 congr 1
 exact Xi hL hp hm hex.choose_spec.1 hv hex.choose_spec.2 h
theorem VU {L P:Nat}{at_:List Nat}{s:List F}(h:∀v:List F,v.length=at_.length->¬Ox 1 (Mu L P at_ s) v):J_ L P at_ s=none:=by
 unfold J_
 rw[dif_neg fun⟨v,h1,h2⟩=>h v h1 h2]
theorem PU {L P:Nat}{at_:List Nat}{s v:List F}(h:J_ L P at_ s=some v):v.length=at_.length/\Ox 1 (Mu L P at_ s) v:=by
 unfold J_ at h
 split at h
 ·rename_i hex
  simp only[Option.some.injEq] at h
  rw[←h];exact hex.choose_spec
 ·cases h
end Go.Pw
end
