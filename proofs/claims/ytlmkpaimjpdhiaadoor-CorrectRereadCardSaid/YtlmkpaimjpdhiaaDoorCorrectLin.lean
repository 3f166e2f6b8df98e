/- A part of the proof. -/
import Derived.Test.YtlmkpaimjpdhiaaDoorCorrectSpec
set_option linter.all false
namespace Go.Pw
set_option linter.unusedSimpArgs false
set_option linter.unusedVariables false
def EK:List F→List F→F
 |a :: as,b :: bs=>fa (fm a b) (EK as bs)
 |_,_=>0
def C8 (r o:List F) (b:F):List F:=List.zipWith (fun x y=>fa x (fm y b)) r o
def Gl (r:List F) (b:F):List F:=r.map fun x=>fm x b
def Dc (r:List F) (j:Nat):F:=r[j]?.getD 0
def Ab (M:List (List F)) (i:Nat):List F:=M[i]?.getD []
def Bs (M:List (List F)) (i j:Nat):F:=Dc (Ab M i) j
theorem av (a b c:F):fa a (fa b c)=fa b (fa a c):=by rw [←Da,LV a b,Da]
theorem fL (a b c d:F):fa (fa a b) (fa c d)=fa (fa a c) (fa b d):=by rw [Da,Da,av b c d]
theorem bq (a b c:F):fm (fa a b) c=fa (fm a c) (fm b c):=by rw [Cn,KI,Cn c a,Cn c b]
theorem LT (a b c:F):fm a (fm b c)=fm b (fm a c):=by rw [←E2,Cn a b,E2]
theorem Jr (w:List F):EK [] w=0:=rfl
theorem N0 (w:List F):EK w []=0:=by cases w<;>rfl
theorem DJ (a b:F) (as bs:List F):EK (a :: as) (b :: bs)=fa (fm a b) (EK as bs):=rfl
theorem LX (b:F):∀(r o w:List F),r.length=o.length→EK (C8 r o b) w=fa (EK r w) (fm b (EK o w))
 |[],[],w,_=>by simp [C8,Jr,Cy,CM]
 |x :: r,y :: o,[],_=>by simp [N0,Cy,CM]
 |x :: r,y :: o,c :: w,h=>by
  have ih:=LX b r o w (by simpa using h)
  simp only [C8,List.zipWith_cons_cons,DJ] at ih ⊢
  rw [ih,bq,KI,E2,LT,fL]
theorem Nz (b:F):∀(r w:List F),EK (Gl r b) w=fm b (EK r w)
 |[],w=>by simp [Gl,Jr,Cy]
 |x :: r,[]=>by simp [N0,Cy]
 |x :: r,c :: w=>by
  have ih:=Nz b r w
  simp only [Gl,List.map_cons,DJ] at ih ⊢
  rw [ih,KI,E2,LT]
theorem Ny (x y:F):∀(r w:List F),r.length=w.length→EK (r++[x]) (w++[y])=fa (EK r w) (fm x y)
 |[],[],_=>by simp [EK,CM,Gp]
 |a :: r,b :: w,h=>by
  have ih:=Ny x y r w (by simpa using h)
  simp only [List.cons_append,DJ]
  rw [ih,Da]
theorem NN:∀(r w:List F) (i:Nat),i < r.length→r.length=w.length→(∀j,j≠i→fm (Dc r j) (Dc w j)=0)→EK r w=fm (Dc r i) (Dc w i)
 |a :: r,b :: w,0,_,hl,h=>by
  have hz:EK r w=0:=by
   have key:∀(r w:List F),(∀j,fm (Dc r j) (Dc w j)=0)→EK r w=0:=by
    intro r
    induction r with
    |nil=>intro w _;rfl
    |cons a r ih =>
     intro w h
     cases w with
     |nil=>rfl
     |cons b w =>
      rw [DJ,ih w fun j=>h (j+1),show fm a b=0 from h 0];rfl
   exact key r w fun j=>h (j+1) (by omega)
  rw [DJ,hz,CM];rfl
 |a :: r,b :: w,i+1,hi,hl,h=>by
  have ih:=NN r w i (by simpa using hi) (by simpa using hl) fun j hj=>h (j+1) (by omega)
  rw [DJ,ih,show fm a b=0 from h 0 (by omega),Gp];rfl
theorem Qg:∀(r w:List F) (i k:Nat),i < k→k < r.length→r.length=w.length→(∀j,j≠i→j≠k→fm (Dc r j) (Dc w j)=0)→EK r w=fa (fm (Dc r i) (Dc w i)) (fm (Dc r k) (Dc w k))
 |a :: r,b :: w,0,k+1,_,hk,hl,h=>by
  rw [DJ,NN r w k (by simpa using hk) (by simpa using hl) fun j hj=>h (j+1) (by omega) (by omega)];rfl
 |a :: r,b :: w,i+1,k+1,hik,hk,hl,h=>by
  have ih:=Qg r w i k (by omega) (by simpa using hk) (by simpa using hl) fun j hj hj2=>h (j+1) (by omega) (by omega)
  rw [DJ,ih,show fm a b=0 from h 0 (by omega) (by omega),Gp];rfl
def M9 (c:F) (M:List (List F)) (v:List F):Prop:=∀i,i < M.length→EK (Ab M i) (v++[c])=0
structure NQ (M:List (List F)) (n m:Nat):Prop where
 len:M.length=n
 row:∀i,i < n→(Ab M i).length=m
def Av (f:F→F→F) (M:List (List F)) (k:Nat):List (List F):=(List.range M.length).map fun i=>if i=k then Ab M k else C8 (Ab M i) (Ab M k) (f (Bs M i k) (Bs M k k))
def swp (M:List (List F)) (k p:Nat):List (List F):=(M.set k (Ab M p)).set p (Ab M k)
theorem Ke {α:Type} (n i:Nat) (g:Nat→List F) (h:i < n):Ab ((List.range n).map g) i=g i:=by simp [Ab,h]
theorem FX (M:List (List F)) (k i:Nat) (r:List F) (hk:k < M.length):Ab (M.set k r) i=if i=k then r else Ab M i:=by
 unfold Ab
 by_cases h:i=k
 ·subst h;simp [hk]
 ·rw [List.getElem?_set_ne (fun e=>h e.symm),if_neg h]
theorem Cu (f:F→F→F) (M:List (List F)) (k i:Nat) (h:i < M.length):Ab (Av f M k) i=if i=k then Ab M k else C8 (Ab M i) (Ab M k) (f (Bs M i k) (Bs M k k)) :=
 Ke (α:=F) M.length i _ h
theorem D0 (M:List (List F)) (k p i:Nat) (hk:k < M.length) (hp:p < M.length):Ab (swp M k p) i=if i=p then Ab M k else if i=k then Ab M p else Ab M i:=by
 unfold swp
 rw [FX _ _ _ _ (by simpa using hp),FX _ _ _ _ hk]
theorem Gd (r o:List F) (b:F) (h:r.length=o.length):(C8 r o b).length=r.length:=by simp [C8,h]
theorem Rg (r:List F) (b:F):(Gl r b).length=r.length:=by simp [Gl]
theorem NQ.swp {M:List (List F)} {n m k p:Nat} (h:NQ M n m) (hk:k < n) (hp:p < n):NQ (swp M k p) n m:=by
 have hl:=h.len
 refine⟨by simp [Go.Pw.swp,hl],fun i hi=>?_⟩
 rw [D0 _ _ _ _ (by omega) (by omega)]
 split
 ·exact h.row k hk
 ·split
  ·exact h.row p hp
  ·exact h.row i hi
theorem NQ.scl {M:List (List F)} {n m k:Nat} (h:NQ M n m) (hk:k < n) (b:F):NQ (M.set k (Gl (Ab M k) b)) n m:=by
 have hl:=h.len
 refine⟨by simp [hl],fun i hi=>?_⟩
 rw [FX _ _ _ _ (by omega)]
 split
 ·rw [Rg];exact h.row k hk
 ·exact h.row i hi
theorem NQ.red {M:List (List F)} {n m k:Nat} (f:F→F→F) (h:NQ M n m) (hk:k < n):NQ (Av f M k) n m:=by
 have hl:=h.len
 refine⟨by simp [Av,hl],fun i hi=>?_⟩
 rw [Cu _ _ _ _ (by omega)]
 split
 ·exact h.row k hk
 ·rw [Gd]
  ·exact h.row i hi
  ·rw [h.row i hi,h.row k hk]
theorem U8 {M:List (List F)} {n m k p:Nat} (h:NQ M n m) (hk:k < n) (hp:p < n) (c:F) (v:List F):M9 c (swp M k p) v↔M9 c M v:=by
 have hl:=h.len
 have hl2:=(h.swp hk hp).len
 constructor
 ·intro hs i hi
  by_cases h1:i=k
  ·subst h1
   have:=hs p (by omega)
   rwa [D0 _ _ _ _ (by omega) (by omega),if_pos rfl] at this
  ·by_cases h2:i=p
   ·subst h2
    have:=hs k (by omega)
    rwa [D0 _ _ _ _ (by omega) (by omega),if_neg (fun e=>h1 e.symm),if_pos rfl] at this
   ·have:=hs i (by omega)
    rwa [D0 _ _ _ _ (by omega) (by omega),if_neg h2,if_neg h1] at this
 ·intro hs i hi
  rw [D0 _ _ _ _ (by omega) (by omega)]
  split
  ·exact hs k (by omega)
  ·split
   ·exact hs p (by omega)
   ·exact hs i (by omega)
theorem bc {M:List (List F)} {n m k:Nat} (h:NQ M n m) (hk:k < n) {b:F} (hb:b≠0) (c:F) (v:List F):M9 c (M.set k (Gl (Ab M k) b)) v↔M9 c M v:=by
 have hl:=h.len
 constructor
 ·intro hs i hi
  have:=hs i (by simpa using hi)
  rw [FX _ _ _ _ (by omega)] at this
  split at this
  ·rename_i e;subst e
   rw [Nz] at this
   exact(Nt _ _ this).resolve_left hb
  ·exact this
 ·intro hs i hi
  rw [FX _ _ _ _ (by omega)]
  split
  ·rename_i e;subst e;rw [Nz,hs i (by omega),Cy]
  ·exact hs i (by simpa using hi)
theorem U9 {M:List (List F)} {n m k:Nat} (f:F→F→F) (h:NQ M n m) (hk:k < n) (c:F) (v:List F):M9 c (Av f M k) v↔M9 c M v:=by
 have hl:=h.len
 have hl2:=(h.red f hk).len
 constructor
 ·intro hs i hi
  have h1:=hs k (by omega)
  rw [Cu _ _ _ _ (by omega),if_pos rfl] at h1
  by_cases hik:i=k
  ·subst hik;exact h1
  ·have h2:=hs i (by omega)
   rw [Cu _ _ _ _ (by omega),if_neg hik,LX _ _ _ _ (by rw [h.row i (by omega),h.row k hk]),h1,Cy,CM] at h2
   exact h2
 ·intro hs i hi
  rw [Cu _ _ _ _ (by omega)]
  split
  ·exact hs k (by omega)
  ·rw [LX _ _ _ _ (by rw [h.row i (by omega),h.row k hk]),hs i (by omega),hs k (by omega),Cy,CM]
structure Wm (M:List (List F)) (k:Nat):Prop where
 off:∀i j,i < M.length→j < k→i≠j→Bs M i j=0
 dia:∀j,j < k→Bs M j j≠0
theorem JV (r o:List F) (b:F) (j:Nat) (h:r.length=o.length):Dc (C8 r o b) j=fa (Dc r j) (fm (Dc o j) b):=by
 unfold Dc C8
 rw [List.getElem?_zipWith]
 by_cases hj:j < r.length
 ·rw [List.getElem?_eq_getElem hj,List.getElem?_eq_getElem (by omega)];rfl
 ·rw [List.getElem?_eq_none (by omega),List.getElem?_eq_none (l:=o) (by omega)]
  show (0:F)=fa 0 (fm 0 b)
  rw [B8];rfl
theorem OJ (r:List F) (b:F) (j:Nat):Dc (Gl r b) j=fm (Dc r j) b:=by
 unfold Dc Gl
 rw [List.getElem?_map]
 cases r[j]? with
 |none=>exact(B8 b).symm
 |some x=>rfl
theorem Wm.swp {M:List (List F)} {n m k p:Nat} (hs:NQ M n m) (h:Wm M k) (hk:k < n) (hkp:k≤p) (hp:p < n):Wm (swp M k p) k:=by
 have hl:=hs.len
 have hl2:=(hs.swp hk hp).len
 refine⟨fun i j hi hj hij=>?_,fun j hj=>?_⟩
 ·unfold Bs
  rw [D0 _ _ _ _ (by omega) (by omega)]
  split
  ·exact h.off k j (by omega) hj (by omega)
  ·split
   ·exact h.off p j (by omega) hj (by omega)
   ·exact h.off i j (by omega) hj hij
 ·unfold Bs
  rw [D0 _ _ _ _ (by omega) (by omega),if_neg (by omega),if_neg (by omega)]
  exact h.dia j hj
theorem Qc {M:List (List F)} {n m k p:Nat} (hs:NQ M n m) (hk:k < n) (hp:p < n) (j:Nat):Bs (swp M k p) k j=Bs M p j:=by
 have hl:=hs.len
 unfold Bs
 rw [D0 _ _ _ _ (by omega) (by omega)]
 split
 ·rename_i e;subst e;rfl
 ·rw [if_pos rfl]
theorem Wm.scl {M:List (List F)} {n m k:Nat} (hs:NQ M n m) (h:Wm M k) (hk:k < n) (b:F):Wm (M.set k (Gl (Ab M k) b)) k:=by
 have hl:=hs.len
 refine⟨fun i j hi hj hij=>?_,fun j hj=>?_⟩
 ·unfold Bs
  rw [FX _ _ _ _ (by omega)]
  split
  ·rw [OJ,show Dc (Ab M k) j=0 from h.off k j (by omega) hj (by omega),B8]
  ·exact h.off i j (by simpa using hi) hj hij
 ·unfold Bs
  rw [FX _ _ _ _ (by omega),if_neg (by omega)]
  exact h.dia j hj
theorem U2 {M:List (List F)} {n m k:Nat} (hs:NQ M n m) (hk:k < n) (b:F) (i j:Nat):Bs (M.set k (Gl (Ab M k) b)) i j=if i=k then fm (Bs M k j) b else Bs M i j:=by
 have hl:=hs.len
 unfold Bs
 rw [FX _ _ _ _ (by omega)]
 split
 ·rw [OJ]
 ·rfl
theorem Wm.red {M:List (List F)} {n m k:Nat} (f:F→F→F) (hs:NQ M n m) (h:Wm M k) (hk:k < n) (hd:Bs M k k≠0) (hf:∀a,fm (Bs M k k) (f a (Bs M k k))=a):Wm (Av f M k) (k+1):=by
 have hl:=hs.len
 have hl2:=(hs.red f hk).len
 have e:∀i j,i < n→Bs (Av f M k) i j=if i=k then Bs M k j else fa (Bs M i j) (fm (Bs M k j) (f (Bs M i k) (Bs M k k))):=fun i j hi=>by
  show Dc (Ab (Av f M k) i) j=_
  rw [Cu _ _ _ _ (by omega)]
  split
  ·rfl
  ·rw [JV _ _ _ _ (by rw [hs.row i hi,hs.row k hk])];rfl
 refine⟨fun i j hi hj hij=>?_,fun j hj=>?_⟩
 ·rw [e i j (by omega)]
  rcases Nat.lt_succ_iff_lt_or_eq.1 hj with hj|rfl
  ·split
   ·exact h.off k j (by omega) hj (by omega)
   ·rw [h.off i j (by omega) hj hij,h.off k j (by omega) hj (by omega),B8];rfl
  ·rw [if_neg hij,hf,E3]
 ·rcases Nat.lt_succ_iff_lt_or_eq.1 hj with hj|rfl
  ·rw [e j j (by omega),if_neg (by omega),h.off k j (by omega) hj (by omega),B8,CM];exact h.dia j hj
  ·rw [e j j (by omega),if_pos rfl];exact hd
theorem Ml {M:List (List F)} {n m k:Nat} (f:F→F→F) (hs:NQ M n m) (h:Wm M k) (hk:k < n) (j:Nat) (hj:j≤k):Bs (Av f M k) j j=Bs M j j:=by
 have hl:=hs.len
 show Dc (Ab (Av f M k) j) j=_
 rw [Cu _ _ _ _ (by omega)]
 split
 ·rename_i e;subst e;rfl
 ·rename_i hne
  rw [JV _ _ _ _ (by rw [hs.row j (by omega),hs.row k hk]),show Dc (Ab M k) j=0 from h.off k j (by omega) (by omega) (by omega),B8,CM];rfl
theorem IK (v:List F) (c:F) (j:Nat) (h:j < v.length):Dc (v++[c]) j=Dc v j:=by unfold Dc;rw [List.getElem?_append_left h]
theorem Kz (v:List F) (c:F):Dc (v++[c]) v.length=c:=by unfold Dc;simp
theorem Qt (v:List F) (j:Nat) (h:v.length≤j):Dc v j=0:=by unfold Dc;rw [List.getElem?_eq_none h];rfl
theorem Uc {M:List (List F)} {n m:Nat} (hs:NQ M n (m+1)) (h:Wm M m) (hm:m≤n) (v:List F) (hv:v.length=m) :
  M9 1 M v↔(∀i,i < m→fm (Bs M i i) (Dc v i)=Bs M i m)∧∀i,m≤i→i < n→Bs M i m=0:=by
 have hl:=hs.len
 have hw:(v++[1]).length=m+1:=by simp [hv]
 have low:∀i,i < m→EK (Ab M i) (v++[1])=fa (fm (Bs M i i) (Dc v i)) (Bs M i m):=fun i hi=>by
  rw [Qg (Ab M i) (v++[1]) i m hi (by rw [hs.row i (by omega)];omega) (by rw [hs.row i (by omega),hw]) fun j h1 h2=>?_]
  ·rw [IK _ _ _ (by omega),show Dc (v++[1]) m=1 by rw [←hv];exact Kz v 1,H9];rfl
  ·by_cases hj:j < m
   ·rw [show Dc (Ab M i) j=0 from h.off i j (by omega) hj (fun e=>h1 e.symm),B8]
   ·rw [Qt (Ab M i) j (by rw [hs.row i (by omega)];omega),B8]
 have high:∀i,m≤i→i < n→EK (Ab M i) (v++[1])=Bs M i m:=fun i hi hi2=>by
  rw [NN (Ab M i) (v++[1]) m (by rw [hs.row i (by omega)];omega) (by rw [hs.row i (by omega),hw]) fun j h1=>?_]
  ·rw [show Dc (v++[1]) m=1 by rw [←hv];exact Kz v 1,H9];rfl
  ·by_cases hj:j < m
   ·rw [show Dc (Ab M i) j=0 from h.off i j (by omega) hj (by omega),B8]
   ·rw [Qt (Ab M i) j (by rw [hs.row i (by omega)];omega),B8]
 constructor
 ·intro hsat
  refine⟨fun i hi=>?_,fun i hi hi2=>?_⟩
  ·have:=hsat i (by omega)
   rw [low i hi] at this
   exact GN _ _ this
  ·have:=hsat i (by omega)
   rwa [high i hi hi2] at this
 ·rintro⟨h1,h2⟩ i hi
  by_cases him:i < m
  ·rw [low i him,h1 i him,E3]
  ·rw [high i (by omega) (by omega)];exact h2 i (by omega) (by omega)
theorem XW {M:List (List F)} {n m k:Nat} (hs:NQ M n (m+1)) (h:Wm M k) (hk:k < m) (hm:m≤n) (hz:∀i,k≤i→i < n→Bs M i k=0) :
  ∃v:List F,v.length=m∧M9 0 M v∧Dc v k=1:=by
 have hl:=hs.len
 obtain⟨v,hvd⟩:∃v:List F,v=(List.range m).map fun j=>if j < k then fm (Bs M j k) (fi (Bs M j j)) else if j=k then 1 else 0:=⟨_,rfl⟩
 have hv:v.length=m:=by simp [hvd]
 have ha:∀j,j < m→Dc v j=if j < k then fm (Bs M j k) (fi (Bs M j j)) else if j=k then 1 else 0:=fun j hj=>by rw [hvd];simp [Dc,hj]
 have hvk:Dc v k=1:=by rw [ha k hk,if_neg (by omega),if_pos rfl]
 refine⟨v,hv,fun i hi=>?_,hvk⟩
 have hw:(v++[0]).length=m+1:=by simp [hv]
 have hw0:∀j,j≠k→¬j < k→Dc (v++[0]) j=0:=fun j h1 h2=>by
  by_cases hj:j < m
  ·rw [IK _ _ _ (by omega),ha j hj,if_neg h2,if_neg h1]
  ·by_cases hjm:j=m
   ·subst hjm;rw [←hv];exact Kz v 0
   ·exact Qt _ _ (by omega)
 have hwk:Dc (v++[0]) k=1:=by rw [IK _ _ _ (by omega)];exact hvk
 by_cases hik:i < k
 ·rw [Qg (Ab M i) (v++[0]) i k hik (by rw [hs.row i (by omega)];omega) (by rw [hs.row i (by omega),hw]) fun j h1 h2=>?_]
  ·rw [hwk,H9,IK _ _ _ (by omega),ha i (by omega),if_pos hik]
   show fa (fm (Bs M i i) (fm (Bs M i k) (fi (Bs M i i)))) (Bs M i k)=0
   rw [LT,bp _ (h.dia i hik),H9,E3]
  ·by_cases hj:j < k
   ·rw [show Dc (Ab M i) j=0 from h.off i j (by omega) hj (fun e=>h1 e.symm),B8]
   ·rw [hw0 j h2 hj,Cy]
 ·rw [NN (Ab M i) (v++[0]) k (by rw [hs.row i (by omega)];omega) (by rw [hs.row i (by omega),hw]) fun j h1=>?_]
  ·rw [show Dc (Ab M i) k=0 from hz i (by omega) (by omega),B8]
  ·by_cases hj:j < k
   ·rw [show Dc (Ab M i) j=0 from h.off i j (by omega) hj (by omega),B8]
   ·rw [hw0 j h1 hj,Cy]
end Go.Pw
