/- A part of the proof. -/
import Derived.Test.YtlmkpaimjpdhiaaDoorCorrectSpec
set_option linter.all false
namespace Go.Pw
set_option linter.unusedSimpArgs false
set_option linter.unusedVariables false
def EK:List F→List F→F
 |a :: as,b :: bs=>fa (fm a b) (EK as bs)
 |_,_=>0
def C8 (r o:List F) (b:F):List F:=List.zipWith (fun x y=>fa x (fm y b)) r o
def Gl (r:List F) (b:F):List F:=r.map fun x=>fm x b
def Dd (r:List F) (j:Nat):F:=r[j]?.getD 0
def Ab (M:List (List F)) (i:Nat):List F:=M[i]?.getD []
def Bt (M:List (List F)) (i j:Nat):F:=Dd (Ab M i) j
theorem a7 (a b c:F):fa a (fa b c)=fa b (fa a c):=by rw [←Db,LY a b,Db]
theorem fP (a b c d:F):fa (fa a b) (fa c d)=fa (fa a c) (fa b d):=by rw [Db,Db,a7 b c d]
theorem bv (a b c:F):fm (fa a b) c=fa (fm a c) (fm b c):=by rw [Cn,KK,Cn c a,Cn c b]
theorem LW (a b c:F):fm a (fm b c)=fm b (fm a c):=by rw [←E1,Cn a b,E1]
theorem Js (w:List F):EK [] w=0:=rfl
theorem N5 (w:List F):EK w []=0:=by cases w<;>rfl
theorem DJ (a b:F) (as bs:List F):EK (a :: as) (b :: bs)=fa (fm a b) (EK as bs):=rfl
theorem La (b:F):∀(r o w:List F),r.length=o.length→EK (C8 r o b) w=fa (EK r w) (fm b (EK o w))
 |[],[],w,_=>by simp [C8,Js,Cz,CM]
 |x :: r,y :: o,[],_=>by simp [N5,Cz,CM]
 |x :: r,y :: o,c :: w,h=>by
  have ih:=La b r o w (by simpa using h)
  simp only [C8,List.zipWith_cons_cons,DJ] at ih ⊢
  rw [ih,bv,KK,E1,LW,fP]
theorem N4 (b:F):∀(r w:List F),EK (Gl r b) w=fm b (EK r w)
 |[],w=>by simp [Gl,Js,Cz]
 |x :: r,[]=>by simp [N5,Cz]
 |x :: r,c :: w=>by
  have ih:=N4 b r w
  simp only [Gl,List.map_cons,DJ] at ih ⊢
  rw [ih,KK,E1,LW]
theorem N3 (x y:F):∀(r w:List F),r.length=w.length→EK (r++[x]) (w++[y])=fa (EK r w) (fm x y)
 |[],[],_=>by simp [EK,CM,Gp]
 |a :: r,b :: w,h=>by
  have ih:=N3 x y r w (by simpa using h)
  simp only [List.cons_append,DJ]
  rw [ih,Db]
theorem NS:∀(r w:List F) (i:Nat),i < r.length→r.length=w.length→(∀j,j≠i→fm (Dd r j) (Dd w j)=0)→EK r w=fm (Dd r i) (Dd w i)
 |a :: r,b :: w,0,_,hl,h=>by
  have hz:EK r w=0:=by
   have key:∀(r w:List F),(∀j,fm (Dd r j) (Dd w j)=0)→EK r w=0:=by
    intro r
    induction r with
    |nil=>intro w _;rfl
    |cons a r ih =>
     intro w h
     cases w with
     |nil=>rfl
     |cons b w =>
      rw [DJ,ih w fun j=>h (j+1),show fm a b=0 from h 0];rfl
   exact key r w fun j=>h (j+1) (by omega)
  rw [DJ,hz,CM];rfl
 |a :: r,b :: w,i+1,hi,hl,h=>by
  have ih:=NS r w i (by simpa using hi) (by simpa using hl) fun j hj=>h (j+1) (by omega)
  rw [DJ,ih,show fm a b=0 from h 0 (by omega),Gp];rfl
theorem Ql:∀(r w:List F) (i k:Nat),i < k→k < r.length→r.length=w.length→(∀j,j≠i→j≠k→fm (Dd r j) (Dd w j)=0)→EK r w=fa (fm (Dd r i) (Dd w i)) (fm (Dd r k) (Dd w k))
 |a :: r,b :: w,0,k+1,_,hk,hl,h=>by
  rw [DJ,NS r w k (by simpa using hk) (by simpa using hl) fun j hj=>h (j+1) (by omega) (by omega)];rfl
 |a :: r,b :: w,i+1,k+1,hik,hk,hl,h=>by
  have ih:=Ql r w i k (by omega) (by simpa using hk) (by simpa using hl) fun j hj hj2=>h (j+1) (by omega) (by omega)
  rw [DJ,ih,show fm a b=0 from h 0 (by omega) (by omega),Gp];rfl
def ND (c:F) (M:List (List F)) (v:List F):Prop:=∀i,i < M.length→EK (Ab M i) (v++[c])=0
structure NV (M:List (List F)) (n m:Nat):Prop where
 len:M.length=n
 row:∀i,i < n→(Ab M i).length=m
def Av (f:F→F→F) (M:List (List F)) (k:Nat):List (List F):=(List.range M.length).map fun i=>if i=k then Ab M k else C8 (Ab M i) (Ab M k) (f (Bt M i k) (Bt M k k))
def swp (M:List (List F)) (k p:Nat):List (List F):=(M.set k (Ab M p)).set p (Ab M k)
theorem Kh {α:Type} (n i:Nat) (g:Nat→List F) (h:i < n):Ab ((List.range n).map g) i=g i:=by simp [Ab,h]
theorem FW (M:List (List F)) (k i:Nat) (r:List F) (hk:k < M.length):Ab (M.set k r) i=if i=k then r else Ab M i:=by
 unfold Ab
 by_cases h:i=k
 ·subst h;simp [hk]
 ·rw [List.getElem?_set_ne (fun e=>h e.symm),if_neg h]
theorem Cv (f:F→F→F) (M:List (List F)) (k i:Nat) (h:i < M.length):Ab (Av f M k) i=if i=k then Ab M k else C8 (Ab M i) (Ab M k) (f (Bt M i k) (Bt M k k)) :=
 Kh (α:=F) M.length i _ h
theorem D0 (M:List (List F)) (k p i:Nat) (hk:k < M.length) (hp:p < M.length):Ab (swp M k p) i=if i=p then Ab M k else if i=k then Ab M p else Ab M i:=by
 unfold swp
 rw [FW _ _ _ _ (by simpa using hp),FW _ _ _ _ hk]
theorem Gd (r o:List F) (b:F) (h:r.length=o.length):(C8 r o b).length=r.length:=by simp [C8,h]
theorem Rk (r:List F) (b:F):(Gl r b).length=r.length:=by simp [Gl]
theorem NV.swp {M:List (List F)} {n m k p:Nat} (h:NV M n m) (hk:k < n) (hp:p < n):NV (swp M k p) n m:=by
 have hl:=h.len
 refine⟨by simp [Go.Pw.swp,hl],fun i hi=>?_⟩
 rw [D0 _ _ _ _ (by omega) (by omega)]
 split
 ·exact h.row k hk
 ·split
  ·exact h.row p hp
  ·exact h.row i hi
theorem NV.scl {M:List (List F)} {n m k:Nat} (h:NV M n m) (hk:k < n) (b:F):NV (M.set k (Gl (Ab M k) b)) n m:=by
 have hl:=h.len
 refine⟨by simp [hl],fun i hi=>?_⟩
 rw [FW _ _ _ _ (by omega)]
 split
 ·rw [Rk];exact h.row k hk
 ·exact h.row i hi
theorem NV.red {M:List (List F)} {n m k:Nat} (f:F→F→F) (h:NV M n m) (hk:k < n):NV (Av f M k) n m:=by
 have hl:=h.len
 refine⟨by simp [Av,hl],fun i hi=>?_⟩
 rw [Cv _ _ _ _ (by omega)]
 split
 ·exact h.row k hk
 ·rw [Gd]
  ·exact h.row i hi
  ·rw [h.row i hi,h.row k hk]
theorem VA {M:List (List F)} {n m k p:Nat} (h:NV M n m) (hk:k < n) (hp:p < n) (c:F) (v:List F):ND c (swp M k p) v↔ND c M v:=by
 have hl:=h.len
 have hl2:=(h.swp hk hp).len
 constructor
 ·intro hs i hi
  by_cases h1:i=k
  ·subst h1
   have:=hs p (by omega)
   rwa [D0 _ _ _ _ (by omega) (by omega),if_pos rfl] at this
  ·by_cases h2:i=p
   ·subst h2
    have:=hs k (by omega)
    rwa [D0 _ _ _ _ (by omega) (by omega),if_neg (fun e=>h1 e.symm),if_pos rfl] at this
   ·have:=hs i (by omega)
    rwa [D0 _ _ _ _ (by omega) (by omega),if_neg h2,if_neg h1] at this
 ·intro hs i hi
  rw [D0 _ _ _ _ (by omega) (by omega)]
  split
  ·exact hs k (by omega)
  ·split
   ·exact hs p (by omega)
   ·exact hs i (by omega)
theorem bg {M:List (List F)} {n m k:Nat} (h:NV M n m) (hk:k < n) {b:F} (hb:b≠0) (c:F) (v:List F):ND c (M.set k (Gl (Ab M k) b)) v↔ND c M v:=by
 have hl:=h.len
 constructor
 ·intro hs i hi
  have:=hs i (by simpa using hi)
  rw [FW _ _ _ _ (by omega)] at this
  split at this
  ·rename_i e;subst e
   rw [N4] at this
   exact(Ny _ _ this).resolve_left hb
  ·exact this
 ·intro hs i hi
  rw [FW _ _ _ _ (by omega)]
  split
  ·rename_i e;subst e;rw [N4,hs i (by omega),Cz]
  ·exact hs i (by simpa using hi)
theorem VB {M:List (List F)} {n m k:Nat} (f:F→F→F) (h:NV M n m) (hk:k < n) (c:F) (v:List F):ND c (Av f M k) v↔ND c M v:=by
 have hl:=h.len
 have hl2:=(h.red f hk).len
 constructor
 ·intro hs i hi
  have h1:=hs k (by omega)
  rw [Cv _ _ _ _ (by omega),if_pos rfl] at h1
  by_cases hik:i=k
  ·subst hik;exact h1
  ·have h2:=hs i (by omega)
   rw [Cv _ _ _ _ (by omega),if_neg hik,La _ _ _ _ (by rw [h.row i (by omega),h.row k hk]),h1,Cz,CM] at h2
   exact h2
 ·intro hs i hi
  rw [Cv _ _ _ _ (by omega)]
  split
  ·exact hs k (by omega)
  ·rw [La _ _ _ _ (by rw [h.row i (by omega),h.row k hk]),hs i (by omega),hs k (by omega),Cz,CM]
structure Wq (M:List (List F)) (k:Nat):Prop where
 off:∀i j,i < M.length→j < k→i≠j→Bt M i j=0
 dia:∀j,j < k→Bt M j j≠0
theorem JX (r o:List F) (b:F) (j:Nat) (h:r.length=o.length):Dd (C8 r o b) j=fa (Dd r j) (fm (Dd o j) b):=by
 unfold Dd C8
 rw [List.getElem?_zipWith]
 by_cases hj:j < r.length
 ·rw [List.getElem?_eq_getElem hj,List.getElem?_eq_getElem (by omega)];rfl
 ·rw [List.getElem?_eq_none (by omega),List.getElem?_eq_none (l:=o) (by omega)]
  show (0:F)=fa 0 (fm 0 b)
  rw [B8];rfl
theorem OP (r:List F) (b:F) (j:Nat):Dd (Gl r b) j=fm (Dd r j) b:=by
 unfold Dd Gl
 rw [List.getElem?_map]
 cases r[j]? with
 |none=>exact(B8 b).symm
 |some x=>rfl
theorem Wq.swp {M:List (List F)} {n m k p:Nat} (hs:NV M n m) (h:Wq M k) (hk:k < n) (hkp:k≤p) (hp:p < n):Wq (swp M k p) k:=by
 have hl:=hs.len
 have hl2:=(hs.swp hk hp).len
 refine⟨fun i j hi hj hij=>?_,fun j hj=>?_⟩
 ·unfold Bt
  rw [D0 _ _ _ _ (by omega) (by omega)]
  split
  ·exact h.off k j (by omega) hj (by omega)
  ·split
   ·exact h.off p j (by omega) hj (by omega)
   ·exact h.off i j (by omega) hj hij
 ·unfold Bt
  rw [D0 _ _ _ _ (by omega) (by omega),if_neg (by omega),if_neg (by omega)]
  exact h.dia j hj
theorem Qh {M:List (List F)} {n m k p:Nat} (hs:NV M n m) (hk:k < n) (hp:p < n) (j:Nat):Bt (swp M k p) k j=Bt M p j:=by
 have hl:=hs.len
 unfold Bt
 rw [D0 _ _ _ _ (by omega) (by omega)]
 split
 ·rename_i e;subst e;rfl
 ·rw [if_pos rfl]
theorem Wq.scl {M:List (List F)} {n m k:Nat} (hs:NV M n m) (h:Wq M k) (hk:k < n) (b:F):Wq (M.set k (Gl (Ab M k) b)) k:=by
 have hl:=hs.len
 refine⟨fun i j hi hj hij=>?_,fun j hj=>?_⟩
 ·unfold Bt
  rw [FW _ _ _ _ (by omega)]
  split
  ·rw [OP,show Dd (Ab M k) j=0 from h.off k j (by omega) hj (by omega),B8]
  ·exact h.off i j (by simpa using hi) hj hij
 ·unfold Bt
  rw [FW _ _ _ _ (by omega),if_neg (by omega)]
  exact h.dia j hj
theorem U6 {M:List (List F)} {n m k:Nat} (hs:NV M n m) (hk:k < n) (b:F) (i j:Nat):Bt (M.set k (Gl (Ab M k) b)) i j=if i=k then fm (Bt M k j) b else Bt M i j:=by
 have hl:=hs.len
 unfold Bt
 rw [FW _ _ _ _ (by omega)]
 split
 ·rw [OP]
 ·rfl
theorem Wq.red {M:List (List F)} {n m k:Nat} (f:F→F→F) (hs:NV M n m) (h:Wq M k) (hk:k < n) (hd:Bt M k k≠0) (hf:∀a,fm (Bt M k k) (f a (Bt M k k))=a):Wq (Av f M k) (k+1):=by
 have hl:=hs.len
 have hl2:=(hs.red f hk).len
 have e:∀i j,i < n→Bt (Av f M k) i j=if i=k then Bt M k j else fa (Bt M i j) (fm (Bt M k j) (f (Bt M i k) (Bt M k k))):=fun i j hi=>by
  show Dd (Ab (Av f M k) i) j=_
  rw [Cv _ _ _ _ (by omega)]
  split
  ·rfl
  ·rw [JX _ _ _ _ (by rw [hs.row i hi,hs.row k hk])];rfl
 refine⟨fun i j hi hj hij=>?_,fun j hj=>?_⟩
 ·rw [e i j (by omega)]
  rcases Nat.lt_succ_iff_lt_or_eq.1 hj with hj|rfl
  ·split
   ·exact h.off k j (by omega) hj (by omega)
   ·rw [h.off i j (by omega) hj hij,h.off k j (by omega) hj (by omega),B8];rfl
  ·rw [if_neg hij,hf,E2]
 ·rcases Nat.lt_succ_iff_lt_or_eq.1 hj with hj|rfl
  ·rw [e j j (by omega),if_neg (by omega),h.off k j (by omega) hj (by omega),B8,CM];exact h.dia j hj
  ·rw [e j j (by omega),if_pos rfl];exact hd
theorem Mp {M:List (List F)} {n m k:Nat} (f:F→F→F) (hs:NV M n m) (h:Wq M k) (hk:k < n) (j:Nat) (hj:j≤k):Bt (Av f M k) j j=Bt M j j:=by
 have hl:=hs.len
 show Dd (Ab (Av f M k) j) j=_
 rw [Cv _ _ _ _ (by omega)]
 split
 ·rename_i e;subst e;rfl
 ·rename_i hne
  rw [JX _ _ _ _ (by rw [hs.row j (by omega),hs.row k hk]),show Dd (Ab M k) j=0 from h.off k j (by omega) (by omega) (by omega),B8,CM];rfl
theorem IK (v:List F) (c:F) (j:Nat) (h:j < v.length):Dd (v++[c]) j=Dd v j:=by unfold Dd;rw [List.getElem?_append_left h]
theorem K2 (v:List F) (c:F):Dd (v++[c]) v.length=c:=by unfold Dd;simp
theorem Qy (v:List F) (j:Nat) (h:v.length≤j):Dd v j=0:=by unfold Dd;rw [List.getElem?_eq_none h];rfl
theorem Ug {M:List (List F)} {n m:Nat} (hs:NV M n (m+1)) (h:Wq M m) (hm:m≤n) (v:List F) (hv:v.length=m) :
  ND 1 M v↔(∀i,i < m→fm (Bt M i i) (Dd v i)=Bt M i m)∧∀i,m≤i→i < n→Bt M i m=0:=by
 have hl:=hs.len
 have hw:(v++[1]).length=m+1:=by simp [hv]
 have low:∀i,i < m→EK (Ab M i) (v++[1])=fa (fm (Bt M i i) (Dd v i)) (Bt M i m):=fun i hi=>by
  rw [Ql (Ab M i) (v++[1]) i m hi (by rw [hs.row i (by omega)];omega) (by rw [hs.row i (by omega),hw]) fun j h1 h2=>?_]
  ·rw [IK _ _ _ (by omega),show Dd (v++[1]) m=1 by rw [←hv];exact K2 v 1,H8];rfl
  ·by_cases hj:j < m
   ·rw [show Dd (Ab M i) j=0 from h.off i j (by omega) hj (fun e=>h1 e.symm),B8]
   ·rw [Qy (Ab M i) j (by rw [hs.row i (by omega)];omega),B8]
 have high:∀i,m≤i→i < n→EK (Ab M i) (v++[1])=Bt M i m:=fun i hi hi2=>by
  rw [NS (Ab M i) (v++[1]) m (by rw [hs.row i (by omega)];omega) (by rw [hs.row i (by omega),hw]) fun j h1=>?_]
  ·rw [show Dd (v++[1]) m=1 by rw [←hv];exact K2 v 1,H8];rfl
  ·by_cases hj:j < m
   ·rw [show Dd (Ab M i) j=0 from h.off i j (by omega) hj (by omega),B8]
   ·rw [Qy (Ab M i) j (by rw [hs.row i (by omega)];omega),B8]
 constructor
 ·intro hsat
  refine⟨fun i hi=>?_,fun i hi hi2=>?_⟩
  ·have:=hsat i (by omega)
   rw [low i hi] at this
   exact GN _ _ this
  ·have:=hsat i (by omega)
   rwa [high i hi hi2] at this
 ·rintro⟨h1,h2⟩ i hi
  by_cases him:i < m
  ·rw [low i him,h1 i him,E2]
  ·rw [high i (by omega) (by omega)];exact h2 i (by omega) (by omega)
theorem Xa {M:List (List F)} {n m k:Nat} (hs:NV M n (m+1)) (h:Wq M k) (hk:k < m) (hm:m≤n) (hz:∀i,k≤i→i < n→Bt M i k=0) :
  ∃v:List F,v.length=m∧ND 0 M v∧Dd v k=1:=by
 have hl:=hs.len
 obtain⟨v,hvd⟩:∃v:List F,v=(List.range m).map fun j=>if j < k then fm (Bt M j k) (fi (Bt M j j)) else if j=k then 1 else 0:=⟨_,rfl⟩
 have hv:v.length=m:=by simp [hvd]
 have ha:∀j,j < m→Dd v j=if j < k then fm (Bt M j k) (fi (Bt M j j)) else if j=k then 1 else 0:=fun j hj=>by rw [hvd];simp [Dd,hj]
 have hvk:Dd v k=1:=by rw [ha k hk,if_neg (by omega),if_pos rfl]
 refine⟨v,hv,fun i hi=>?_,hvk⟩
 have hw:(v++[0]).length=m+1:=by simp [hv]
 have hw0:∀j,j≠k→¬j < k→Dd (v++[0]) j=0:=fun j h1 h2=>by
  by_cases hj:j < m
  ·rw [IK _ _ _ (by omega),ha j hj,if_neg h2,if_neg h1]
  ·by_cases hjm:j=m
   ·subst hjm;rw [←hv];exact K2 v 0
   ·exact Qy _ _ (by omega)
 have hwk:Dd (v++[0]) k=1:=by rw [IK _ _ _ (by omega)];exact hvk
 by_cases hik:i < k
 ·rw [Ql (Ab M i) (v++[0]) i k hik (by rw [hs.row i (by omega)];omega) (by rw [hs.row i (by omega),hw]) fun j h1 h2=>?_]
  ·rw [hwk,H8,IK _ _ _ (by omega),ha i (by omega),if_pos hik]
   show fa (fm (Bt M i i) (fm (Bt M i k) (fi (Bt M i i)))) (Bt M i k)=0
   rw [LW,bu _ (h.dia i hik),H8,E2]
  ·by_cases hj:j < k
   ·rw [show Dd (Ab M i) j=0 from h.off i j (by omega) hj (fun e=>h1 e.symm),B8]
   ·rw [hw0 j h2 hj,Cz]
 ·rw [NS (Ab M i) (v++[0]) k (by rw [hs.row i (by omega)];omega) (by rw [hs.row i (by omega),hw]) fun j h1=>?_]
  ·rw [show Dd (Ab M i) k=0 from hz i (by omega) (by omega),B8]
  ·by_cases hj:j < k
   ·rw [show Dd (Ab M i) j=0 from h.off i j (by omega) hj (by omega),B8]
   ·rw [hw0 j h1 hj,Cz]
end Go.Pw
