/- A part of the proof. -/
import Derived.Test.YtlmkpaimjpdhiaaDoorPgCorrectJ
set_option linter.all false
namespace Go.Pw
set_option linter.unusedSimpArgs false
set_option linter.unusedVariables false
theorem Qm (x:F):∀(w c:List F) (j:Nat),j < w.length→w.length≤c.length→EK (w.set j x) c=fa (EK w c) (fm (fa (w[j]?.getD 0) x) (c[j]?.getD 0))
 |a :: w,b :: c,0,_,_=>by
  show fa (fm x b) (EK w c)=fa (fa (fm a b) (EK w c)) (fm (fa a x) b)
  rw [bv,LY (fm a b) (EK w c),Db,←Db (fm a b),E2,Gp,LY]
 |a :: w,b :: c,j+1,h,hl=>by
  have ih:=Qm x w c j (by simpa using h) (by simpa using hl)
  show fa (fm a b) (EK (w.set j x) c)=fa (fa (fm a b) (EK w c)) (fm (fa (w[j]?.getD 0) x) (c[j]?.getD 0))
  rw [ih,Db]
theorem Sh (w:List F) (j:Nat) (x:F):∀(js:List Nat) (xs:List F),j∉js→FA (w.set j x) js xs=FA w js xs
 |[],xs,_=>rfl
 |k :: js,[],_=>rfl
 |k :: js,y :: xs,h=>by
  have ih:=Sh w j x js xs fun e=>h (by simp [e])
  show fa ((w.set j x)[k]?.getD 0) y :: FA (w.set j x) js xs=fa (w[k]?.getD 0) y :: FA w js xs
  rw [ih,List.getElem?_set_ne fun e=>h (by simp [e])]
theorem PZ (c:List F):∀(at_:List Nat) (xs w:List F),at_.Nodup→at_.length=xs.length→(∀j,j∈at_→j < w.length)→w.length≤c.length →
  EK (Bh w at_ xs) c=fa (EK w c) (EK (at_.map fun j=>c[j]?.getD 0) (FA w at_ xs))
 |[],xs,w,_,_,_,_=>by rw [L2];simp [Js,CM]
 |j :: js,x :: xs,w,hn,hl,hlt,hc=>by
  rw [List.nodup_cons] at hn
  have hj:=hlt j (by simp)
  have ih:=PZ c js xs (w.set j x) hn.2 (by simpa using hl) (fun k hk=>by simpa using hlt k (by simp [hk])) (by simpa using hc)
  show EK (Bh (w.set j x) js xs) c=fa (EK w c) (fa (fm (c[j]?.getD 0) (fa (w[j]?.getD 0) x)) (EK (js.map fun j=>c[j]?.getD 0) (FA w js xs)))
  rw [ih,Qm x w c j hj hc,Sh _ _ _ _ _ hn.1,Db,Cn (c[j]?.getD 0)]
theorem aR (L i:Nat) (at_:List Nat) (h:∀j,j∈at_→j < L):(at_.map fun j=>(L1 L i)[j]?.getD 0)=at_.map fun j=>RC L i j :=
 List.map_congr_left fun j hj=>NU L i j (h j hj)
theorem FK {L P:Nat} {w xs:List F} {at_:List Nat} (hw:w.length=L) (hp:RD L at_) (hl:at_.length=xs.length) (i:Nat) (h:i < P) :
  Dd (Ej L P (Bh w at_ xs)) i=fa (Dd (Ej L P w) i) (EK (at_.map fun j=>RC L i j) (FA w at_ xs)):=by
 show (Ej L P (Bh w at_ xs))[i]?.getD 0=fa ((Ej L P w)[i]?.getD 0) _
 rw [FV _ _ _ _ h,FV _ _ _ _ h,PZ (L1 L i) at_ xs w hp.nd hl (fun j hj=>by rw [hw];exact hp.lt j hj) (by rw [Jx];omega),aR L i at_ hp.lt]
theorem NK {L P:Nat} {at_:List Nat} {s v:List F} (hv:v.length=at_.length):ND 1 (Iu L P at_ s) v↔∀i,i < P→fa (Dd s i) (EK (at_.map fun j=>RC L i j) v)=0:=by
 have hl:=(Jr L P at_ s).len
 constructor
 ·intro h i hi
  have:=h i (by omega)
  rwa [Qn _ _ _ _ _ _ hv i hi,H8,LY] at this
 ·intro h i hi
  rw [Qn _ _ _ _ _ _ hv i (by omega),H8,LY];exact h i (by omega)
def UU (L P:Nat) (w:List F):Prop:=∀i,i < P→Dd (Ej L P w) i=0
theorem Hn (w:List F):∀(at_:List Nat) (v:List F),at_.length=v.length→FA w at_ (FA w at_ v)=v
 |[],[],_=>rfl
 |j :: js,x :: v,h=>by
  have ih:=Hn w js v (by simpa using h)
  show fa (w[j]?.getD 0) (fa (w[j]?.getD 0) x) :: FA w js (FA w js v)=x :: v
  rw [ih,←Db,E2,Gp]
theorem YP {L P:Nat} {w r:List F} {mk l:List Nat} (hw:w.length=L) (hp:RD L (mk++l)) (h:hit L P w mk l=some r):UU L P r∧r.length=L∧∀j,j∉mk++l→r[j]?.getD 0=w[j]?.getD 0:=by
 unfold hit at h
 rw [Option.map_eq_some_iff] at h
 obtain⟨v,hv,rfl⟩:=h
 obtain⟨h1,h2⟩:=FL hv
 refine⟨fun i hi=>?_,by rw [D_];exact hw,fun j hj=>FI _ _ _ _ hj⟩
 rw [FK hw hp (by rw [Fh _ _ _ h1.symm]) i hi,Hn _ _ _ h1.symm]
 exact(NK h1).1 h2 i hi
theorem RH:∀(at_:List Nat) (w c:List F),at_.Nodup→c.length=w.length→(∀j,j∈at_→j < w.length)→(∀j,j∉at_→c[j]?.getD 0=w[j]?.getD 0)→Bh w at_ (at_.map fun j=>c[j]?.getD 0)=c
 |[],w,c,_,hl,_,h=>by
  rw [L2]
  exact(Kn hl fun j _=>h j (by simp)).symm
 |j :: js,w,c,hn,hl,hlt,h=>by
  rw [List.nodup_cons] at hn
  show Bh (w.set j (c[j]?.getD 0)) js (js.map fun j=>c[j]?.getD 0)=c
  refine RH js _ c hn.2 (by simpa using hl) (fun k hk=>by simpa using hlt k (by simp [hk])) fun k hk=>?_
  by_cases hkj:k=j
  ·subst hkj
   have:=hlt k (by simp)
   rw [List.getElem?_set_self this];rfl
  ·rw [List.getElem?_set_ne (fun e=>hkj e.symm)]
   exact h k (by simp [hk,hkj])
theorem QT {L P:Nat} (hL:L≤15) {w c:List F} {mk l:List Nat} (hw:w.length=L) (hc:c.length=L) (hp:RD L (mk++l)) (hm:(mk++l).length≤P) (hcode:UU L P c) (h:∀j,j∉mk++l→c[j]?.getD 0=w[j]?.getD 0):hit L P w mk l=some c:=by
 obtain⟨A,hA⟩:∃A,mk++l=A:=⟨_,rfl⟩
 unfold hit
 rw [hA] at hp hm h ⊢
 obtain⟨ys,hys⟩:∃ys,(A.map fun j=>c[j]?.getD 0)=ys:=⟨_,rfl⟩
 have hyl:A.length=ys.length:=by rw [←hys];simp
 have hc2:Bh w A ys=c:=by
  rw [←hys];exact RH A w c hp.nd (by omega) (fun j hj=>by rw [hw];exact hp.lt j hj) h
 have hal:=Fh w A ys hyl
 have hs:F0 L P A (Ej L P w)=some (FA w A ys):=by
  refine Jk hL hp hm hal ((NK hal).2 fun i hi=>?_)
  rw [←FK hw hp hyl i hi,hc2]
  exact hcode i hi
 rw [hs,Option.map_some,Hn _ _ _ hyl,hc2]
theorem Ph {L P:Nat} (hL:L≤15) {c d:List F} {at_:List Nat} (hc:c.length=L) (hd:d.length=L) (hp:RD L at_) (hm:at_.length≤P) (h1:UU L P c) (h2:UU L P d) (h:∀j,j∉at_→c[j]?.getD 0=d[j]?.getD 0):c=d:=by
 have e1:hit L P d [] at_=some c:=QT hL hd hc (by simpa using hp) (by simpa using hm) h1 (by simpa using h)
 have e2:hit L P d [] at_=some d:=QT hL hd hd (by simpa using hp) (by simpa using hm) h2 (fun _ _=>rfl)
 rw [e1] at e2
 simpa using e2
def A' (L:Nat) (mk:List Nat):Nat→Nat→List (List Nat)
 |0,_=>[[]]
 |m+1,fr=>((List.range' fr (L - fr)).filter fun j=>!mk.contains j).flatMap fun j=>(A' L mk m (j+1)).map (j :: ·)
structure Pr (L:Nat) (mk:List Nat) (fr:Nat) (l:List Nat):Prop where
 asc:l.Pairwise (· < ·)
 ge:∀j,j∈l→fr≤j
 lt:∀j,j∈l→j < L
 un:∀j,j∈l→j∉mk
theorem F3 (L:Nat) (mk:List Nat):∀(m fr:Nat) (l:List Nat),l∈A' L mk m fr→l.length=m∧Pr L mk fr l
 |0,fr,l,h=>by
  simp [A'] at h;subst h
  exact⟨rfl,.nil,by simp,by simp,by simp⟩
 |m+1,fr,l,h=>by
  simp only [A',List.mem_flatMap,List.mem_filter,List.mem_range'_1,List.mem_map] at h
  obtain⟨j,⟨hj,hjm⟩,l',hl',rfl⟩:=h
  obtain⟨h1,h2⟩:=F3 L mk m (j+1) l' hl'
  refine⟨by simp [h1],List.pairwise_cons.2 ⟨fun k hk=>by have:=h2.ge k hk;omega,h2.asc⟩,fun k hk=>?_,fun k hk=>?_,fun k hk=>?_⟩
  ·rcases List.mem_cons.1 hk with rfl|hk
   ·omega
   ·have:=h2.ge k hk;omega
  ·rcases List.mem_cons.1 hk with rfl|hk
   ·omega
   ·exact h2.lt k hk
  ·rcases List.mem_cons.1 hk with rfl|hk
   ·simpa using hjm
   ·exact h2.un k hk
theorem Rg (L:Nat) (mk:List Nat):∀(l:List Nat) (fr:Nat),Pr L mk fr l→l∈A' L mk l.length fr
 |[],fr,_=>by simp [A']
 |j :: l,fr,h=>by
  have h1:=List.pairwise_cons.1 h.asc
  have ih:=Rg L mk l (j+1) ⟨h1.2,fun k hk=>h1.1 k hk,fun k hk=>h.lt k (by simp [hk]),fun k hk=>h.un k (by simp [hk])⟩
  simp only [List.length_cons,A',List.mem_flatMap,List.mem_filter,List.mem_range'_1,List.mem_map]
  refine⟨j,⟨⟨h.ge j (by simp),?_⟩,?_⟩,l,ih,rfl⟩
  ·have:=h.ge j (by simp);have:=h.lt j (by simp);omega
  ·have:=h.un j (by simp)
   simpa using this
structure UR (L:Nat) (mk:List Nat):Prop where
 asc:mk.Pairwise (· < ·)
 lt:∀j,j∈mk→j < L
theorem Dk {l:List Nat} (h:l.Pairwise (· < ·)):l.Nodup:=h.imp fun h=>Nat.ne_of_lt h
theorem LC {L fr:Nat} {mk l:List Nat} (hm:UR L mk) (h:Pr L mk fr l):RD L (mk++l):=by
 refine⟨List.nodup_append.2 ⟨Dk hm.asc,Dk h.asc,fun a ha b hb e=>h.un b hb (e ▸ ha)⟩,fun j hj=>?_⟩
 rcases List.mem_append.1 hj with hj|hj
 ·exact hm.lt j hj
 ·exact h.lt j hj
noncomputable def Cq (L P:Nat) (w:List F) (mk:List Nat):Option (List F) :=
 if mk.length≤P then (List.range ((P - mk.length) / 2+1)).findSome? fun e=>(A' L mk e 0).findSome? (hit L P w mk) else none
def Em (L:Nat) (a b:List F) (mk:List Nat):List Nat:=(List.range L).filter fun j=>decide (a[j]?.getD 0≠b[j]?.getD 0) && !mk.contains j
theorem H9 (L:Nat) (a b:List F) (mk:List Nat):Pr L mk 0 (Em L a b mk):=by
 refine⟨List.Pairwise.filter _ List.pairwise_lt_range,fun _ _=>Nat.zero_le _,fun j hj=>?_,fun j hj=>?_⟩
 ·simp [Em] at hj;exact hj.1
 ·simp [Em] at hj;exact hj.2.2
theorem Ju {L:Nat} {a b:List F} {mk:List Nat} (ha:a.length=L) (hb:b.length=L) {j:Nat} (h:j∉mk++Em L a b mk):a[j]?.getD 0=b[j]?.getD 0:=by
 by_cases hj:j < L
 ·simp only [List.mem_append,not_or] at h
  by_cases he:a[j]?.getD 0=b[j]?.getD 0
  ·exact he
  ·exact absurd (by simp [Em,hj,h.1];exact he) h.2
 ·rw [List.getElem?_eq_none (by omega),List.getElem?_eq_none (by omega)]
theorem JH:∀(l k:List Nat),l.Nodup→(∀j,j∈l→j∈k)→l.length≤k.length
 |[],k,_,_=>Nat.zero_le _
 |x :: l,k,hn,h=>by
  rw [List.nodup_cons] at hn
  have hx:=h x (by simp)
  have ih:=JH l (k.erase x) hn.2 fun j hj=>(List.mem_erase_of_ne (show j≠x from fun e=>hn.1 (by rw [←e];exact hj))).2 (h j (by simp [hj]))
  rw [List.length_erase_of_mem hx] at ih
  have:0 < k.length:=List.length_pos_of_mem hx
  simp only [List.length_cons]
  omega
theorem dh {L fr:Nat} {a b:List F} {mk l:List Nat} (hs:Pr L mk fr l) (h:∀j,j∉mk++l→a[j]?.getD 0=b[j]?.getD 0):(Em L a b mk).length≤l.length:=by
 have hsub:∀j,j∈Em L a b mk→j∈l:=fun j hj=>by
  simp [Em] at hj
  by_cases hjl:j∈l
  ·exact hjl
  ·exact absurd (h j (by simp [hj.2.2,hjl])) hj.2.1
 exact JH _ _ (Dk (H9 L a b mk).asc) hsub
theorem HH {α β:Type} {f:α→Option β} {l:List α} {r:β} (h:l.findSome? f=some r):∃x,x∈l∧f x=some r:=by
 rw [List.findSome?_eq_some_iff] at h
 obtain⟨l1,a,l2,rfl,h2,_⟩:=h
 exact⟨a,by simp,h2⟩
theorem E3 {L P:Nat} {w r:List F} {mk:List Nat} (hw:w.length=L) (hm:UR L mk) (h:Cq L P w mk=some r) :
  UU L P r∧r.length=L∧2 * (Em L r w mk).length+mk.length≤P:=by
 unfold Cq at h
 split at h
 ·rename_i hle
  obtain⟨e,he,h⟩:=HH h
  obtain⟨l,hl,h⟩:=HH h
  obtain⟨h1,h2⟩:=F3 L mk e 0 l hl
  obtain⟨h3,h4,h5⟩:=YP hw (LC hm h2) h
  refine⟨h3,h4,?_⟩
  have:=dh h2 h5
  simp at he
  omega
 ·cases h
theorem N_ {L P:Nat} (hL:L≤15) {w c:List F} {mk:List Nat} (hw:w.length=L) (hc:c.length=L) (hm:UR L mk) (hcode:UU L P c) (h:2 * (Em L c w mk).length+mk.length≤P):Cq L P w mk=some c:=by
 have hs:=H9 L c w mk
 have hp:=LC hm hs
 have hhit:hit L P w mk (Em L c w mk)=some c:=QT hL hw hc hp (by simp;omega) hcode fun j hj=>Ju hc hw hj
 have hfound:∃r,Cq L P w mk=some r:=by
  unfold Cq
  rw [if_pos (by omega)]
  cases hf:(List.range ((P - mk.length) / 2+1)).findSome? fun e=>(A' L mk e 0).findSome? (hit L P w mk) with
  |some r=>exact⟨r,rfl⟩
  |none =>
   rw [List.findSome?_eq_none_iff] at hf
   have h1:=hf (Em L c w mk).length (by simp;omega)
   rw [List.findSome?_eq_none_iff] at h1
   have h2:=h1 _ (Rg L mk _ 0 hs)
   rw [hhit] at h2;cases h2
 obtain⟨r,hr⟩:=hfound
 rw [hr]
 congr 1
 obtain⟨h1,h2,h3⟩:=E3 hw hm hr
 have hs2:=H9 L r w mk
 obtain⟨at_,hat⟩:∃at_,mk++((Em L r w mk)++(Em L c w mk).filter fun j=>!(Em L r w mk).contains j)=at_:=⟨_,rfl⟩
 refine Ph hL (at_:=at_) h2 hc ?_ ?_ h1 hcode fun j hj=>?_
 ·rw [←hat]
  refine⟨List.nodup_append.2 ⟨Dk hm.asc,List.nodup_append.2 ⟨Dk hs2.asc,(Dk hs.asc).filter _,fun a ha b hb e=>?_⟩,fun a ha b hb e=>?_⟩,fun j hj=>?_⟩
  ·simp at hb;exact hb.2 (e ▸ ha)
  ·subst e
   rcases List.mem_append.1 hb with hb|hb
   ·exact hs2.un a hb ha
   ·exact hs.un a (List.mem_filter.1 hb).1 ha
  ·rcases List.mem_append.1 hj with hj|hj
   ·exact hm.lt j hj
   ·rcases List.mem_append.1 hj with hj|hj
    ·exact hs2.lt j hj
    ·exact hs.lt j (List.mem_filter.1 hj).1
 ·rw [←hat]
  have:=List.length_filter_le (fun j=>!(Em L r w mk).contains j) (Em L c w mk)
  simp only [List.length_append]
  omega
 ·rw [←hat] at hj
  simp only [List.mem_append,not_or,List.mem_filter] at hj
  obtain⟨j1,j2,j3⟩:=hj
  have j4:j∉Em L c w mk:=fun hh=>j3 ⟨hh,by simpa using j2⟩
  exact(Ju h2 hw (fun e=>(List.mem_append.1 e).elim j1 j2)).trans (Ju hc hw (fun e=>(List.mem_append.1 e).elim j1 j4)).symm
end Go.Pw
