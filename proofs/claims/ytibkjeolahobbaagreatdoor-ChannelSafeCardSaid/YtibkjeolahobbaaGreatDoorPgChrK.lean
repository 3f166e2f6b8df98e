/- A part of the proof. -/
import Derived.Test.YtibkjeolahobbaaGreatDoorPgChrH
set_option linter.all false
section
open Go Go.Pw Go.Proofs
namespace Go.Pw
set_option linter.unusedSimpArgs false
set_option linter.unusedVariables false
set_option maxRecDepth 100000
set_option maxHeartbeats 3200000
def vv (b:Bool) (o:List F) (fnd:Bool):List (Nat×Nat×Aa):=[(900004,0,.cells [.d (.list b (us o))]),(901004,0,.cells [.d (.bool fnd)])]
def vh (b:Bool) (o:List F) (fnd:Bool) (r:Option (List F)):List (Nat×Nat×Aa):=match r with|some z=>vv false z true|none=>vv b o fnd
theorem Iy (b:Bool) (o:List F) (fnd:Bool) (z:List F):vh b o fnd (some z)=vv false z true:=rfl
theorem Iz (b:Bool) (o:List F) (fnd:Bool):vh b o fnd none=vv b o fnd:=rfl
def Gk (w:List F) (at_:List Nat) (v:List F):List F:=List.zipWith (fun j x=>fa (w[j]?.getD 0) x) at_ v
theorem Qc (w:List F) (at_:List Nat) (v:List F) (h:at_.length=v.length):(Gk w at_ v).length=at_.length:=by simp [Gk,h]
theorem eB (w:List F) (at_:List Nat) (v:List F) (i:Nat) (h:i < at_.length) (hl:at_.length=v.length):(Gk w at_ v)[i]?.getD 0=fa (w[at_[i]?.getD 0]?.getD 0) (v[i]?.getD 0):=by
 unfold Gk
 rw [List.getElem?_zipWith,List.getElem?_eq_getElem h,List.getElem?_eq_getElem (by omega)];rfl
noncomputable def hit (L P:Nat) (w:List F) (mk:List Nat) (l:List Nat):Option (List F) :=
 (LH L P (mk++l) (Js L P w)).map fun v=>EA w (mk++l) (Gk w (mk++l) v)
theorem WK (l:List Nat) (i:Nat) (h:i < l.length) (hn:l.Nodup):l[i]?.getD 0∉l.take i:=by
 intro hm
 rw [Xi _ _ h] at hm
 obtain⟨j,hj,he⟩:=List.getElem_of_mem hm
 have hj2:j < i:=by simp at hj;omega
 rw [List.getElem_take] at he
 have:=(List.getElem_inj hn).1 he
 omega
attribute [local congr] Bh A_ A' Ap Bi Av Ax Aw Ao Ah Ab AZ Ar Ac As BI BM BK BL BJ BN BF Af Au Ag BD BQ Ae BG BH BE BB BC A9 BA Aq Ad
attribute [local irreducible] IntKind.wrap A5 Option.getD and or
theorem S5 (L P:Nat) (n1 n2 n3 b fnd:Bool) (o w:List F) (mk l:List Nat) (hL:L≤15) (hL1:1≤L) (hP:1≤P) (hP2:P≤15) (hw:w.length=L) (hp:aE L (mk++l)) (hm:(mk++l).length≤P) (hn3:n3=false) :
  Hq E0 Co (vv b o fnd) [.d (.list n1 (Ai (ni l))),.d (.ptr [.list n2 (Ai (ni mk))]),.d (.ptr [.int .i64 L,.int .i64 P]),.d (.ptr [.list false (us (Js L P w))]),.d (.ptr [.list n3 (us w)]),.ptr 900004 0 0,.ptr 901004 0 0]
   (vh b o fnd (hit L P w mk l)) (.d (.bool (hit L P w mk l).isNone)):=by
 subst hn3
 obtain⟨S,hS⟩:∃S,Js L P w=S:=⟨_,rfl⟩
 have hSl:S.length=P:=by rw [←hS];exact Tg L P w
 have c1:=Qk n2 n1 (ni mk) (ni l) (by rw [G1];simp at hm;omega) (by rw [G1];simp at hm;omega)
 rw [bt] at c1
 obtain⟨A,hA⟩:∃A,mk++l=A:=⟨_,rfl⟩
 have c2:=fun nl=>NJ L P false nl S A hL hP hP2 hSl (by rw [←hA];exact hp) (by rw [←hA];exact hm)
 rw [hA] at c1 hp hm
 unfold hit
 rw [hS,hA]
 unfold vh vv
 refine DQ HR Am (by simp) (by cases LH L P A S<;>simp [Ol,CI,EF,Aa.isHist]) (by cases LH L P A S<;>simp [Eh]) fun hwf hwo=>?_
 rw [D2];unfold En
 cases hs:LH L P A S with
 |none =>
  rw [hs,Ni,Bm] at c2
  simp only [Option.map_none,Option.isNone_none]
  (try (simp -implicitDefEqProofs only [go_sem]));repeat' first|(with_reducible first|exact True.intro|refine And.intro ?_ ?_|intro _)|(((with_reducible refine isCall ?_);first|refine AF (c1) rfl ?_ ?_|refine AE (c1) rfl ?_|refine AB (c1) rfl ?_ ?_|refine AG (c1) rfl rfl ?_|refine AF (c2 _) rfl ?_ ?_|refine AE (c2 _) rfl ?_|refine AB (c2 _) rfl ?_ ?_|refine AG (c2 _) rfl rfl ?_)<;>try (simp -implicitDefEqProofs only [go_sem]))|(((with_reducible refine AS ?_ ?_)<;>intro _)<;>try (simp -implicitDefEqProofs only [go_sem]))|simp (disch:=omega) only [AC,AH,AP,AJ,AD,AQ,AI,AA]|((with_reducible refine A4 ?_);refine⟨_,rfl,?_,?_⟩)
  all_goals first|omega|(simp;done)|(simp;omega)|skip
  all_goals first|rfl|skip
 |some v =>
  rw [hs,K9,Bm] at c2
  simp only [Option.map_some,Option.isNone_some]
  have hvl:=(RR hs).1
  have c3:=H6 false w (by omega) (by omega) rfl
  (try (simp -implicitDefEqProofs only [go_sem]));repeat' first|(with_reducible first|exact True.intro|refine And.intro ?_ ?_|intro _)|(((with_reducible refine isCall ?_);first|refine AF (c1) rfl ?_ ?_|refine AE (c1) rfl ?_|refine AB (c1) rfl ?_ ?_|refine AG (c1) rfl rfl ?_|refine AF (c2 _) rfl ?_ ?_|refine AE (c2 _) rfl ?_|refine AB (c2 _) rfl ?_ ?_|refine AG (c2 _) rfl rfl ?_|(refine Ei ([]) ([((7,1),(27,1))]) (c3) (by repeat' first|exact True.intro|exact rfl|refine And.intro ?_ ?_) (by simp [Handed,DU.get,Aa.ren,AV.ren,AV.ren.renL,AN.get,BS,B6,Dj,AN.reach,AV.sites,AV.sites.sitesL,AN.osites]) (by simp [CD,Eh,CI,DU.get,Dj,EF,B9]) (by rfl) (by simp only [Dk,DU.get,Aa.ren,AV.ren,AV.ren.renL,and_self,and_true,true_and,if_true,reduceIte];rfl) ?_))<;>try (simp -implicitDefEqProofs only [go_sem]))|(((with_reducible refine AS ?_ ?_)<;>intro _)<;>try (simp -implicitDefEqProofs only [go_sem]))|simp (disch:=omega) only [AC,AH,AP,AJ,AD,AQ,AI,AA]|((with_reducible refine A4 ?_);refine⟨_,rfl,?_,?_⟩)
  all_goals first|omega|(simp;done)|(simp;omega)|skip
  refine AY (α:=Nat) (l0:=?l1) (m0:=?m1) (fun x=>[(30,.d (.int .i64 (x:Int)))]) (fun x=>[(27,.row 135 1 false (us (EA w (A.take x) ((Gk w A v).take x))))]) (fun x=>x≤A.length) (fun x=>A.length - x) 0 ?h01 ?he1 ?he21 ?hI1 ?step1
  case h01=>(simp -implicitDefEqProofs only [go_sem];rfl)
  case he1=>rfl
  case he21=>rfl
  case' step1=>(rintro i hI;try dsimp only at hI)
  case' hI1=>try dsimp only
  ·exact Nat.zero_le _
  ·have hW:=Nf (A.take i) w ((Gk w A v).take i)
   have hYl:=Qc w A v hvl.symm
   by_cases h:i < A.length
   ·have h':(i:Int) < (A.length:Int):=by omega
    have hwi:IntKind.i64.wrap ((i:Int)+1)=((i+1:Nat):Int):=by rw [AC _ (by omega)];omega
    have hj:=hp.lt (A[i]?.getD 0) (by rw [Xi _ _ h];exact List.getElem_mem h)
    have hg:(EA w (A.take i) ((Gk w A v).take i))[A[i]?.getD 0]?.getD 0=w[A[i]?.getD 0]?.getD 0:=Ng _ _ _ _ (WK A i h hp.nd)
    have hk:(EA w (A.take i) ((Gk w A v).take i)).set (A[i]?.getD 0) (fa (w[A[i]?.getD 0]?.getD 0) (v[i]?.getD 0))=EA w (A.take (i+1)) ((Gk w A v).take (i+1)):=by
     rw [←eB w A v i h hvl.symm,←PK _ _ _ _ _ (Tf A _ i hYl.symm),Bk A 0 i h,Bk _ 0 i (by omega)]
    have hi2:i < v.length:=by omega
    have hj2:A[i]?.getD 0 < w.length:=by omega
    (try (simp -implicitDefEqProofs only [go_sem,h',hwi,hW,hj2,hg,hk,hi2]));repeat' first|(with_reducible first|exact True.intro|refine And.intro ?_ ?_|intro _)|(((with_reducible refine AS ?_ ?_)<;>intro _)<;>try (simp -implicitDefEqProofs only [go_sem,h',hwi,hW,hj2,hg,hk,hi2]))|simp (disch:=omega) only [AC,AH,AP,AJ,AD,AQ,AI,AA]|((with_reducible refine A4 ?_);refine⟨_,rfl,?_,?_⟩)
    all_goals first|omega|(simp;done)|(simp;omega)|skip
    all_goals first|rfl|skip
   ·have h':¬(i:Int) < (A.length:Int):=by omega
    have hie:i=A.length:=by omega
    have hfin:EA w (A.take i) ((Gk w A v).take i)=EA w A (Gk w A v):=by rw [List.take_of_length_le (by omega),List.take_of_length_le (by omega)]
    rw [hfin]
    (try (simp -implicitDefEqProofs only [go_sem,h']));repeat' first|(with_reducible first|exact True.intro|refine And.intro ?_ ?_|intro _)|(((with_reducible refine AS ?_ ?_)<;>intro _)<;>try (simp -implicitDefEqProofs only [go_sem,h']))|simp (disch:=omega) only [AC,AH,AP,AJ,AD,AQ,AI,AA]|((with_reducible refine A4 ?_);refine⟨_,rfl,?_,?_⟩)
    all_goals first|omega|(simp;done)|(simp;omega)|skip
    all_goals first|rfl|skip
end Go.Pw
end
section
namespace Go.Pw
set_option linter.unusedSimpArgs false
set_option linter.unusedVariables false
theorem S2 (x:F):∀(w c:List F) (j:Nat),j < w.length→w.length≤c.length→FG (w.set j x) c=fa (FG w c) (fm (fa (w[j]?.getD 0) x) (c[j]?.getD 0))
 |a :: w,b :: c,0,_,_=>by
  show fa (fm x b) (FG w c)=fa (fa (fm a b) (FG w c)) (fm (fa a x) b)
  rw [jG,Mw (fm a b) (FG w c),Dt,←Dt (fm a b),FR,Iu,Mw]
 |a :: w,b :: c,j+1,h,hl=>by
  have ih:=S2 x w c j (by simpa using h) (by simpa using hl)
  show fa (fm a b) (FG (w.set j x) c)=fa (fa (fm a b) (FG w c)) (fm (fa (w[j]?.getD 0) x) (c[j]?.getD 0))
  rw [ih,Dt]
theorem VT (w:List F) (j:Nat) (x:F):∀(js:List Nat) (xs:List F),j∉js→Gk (w.set j x) js xs=Gk w js xs
 |[],xs,_=>rfl
 |k :: js,[],_=>rfl
 |k :: js,y :: xs,h=>by
  have ih:=VT w j x js xs fun e=>h (by simp [e])
  show fa ((w.set j x)[k]?.getD 0) y :: Gk (w.set j x) js xs=fa (w[k]?.getD 0) y :: Gk w js xs
  rw [ih,List.getElem?_set_ne fun e=>h (by simp [e])]
theorem Rq (c:List F):∀(at_:List Nat) (xs w:List F),at_.Nodup→at_.length=xs.length→(∀j,j∈at_→j < w.length)→w.length≤c.length →
  FG (EA w at_ xs) c=fa (FG w c) (FG (at_.map fun j=>c[j]?.getD 0) (Gk w at_ xs))
 |[],xs,w,_,_,_,_=>by rw [Nd];simp [LE,Cz]
 |j :: js,x :: xs,w,hn,hl,hlt,hc=>by
  rw [List.nodup_cons] at hn
  have hj:=hlt j (by simp)
  have ih:=Rq c js xs (w.set j x) hn.2 (by simpa using hl) (fun k hk=>by simpa using hlt k (by simp [hk])) (by simpa using hc)
  show FG (EA (w.set j x) js xs) c=fa (FG w c) (fa (fm (c[j]?.getD 0) (fa (w[j]?.getD 0) x)) (FG (js.map fun j=>c[j]?.getD 0) (Gk w js xs)))
  rw [ih,S2 x w c j hj hc,VT _ _ _ _ _ hn.1,Dt,Da (c[j]?.getD 0)]
theorem gL (L i:Nat) (at_:List Nat) (h:∀j,j∈at_→j < L):(at_.map fun j=>(Q6 L i)[j]?.getD 0)=at_.map fun j=>Wq L i j :=
 List.map_congr_left fun j hj=>S9 L i j (h j hj)
theorem PP {L P:Nat} {w xs:List F} {at_:List Nat} (hw:w.length=L) (hp:aE L at_) (hl:at_.length=xs.length) (i:Nat) (h:i < P) :
  EJ (Js L P (EA w at_ xs)) i=fa (EJ (Js L P w) i) (FG (at_.map fun j=>Wq L i j) (Gk w at_ xs)):=by
 show (Js L P (EA w at_ xs))[i]?.getD 0=fa ((Js L P w)[i]?.getD 0) _
 rw [J3 _ _ _ _ h,J3 _ _ _ _ h,Rq (Q6 L i) at_ xs w hp.nd hl (fun j hj=>by rw [hw];exact hp.lt j hj) (by rw [PF];omega),gL L i at_ hp.lt]
theorem XZ {L P:Nat} {at_:List Nat} {s v:List F} (hv:v.length=at_.length):Qm 1 (OY L P at_ s) v↔∀i,i < P→fa (EJ s i) (FG (at_.map fun j=>Wq L i j) v)=0:=by
 have hl:=(Mx L P at_ s).len
 constructor
 ·intro h i hi
  have:=h i (by omega)
  rwa [S3 _ _ _ _ _ _ hv i hi,I_,Mw] at this
 ·intro h i hi
  rw [S3 _ _ _ _ _ _ hv i (by omega),I_,Mw];exact h i (by omega)
def eP (L P:Nat) (w:List F):Prop:=∀i,i < P→EJ (Js L P w) i=0
theorem OE (w:List F):∀(at_:List Nat) (v:List F),at_.length=v.length→Gk w at_ (Gk w at_ v)=v
 |[],[],_=>rfl
 |j :: js,x :: v,h=>by
  have ih:=OE w js v (by simpa using h)
  show fa (w[j]?.getD 0) (fa (w[j]?.getD 0) x) :: Gk w js (Gk w js v)=x :: v
  rw [ih,←Dt,FR,Iu]
theorem ce {L P:Nat} {w r:List F} {mk l:List Nat} (hw:w.length=L) (hp:aE L (mk++l)) (h:hit L P w mk l=some r):eP L P r∧r.length=L∧∀j,j∉mk++l→r[j]?.getD 0=w[j]?.getD 0:=by
 unfold hit at h
 rw [Option.map_eq_some_iff] at h
 obtain⟨v,hv,rfl⟩:=h
 obtain⟨h1,h2⟩:=RR hv
 refine⟨fun i hi=>?_,by rw [Nf];exact hw,fun j hj=>Ng _ _ _ _ hj⟩
 rw [PP hw hp (by rw [Qc _ _ _ h1.symm]) i hi,OE _ _ _ h1.symm]
 exact(XZ h1).1 h2 i hi
theorem TR:∀(at_:List Nat) (w c:List F),at_.Nodup→c.length=w.length→(∀j,j∈at_→j < w.length)→(∀j,j∉at_→c[j]?.getD 0=w[j]?.getD 0)→EA w at_ (at_.map fun j=>c[j]?.getD 0)=c
 |[],w,c,_,hl,_,h=>by
  rw [Nd]
  exact(dN hl fun j _=>h j (by simp)).symm
 |j :: js,w,c,hn,hl,hlt,h=>by
  rw [List.nodup_cons] at hn
  show EA (w.set j (c[j]?.getD 0)) js (js.map fun j=>c[j]?.getD 0)=c
  refine TR js _ c hn.2 (by simpa using hl) (fun k hk=>by simpa using hlt k (by simp [hk])) fun k hk=>?_
  by_cases hkj:k=j
  ·subst hkj
   have:=hlt k (by simp)
   rw [List.getElem?_set_self this];rfl
  ·rw [List.getElem?_set_ne (fun e=>hkj e.symm)]
   exact h k (by simp [hk,hkj])
theorem WY {L P:Nat} (hL:L≤15) {w c:List F} {mk l:List Nat} (hw:w.length=L) (hc:c.length=L) (hp:aE L (mk++l)) (hm:(mk++l).length≤P) (hcode:eP L P c) (h:∀j,j∉mk++l→c[j]?.getD 0=w[j]?.getD 0):hit L P w mk l=some c:=by
 obtain⟨A,hA⟩:∃A,mk++l=A:=⟨_,rfl⟩
 unfold hit
 rw [hA] at hp hm h ⊢
 obtain⟨ys,hys⟩:∃ys,(A.map fun j=>c[j]?.getD 0)=ys:=⟨_,rfl⟩
 have hyl:A.length=ys.length:=by rw [←hys];simp
 have hc2:EA w A ys=c:=by
  rw [←hys];exact TR A w c hp.nd (by omega) (fun j hj=>by rw [hw];exact hp.lt j hj) h
 have hal:=Qc w A ys hyl
 have hs:LH L P A (Js L P w)=some (Gk w A ys):=by
  refine RS hL hp hm hal ((XZ hal).2 fun i hi=>?_)
  rw [←PP hw hp hyl i hi,hc2]
  exact hcode i hi
 rw [hs,Option.map_some,OE _ _ _ hyl,hc2]
theorem Ry {L P:Nat} (hL:L≤15) {c d:List F} {at_:List Nat} (hc:c.length=L) (hd:d.length=L) (hp:aE L at_) (hm:at_.length≤P) (h1:eP L P c) (h2:eP L P d) (h:∀j,j∉at_→c[j]?.getD 0=d[j]?.getD 0):c=d:=by
 have e1:hit L P d [] at_=some c:=WY hL hd hc (by simpa using hp) (by simpa using hm) h1 (by simpa using h)
 have e2:hit L P d [] at_=some d:=WY hL hd hd (by simpa using hp) (by simpa using hm) h2 (fun _ _=>rfl)
 rw [e1] at e2
 simpa using e2
def CE (L:Nat) (mk:List Nat):Nat→Nat→List (List Nat)
 |0,_=>[[]]
 |m+1,fr=>((List.range' fr (L - fr)).filter fun j=>!mk.contains j).flatMap fun j=>(CE L mk m (j+1)).map (j :: ·)
structure R7 (L:Nat) (mk:List Nat) (fr:Nat) (l:List Nat):Prop where
 asc:l.Pairwise (· < ·)
 ge:∀j,j∈l→fr≤j
 lt:∀j,j∈l→j < L
 un:∀j,j∈l→j∉mk
theorem H8 (L:Nat) (mk:List Nat):∀(m fr:Nat) (l:List Nat),l∈CE L mk m fr→l.length=m∧R7 L mk fr l
 |0,fr,l,h=>by
  simp [CE] at h;subst h
  exact⟨rfl,.nil,by simp,by simp,by simp⟩
 |m+1,fr,l,h=>by
  simp only [CE,List.mem_flatMap,List.mem_filter,List.mem_range'_1,List.mem_map] at h
  obtain⟨j,⟨hj,hjm⟩,l',hl',rfl⟩:=h
  obtain⟨h1,h2⟩:=H8 L mk m (j+1) l' hl'
  refine⟨by simp [h1],List.pairwise_cons.2 ⟨fun k hk=>by have:=h2.ge k hk;omega,h2.asc⟩,fun k hk=>?_,fun k hk=>?_,fun k hk=>?_⟩
  ·rcases List.mem_cons.1 hk with rfl|hk
   ·omega
   ·have:=h2.ge k hk;omega
  ·rcases List.mem_cons.1 hk with rfl|hk
   ·omega
   ·exact h2.lt k hk
  ·rcases List.mem_cons.1 hk with rfl|hk
   ·simpa using hjm
   ·exact h2.un k hk
theorem T4 (L:Nat) (mk:List Nat):∀(l:List Nat) (fr:Nat),R7 L mk fr l→l∈CE L mk l.length fr
 |[],fr,_=>by simp [CE]
 |j :: l,fr,h=>by
  have h1:=List.pairwise_cons.1 h.asc
  have ih:=T4 L mk l (j+1) ⟨h1.2,fun k hk=>h1.1 k hk,fun k hk=>h.lt k (by simp [hk]),fun k hk=>h.un k (by simp [hk])⟩
  simp only [List.length_cons,CE,List.mem_flatMap,List.mem_filter,List.mem_range'_1,List.mem_map]
  refine⟨j,⟨⟨h.ge j (by simp),?_⟩,?_⟩,l,ih,rfl⟩
  ·have:=h.ge j (by simp);have:=h.lt j (by simp);omega
  ·have:=h.un j (by simp)
   simpa using this
structure XJ (L:Nat) (mk:List Nat):Prop where
 asc:mk.Pairwise (· < ·)
 lt:∀j,j∈mk→j < L
theorem D4 {l:List Nat} (h:l.Pairwise (· < ·)):l.Nodup:=h.imp fun h=>Nat.ne_of_lt h
theorem SW {L fr:Nat} {mk l:List Nat} (hm:XJ L mk) (h:R7 L mk fr l):aE L (mk++l):=by
 refine⟨List.nodup_append.2 ⟨D4 hm.asc,D4 h.asc,fun a ha b hb e=>h.un b hb (e ▸ ha)⟩,fun j hj=>?_⟩
 rcases List.mem_append.1 hj with hj|hj
 ·exact hm.lt j hj
 ·exact h.lt j hj
noncomputable def MA (L P:Nat) (w:List F) (mk:List Nat):Option (List F) :=
 if mk.length≤P then (List.range ((P - mk.length) / 2+1)).findSome? fun e=>(CE L mk e 0).findSome? (hit L P w mk) else none
def L3 (L:Nat) (a b:List F) (mk:List Nat):List Nat:=(List.range L).filter fun j=>decide (a[j]?.getD 0≠b[j]?.getD 0) && !mk.contains j
theorem Mz (L:Nat) (a b:List F) (mk:List Nat):R7 L mk 0 (L3 L a b mk):=by
 refine⟨List.Pairwise.filter _ List.pairwise_lt_range,fun _ _=>Nat.zero_le _,fun j hj=>?_,fun j hj=>?_⟩
 ·simp [L3] at hj;exact hj.1
 ·simp [L3] at hj;exact hj.2.2
theorem M0 {L:Nat} {a b:List F} {mk:List Nat} (ha:a.length=L) (hb:b.length=L) {j:Nat} (h:j∉mk++L3 L a b mk):a[j]?.getD 0=b[j]?.getD 0:=by
 by_cases hj:j < L
 ·simp only [List.mem_append,not_or] at h
  by_cases he:a[j]?.getD 0=b[j]?.getD 0
  ·exact he
  ·exact absurd (by simp [L3,hj,h.1];exact he) h.2
 ·rw [List.getElem?_eq_none (by omega),List.getElem?_eq_none (by omega)]
theorem Pt:∀(l k:List Nat),l.Nodup→(∀j,j∈l→j∈k)→l.length≤k.length
 |[],k,_,_=>Nat.zero_le _
 |x :: l,k,hn,h=>by
  rw [List.nodup_cons] at hn
  have hx:=h x (by simp)
  have ih:=Pt l (k.erase x) hn.2 fun j hj=>(List.mem_erase_of_ne (show j≠x from fun e=>hn.1 (by rw [←e];exact hj))).2 (h j (by simp [hj]))
  rw [List.length_erase_of_mem hx] at ih
  have:0 < k.length:=List.length_pos_of_mem hx
  simp only [List.length_cons]
  omega
theorem kl {L fr:Nat} {a b:List F} {mk l:List Nat} (hs:R7 L mk fr l) (h:∀j,j∉mk++l→a[j]?.getD 0=b[j]?.getD 0):(L3 L a b mk).length≤l.length:=by
 have hsub:∀j,j∈L3 L a b mk→j∈l:=fun j hj=>by
  simp [L3] at hj
  by_cases hjl:j∈l
  ·exact hjl
  ·exact absurd (h j (by simp [hj.2.2,hjl])) hj.2.1
 exact Pt _ _ (D4 (Mz L a b mk).asc) hsub
theorem Ld {α β:Type} {f:α→Option β} {l:List α} {r:β} (h:l.findSome? f=some r):∃x,x∈l∧f x=some r:=by
 rw [List.findSome?_eq_some_iff] at h
 obtain⟨l1,a,l2,rfl,h2,_⟩:=h
 exact⟨a,by simp,h2⟩
theorem M1 {L P:Nat} {w r:List F} {mk:List Nat} (hw:w.length=L) (hm:XJ L mk) (h:MA L P w mk=some r) :
  eP L P r∧r.length=L∧2 * (L3 L r w mk).length+mk.length≤P:=by
 unfold MA at h
 split at h
 ·rename_i hle
  obtain⟨e,he,h⟩:=Ld h
  obtain⟨l,hl,h⟩:=Ld h
  obtain⟨h1,h2⟩:=H8 L mk e 0 l hl
  obtain⟨h3,h4,h5⟩:=ce hw (SW hm h2) h
  refine⟨h3,h4,?_⟩
  have:=kl h2 h5
  simp at he
  omega
 ·cases h
theorem km {L P:Nat} (hL:L≤15) {w c:List F} {mk:List Nat} (hw:w.length=L) (hc:c.length=L) (hm:XJ L mk) (hcode:eP L P c) (h:2 * (L3 L c w mk).length+mk.length≤P):MA L P w mk=some c:=by
 have hs:=Mz L c w mk
 have hp:=SW hm hs
 have hhit:hit L P w mk (L3 L c w mk)=some c:=WY hL hw hc hp (by simp;omega) hcode fun j hj=>M0 hc hw hj
 have hfound:∃r,MA L P w mk=some r:=by
  unfold MA
  rw [if_pos (by omega)]
  cases hf:(List.range ((P - mk.length) / 2+1)).findSome? fun e=>(CE L mk e 0).findSome? (hit L P w mk) with
  |some r=>exact⟨r,rfl⟩
  |none =>
   rw [List.findSome?_eq_none_iff] at hf
   have h1:=hf (L3 L c w mk).length (by simp;omega)
   rw [List.findSome?_eq_none_iff] at h1
   have h2:=h1 _ (T4 L mk _ 0 hs)
   rw [hhit] at h2;cases h2
 obtain⟨r,hr⟩:=hfound
 rw [hr]
 congr 1
 obtain⟨h1,h2,h3⟩:=M1 hw hm hr
 have hs2:=Mz L r w mk
 obtain⟨at_,hat⟩:∃at_,mk++((L3 L r w mk)++(L3 L c w mk).filter fun j=>!(L3 L r w mk).contains j)=at_:=⟨_,rfl⟩
 refine Ry hL (at_:=at_) h2 hc ?_ ?_ h1 hcode fun j hj=>?_
 ·rw [←hat]
  refine⟨List.nodup_append.2 ⟨D4 hm.asc,List.nodup_append.2 ⟨D4 hs2.asc,(D4 hs.asc).filter _,fun a ha b hb e=>?_⟩,fun a ha b hb e=>?_⟩,fun j hj=>?_⟩
  ·simp at hb;exact hb.2 (e ▸ ha)
  ·subst e
   rcases List.mem_append.1 hb with hb|hb
   ·exact hs2.un a hb ha
   ·exact hs.un a (List.mem_filter.1 hb).1 ha
  ·rcases List.mem_append.1 hj with hj|hj
   ·exact hm.lt j hj
   ·rcases List.mem_append.1 hj with hj|hj
    ·exact hs2.lt j hj
    ·exact hs.lt j (List.mem_filter.1 hj).1
 ·rw [←hat]
  have:=List.length_filter_le (fun j=>!(L3 L r w mk).contains j) (L3 L c w mk)
  simp only [List.length_append]
  omega
 ·rw [←hat] at hj
  simp only [List.mem_append,not_or,List.mem_filter] at hj
  obtain⟨j1,j2,j3⟩:=hj
  have j4:j∉L3 L c w mk:=fun hh=>j3 ⟨hh,by simpa using j2⟩
  exact(M0 h2 hw (fun e=>(List.mem_append.1 e).elim j1 j2)).trans (M0 hc hw (fun e=>(List.mem_append.1 e).elim j1 j4)).symm
end Go.Pw
end
section
open Go Go.Pw Go.Proofs
namespace Go.Pw
set_option linter.unusedSimpArgs false
set_option linter.unusedVariables false
set_option maxRecDepth 100000
set_option maxHeartbeats 3200000
abbrev Uf:DU:=[((900004,0),(900004,0)),((901004,0),(901004,0))]
structure mC (G:List Nat→Option (List F)) (A:List Nat→Prop) (f:FuncId) (cs:List AV):Prop where
 body:Bl E0.P f=true
 st:AV.sites.sitesL cs=[900004,901004]
 nr:∀(V:AN) (os:List Nat),AV.nrm.live V os 900004 0=true→AV.nrm.live V os 901004 0=true→AV.nrm.nrmL V os cs=cs
 rn:AV.ren.renL Uf cs=some cs
 ar:NU Uf cs cs
 call:∀(nl:Bool) (l:List Nat) (b:Bool) (o:List F) (fnd:Bool),A l→(nl=true→l=[])→Hq E0 f (vv b o fnd) (.d (.list nl (Ai (ni l))) :: cs) (vh b o fnd (G l)) (.d (.bool (G l).isNone))
theorem QS:Bl E0.P Bn=true:=by kernel_rfl
theorem WI (b:Bool) (o:List F) (fnd:Bool):Ol (vv b o fnd)=true:=by simp [vv,Ol,CI,EF,Aa.isHist]
theorem any_cons {α:Type} (l:List α):True:=trivial
theorem YU (L:Nat) (mk:List Nat) (m j:Nat) (G:List Nat→Option (List F)) (hj:j < L) :
  (CE L mk (m+1) j).findSome? G=if mk.contains j then (CE L mk (m+1) (j+1)).findSome? G else
   ((CE L mk m (j+1)).findSome? fun l=>G (j :: l)).or ((CE L mk (m+1) (j+1)).findSome? G):=by
 have hr:List.range' j (L - j)=j :: List.range' (j+1) (L - (j+1)):=by
  rw [show L - j=(L - (j+1))+1 by omega,List.range'_succ]
 simp only [CE]
 rw [hr,List.filter_cons]
 cases h:mk.contains j with
 |true=>simp
 |false =>
  simp only [Bool.not_false,if_true,Bool.false_eq_true,if_false,List.flatMap_cons,List.findSome?_append]
  rw [List.findSome?_map];rfl
theorem av (L:Nat) (mk:List Nat) (m:Nat):CE L mk (m+1) L=[]:=by simp [CE]
theorem au (L:Nat) (mk:List Nat) (m fr:Nat) (l:List Nat) (h:l∈CE L mk m fr):l.length=m:=(H8 L mk m fr l h).1
theorem aq (L:Nat) (mk:List Nat) (m fr j:Nat) (l:List Nat) (hf:fr≤j) (hj:j < L) (hm:mk.contains j=false) (h:l∈CE L mk m (j+1)):j :: l∈CE L mk (m+1) fr:=by
 simp only [CE,List.mem_flatMap,List.mem_filter,List.mem_range'_1,List.mem_map]
 exact⟨j,⟨⟨hf,by omega⟩,by simpa using hm⟩,l,h,rfl⟩
theorem kP (mk:List Nat) (j:Nat):gc (ni mk) (j:Int)=mk.contains j:=by
 unfold gc ni
 rw [Bool.eq_iff_iff]
 simp only [List.contains_iff_mem,List.mem_map]
 constructor
 ·rintro⟨k,hk,he⟩
  have:k=j:=by omega
  subst this;exact hk
 ·exact fun h=>⟨j,h,rfl⟩
attribute [local congr] Bh A_ A' Ap Bi Av Ax Aw Ao Ah Ab AZ Ar Ac As BI BM BK BL BJ BN BF Af Au Ag BD BQ Ae BG BH BE BB BC A9 BA Aq Ad
attribute [local irreducible] IntKind.wrap A5 Option.getD and or
theorem Q7 {G:List Nat→Option (List F)} {A:List Nat→Prop} {f:FuncId} {cs:List AV} (hY:mC G A f cs) (j:Nat) (nl:Bool) (l:List Nat) (b:Bool) (o:List F) (fnd:Bool) (hA:A (j :: l)) (hll:l.length≤100) :
  Hq E0 Bn (vv b o fnd) [.d (.list nl (Ai (ni l))),.ablk false [.fn f cs] 0,.d (.ptr [.int .i64 (j:Int)])] (vh b o fnd (G (j :: l))) (.d (.bool (G (j :: l)).isNone)):=by
 have c1:=hY.call false (j :: l) b o fnd hA (by simp)
 have hst:=hY.st
 have hbody:=hY.body
 have hl:D.int .i64 (j:Int) :: Ai (ni l)=Ai (ni (j :: l)):=rfl
 have h1:((vv b o fnd).all fun q=>Eh (vh b o fnd (G (j :: l))) q.1 q.2.1)=true:=by cases G (j :: l)<;>simp [vv,vh,Eh]
 refine DQ G6 Am (by simp) (WI b o fnd) h1 fun hwf hwo=>?_
 rw [D2];unfold Ea
 unfold vv at c1 ⊢
 have har:NU Uf (.d (.list false (Ai (ni (j :: l)))) :: cs) (.d (.list false (Ai (ni (j :: l)))) :: cs):=⟨rfl,hY.ar⟩
 cases hg:G (j :: l) with
 |none =>
  rw [hg,Iz] at c1
  rw [Iz]
  unfold vv at c1 ⊢
  (try (simp -implicitDefEqProofs only [go_sem,hst,hbody,hl,G1]));repeat' first|(with_reducible first|exact True.intro|refine And.intro ?_ ?_|intro _)|(((with_reducible refine AS ?_ ?_)<;>intro _)<;>try (simp -implicitDefEqProofs only [go_sem,hst,hbody,hl,G1]))|simp (disch:=omega) only [AC,AH,AP,AJ,AD,AQ,AI,AA]
  all_goals first|omega|(simp;done)|(simp;omega)|skip
  refine Ei Uf Uf c1 har (by simp [Handed,DU.get,Aa.ren,AV.ren,AV.ren.renL,AN.get,BS,B6,Dj,AN.reach,AV.sites,AV.sites.sitesL,AN.osites,hst]) (by simp [CD,Eh,CI,DU.get,Dj,EF,B9]) (by rfl) (by simp only [Dk,DU.get,Aa.ren,AV.ren,AV.ren.renL,and_self,and_true,true_and,if_true,reduceIte];rfl) ?_
  (try (simp -implicitDefEqProofs only [go_sem,hst,G1]));repeat' first|(with_reducible first|exact True.intro|refine And.intro ?_ ?_|intro _)|(((with_reducible refine AS ?_ ?_)<;>intro _)<;>try (simp -implicitDefEqProofs only [go_sem,hst,G1]))|simp (disch:=omega) only [AC,AH,AP,AJ,AD,AQ,AI,AA]
  all_goals first|omega|(simp;done)|(simp;omega)|skip
  all_goals first|rfl|skip
 |some z =>
  rw [hg,Iy] at c1
  rw [Iy]
  unfold vv at c1 ⊢
  (try (simp -implicitDefEqProofs only [go_sem,hst,hbody,hl,G1]));repeat' first|(with_reducible first|exact True.intro|refine And.intro ?_ ?_|intro _)|(((with_reducible refine AS ?_ ?_)<;>intro _)<;>try (simp -implicitDefEqProofs only [go_sem,hst,hbody,hl,G1]))|simp (disch:=omega) only [AC,AH,AP,AJ,AD,AQ,AI,AA]
  all_goals first|omega|(simp;done)|(simp;omega)|skip
  refine Ei Uf Uf c1 har (by simp [Handed,DU.get,Aa.ren,AV.ren,AV.ren.renL,AN.get,BS,B6,Dj,AN.reach,AV.sites,AV.sites.sitesL,AN.osites,hst]) (by simp [CD,Eh,CI,DU.get,Dj,EF,B9]) (by rfl) (by simp only [Dk,DU.get,Aa.ren,AV.ren,AV.ren.renL,and_self,and_true,true_and,if_true,reduceIte];rfl) ?_
  (try (simp -implicitDefEqProofs only [go_sem,hst,G1]));repeat' first|(with_reducible first|exact True.intro|refine And.intro ?_ ?_|intro _)|(((with_reducible refine AS ?_ ?_)<;>intro _)<;>try (simp -implicitDefEqProofs only [go_sem,hst,G1]))|simp (disch:=omega) only [AC,AH,AP,AJ,AD,AQ,AI,AA]
  all_goals first|omega|(simp;done)|(simp;omega)|skip
  all_goals first|rfl|skip
theorem aJ {G:List Nat→Option (List F)} {A:List Nat→Prop} {f:FuncId} {cs:List AV} (hY:mC G A f cs) (j:Nat) :
  mC (fun l=>G (j :: l)) (fun l=>A (j :: l)∧l.length≤100) Bn [.ablk false [.fn f cs] 0,.d (.ptr [.int .i64 (j:Int)])] :=
 ⟨QS,by simp [AV.sites,AV.sites.sitesL,hY.st],fun V os h1 h2=>by simp [AV.nrm,AV.nrm.nrmL,hY.nr V os h1 h2,AV.one],by simp [AV.ren,AV.ren.renL,hY.rn],
  ⟨by simp [iX,AV.ren,AV.ren.renL,hY.rn],rfl,trivial⟩,fun nl l b o fnd hA _=>Q7 hY j nl l b o fnd hA.1 hA.2⟩
theorem Oa (L P:Nat) (n:Bool) (mk:List Nat) (hL:L≤15):∀(m fr:Nat) {G:List Nat→Option (List F)} {A:List Nat→Prop} {f:FuncId} {cs:List AV} (hY:mC G A f cs) (hA:∀l,l∈CE L mk m fr→A l) (hfr:fr≤L) (hm:m≤50) (b:Bool) (o:List F) (fnd:Bool),
  Hq E0 Fc (vv b o fnd) [.d (S_ L P),.d (.list n (Ai (ni mk))),.d (.int .i64 (fr:Int)),.d (.int .i64 (m:Int)),.fn f cs] (vh b o fnd ((CE L mk m fr).findSome? G)) (.d (.bool ((CE L mk m fr).findSome? G).isNone))
 |0,fr,G,A,f,cs,hY,hA,hfr,hm,b,o,fnd=>by
  have e0:(CE L mk 0 fr).findSome? G=G []:=by simp [CE]
  rw [e0]
  have c1:=hY.call true [] b o fnd (hA [] (by simp [CE])) (fun _=>rfl)
  rw [show Ai (ni [])=[] from rfl] at c1
  have hst:=hY.st
  have hbody:=hY.body
  have h1:((vv b o fnd).all fun q=>Eh (vh b o fnd (G [])) q.1 q.2.1)=true:=by cases G []<;>simp [vv,vh,Eh]
  refine DQ Ev Am (by simp) (WI b o fnd) h1 fun hwf hwo=>?_
  rw [D2];unfold Dc
  have har:NU Uf (.d (.list true []) :: cs) (.d (.list true []) :: cs):=⟨rfl,hY.ar⟩
  have hz0:((0:Nat):Int)=0:=rfl
  cases hg:G [] with
  |none =>
   rw [hg,Iz] at c1
   rw [Iz]
   unfold vv at c1 ⊢
   (try (simp -implicitDefEqProofs only [go_sem,hst,hbody,Bm,hz0]));repeat' first|(with_reducible first|exact True.intro|refine And.intro ?_ ?_|intro _)|(((with_reducible refine AS ?_ ?_)<;>intro _)<;>try (simp -implicitDefEqProofs only [go_sem,hst,hbody,Bm,hz0]))|simp (disch:=omega) only [AC,AH,AP,AJ,AD,AQ,AI,AA]|((with_reducible refine A4 ?_);refine⟨_,rfl,?_,?_⟩)
   all_goals first|omega|(simp;done)|(simp;omega)|skip
   refine Ei Uf Uf c1 har (by simp [Handed,DU.get,Aa.ren,AV.ren,AV.ren.renL,AN.get,BS,B6,Dj,AN.reach,AV.sites,AV.sites.sitesL,AN.osites,hst]) (by simp [CD,Eh,CI,DU.get,Dj,EF,B9]) (by rfl) (by simp only [Dk,DU.get,Aa.ren,AV.ren,AV.ren.renL,and_self,and_true,true_and,if_true,reduceIte];rfl) ?_
   (try (simp -implicitDefEqProofs only [go_sem,hst]));repeat' first|(with_reducible first|exact True.intro|refine And.intro ?_ ?_|intro _)|(((with_reducible refine AS ?_ ?_)<;>intro _)<;>try (simp -implicitDefEqProofs only [go_sem,hst]))|simp (disch:=omega) only [AC,AH,AP,AJ,AD,AQ,AI,AA]|((with_reducible refine A4 ?_);refine⟨_,rfl,?_,?_⟩)
   all_goals first|omega|(simp;done)|(simp;omega)|skip
   all_goals first|rfl|skip
  |some z =>
   rw [hg,Iy] at c1
   rw [Iy]
   unfold vv at c1 ⊢
   (try (simp -implicitDefEqProofs only [go_sem,hst,hbody,Bm,hz0]));repeat' first|(with_reducible first|exact True.intro|refine And.intro ?_ ?_|intro _)|(((with_reducible refine AS ?_ ?_)<;>intro _)<;>try (simp -implicitDefEqProofs only [go_sem,hst,hbody,Bm,hz0]))|simp (disch:=omega) only [AC,AH,AP,AJ,AD,AQ,AI,AA]|((with_reducible refine A4 ?_);refine⟨_,rfl,?_,?_⟩)
   all_goals first|omega|(simp;done)|(simp;omega)|skip
   refine Ei Uf Uf c1 har (by simp [Handed,DU.get,Aa.ren,AV.ren,AV.ren.renL,AN.get,BS,B6,Dj,AN.reach,AV.sites,AV.sites.sitesL,AN.osites,hst]) (by simp [CD,Eh,CI,DU.get,Dj,EF,B9]) (by rfl) (by simp only [Dk,DU.get,Aa.ren,AV.ren,AV.ren.renL,and_self,and_true,true_and,if_true,reduceIte];rfl) ?_
   (try (simp -implicitDefEqProofs only [go_sem,hst]));repeat' first|(with_reducible first|exact True.intro|refine And.intro ?_ ?_|intro _)|(((with_reducible refine AS ?_ ?_)<;>intro _)<;>try (simp -implicitDefEqProofs only [go_sem,hst]))|simp (disch:=omega) only [AC,AH,AP,AJ,AD,AQ,AI,AA]|((with_reducible refine A4 ?_);refine⟨_,rfl,?_,?_⟩)
   all_goals first|omega|(simp;done)|(simp;omega)|skip
   all_goals first|rfl|skip
 |m+1,fr,G,A,f,cs,hY,hA,hfr,hm,b,o,fnd=>by
  have hst:=hY.st
  have hnr:=hY.nr
  have h1:((vv b o fnd).all fun q=>Eh (vh b o fnd ((CE L mk (m+1) fr).findSome? G)) q.1 q.2.1)=true:=by cases (CE L mk (m+1) fr).findSome? G<;>simp [vv,vh,Eh]
  refine DQ Ev Am (by simp) (WI b o fnd) h1 fun hwf hwo=>?_
  rw [D2];unfold Dc
  have hz0:¬((m+1:Nat):Int)=0:=by omega
  have hwm:IntKind.i64.wrap (((m+1:Nat):Int) - 1)=(m:Int):=by rw [AC _ (by omega)];omega
  unfold vv
  (try (simp -implicitDefEqProofs only [go_sem,hst,hnr,Bm,hz0]));repeat' first|(with_reducible first|exact True.intro|refine And.intro ?_ ?_|intro _)|(((with_reducible refine AS ?_ ?_)<;>intro _)<;>try (simp -implicitDefEqProofs only [go_sem,hst,hnr,Bm,hz0]))|simp (disch:=omega) only [AC,AH,AP,AJ,AD,AQ,AI,AA]|((with_reducible refine A4 ?_);refine⟨_,rfl,?_,?_⟩)
  all_goals first|omega|(simp;done)|(simp;omega)|skip
  refine AY (α:=Nat) (l0:=?l1) (m0:=?m1) (fun x=>[]) (fun x=>[(11,.cells [.d (.int .i64 (x:Int))])]) (fun x=>fr≤x∧x≤L∧(CE L mk (m+1) x).findSome? G=(CE L mk (m+1) fr).findSome? G) (fun x=>L - x) fr ?h01 ?he1 ?he21 ?hI1 ?step1
  case h01=>(simp -implicitDefEqProofs only [go_sem,hst,hnr];rfl)
  case he1=>rfl
  case he21=>rfl
  case' step1=>(rintro j hI;try dsimp only at hI)
  case' hI1=>try dsimp only
  ·exact⟨by omega,hfr,rfl⟩
  ·obtain⟨j1,j2,j3⟩:=hI
   by_cases hj:j < L
   ·have hj':(j:Int) < (L:Int):=by omega
    have hwj:IntKind.i64.wrap ((j:Int)+1)=((j+1:Nat):Int):=by rw [AC _ (by omega)];omega
    have c0:=OG n (ni mk) (j:Int)
    rw [kP] at c0
    have hnx:=YU L mk m j G hj
    cases hc:mk.contains j with
    |true =>
     rw [hc] at c0 hnx
     rw [if_pos rfl] at hnx
     have hfin:(CE L mk (m+1) (j+1)).findSome? G=(CE L mk (m+1) fr).findSome? G:=by rw [←j3,hnx]
     (try (simp -implicitDefEqProofs only [go_sem,hst,hnr,hj',hwj]));repeat' first|(with_reducible first|exact True.intro|refine And.intro ?_ ?_|intro _)|(((with_reducible refine isCall ?_);first|refine AF (c0) rfl ?_ ?_|refine AE (c0) rfl ?_|refine AB (c0) rfl ?_ ?_|refine AG (c0) rfl rfl ?_)<;>try (simp -implicitDefEqProofs only [go_sem,hst,hnr,hj',hwj]))|(((with_reducible refine AS ?_ ?_)<;>intro _)<;>try (simp -implicitDefEqProofs only [go_sem,hst,hnr,hj',hwj]))|simp (disch:=omega) only [AC,AH,AP,AJ,AD,AQ,AI,AA]|((with_reducible refine A4 ?_);refine⟨_,rfl,?_,?_⟩)
     all_goals first|omega|(simp;done)|(simp;omega)|skip
     all_goals first|exact hfin|skip
    |false =>
     rw [hc] at c0 hnx
     simp only [Bool.false_eq_true,if_false] at hnx
     have hYn:=aJ hY j
     have hlen:∀l,l∈CE L mk m (j+1)→l.length≤100:=fun l hl=>by rw [au L mk m (j+1) l hl];omega
     have ih:=Oa L P n mk hL m (j+1) hYn (fun l hl=>⟨hA _ (aq L mk m fr j l j1 hj hc hl),hlen l hl⟩) (by omega) (by omega) b o fnd
     have har:NU Uf [.d (S_ L P),.d (.list n (Ai (ni mk))),.d (.int .i64 ((j+1:Nat):Int)),.d (.int .i64 (m:Int)),.fn Bn [.ablk false [.fn f cs] 0,.d (.ptr [.int .i64 (j:Int)])]] [.d (S_ L P),.d (.list n (Ai (ni mk))),.d (.int .i64 ((j+1:Nat):Int)),.d (.int .i64 (m:Int)),.fn Bn [.ablk false [.fn f cs] 0,.d (.ptr [.int .i64 (j:Int)])]] :=
      ⟨rfl,rfl,rfl,rfl,by simp [iX,AV.ren,AV.ren.renL,hY.rn],trivial⟩
     cases hr:(CE L mk m (j+1)).findSome? fun l=>G (j :: l) with
     |none =>
      rw [hr] at ih hnx
      have hfin:(CE L mk (m+1) (j+1)).findSome? G=(CE L mk (m+1) fr).findSome? G:=by rw [←j3,hnx];rfl
      rw [Iz,Option.isNone_none] at ih
      rw [Bm] at ih har
      unfold vv at ih
      (try (simp -implicitDefEqProofs only [go_sem,hst,hnr,hj',hwj,hwm]));repeat' first|(with_reducible first|exact True.intro|refine And.intro ?_ ?_|intro _)|(((with_reducible refine isCall ?_);first|refine AF (c0) rfl ?_ ?_|refine AE (c0) rfl ?_|refine AB (c0) rfl ?_ ?_|refine AG (c0) rfl rfl ?_)<;>try (simp -implicitDefEqProofs only [go_sem,hst,hnr,hj',hwj,hwm]))|(((with_reducible refine AS ?_ ?_)<;>intro _)<;>try (simp -implicitDefEqProofs only [go_sem,hst,hnr,hj',hwj,hwm]))|simp (disch:=omega) only [AC,AH,AP,AJ,AD,AQ,AI,AA]|((with_reducible refine A4 ?_);refine⟨_,rfl,?_,?_⟩)
      all_goals first|omega|(simp;done)|(simp;omega)|skip
      refine Ei Uf Uf ih har (by simp [Handed,DU.get,Aa.ren,AV.ren,AV.ren.renL,AN.get,BS,B6,Dj,AN.reach,AV.sites,AV.sites.sitesL,AN.osites,hst]) (by simp [CD,Eh,CI,DU.get,Dj,EF,B9]) (by rfl) (by simp only [Dk,DU.get,Aa.ren,AV.ren,AV.ren.renL,and_self,and_true,true_and,if_true,reduceIte];rfl) ?_
      (try (simp -implicitDefEqProofs only [go_sem,hst,hnr,hwj]));repeat' first|(with_reducible first|exact True.intro|refine And.intro ?_ ?_|intro _)|(((with_reducible refine AS ?_ ?_)<;>intro _)<;>try (simp -implicitDefEqProofs only [go_sem,hst,hnr,hwj]))|simp (disch:=omega) only [AC,AH,AP,AJ,AD,AQ,AI,AA]|((with_reducible refine A4 ?_);refine⟨_,rfl,?_,?_⟩)
      all_goals first|omega|(simp;done)|(simp;omega)|skip
      all_goals first|exact hfin|skip
     |some z =>
      rw [hr] at ih hnx
      have hfin:(CE L mk (m+1) fr).findSome? G=some z:=by rw [←j3,hnx];rfl
      rw [hfin,Iy]
      rw [Iy,Option.isNone_some] at ih
      rw [Bm] at ih har
      unfold vv at ih ⊢
      (try (simp -implicitDefEqProofs only [go_sem,hst,hnr,hj',hwj,hwm]));repeat' first|(with_reducible first|exact True.intro|refine And.intro ?_ ?_|intro _)|(((with_reducible refine isCall ?_);first|refine AF (c0) rfl ?_ ?_|refine AE (c0) rfl ?_|refine AB (c0) rfl ?_ ?_|refine AG (c0) rfl rfl ?_)<;>try (simp -implicitDefEqProofs only [go_sem,hst,hnr,hj',hwj,hwm]))|(((with_reducible refine AS ?_ ?_)<;>intro _)<;>try (simp -implicitDefEqProofs only [go_sem,hst,hnr,hj',hwj,hwm]))|simp (disch:=omega) only [AC,AH,AP,AJ,AD,AQ,AI,AA]|((with_reducible refine A4 ?_);refine⟨_,rfl,?_,?_⟩)
      all_goals first|omega|(simp;done)|(simp;omega)|skip
      refine Ei Uf Uf ih har (by simp [Handed,DU.get,Aa.ren,AV.ren,AV.ren.renL,AN.get,BS,B6,Dj,AN.reach,AV.sites,AV.sites.sitesL,AN.osites,hst]) (by simp [CD,Eh,CI,DU.get,Dj,EF,B9]) (by rfl) (by simp only [Dk,DU.get,Aa.ren,AV.ren,AV.ren.renL,and_self,and_true,true_and,if_true,reduceIte];rfl) ?_
      (try (simp -implicitDefEqProofs only [go_sem,hst,hnr,hwj]));repeat' first|(with_reducible first|exact True.intro|refine And.intro ?_ ?_|intro _)|(((with_reducible refine AS ?_ ?_)<;>intro _)<;>try (simp -implicitDefEqProofs only [go_sem,hst,hnr,hwj]))|simp (disch:=omega) only [AC,AH,AP,AJ,AD,AQ,AI,AA]|((with_reducible refine A4 ?_);refine⟨_,rfl,?_,?_⟩)
      all_goals first|omega|(simp;done)|(simp;omega)|skip
      all_goals first|rfl|skip
   ·have hj':¬(j:Int) < (L:Int):=by omega
    have hje:j=L:=by omega
    subst hje
    have hfin:(CE j mk (m+1) fr).findSome? G=none:=by rw [←j3,av];rfl
    rw [hfin,Iz]
    unfold vv
    (try (simp -implicitDefEqProofs only [go_sem,hst,hnr,hj']));repeat' first|(with_reducible first|exact True.intro|refine And.intro ?_ ?_|intro _)|(((with_reducible refine AS ?_ ?_)<;>intro _)<;>try (simp -implicitDefEqProofs only [go_sem,hst,hnr,hj']))|simp (disch:=omega) only [AC,AH,AP,AJ,AD,AQ,AI,AA]|((with_reducible refine A4 ?_);refine⟨_,rfl,?_,?_⟩)
    all_goals first|omega|(simp;done)|(simp;omega)|skip
    all_goals first|rfl|skip
end Go.Pw
end
section
open Go Go.Pw Go.Proofs
namespace Go.Pw
set_option linter.unusedSimpArgs false
set_option linter.unusedVariables false
set_option maxRecDepth 100000
set_option maxHeartbeats 3200000
def decR (o:Option (List F)):D:=match o with
 |some r=>.tup [.list false (us r),.bool true]
 |none=>.tup [.list true [],.bool false]
theorem Rr (v:List F):decR (some v)=.tup [.list false (us v),.bool true]:=rfl
theorem Rs:decR none=.tup [.list true [],.bool false]:=rfl
theorem Q9:Bl E0.P Co=true:=by kernel_rfl
theorem KX {β:Type} {f:Nat→Option β} {e:Nat} {r:β} (h:∀i,i < e→f i=none) (he:f e=some r):∀N,e < N→(List.range N).findSome? f=some r
 |0,hN=>by omega
 |N+1,hN=>by
  rw [List.range_succ,List.findSome?_append]
  by_cases h2:e < N
  ·rw [KX h he N h2];rfl
  ·have:e=N:=by omega
   subst this
   have hn:(List.range e).findSome? f=none:=by
    rw [List.findSome?_eq_none_iff];exact fun i hi=>h i (by simpa using hi)
   rw [hn]
   simp [he]
noncomputable def Zs (L P:Nat) (w:List F) (mk:List Nat) (e:Nat):Option (List F):=(CE L mk e 0).findSome? (hit L P w mk)
theorem iB {L P:Nat} {w r:List F} {mk:List Nat} {e:Nat} (h:∀i,i < e→Zs L P w mk i=none) (he:Zs L P w mk e=some r) (hb:2 * e+mk.length≤P):MA L P w mk=some r:=by
 unfold MA
 rw [if_pos (by omega)]
 exact KX h he _ (by omega)
theorem dh {L P:Nat} {w:List F} {mk:List Nat} {e:Nat} (h:∀i,i < e→Zs L P w mk i=none) (hb:¬2 * e+mk.length≤P):MA L P w mk=none:=by
 unfold MA
 split
 ·rw [List.findSome?_eq_none_iff]
  intro i hi
  simp at hi
  exact h i (by omega)
 ·rfl
theorem eY {L P:Nat} {w:List F} {mk:List Nat} (n2:Bool) (hL:L≤15) (hL1:1≤L) (hP:1≤P) (hP2:P≤15) (hw:w.length=L) (hm:XJ L mk) :
  mC (hit L P w mk) (fun l=>R7 L mk 0 l∧2 * l.length+mk.length≤P) Co [.d (.ptr [.list n2 (Ai (ni mk))]),.d (.ptr [.int .i64 L,.int .i64 P]),.d (.ptr [.list false (us (Js L P w))]),.d (.ptr [.list false (us w)]),.ptr 900004 0 0,.ptr 901004 0 0] :=
 ⟨Q9,rfl,fun V os h1 h2=>by simp [AV.nrm,AV.nrm.nrmL,h1,h2],rfl,⟨rfl,rfl,rfl,rfl,rfl,rfl,trivial⟩,fun nl l b o fnd hA _ =>
  S5 L P nl n2 false b fnd o w mk l hL hL1 hP hP2 hw (SW hm hA.1) (by have:=hA.2;simp;omega) rfl⟩
attribute [local congr] Bh A_ A' Ap Bi Av Ax Aw Ao Ah Ab AZ Ar Ac As BI BM BK BL BJ BN BF Af Au Ag BD BQ Ae BG BH BE BB BC A9 BA Aq Ad
attribute [local irreducible] IntKind.wrap A5 Option.getD and or
theorem ME (L P:Nat) (n1 n2:Bool) (w:List F) (mk:List Nat) (hL:L≤15) (hL1:1≤L) (hP:1≤P) (hP2:P≤15) (hw:w.length=L) (hm:XJ L mk) (hml:mk.length≤100) (hn1:n1=false) :
  CF E0 Fp [S_ L P,.list n1 (us w),.list n2 (Ai (ni mk))] (decR (MA L P w mk)):=by
 subst hn1
 have c1:=OA L P false w hL hL1 hP hP2 hw
 have hY:=eY (P:=P) n2 hL hL1 hP hP2 hw hm
 refine AO IZ Am (by simp) fun hwf=>?_
 rw [AW];unfold FM
 rw [Bm] at c1 ⊢
 (try (simp -implicitDefEqProofs only [go_sem]));repeat' first|(with_reducible first|exact True.intro|refine And.intro ?_ ?_|intro _)|(((with_reducible refine isCall ?_);first|refine AF (c1) rfl ?_ ?_|refine AE (c1) rfl ?_|refine AB (c1) rfl ?_ ?_|refine AG (c1) rfl rfl ?_)<;>try (simp -implicitDefEqProofs only [go_sem]))|(((with_reducible refine AS ?_ ?_)<;>intro _)<;>try (simp -implicitDefEqProofs only [go_sem]))|simp (disch:=omega) only [AC,AH,AP,AJ,AD,AQ,AI,AA]|((with_reducible refine CP ?_);refine⟨(_,_,_,_),rfl,?_,?_⟩)
 all_goals first|omega|(simp;done)|(simp;omega)|skip
 refine AY (α:=Nat×Bool×(List F)×Bool) (l0:=?l1) (m0:=?m1) (fun x=>[(9,.d (.int .i64 (x.1:Int)))]) (fun x=>[(6,.cells [.d (.list x.2.1 (us x.2.2.1))]),(7,.cells [.d (.bool x.2.2.2)])]) (fun x=>x.1≤100∧((x.2.2.2=false∧x.2.1=true∧x.2.2.1=[]∧∀i,i < x.1→Zs L P w mk i=none)∨(x.2.2.2=true∧x.2.1=false∧MA L P w mk=some x.2.2.1))) (fun x=>(if x.2.2.2 then 0 else 101 - x.1)) (0,true,[],false) ?h01 ?he1 ?he21 ?hI1 ?step1
 case h01=>(simp -implicitDefEqProofs only [go_sem];rfl)
 case he1=>rfl
 case he21=>rfl
 case' step1=>(rintro⟨e,b,o,fnd⟩ hI;try dsimp only at hI)
 case' hI1=>try dsimp only
 ·exact⟨by omega,.inl ⟨rfl,rfl,rfl,fun i hi=>absurd hi (by omega)⟩⟩
 ·obtain⟨h1,h2⟩:=hI
  have hw2:IntKind.i64.wrap (2 * (e:Int))=2 * (e:Int):=AC _ (by omega)
  have hw3:IntKind.i64.wrap (2 * (e:Int)+(mk.length:Int))=2 * (e:Int)+(mk.length:Int):=AC _ (by omega)
  have hw4:IntKind.i64.wrap ((e:Int)+1)=((e+1:Nat):Int):=by rw [AC _ (by omega)];omega
  rcases h2 with⟨rfl,rfl,rfl,h3⟩|⟨rfl,rfl,h3⟩
  ·by_cases hb:2 * e+mk.length≤P
   ·have hb':2 * (e:Int)+(mk.length:Int)≤(P:Int):=by omega
    have c2:=Oa L P n2 mk hL e 0 hY (fun l hl=>⟨(H8 L mk e 0 l hl).2,by rw [(H8 L mk e 0 l hl).1];exact hb⟩) (by omega) (by omega) true [] false
    rw [show (((0:Nat):Int))=0 from rfl] at c2
    rw [Bm] at c2
    obtain⟨R,hR⟩:∃R,Zs L P w mk e=R:=⟨_,rfl⟩
    rw [show (CE L mk e 0).findSome? (hit L P w mk)=R from hR] at c2
    cases R with
    |none =>
     rw [Iz,Option.isNone_none] at c2
     unfold vv at c2
     have hn:∀i,i < e+1→Zs L P w mk i=none:=fun i hi=>by
      rcases Nat.lt_succ_iff_lt_or_eq.1 hi with hi|rfl
      ·exact h3 i hi
      ·exact hR
     (try (simp -implicitDefEqProofs only [go_sem,hw2,hw3,hb',hw4]));repeat' first|(with_reducible first|exact True.intro|refine And.intro ?_ ?_|intro _)|(((with_reducible refine isCall ?_);first|(refine Ei ([((900004,0),(6,0)),((901004,0),(7,0))]) ([((900004,0),(6,0)),((901004,0),(7,0))]) (c2) (by repeat' first|exact True.intro|exact rfl|refine And.intro ?_ ?_) (by simp [Handed,DU.get,Aa.ren,AV.ren,AV.ren.renL,AN.get,BS,B6,Dj,AN.reach,AV.sites,AV.sites.sitesL,AN.osites]) (by simp [CD,Eh,CI,DU.get,Dj,EF,B9]) (by rfl) (by simp only [Dk,DU.get,Aa.ren,AV.ren,AV.ren.renL,and_self,and_true,true_and,if_true,reduceIte];rfl) ?_))<;>try (simp -implicitDefEqProofs only [go_sem,hw2,hw3,hb',hw4]))|(((with_reducible refine AS ?_ ?_)<;>intro _)<;>try (simp -implicitDefEqProofs only [go_sem,hw2,hw3,hb',hw4]))|simp (disch:=omega) only [AC,AH,AP,AJ,AD,AQ,AI,AA]|((with_reducible refine CP ?_);refine⟨(_,_,_,_),rfl,?_,?_⟩)
     all_goals first|omega|(simp;done)|(simp;omega)|skip
     all_goals first|exact .inl ⟨trivial,trivial,trivial,hn⟩|skip
    |some r =>
     have hfin:=iB h3 hR hb
     rw [Iy,Option.isNone_some] at c2
     unfold vv at c2
     (try (simp -implicitDefEqProofs only [go_sem,hw2,hw3,hb',hw4]));repeat' first|(with_reducible first|exact True.intro|refine And.intro ?_ ?_|intro _)|(((with_reducible refine isCall ?_);first|(refine Ei ([((900004,0),(6,0)),((901004,0),(7,0))]) ([((900004,0),(6,0)),((901004,0),(7,0))]) (c2) (by repeat' first|exact True.intro|exact rfl|refine And.intro ?_ ?_) (by simp [Handed,DU.get,Aa.ren,AV.ren,AV.ren.renL,AN.get,BS,B6,Dj,AN.reach,AV.sites,AV.sites.sitesL,AN.osites]) (by simp [CD,Eh,CI,DU.get,Dj,EF,B9]) (by rfl) (by simp only [Dk,DU.get,Aa.ren,AV.ren,AV.ren.renL,and_self,and_true,true_and,if_true,reduceIte];rfl) ?_))<;>try (simp -implicitDefEqProofs only [go_sem,hw2,hw3,hb',hw4]))|(((with_reducible refine AS ?_ ?_)<;>intro _)<;>try (simp -implicitDefEqProofs only [go_sem,hw2,hw3,hb',hw4]))|simp (disch:=omega) only [AC,AH,AP,AJ,AD,AQ,AI,AA]|((with_reducible refine CP ?_);refine⟨(_,_,_,_),rfl,?_,?_⟩)
     all_goals first|omega|(simp;done)|(simp;omega)|skip
     all_goals first|exact .inr ⟨trivial,trivial,hfin⟩|skip
   ·have hb':¬2 * (e:Int)+(mk.length:Int)≤(P:Int):=by omega
    rw [dh h3 hb,Rs]
    (try (simp -implicitDefEqProofs only [go_sem,hw2,hw3,hb',hw4]));repeat' first|(with_reducible first|exact True.intro|refine And.intro ?_ ?_|intro _)|(((with_reducible refine AS ?_ ?_)<;>intro _)<;>try (simp -implicitDefEqProofs only [go_sem,hw2,hw3,hb',hw4]))|simp (disch:=omega) only [AC,AH,AP,AJ,AD,AQ,AI,AA]|((with_reducible refine CP ?_);refine⟨(_,_,_,_),rfl,?_,?_⟩)
    all_goals first|omega|(simp;done)|(simp;omega)|skip
    all_goals first|rfl|skip
  ·rw [h3,Rr]
   (try (simp -implicitDefEqProofs only [go_sem,hw2,hw3,hw4]));repeat' first|(with_reducible first|exact True.intro|refine And.intro ?_ ?_|intro _)|(((with_reducible refine AS ?_ ?_)<;>intro _)<;>try (simp -implicitDefEqProofs only [go_sem,hw2,hw3,hw4]))|simp (disch:=omega) only [AC,AH,AP,AJ,AD,AQ,AI,AA]|((with_reducible refine CP ?_);refine⟨(_,_,_,_),rfl,?_,?_⟩)
   all_goals first|omega|(simp;done)|(simp;omega)|skip
   all_goals first|rfl|skip
end Go.Pw
end
