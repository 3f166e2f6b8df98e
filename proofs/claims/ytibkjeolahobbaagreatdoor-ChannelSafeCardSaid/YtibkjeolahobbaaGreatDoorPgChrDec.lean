/- A part of the proof. -/
import Derived.Test.YtibkjeolahobbaaGreatDoorPgChrH
set_option linter.all false
section
namespace Go.Pw
theorem UQ (x:F):∀(w c:List F) (j:Nat),j<w.length->w.length<=c.length->Fh (w.set j x) c=fa (Fh w c) (fm (fa (w[j]?.getD 0) x) (c[j]?.getD 0))
 |a::w,b::c,0,_,_=>by
  show fa (fm x b) (Fh w c)=fa (fa (fm a b) (Fh w c)) (fm (fa a x) b)
  rw[lw,Nq (fm a b) (Fh w c),EK,←EK (fm a b),Fu,JX,Nq]
 |a::w,b::c,j+1,h,hl=>by
  have ih:=UQ x w c j (by simpa using h) (by simpa using hl)
  show fa (fm a b) (Fh (w.set j x) c)=fa (fa (fm a b) (Fh w c)) (fm (fa (w[j]?.getD 0) x) (c[j]?.getD 0))
  rw[ih,EK]
theorem W4 (w:List F) (j:Nat) (x:F):∀(js:List Nat) (xs:List F),j∉js->HE (w.set j x) js xs=HE w js xs
 |[],xs,_=>rfl
 |k::js,[],_=>rfl
 |k::js,y::xs,h=>by
  have ih:=W4 w j x js xs fun e=>h (by simp[e])
  show fa ((w.set j x)[k]?.getD 0) y::HE (w.set j x) js xs=fa (w[k]?.getD 0) y::HE w js xs
  rw[ih,List.getElem?_set_ne fun e=>h (by simp[e])]
theorem S8 (c:List F):∀(at_:List Nat) (xs w:List F),at_.Nodup->at_.length=xs.length->(∀j,j∈at_->j<w.length)->w.length<=c.length ->
  Fh (EZ w at_ xs) c=fa (Fh w c) (Fh (at_.map fun j=>c[j]?.getD 0) (HE w at_ xs))
 |[],xs,w,_,_,_,_=>by rw[Od];simp[Ls,DE]
 |j::js,x::xs,w,hn,hl,hlt,hc=>by
  rw[List.nodup_cons] at hn
  have hj:=hlt j (by simp)
  have ih:=S8 c js xs (w.set j x) hn.2 (by simpa using hl) (fun k hk=>by simpa using hlt k (by simp[hk])) (by simpa using hc)
  show Fh (EZ (w.set j x) js xs) c=fa (Fh w c) (fa (fm (c[j]?.getD 0) (fa (w[j]?.getD 0) x)) (Fh (js.map fun j=>c[j]?.getD 0) (HE w js xs)))
  rw[ih,UQ x w c j hj hc,W4 _ _ _ _ _ hn.1,EK,Dt (c[j]?.getD 0)]
theorem jt (L i:Nat) (at_:List Nat) (h:∀j,j∈at_->j<L):(at_.map fun j=>(SR L i)[j]?.getD 0)=at_.map fun j=>YN L i j :=
 List.map_congr_left fun j hj=>UX L i j (h j hj)
theorem Qe {L P:Nat}{w xs:List F}{at_:List Nat}(hw:w.length=L) (hp:ce L at_) (hl:at_.length=xs.length) (i:Nat) (h:i<P) :
  Eg (KU L P (EZ w at_ xs)) i=fa (Eg (KU L P w) i) (Fh (at_.map fun j=>YN L i j) (HE w at_ xs)):=by
 show (KU L P (EZ w at_ xs))[i]?.getD 0=fa ((KU L P w)[i]?.getD 0) _
 rw[Kj _ _ _ _ h,Kj _ _ _ _ h,S8 (SR L i) at_ xs w hp.nd hl (fun j hj=>by rw[hw];exact hp.lt j hj) (by rw[QT];omega),jt L i at_ hp.lt]
theorem Y9 {L P:Nat}{at_:List Nat}{s v:List F}(hv:v.length=at_.length):R8 1 (Pj L P at_ s) v↔∀i,i<P->fa (Eg s i) (Fh (at_.map fun j=>YN L i j) v)=0:=by
 have hl:=(Ns L P at_ s).len
 constructor
 ·intro h i hi
  have:=h i (by omega)
  rwa [UR _ _ _ _ _ _ hv i hi,Jl,Nq] at this
 ·intro h i hi
  rw[UR _ _ _ _ _ _ hv i (by omega),Jl,Nq];exact h i (by omega)
def g9 (L P:Nat) (w:List F):Prop:=∀i,i<P->Eg (KU L P w) i=0
theorem PP (w:List F):∀(at_:List Nat) (v:List F),at_.length=v.length->HE w at_ (HE w at_ v)=v
 |[],[],_=>rfl
 |j::js,x::v,h=>by
  have ih:=PP w js v (by simpa using h)
  show fa (w[j]?.getD 0) (fa (w[j]?.getD 0) x)::HE w js (HE w js v)=x::v
  rw[ih,←EK,Fu,JX]
theorem fF {L P:Nat}{w r:List F}{mk l:List Nat}(hw:w.length=L) (hp:ce L (mk++l)) (h:hit L P w mk l=some r):g9 L P r/\r.length=L/\∀j,j∉mk++l->r[j]?.getD 0=w[j]?.getD 0:=by
 unfold hit at h
 rw[Option.map_eq_some_iff] at h
 obtain⟨v,hv,rfl⟩:=h
 obtain⟨h1,h2⟩:=Sl hv
 refine⟨fun i hi=>?_,by rw[Oe];exact hw,fun j hj=>Og _ _ _ _ hj⟩
 rw[Qe hw hp (by rw[Rx _ _ _ h1.symm]) i hi,PP _ _ _ h1.symm]
 exact(Y9 h1).1 h2 i hi
theorem Uu:∀(at_:List Nat) (w c:List F),at_.Nodup->c.length=w.length->(∀j,j∈at_->j<w.length)->(∀j,j∉at_->c[j]?.getD 0=w[j]?.getD 0)->EZ w at_ (at_.map fun j=>c[j]?.getD 0)=c
 |[],w,c,_,hl,_,h=>by
  rw[Od]
  exact(fx hl fun j _=>h j (by simp)).symm
 |j::js,w,c,hn,hl,hlt,h=>by
  rw[List.nodup_cons] at hn
  show EZ (w.set j (c[j]?.getD 0)) js (js.map fun j=>c[j]?.getD 0)=c
  refine Uu js _ c hn.2 (by simpa using hl) (fun k hk=>by simpa using hlt k (by simp[hk])) fun k hk=>?_
  by_cases hkj:k=j
  ·subst hkj
   have:=hlt k (by simp)
   rw[List.getElem?_set_self this];rfl
  ·rw[List.getElem?_set_ne (fun e=>hkj e.symm)]
   exact h k (by simp[hk,hkj])
theorem X6 {L P:Nat}(hL:L<=15) {w c:List F}{mk l:List Nat}(hw:w.length=L) (hc:c.length=L) (hp:ce L (mk++l)) (hm:(mk++l).length<=P) (hcode:g9 L P c) (h:∀j,j∉mk++l->c[j]?.getD 0=w[j]?.getD 0):hit L P w mk l=some c:=by
 obtain⟨A,hA⟩:∃A,mk++l=A:=⟨_,rfl⟩
 unfold hit
 rw[hA] at hp hm h ⊢
 obtain⟨ys,hys⟩:∃ys,(A.map fun j=>c[j]?.getD 0)=ys:=⟨_,rfl⟩
 have hyl:A.length=ys.length:=by rw[←hys];simp
 have hc2:EZ w A ys=c:=by
  rw[←hys];exact Uu A w c hp.nd (by omega) (fun j hj=>by rw[hw];exact hp.lt j hj) h
 have hal:=Rx w A ys hyl
 have hs:Ly L P A (KU L P w)=some (HE w A ys):=by
  refine Sm hL hp hm hal ((Y9 hal).2 fun i hi=>?_)
  rw[←Qe hw hp hyl i hi,hc2]
  exact hcode i hi
 rw[hs,Option.map_some,PP _ _ _ hyl,hc2]
theorem TE {L P:Nat}(hL:L<=15) {c d:List F}{at_:List Nat}(hc:c.length=L) (hd:d.length=L) (hp:ce L at_) (hm:at_.length<=P) (h1:g9 L P c) (h2:g9 L P d) (h:∀j,j∉at_->c[j]?.getD 0=d[j]?.getD 0):c=d:=by
 have e1:hit L P d [] at_=some c:=X6 hL hd hc (by simpa using hp) (by simpa using hm) h1 (by simpa using h)
 have e2:hit L P d [] at_=some d:=X6 hL hd hd (by simpa using hp) (by simpa using hm) h2 (fun _ _=>rfl)
 rw[e1] at e2
 simpa using e2
def CR (L:Nat) (mk:List Nat):Nat->Nat->List (List Nat)
 |0,_=>[[]]
 |m+1,fr=>((List.range' fr (L-fr)).filter fun j=>!mk.contains j).flatMap fun j=>(CR L mk m (j+1)).map (j :: ·)
structure TM (L:Nat) (mk:List Nat) (fr:Nat) (l:List Nat):Prop where
 asc:l.Pairwise (· < ·)
 ge:∀j,j∈l->fr<=j
 lt:∀j,j∈l->j<L
 un:∀j,j∈l->j∉mk
theorem It (L:Nat) (mk:List Nat):∀(m fr:Nat) (l:List Nat),l∈CR L mk m fr->l.length=m/\TM L mk fr l
 |0,fr,l,h=>by
  simp[CR] at h;subst h
  exact⟨rfl,.nil,by simp,by simp,by simp⟩
 |m+1,fr,l,h=>by
  simp only[CR,List.mem_flatMap,List.mem_filter,List.mem_range'_1,List.mem_map] at h
  obtain⟨j,⟨hj,hjm⟩,l',hl',rfl⟩:=h
  obtain⟨h1,h2⟩:=It L mk m (j+1) l' hl'
  refine⟨by simp[h1],List.pairwise_cons.2 ⟨fun k hk=>by have:=h2.ge k hk;omega,h2.asc⟩,fun k hk=>?_,fun k hk=>?_,fun k hk=>?_⟩
  ·rcases List.mem_cons.1 hk with rfl|hk
   ·omega
   ·have:=h2.ge k hk;omega
  ·rcases List.mem_cons.1 hk with rfl|hk
   ·omega
   ·exact h2.lt k hk
  ·rcases List.mem_cons.1 hk with rfl|hk
   ·simpa using hjm
   ·exact h2.un k hk
theorem VR (L:Nat) (mk:List Nat):∀(l:List Nat) (fr:Nat),TM L mk fr l->l∈CR L mk l.length fr
 |[],fr,_=>by simp[CR]
 |j::l,fr,h=>by
  have h1:=List.pairwise_cons.1 h.asc
  have ih:=VR L mk l (j+1) ⟨h1.2,fun k hk=>h1.1 k hk,fun k hk=>h.lt k (by simp[hk]),fun k hk=>h.un k (by simp[hk])⟩
  simp only[List.length_cons,CR,List.mem_flatMap,List.mem_filter,List.mem_range'_1,List.mem_map]
  refine⟨j,⟨⟨h.ge j (by simp),?_⟩,?_⟩,l,ih,rfl⟩
  ·have:=h.ge j (by simp);have:=h.lt j (by simp);omega
  ·have:=h.un j (by simp)
   simpa using this
structure Yu (L:Nat) (mk:List Nat):Prop where
 asc:mk.Pairwise (· < ·)
 lt:∀j,j∈mk->j<L
theorem EU {l:List Nat}(h:l.Pairwise (· < ·)):l.Nodup:=h.imp fun h=>Nat.ne_of_lt h
theorem Tq {L fr:Nat}{mk l:List Nat}(hm:Yu L mk) (h:TM L mk fr l):ce L (mk++l):=by
 refine⟨List.nodup_append.2 ⟨EU hm.asc,EU h.asc,fun a ha b hb e=>h.un b hb (e ▸ ha)⟩,fun j hj=>?_⟩
 rcases List.mem_append.1 hj with hj|hj
 ·exact hm.lt j hj
 ·exact h.lt j hj
noncomputable def Mx (L P:Nat) (w:List F) (mk:List Nat):Option (List F) :=
 if mk.length<=P then (List.range ((P-mk.length)/2+1)).findSome? fun e=>(CR L mk e 0).findSome? (hit L P w mk) else none
def Mp (L:Nat) (a b:List F) (mk:List Nat):List Nat:=(List.range L).filter fun j=>decide (a[j]?.getD 0≠b[j]?.getD 0) && !mk.contains j
theorem Nu (L:Nat) (a b:List F) (mk:List Nat):TM L mk 0 (Mp L a b mk):=by
 refine⟨List.Pairwise.filter _ List.pairwise_lt_range,fun _ _=>Nat.zero_le _,fun j hj=>?_,fun j hj=>?_⟩
 ·simp[Mp] at hj;exact hj.1
 ·simp[Mp] at hj;exact hj.2.2
theorem Nv {L:Nat}{a b:List F}{mk:List Nat}(ha:a.length=L) (hb:b.length=L) {j:Nat}(h:j∉mk++Mp L a b mk):a[j]?.getD 0=b[j]?.getD 0:=by
 by_cases hj:j<L
 ·simp only[List.mem_append,not_or] at h
  by_cases he:a[j]?.getD 0=b[j]?.getD 0
  ·exact he
  ·exact absurd (by simp[Mp,hj,h.1];exact he) h.2
 ·rw[List.getElem?_eq_none (by omega),List.getElem?_eq_none (by omega)]
theorem Q6:∀(l k:List Nat),l.Nodup->(∀j,j∈l->j∈k)->l.length<=k.length
 |[],k,_,_=>Nat.zero_le _
 |x::l,k,hn,h=>by
  rw[List.nodup_cons] at hn
  have hx:=h x (by simp)
  have ih:=Q6 l (k.erase x) hn.2 fun j hj=>(List.mem_erase_of_ne (show j≠x from fun e=>hn.1 (by rw[←e];exact hj))).2 (h j (by simp[hj]))
  rw[List.length_erase_of_mem hx] at ih
  have:0<k.length:=List.length_pos_of_mem hx
  simp only[List.length_cons]
  omega
theorem oB {L fr:Nat}{a b:List F}{mk l:List Nat}(hs:TM L mk fr l) (h:∀j,j∉mk++l->a[j]?.getD 0=b[j]?.getD 0):(Mp L a b mk).length<=l.length:=by
 have hsub:∀j,j∈Mp L a b mk->j∈l:=fun j hj=>by
  simp[Mp] at hj
  by_cases hjl:j∈l
  ·exact hjl
  ·exact absurd (h j (by simp[hj.2.2,hjl])) hj.2.1
 exact Q6 _ _ (EU (Nu L a b mk).asc) hsub
theorem MO {α β:Type}{f:α->Option β}{l:List α}{r:β}(h:l.findSome? f=some r):∃x,x∈l/\f x=some r:=by
 rw[List.findSome?_eq_some_iff] at h
 obtain⟨l1,a,l2,rfl,h2,_⟩:=h
 exact⟨a,by simp,h2⟩
theorem Nw {L P:Nat}{w r:List F}{mk:List Nat}(hw:w.length=L) (hm:Yu L mk) (h:Mx L P w mk=some r) :
  g9 L P r/\r.length=L/\2*(Mp L r w mk).length+mk.length<=P:=by
 unfold Mx at h
 split at h
 ·rename_i hle
  obtain⟨e,he,h⟩:=MO h
  obtain⟨l,hl,h⟩:=MO h
  obtain⟨h1,h2⟩:=It L mk e 0 l hl
  obtain⟨h3,h4,h5⟩:=fF hw (Tq hm h2) h
  refine⟨h3,h4,?_⟩
  have:=oB h2 h5
  simp at he
  omega
 ·cases h
theorem oC {L P:Nat}(hL:L<=15) {w c:List F}{mk:List Nat}(hw:w.length=L) (hc:c.length=L) (hm:Yu L mk) (hcode:g9 L P c) (h:2*(Mp L c w mk).length+mk.length<=P):Mx L P w mk=some c:=by
 have hs:=Nu L c w mk
 have hp:=Tq hm hs
 have hhit:hit L P w mk (Mp L c w mk)=some c:=X6 hL hw hc hp (by simp;omega) hcode fun j hj=>Nv hc hw hj
 have hfound:∃r,Mx L P w mk=some r:=by
  unfold Mx
  rw[if_pos (by omega)]
  cases hf:(List.range ((P-mk.length)/2+1)).findSome? fun e=>(CR L mk e 0).findSome? (hit L P w mk) with
  |some r=>exact⟨r,rfl⟩
  |none =>
   rw[List.findSome?_eq_none_iff] at hf
   have h1:=hf (Mp L c w mk).length (by simp;omega)
   rw[List.findSome?_eq_none_iff] at h1
   have h2:=h1 _ (VR L mk _ 0 hs)
   rw[hhit] at h2;cases h2
 obtain⟨r,hr⟩:=hfound
 rw[hr]
 congr 1
 obtain⟨h1,h2,h3⟩:=Nw hw hm hr
 have hs2:=Nu L r w mk
 obtain⟨at_,hat⟩:∃at_,mk++((Mp L r w mk)++(Mp L c w mk).filter fun j=>!(Mp L r w mk).contains j)=at_:=⟨_,rfl⟩
 refine TE hL (at_:=at_) h2 hc ?_ ?_ h1 hcode fun j hj=>?_
 ·rw[←hat]
  refine⟨List.nodup_append.2 ⟨EU hm.asc,List.nodup_append.2 ⟨EU hs2.asc,(EU hs.asc).filter _,fun a ha b hb e=>?_⟩,fun a ha b hb e=>?_⟩,fun j hj=>?_⟩
  ·simp at hb;exact hb.2 (e ▸ ha)
  ·subst e
   rcases List.mem_append.1 hb with hb|hb
   ·exact hs2.un a hb ha
   ·exact hs.un a (List.mem_filter.1 hb).1 ha
  ·rcases List.mem_append.1 hj with hj|hj
   ·exact hm.lt j hj
   ·rcases List.mem_append.1 hj with hj|hj
    ·exact hs2.lt j hj
    ·exact hs.lt j (List.mem_filter.1 hj).1
 ·rw[←hat]
  have:=List.length_filter_le (fun j=>!(Mp L r w mk).contains j) (Mp L c w mk)
  simp only[List.length_append]
  omega
 ·rw[←hat] at hj
  simp only[List.mem_append,not_or,List.mem_filter] at hj
  obtain⟨j1,j2,j3⟩:=hj
  have j4:j∉Mp L c w mk:=fun hh=>j3 ⟨hh,by simpa using j2⟩
  exact(Nv h2 hw (fun e=>(List.mem_append.1 e).elim j1 j2)).trans (Nv hc hw (fun e=>(List.mem_append.1 e).elim j1 j4)).symm
end Go.Pw
end
section
open Go Go.Pw Go.Proofs
namespace Go.Pw
set_option maxRecDepth 100000
set_option maxHeartbeats 3200000
abbrev V6:Dm:=[((900004,0),(900004,0)),((901004,0),(901004,0))]
structure pX (G:List Nat->Option (List F)) (A:List Nat->Prop) (f:FuncId) (cs:List AV):Prop where
 body:Bz E0.P f=true
 st:AV.sites.sitesL cs=[900004,901004]
 nr:∀(V:AL) (os:List Nat),AV.nrm.live V os 900004 0=true->AV.nrm.live V os 901004 0=true->AV.nrm.nrmL V os cs=cs
 rn:AV.ren.renL V6 cs=some cs
 ar:OS V6 cs cs
 call:∀(nl:Bool) (l:List Nat) (b:Bool) (o:List F) (fnd:Bool),A l->(nl=true->l=[])->IP E0 f (vv b o fnd) (.d (.list nl (Am (ni l)))::cs) (vh b o fnd (G l)) (.d (.bool (G l).isNone))
theorem Rm:Bz E0.P B0=true:=by kernel_rfl
theorem Xq (b:Bool) (o:List F) (fnd:Bool):P2 (vv b o fnd)=true:=by simp[vv,P2,CV,EY,Ad.isHist]
theorem any_cons {α:Type}(l:List α):True:=trivial
theorem Z' (L:Nat) (mk:List Nat) (m j:Nat) (G:List Nat->Option (List F)) (hj:j<L) :
  (CR L mk (m+1) j).findSome? G=if mk.contains j then (CR L mk (m+1) (j+1)).findSome? G else
   ((CR L mk m (j+1)).findSome? fun l=>G (j::l)).or ((CR L mk (m+1) (j+1)).findSome? G):=by
 have hr:List.range' j (L-j)=j::List.range' (j+1) (L-(j+1)):=by
  rw[show L-j=(L-(j+1))+1 by omega,List.range'_succ]
 simp only[CR]
 rw[hr,List.filter_cons]
 cases h:mk.contains j with
 |true=>simp
 |false =>
  simp only[Bool.not_false,if_true,Bool.false_eq_true,if_false,List.flatMap_cons,List.findSome?_append]
  rw[List.findSome?_map];rfl
theorem dT (L:Nat) (mk:List Nat) (m:Nat):CR L mk (m+1) L=[]:=by simp[CR]
theorem dS (L:Nat) (mk:List Nat) (m fr:Nat) (l:List Nat) (h:l∈CR L mk m fr):l.length=m:=(It L mk m fr l h).1
theorem dR (L:Nat) (mk:List Nat) (m fr j:Nat) (l:List Nat) (hf:fr<=j) (hj:j<L) (hm:mk.contains j=false) (h:l∈CR L mk m (j+1)):j::l∈CR L mk (m+1) fr:=by
 simp only[CR,List.mem_flatMap,List.mem_filter,List.mem_range'_1,List.mem_map]
 exact⟨j,⟨⟨hf,by omega⟩,by simpa using hm⟩,l,h,rfl⟩
theorem nV (mk:List Nat) (j:Nat):kF (ni mk) (j:Int)=mk.contains j:=by
 unfold kF ni
 rw[Bool.eq_iff_iff]
 simp only[List.contains_iff_mem,List.mem_map]
 constructor
 ·rintro⟨k,hk,he⟩
  have:k=j:=by omega
  subst this;exact hk
 ·exact fun h=>⟨j,h,rfl⟩
attribute [local congr] Bl A_ A' Ar Bm Ay A0 Az Aq Ak Ae Aa Av Af Aw BL BP BN BO BM BQ BF Ai Ax Aj BD BX Ah BJ BK BE BG BI BH BB BC A9 Bn BA Au Ag
attribute [local irreducible] IntKind.wrap A4 Option.getD and or
theorem SS {G:List Nat->Option (List F)}{A:List Nat->Prop}{f:FuncId}{cs:List AV}(hY:pX G A f cs) (j:Nat) (nl:Bool) (l:List Nat) (b:Bool) (o:List F) (fnd:Bool) (hA:A (j::l)) (hll:l.length<=100) :
  IP E0 B0 (vv b o fnd) [.d (.list nl (Am (ni l))),.ablk false [.fn f cs] 0,.d (.ptr [.int .i64 (j:Int)])] (vh b o fnd (G (j::l))) (.d (.bool (G (j::l)).isNone)):=by
 have c1:=hY.call false (j::l) b o fnd hA (by simp)
 have hst:=hY.st
 have hbody:=hY.body
 have hl:D.int .i64 (j:Int)::Am (ni l)=Am (ni (j::l)):=rfl
 have h1:((vv b o fnd).all fun q=>E_ (vh b o fnd (G (j::l))) q.1 q.2.1)=true:=by cases G (j::l)<;>simp[vv,vh,E_]
 refine Di Ha Ap (by simp) (Xq b o fnd) h1 fun hwf hwo=>?_
 rw[ES];unfold E2
 unfold vv at c1 ⊢
 have har:OS V6 (.d (.list false (Am (ni (j::l))))::cs) (.d (.list false (Am (ni (j::l))))::cs):=⟨rfl,hY.ar⟩
 cases hg:G (j::l) with
 |none =>
  rw[hg,Jc] at c1
  rw[Jc]
  unfold vv at c1 ⊢
  (try (simp -implicitDefEqProofs only[go_sem,hst,hbody,hl,HT]));repeat' first|(with_reducible first|exact tI|refine aI ?_ ?_|intro _)|((first|with_reducible refine AM ?_ ?_<;>intro _)<;>try (simp -implicitDefEqProofs only[go_sem,hst,hbody,hl,HT]))|simp (disch:=omega) only[Al]
  all_goals first|omega|(simp;done)|(simp;omega)|skip
  refine FA V6 V6 c1 har (by simp[Handed,Dm.get,Ad.ren,AV.ren,AV.ren.renL,AL.get,Bb,CH,D8,AL.reach,AV.sites,AV.sites.sitesL,AL.osites,hst]) (by simp[CP,E_,CV,Dm.get,D8,EY,CK]) (by rfl) (by simp only[D9,Dm.get,Ad.ren,AV.ren,AV.ren.renL,and_self,and_true,true_and,if_true,reduceIte];rfl) ?_
  (try (simp -implicitDefEqProofs only[go_sem,hst,HT]));repeat' first|(with_reducible first|exact tI|refine aI ?_ ?_|intro _)|((first|with_reducible refine AM ?_ ?_<;>intro _)<;>try (simp -implicitDefEqProofs only[go_sem,hst,HT]))|simp (disch:=omega) only[Al]
  all_goals first|omega|(simp;done)|(simp;omega)|skip
  all_goals first|rfl|skip
 |some z =>
  rw[hg,Jb] at c1
  rw[Jb]
  unfold vv at c1 ⊢
  (try (simp -implicitDefEqProofs only[go_sem,hst,hbody,hl,HT]));repeat' first|(with_reducible first|exact tI|refine aI ?_ ?_|intro _)|((first|with_reducible refine AM ?_ ?_<;>intro _)<;>try (simp -implicitDefEqProofs only[go_sem,hst,hbody,hl,HT]))|simp (disch:=omega) only[Al]
  all_goals first|omega|(simp;done)|(simp;omega)|skip
  refine FA V6 V6 c1 har (by simp[Handed,Dm.get,Ad.ren,AV.ren,AV.ren.renL,AL.get,Bb,CH,D8,AL.reach,AV.sites,AV.sites.sitesL,AL.osites,hst]) (by simp[CP,E_,CV,Dm.get,D8,EY,CK]) (by rfl) (by simp only[D9,Dm.get,Ad.ren,AV.ren,AV.ren.renL,and_self,and_true,true_and,if_true,reduceIte];rfl) ?_
  (try (simp -implicitDefEqProofs only[go_sem,hst,HT]));repeat' first|(with_reducible first|exact tI|refine aI ?_ ?_|intro _)|((first|with_reducible refine AM ?_ ?_<;>intro _)<;>try (simp -implicitDefEqProofs only[go_sem,hst,HT]))|simp (disch:=omega) only[Al]
  all_goals first|omega|(simp;done)|(simp;omega)|skip
  all_goals first|rfl|skip
theorem cj {G:List Nat->Option (List F)}{A:List Nat->Prop}{f:FuncId}{cs:List AV}(hY:pX G A f cs) (j:Nat) :
  pX (fun l=>G (j::l)) (fun l=>A (j::l)/\l.length<=100) B0 [.ablk false [.fn f cs] 0,.d (.ptr [.int .i64 (j:Int)])] :=
 ⟨Rm,by simp[AV.sites,AV.sites.sitesL,hY.st],fun V os h1 h2=>by simp[AV.nrm,AV.nrm.nrmL,hY.nr V os h1 h2,AV.one],by simp[AV.ren,AV.ren.renL,hY.rn],
  ⟨by simp[lH,AV.ren,AV.ren.renL,hY.rn],rfl,trivial⟩,fun nl l b o fnd hA _=>SS hY j nl l b o fnd hA.1 hA.2⟩
theorem Pm (L P:Nat) (n:Bool) (mk:List Nat) (hL:L<=15):∀(m fr:Nat) {G:List Nat->Option (List F)}{A:List Nat->Prop}{f:FuncId}{cs:List AV}(hY:pX G A f cs) (hA:∀l,l∈CR L mk m fr->A l) (hfr:fr<=L) (hm:m<=50) (b:Bool) (o:List F) (fnd:Bool),
  IP E0 F7 (vv b o fnd) [.d (UY L P),.d (.list n (Am (ni mk))),.d (.int .i64 (fr:Int)),.d (.int .i64 (m:Int)),.fn f cs] (vh b o fnd ((CR L mk m fr).findSome? G)) (.d (.bool ((CR L mk m fr).findSome? G).isNone))
 |0,fr,G,A,f,cs,hY,hA,hfr,hm,b,o,fnd=>by
  have e0:(CR L mk 0 fr).findSome? G=G []:=by simp[CR]
  rw[e0]
  have c1:=hY.call true [] b o fnd (hA [] (by simp[CR])) (fun _=>rfl)
  rw[show Am (ni [])=[] from rfl] at c1
  have hst:=hY.st
  have hbody:=hY.body
  have h1:((vv b o fnd).all fun q=>E_ (vh b o fnd (G [])) q.1 q.2.1)=true:=by cases G []<;>simp[vv,vh,E_]
  refine Di FI Ap (by simp) (Xq b o fnd) h1 fun hwf hwo=>?_
  rw[ES];unfold Dz
  have har:OS V6 (.d (.list true [])::cs) (.d (.list true [])::cs):=⟨rfl,hY.ar⟩
  have hz0:((0:Nat):Int)=0:=rfl
  cases hg:G [] with
  |none =>
   rw[hg,Jc] at c1
   rw[Jc]
   unfold vv at c1 ⊢
   (try (simp -implicitDefEqProofs only[go_sem,hst,hbody,B6,hz0]));repeat' first|(with_reducible first|exact tI|refine aI ?_ ?_|intro _)|((first|with_reducible refine AM ?_ ?_<;>intro _)<;>try (simp -implicitDefEqProofs only[go_sem,hst,hbody,B6,hz0]))|simp (disch:=omega) only[Al]|((with_reducible refine A1 ?_);refine⟨_,rfl,?_,?_⟩)
   all_goals first|omega|(simp;done)|(simp;omega)|skip
   refine FA V6 V6 c1 har (by simp[Handed,Dm.get,Ad.ren,AV.ren,AV.ren.renL,AL.get,Bb,CH,D8,AL.reach,AV.sites,AV.sites.sitesL,AL.osites,hst]) (by simp[CP,E_,CV,Dm.get,D8,EY,CK]) (by rfl) (by simp only[D9,Dm.get,Ad.ren,AV.ren,AV.ren.renL,and_self,and_true,true_and,if_true,reduceIte];rfl) ?_
   (try (simp -implicitDefEqProofs only[go_sem,hst]));repeat' first|(with_reducible first|exact tI|refine aI ?_ ?_|intro _)|((first|with_reducible refine AM ?_ ?_<;>intro _)<;>try (simp -implicitDefEqProofs only[go_sem,hst]))|simp (disch:=omega) only[Al]|((with_reducible refine A1 ?_);refine⟨_,rfl,?_,?_⟩)
   all_goals first|omega|(simp;done)|(simp;omega)|skip
   all_goals first|rfl|skip
  |some z =>
   rw[hg,Jb] at c1
   rw[Jb]
   unfold vv at c1 ⊢
   (try (simp -implicitDefEqProofs only[go_sem,hst,hbody,B6,hz0]));repeat' first|(with_reducible first|exact tI|refine aI ?_ ?_|intro _)|((first|with_reducible refine AM ?_ ?_<;>intro _)<;>try (simp -implicitDefEqProofs only[go_sem,hst,hbody,B6,hz0]))|simp (disch:=omega) only[Al]|((with_reducible refine A1 ?_);refine⟨_,rfl,?_,?_⟩)
   all_goals first|omega|(simp;done)|(simp;omega)|skip
   refine FA V6 V6 c1 har (by simp[Handed,Dm.get,Ad.ren,AV.ren,AV.ren.renL,AL.get,Bb,CH,D8,AL.reach,AV.sites,AV.sites.sitesL,AL.osites,hst]) (by simp[CP,E_,CV,Dm.get,D8,EY,CK]) (by rfl) (by simp only[D9,Dm.get,Ad.ren,AV.ren,AV.ren.renL,and_self,and_true,true_and,if_true,reduceIte];rfl) ?_
   (try (simp -implicitDefEqProofs only[go_sem,hst]));repeat' first|(with_reducible first|exact tI|refine aI ?_ ?_|intro _)|((first|with_reducible refine AM ?_ ?_<;>intro _)<;>try (simp -implicitDefEqProofs only[go_sem,hst]))|simp (disch:=omega) only[Al]|((with_reducible refine A1 ?_);refine⟨_,rfl,?_,?_⟩)
   all_goals first|omega|(simp;done)|(simp;omega)|skip
   all_goals first|rfl|skip
 |m+1,fr,G,A,f,cs,hY,hA,hfr,hm,b,o,fnd=>by
  have hst:=hY.st
  have hnr:=hY.nr
  have h1:((vv b o fnd).all fun q=>E_ (vh b o fnd ((CR L mk (m+1) fr).findSome? G)) q.1 q.2.1)=true:=by cases (CR L mk (m+1) fr).findSome? G<;>simp[vv,vh,E_]
  refine Di FI Ap (by simp) (Xq b o fnd) h1 fun hwf hwo=>?_
  rw[ES];unfold Dz
  have hz0:¬((m+1:Nat):Int)=0:=by omega
  have hwm:IntKind.i64.wrap (((m+1:Nat):Int)-1)=(m:Int):=by rw[AZ _ (by omega)];omega
  unfold vv
  (try (simp -implicitDefEqProofs only[go_sem,hst,hnr,B6,hz0]));repeat' first|(with_reducible first|exact tI|refine aI ?_ ?_|intro _)|((first|with_reducible refine AM ?_ ?_<;>intro _)<;>try (simp -implicitDefEqProofs only[go_sem,hst,hnr,B6,hz0]))|simp (disch:=omega) only[Al]|((with_reducible refine A1 ?_);refine⟨_,rfl,?_,?_⟩)
  all_goals first|omega|(simp;done)|(simp;omega)|skip
  refine AY (α:=Nat) (l0:=?l1) (m0:=?m1) (fun x=>[]) (fun x=>[(11,.cells [.d (.int .i64 (x:Int))])]) (fun x=>fr<=x/\x<=L/\(CR L mk (m+1) x).findSome? G=(CR L mk (m+1) fr).findSome? G) (fun x=>L-x) fr ?h01 ?he1 ?he21 ?hI1 ?step1
  case h01=>(simp -implicitDefEqProofs only[go_sem,hst,hnr];rfl)
  case he1=>rfl
  case he21=>rfl
  case' step1=>(rintro j hI;try dsimp only at hI)
  case' hI1=>try dsimp only
  ·exact⟨by omega,hfr,rfl⟩
  ·obtain⟨j1,j2,j3⟩:=hI
   by_cases hj:j<L
   ·have hj':(j:Int)<(L:Int):=by omega
    have hwj:IntKind.i64.wrap ((j:Int)+1)=((j+1:Nat):Int):=by rw[AZ _ (by omega)];omega
    have c0:=PR n (ni mk) (j:Int)
    rw[nV] at c0
    have hnx:=Z' L mk m j G hj
    cases hc:mk.contains j with
    |true =>
     rw[hc] at c0 hnx
     rw[if_pos rfl] at hnx
     have hfin:(CR L mk (m+1) (j+1)).findSome? G=(CR L mk (m+1) fr).findSome? G:=by rw[←j3,hnx]
     (try (simp -implicitDefEqProofs only[go_sem,hst,hnr,hj',hwj]));repeat' first|(with_reducible first|exact tI|refine aI ?_ ?_|intro _)|((first|with_reducible refine AM ?_ ?_<;>intro _|(with_reducible refine isCall ?_);first|refine AE c0 ?_)<;>try (simp -implicitDefEqProofs only[go_sem,hst,hnr,hj',hwj]))|simp (disch:=omega) only[Al]|((with_reducible refine A1 ?_);refine⟨_,rfl,?_,?_⟩)
     all_goals first|omega|(simp;done)|(simp;omega)|skip
     all_goals first|exact hfin|skip
    |false =>
     rw[hc] at c0 hnx
     simp only[Bool.false_eq_true,if_false] at hnx
     have hYn:=cj hY j
     have hlen:∀l,l∈CR L mk m (j+1)->l.length<=100:=fun l hl=>by rw[dS L mk m (j+1) l hl];omega
     have ih:=Pm L P n mk hL m (j+1) hYn (fun l hl=>⟨hA _ (dR L mk m fr j l j1 hj hc hl),hlen l hl⟩) (by omega) (by omega) b o fnd
     have har:OS V6 [.d (UY L P),.d (.list n (Am (ni mk))),.d (.int .i64 ((j+1:Nat):Int)),.d (.int .i64 (m:Int)),.fn B0 [.ablk false [.fn f cs] 0,.d (.ptr [.int .i64 (j:Int)])]] [.d (UY L P),.d (.list n (Am (ni mk))),.d (.int .i64 ((j+1:Nat):Int)),.d (.int .i64 (m:Int)),.fn B0 [.ablk false [.fn f cs] 0,.d (.ptr [.int .i64 (j:Int)])]] :=
      ⟨rfl,rfl,rfl,rfl,by simp[lH,AV.ren,AV.ren.renL,hY.rn],trivial⟩
     cases hr:(CR L mk m (j+1)).findSome? fun l=>G (j::l) with
     |none =>
      rw[hr] at ih hnx
      have hfin:(CR L mk (m+1) (j+1)).findSome? G=(CR L mk (m+1) fr).findSome? G:=by rw[←j3,hnx];rfl
      rw[Jc,Option.isNone_none] at ih
      rw[B6] at ih har
      unfold vv at ih
      (try (simp -implicitDefEqProofs only[go_sem,hst,hnr,hj',hwj,hwm]));repeat' first|(with_reducible first|exact tI|refine aI ?_ ?_|intro _)|((first|with_reducible refine AM ?_ ?_<;>intro _|(with_reducible refine isCall ?_);first|refine AE c0 ?_)<;>try (simp -implicitDefEqProofs only[go_sem,hst,hnr,hj',hwj,hwm]))|simp (disch:=omega) only[Al]|((with_reducible refine A1 ?_);refine⟨_,rfl,?_,?_⟩)
      all_goals first|omega|(simp;done)|(simp;omega)|skip
      refine FA V6 V6 ih har (by simp[Handed,Dm.get,Ad.ren,AV.ren,AV.ren.renL,AL.get,Bb,CH,D8,AL.reach,AV.sites,AV.sites.sitesL,AL.osites,hst]) (by simp[CP,E_,CV,Dm.get,D8,EY,CK]) (by rfl) (by simp only[D9,Dm.get,Ad.ren,AV.ren,AV.ren.renL,and_self,and_true,true_and,if_true,reduceIte];rfl) ?_
      (try (simp -implicitDefEqProofs only[go_sem,hst,hnr,hwj]));repeat' first|(with_reducible first|exact tI|refine aI ?_ ?_|intro _)|((first|with_reducible refine AM ?_ ?_<;>intro _)<;>try (simp -implicitDefEqProofs only[go_sem,hst,hnr,hwj]))|simp (disch:=omega) only[Al]|((with_reducible refine A1 ?_);refine⟨_,rfl,?_,?_⟩)
      all_goals first|omega|(simp;done)|(simp;omega)|skip
      all_goals first|exact hfin|skip
     |some z =>
      rw[hr] at ih hnx
      have hfin:(CR L mk (m+1) fr).findSome? G=some z:=by rw[←j3,hnx];rfl
      rw[hfin,Jb]
      rw[Jb,Option.isNone_some] at ih
      rw[B6] at ih har
      unfold vv at ih ⊢
      (try (simp -implicitDefEqProofs only[go_sem,hst,hnr,hj',hwj,hwm]));repeat' first|(with_reducible first|exact tI|refine aI ?_ ?_|intro _)|((first|with_reducible refine AM ?_ ?_<;>intro _|(with_reducible refine isCall ?_);first|refine AE c0 ?_)<;>try (simp -implicitDefEqProofs only[go_sem,hst,hnr,hj',hwj,hwm]))|simp (disch:=omega) only[Al]|((with_reducible refine A1 ?_);refine⟨_,rfl,?_,?_⟩)
      all_goals first|omega|(simp;done)|(simp;omega)|skip
      refine FA V6 V6 ih har (by simp[Handed,Dm.get,Ad.ren,AV.ren,AV.ren.renL,AL.get,Bb,CH,D8,AL.reach,AV.sites,AV.sites.sitesL,AL.osites,hst]) (by simp[CP,E_,CV,Dm.get,D8,EY,CK]) (by rfl) (by simp only[D9,Dm.get,Ad.ren,AV.ren,AV.ren.renL,and_self,and_true,true_and,if_true,reduceIte];rfl) ?_
      (try (simp -implicitDefEqProofs only[go_sem,hst,hnr,hwj]));repeat' first|(with_reducible first|exact tI|refine aI ?_ ?_|intro _)|((first|with_reducible refine AM ?_ ?_<;>intro _)<;>try (simp -implicitDefEqProofs only[go_sem,hst,hnr,hwj]))|simp (disch:=omega) only[Al]|((with_reducible refine A1 ?_);refine⟨_,rfl,?_,?_⟩)
      all_goals first|omega|(simp;done)|(simp;omega)|skip
      all_goals first|rfl|skip
   ·have hj':¬(j:Int)<(L:Int):=by omega
    have hje:j=L:=by omega
    subst hje
    have hfin:(CR j mk (m+1) fr).findSome? G=none:=by rw[←j3,dT];rfl
    rw[hfin,Jc]
    unfold vv
    (try (simp -implicitDefEqProofs only[go_sem,hst,hnr,hj']));repeat' first|(with_reducible first|exact tI|refine aI ?_ ?_|intro _)|((first|with_reducible refine AM ?_ ?_<;>intro _)<;>try (simp -implicitDefEqProofs only[go_sem,hst,hnr,hj']))|simp (disch:=omega) only[Al]|((with_reducible refine A1 ?_);refine⟨_,rfl,?_,?_⟩)
    all_goals first|omega|(simp;done)|(simp;omega)|skip
    all_goals first|rfl|skip
end Go.Pw
end
section
open Go Go.Pw Go.Proofs
namespace Go.Pw
set_option maxRecDepth 100000
set_option maxHeartbeats 3200000
def decR (o:Option (List F)):D:=match o with
 |some r=>.tup [.list false (us r),.bool true]
 |none=>.tup [.list true [],.bool false]
theorem S_ (v:List F):decR (some v)=.tup [.list false (us v),.bool true]:=rfl
theorem S':decR none=.tup [.list true [],.bool false]:=rfl
theorem SU:Bz E0.P C2=true:=by kernel_rfl
theorem LB {β:Type}{f:Nat->Option β}{e:Nat}{r:β}(h:∀i,i<e->f i=none) (he:f e=some r):∀N,e<N->(List.range N).findSome? f=some r
 |0,hN=>by omega
 |N+1,hN=>by
  rw[List.range_succ,List.findSome?_append]
  by_cases h2:e<N
  ·rw[LB h he N h2];rfl
  ·have:e=N:=by omega
   subst this
   have hn:(List.range e).findSome? f=none:=by
    rw[List.findSome?_eq_none_iff];exact fun i hi=>h i (by simpa using hi)
   rw[hn]
   simp[he]
noncomputable def br (L P:Nat) (w:List F) (mk:List Nat) (e:Nat):Option (List F):=(CR L mk e 0).findSome? (hit L P w mk)
theorem km {L P:Nat}{w r:List F}{mk:List Nat}{e:Nat}(h:∀i,i<e->br L P w mk i=none) (he:br L P w mk e=some r) (hb:2*e+mk.length<=P):Mx L P w mk=some r:=by
 unfold Mx
 rw[if_pos (by omega)]
 exact LB h he _ (by omega)
theorem gL {L P:Nat}{w:List F}{mk:List Nat}{e:Nat}(h:∀i,i<e->br L P w mk i=none) (hb:¬2*e+mk.length<=P):Mx L P w mk=none:=by
 unfold Mx
 split
 ·rw[List.findSome?_eq_none_iff]
  intro i hi
  simp at hi
  exact h i (by omega)
 ·rfl
theorem iE {L P:Nat}{w:List F}{mk:List Nat}(n2:Bool) (hL:L<=15) (hL1:1<=L) (hP:1<=P) (hP2:P<=15) (hw:w.length=L) (hm:Yu L mk) :
  pX (hit L P w mk) (fun l=>TM L mk 0 l/\2*l.length+mk.length<=P) C2 [.d (.ptr [.list n2 (Am (ni mk))]),.d (.ptr [.int .i64 L,.int .i64 P]),.d (.ptr [.list false (us (KU L P w))]),.d (.ptr [.list false (us w)]),.ptr 900004 0 0,.ptr 901004 0 0] :=
 ⟨SU,rfl,fun V os h1 h2=>by simp[AV.nrm,AV.nrm.nrmL,h1,h2],rfl,⟨rfl,rfl,rfl,rfl,rfl,rfl,trivial⟩,fun nl l b o fnd hA _ =>
  UT L P nl n2 false b fnd o w mk l hL hL1 hP hP2 hw (Tq hm hA.1) (by have:=hA.2;simp;omega) rfl⟩
attribute [local congr] Bl A_ A' Ar Bm Ay A0 Az Aq Ak Ae Aa Av Af Aw BL BP BN BO BM BQ BF Ai Ax Aj BD BX Ah BJ BK BE BG BI BH BB BC A9 Bn BA Au Ag
attribute [local irreducible] IntKind.wrap A4 Option.getD and or
theorem M1 (L P:Nat) (n1 n2:Bool) (w:List F) (mk:List Nat) (hL:L<=15) (hL1:1<=L) (hP:1<=P) (hP2:P<=15) (hw:w.length=L) (hm:Yu L mk) (hml:mk.length<=100) (hn1:n1=false) :
  CD E0 GK [UY L P,.list n1 (us w),.list n2 (Am (ni mk))] (decR (Mx L P w mk)):=by
 subst hn1
 have c1:=PJ L P false w hL hL1 hP hP2 hw
 have hY:=iE (P:=P) n2 hL hL1 hP hP2 hw hm
 refine AO JH Ap (by simp) fun hwf=>?_
 rw[AW];unfold Fp
 rw[B6] at c1 ⊢
 (try (simp -implicitDefEqProofs only[go_sem]));repeat' first|(with_reducible first|exact tI|refine aI ?_ ?_|intro _)|((first|with_reducible refine AM ?_ ?_<;>intro _|(with_reducible refine isCall ?_);first|refine AE c1 ?_)<;>try (simp -implicitDefEqProofs only[go_sem]))|simp (disch:=omega) only[Al]|((with_reducible refine Cc ?_);refine⟨(_,_,_,_),rfl,?_,?_⟩)
 all_goals first|omega|(simp;done)|(simp;omega)|skip
 refine AY (α:=Nat×Bool×(List F)×Bool) (l0:=?l1) (m0:=?m1) (fun x=>[(9,.d (.int .i64 (x.1:Int)))]) (fun x=>[(6,.cells [.d (.list x.2.1 (us x.2.2.1))]),(7,.cells [.d (.bool x.2.2.2)])]) (fun x=>x.1<=100/\((x.2.2.2=false/\x.2.1=true/\x.2.2.1=[]/\∀i,i<x.1->br L P w mk i=none)\/(x.2.2.2=true/\x.2.1=false/\Mx L P w mk=some x.2.2.1))) (fun x=>(if x.2.2.2 then 0 else 101-x.1)) (0,true,[],false) ?h01 ?he1 ?he21 ?hI1 ?step1
 case h01=>(simp -implicitDefEqProofs only[go_sem];rfl)
 case he1=>rfl
 case he21=>rfl
 case' step1=>(rintro⟨e,b,o,fnd⟩ hI;try dsimp only at hI)
 case' hI1=>try dsimp only
 ·exact⟨by omega,.inl ⟨rfl,rfl,rfl,fun i hi=>absurd hi (by omega)⟩⟩
 ·obtain⟨h1,h2⟩:=hI
  have hw2:IntKind.i64.wrap (2*(e:Int))=2*(e:Int):=AZ _ (by omega)
  have hw3:IntKind.i64.wrap (2*(e:Int)+(mk.length:Int))=2*(e:Int)+(mk.length:Int):=AZ _ (by omega)
  have hw4:IntKind.i64.wrap ((e:Int)+1)=((e+1:Nat):Int):=by rw[AZ _ (by omega)];omega
  rcases h2 with⟨rfl,rfl,rfl,h3⟩|⟨rfl,rfl,h3⟩
  ·by_cases hb:2*e+mk.length<=P
   ·have hb':2*(e:Int)+(mk.length:Int)<=(P:Int):=by omega
    have c2:=Pm L P n2 mk hL e 0 hY (fun l hl=>⟨(It L mk e 0 l hl).2,by rw[(It L mk e 0 l hl).1];exact hb⟩) (by omega) (by omega) true [] false
    rw[show (((0:Nat):Int))=0 from rfl] at c2
    rw[B6] at c2
    obtain⟨R,hR⟩:∃R,br L P w mk e=R:=⟨_,rfl⟩
    rw[show (CR L mk e 0).findSome? (hit L P w mk)=R from hR] at c2
    cases R with
    |none =>
     rw[Jc,Option.isNone_none] at c2
     unfold vv at c2
     have hn:∀i,i<e+1->br L P w mk i=none:=fun i hi=>by
      rcases Nat.lt_succ_iff_lt_or_eq.1 hi with hi|rfl
      ·exact h3 i hi
      ·exact hR
     (try (simp -implicitDefEqProofs only[go_sem,hw2,hw3,hb',hw4]));repeat' first|(with_reducible first|exact tI|refine aI ?_ ?_|intro _)|((first|with_reducible refine AM ?_ ?_<;>intro _|(with_reducible refine isCall ?_);first|(refine FA ([((900004,0),(6,0)),((901004,0),(7,0))]) ([((900004,0),(6,0)),((901004,0),(7,0))]) (c2) (by repeat' first|exact True.intro|exact rfl|refine And.intro ?_ ?_) (by simp[Handed,Dm.get,Ad.ren,AV.ren,AV.ren.renL,AL.get,Bb,CH,D8,AL.reach,AV.sites,AV.sites.sitesL,AL.osites]) (by simp[CP,E_,CV,Dm.get,D8,EY,CK]) (by rfl) (by simp only[D9,Dm.get,Ad.ren,AV.ren,AV.ren.renL,and_self,and_true,true_and,if_true,reduceIte];rfl) ?_))<;>try (simp -implicitDefEqProofs only[go_sem,hw2,hw3,hb',hw4]))|simp (disch:=omega) only[Al]|((with_reducible refine Cc ?_);refine⟨(_,_,_,_),rfl,?_,?_⟩)
     all_goals first|omega|(simp;done)|(simp;omega)|skip
     all_goals first|exact .inl ⟨trivial,trivial,trivial,hn⟩|skip
    |some r =>
     have hfin:=km h3 hR hb
     rw[Jb,Option.isNone_some] at c2
     unfold vv at c2
     (try (simp -implicitDefEqProofs only[go_sem,hw2,hw3,hb',hw4]));repeat' first|(with_reducible first|exact tI|refine aI ?_ ?_|intro _)|((first|with_reducible refine AM ?_ ?_<;>intro _|(with_reducible refine isCall ?_);first|(refine FA ([((900004,0),(6,0)),((901004,0),(7,0))]) ([((900004,0),(6,0)),((901004,0),(7,0))]) (c2) (by repeat' first|exact True.intro|exact rfl|refine And.intro ?_ ?_) (by simp[Handed,Dm.get,Ad.ren,AV.ren,AV.ren.renL,AL.get,Bb,CH,D8,AL.reach,AV.sites,AV.sites.sitesL,AL.osites]) (by simp[CP,E_,CV,Dm.get,D8,EY,CK]) (by rfl) (by simp only[D9,Dm.get,Ad.ren,AV.ren,AV.ren.renL,and_self,and_true,true_and,if_true,reduceIte];rfl) ?_))<;>try (simp -implicitDefEqProofs only[go_sem,hw2,hw3,hb',hw4]))|simp (disch:=omega) only[Al]|((with_reducible refine Cc ?_);refine⟨(_,_,_,_),rfl,?_,?_⟩)
     all_goals first|omega|(simp;done)|(simp;omega)|skip
     all_goals first|exact .inr ⟨trivial,trivial,hfin⟩|skip
   ·have hb':¬2*(e:Int)+(mk.length:Int)<=(P:Int):=by omega
    rw[gL h3 hb,S']
    (try (simp -implicitDefEqProofs only[go_sem,hw2,hw3,hb',hw4]));repeat' first|(with_reducible first|exact tI|refine aI ?_ ?_|intro _)|((first|with_reducible refine AM ?_ ?_<;>intro _)<;>try (simp -implicitDefEqProofs only[go_sem,hw2,hw3,hb',hw4]))|simp (disch:=omega) only[Al]|((with_reducible refine Cc ?_);refine⟨(_,_,_,_),rfl,?_,?_⟩)
    all_goals first|omega|(simp;done)|(simp;omega)|skip
    all_goals first|rfl|skip
  ·rw[h3,S_]
   (try (simp -implicitDefEqProofs only[go_sem,hw2,hw3,hw4]));repeat' first|(with_reducible first|exact tI|refine aI ?_ ?_|intro _)|((first|with_reducible refine AM ?_ ?_<;>intro _)<;>try (simp -implicitDefEqProofs only[go_sem,hw2,hw3,hw4]))|simp (disch:=omega) only[Al]|((with_reducible refine Cc ?_);refine⟨(_,_,_,_),rfl,?_,?_⟩)
   all_goals first|omega|(simp;done)|(simp;omega)|skip
   all_goals first|rfl|skip
end Go.Pw
end
section
namespace Go.Pw
theorem gS (n i:Nat):SR (n+1) i=gp (i*n)::SR n i:=by
 unfold SR
 rw[List.range_succ_eq_map,List.map_cons,List.map_map]
 congr 1
 apply List.map_congr_left
 intro j hj
 show YN (n+1) i (j+1)=YN n i j
 unfold YN
 rw[show n+1-1-(j+1)=n-1-j by omega]
def Mn (i:Nat) (w:List F):F:=Fh w (SR w.length i)
theorem f9 (i:Nat):Mn i []=0:=rfl
theorem QN (i:Nat) (y:F) (ys:List F):Mn i (y::ys)=fa (fm y (gp (i*ys.length))) (Mn i ys):=by
 show Fh (y::ys) (SR (ys.length+1) i)=_
 rw[gS];rfl
theorem nx (i:Nat) (l:List F) (o:Nat) (y:F) (h:o<l.length):Mn i (l.set o y)=fa (Mn i l) (fm (fa (l[o]?.getD 0) y) (gp (i*(l.length-1-o)))):=by
 unfold Mn
 rw[List.length_set,UQ y l _ o h (by rw[QT];omega),UX _ _ _ h];rfl
def C8:List F->Nat->F->List F->List F
 |l,o,b,[]=>l
 |l,o,b,y::ys=>C8 (l.set o (fa (l[o]?.getD 0) (fm b y))) (o+1) b ys
theorem JO:∀(g l:List F) (o:Nat) (b:F),(C8 l o b g).length=l.length
 |[],l,o,b=>rfl
 |y::ys,l,o,b=>by show (C8 _ (o+1) b ys).length=_;rw[JO ys];simp
theorem R0 (y:F):∀(g l:List F) (o:Nat) (b:F),C8 l o b (g++[y])=(C8 l o b g).set (o+g.length) (fa ((C8 l o b g)[o+g.length]?.getD 0) (fm b y))
 |[],l,o,b=>rfl
 |z::zs,l,o,b=>by
  show C8 _ (o+1) b (zs++[y])=_
  rw[R0 y zs]
  show _=(C8 (l.set o (fa (l[o]?.getD 0) (fm b z))) (o+1) b zs).set (o+(zs.length+1)) (fa ((C8 (l.set o (fa (l[o]?.getD 0) (fm b z))) (o+1) b zs)[o+(zs.length+1)]?.getD 0) (fm b y))
  rw[show o+1+zs.length=o+(zs.length+1) by omega]
theorem R1 (j:Nat):∀(g l:List F) (o:Nat) (b:F),j<o->(C8 l o b g)[j]?.getD 0=l[j]?.getD 0
 |[],l,o,b,_=>rfl
 |y::ys,l,o,b,h=>by
  show (C8 _ (o+1) b ys)[j]?.getD 0=_
  rw[R1 j ys _ (o+1) b (by omega),List.getElem?_set_ne (by omega)]
theorem RJ (i:Nat):∀(g l:List F) (o:Nat) (b:F),o+g.length<=l.length->Mn i (C8 l o b g)=fa (Mn i l) (fm (fm b (Mn i g)) (gp (i*(l.length-o-g.length))))
 |[],l,o,b,h=>by show Mn i l=_;rw[f9,Dr,Cf,DE]
 |y::ys,l,o,b,h=>by
  simp only[List.length_cons] at h
  show Mn i (C8 _ (o+1) b ys)=_
  rw[RJ i ys _ (o+1) b (by rw[List.length_set];omega),nx i l o _ (by omega),QN,List.length_set,List.length_cons]
  rw[←EK (l[o]?.getD 0),Fu,JX,MN,EK]
  congr 1
  have e1:l.length-1-o=ys.length+(l.length-o-(ys.length+1)):=by omega
  have e2:l.length-(o+1)-ys.length=l.length-o-(ys.length+1):=by omega
  rw[e1,e2,Nat.mul_add,X9,Dt (fa _ _),MN,Dt (gp (i*(l.length-o-(ys.length+1)))),Dt (gp (i*(l.length-o-(ys.length+1))))]
  simp only[Ft]
theorem RH (i:Nat):∀a:List F,Mn i (a++[0])=fm (Mn i a) (gp i)
 |[]=>by
  show Mn i [0]=_
  rw[QN,Cf,f9,Cf,DE]
 |y::ys=>by
  show Mn i (y::(ys++[0]))=_
  rw[QN,QN,RH i ys,List.length_append,List.length_singleton,Nat.mul_add,Nat.mul_one,X9,Dt (fa _ _),MN,Dt (gp i) (Mn i ys),Dt (gp i) (fm y _),Ft]
theorem kb (i:Nat) (a:List F) (h:Mn i a=0):∀n,Mn i (a++List.replicate n 0)=0
 |0=>by simpa using h
 |n+1=>by rw[List.replicate_succ',←List.append_assoc,RH,kb i a h n,Cf]
def JE:Nat->List F
 |0=>[1]
 |i+1=>C8 (JE i++[0]) 1 (gp i) (JE i)
theorem LG:∀i,(JE i).length=i+1
 |0=>rfl
 |i+1=>by show (C8 (JE i++[0]) 1 (gp i) (JE i)).length=_;rw[JO];simp[LG i]
theorem gK:∀i,(JE i)[0]?.getD 0=1
 |0=>rfl
 |i+1=>by
  show (C8 (JE i++[0]) 1 (gp i) (JE i))[0]?.getD 0=1
  rw[R1 0 _ _ 1 _ (by omega),List.getElem?_append_left (by rw[LG];omega),gK i]
theorem gB (r:Nat):∀i,r<i->Mn r (JE i)=0
 |0,h=>by omega
 |i+1,h=>by
  show Mn r (C8 (JE i++[0]) 1 (gp i) (JE i))=0
  rw[RJ r _ _ _ _ (by simp;omega),RH,List.length_append,LG]
  rw[show i+1+([(0:F)]).length-1-(i+1)=0 by simp,Nat.mul_zero,ZR,Jl,Dt (gp i)]
  by_cases hr:r<i
  ·rw[gB r i hr,Cf,Cf,DE]
  ·have:r=i:=by omega
   subst this
   rw[Fu]
def GX (g d:List F) (P:Nat):Nat->List F
 |0=>d++List.replicate P 0
 |i+1=>C8 (GX g d P i) i ((GX g d P i)[i]?.getD 0) g
theorem HF (g d:List F) (P:Nat):∀i,(GX g d P i).length=d.length+P
 |0=>by simp[GX]
 |i+1=>by show (C8 _ _ _ _).length=_;rw[JO,HF g d P i]
theorem ZB (g d:List F) (P:Nat) (hg:g[0]?.getD 0=1):∀i,i<=d.length->∀j,j<i->(GX g d P i)[j]?.getD 0=0
 |0,_,j,hj=>by omega
 |i+1,hi,j,hj=>by
  show (C8 (GX g d P i) i ((GX g d P i)[i]?.getD 0) g)[j]?.getD 0=0
  cases g with
  |nil=>exact absurd hg (by decide)
  |cons y ys =>
   have hy:y=1:=by simpa using hg
   subst hy
   show (C8 ((GX (1::ys) d P i).set i _) (i+1) _ ys)[j]?.getD 0=0
   rw[R1 j _ _ _ _ (by omega)]
   by_cases h:j=i
   ·subst h
    rw[Jl,Fu,List.getElem?_set_self (by rw[HF];omega)];rfl
   ·rw[List.getElem?_set_ne (fun e=>h e.symm)]
    exact ZB (1::ys) d P rfl i (by omega) j (by omega)
theorem ZW (r:Nat) (g d:List F) (P:Nat) (hg:Mn r g=0) (hl:g.length=P+1):∀i,i<=d.length->Mn r (GX g d P i)=Mn r (d++List.replicate P 0)
 |0,_=>rfl
 |i+1,hi=>by
  show Mn r (C8 _ _ _ _)=_
  rw[RJ r _ _ _ _ (by rw[HF];omega),hg,Dr,Cf,DE]
  exact ZW r g d P hg hl i (by omega)
def Gh (P:Nat) (d:List F):List F:=d++(GX (JE P) d P d.length).drop d.length
theorem HW (P:Nat) (d:List F):(Gh P d).length=d.length+P:=by
 unfold Gh;rw[List.length_append,List.length_drop,HF];omega
theorem oD (L P:Nat) (w:List F) (hw:w.length=L):g9 L P w↔∀i,i<P->Mn i w=0:=by
 subst hw
 constructor
 ·intro h i hi
  have:=h i hi
  rwa [show Eg (KU w.length P w) i=Fh w (SR w.length i) from Kj _ _ _ _ hi] at this
 ·intro h i hi
  rw[show Eg (KU w.length P w) i=Fh w (SR w.length i) from Kj _ _ _ _ hi]
  exact h i hi
theorem WS (P:Nat) (d:List F):g9 (d.length+P) P (Gh P d):=by
 rw[oD _ _ _ (HW P d)]
 intro i hi
 obtain⟨R,hR⟩:∃R,GX (JE P) d P d.length=R:=⟨_,rfl⟩
 have hl:R.length=d.length+P:=by rw[←hR];exact HF _ _ _ _
 have h0:∀j,j<d.length->R[j]?.getD 0=0:=by rw[←hR];exact ZB _ _ _ (gK P) _ (Nat.le_refl _)
 have he:Mn i R=Mn i (d++List.replicate P 0):=by rw[←hR];exact ZW i _ _ _ (gB i P hi) (LG P) _ (Nat.le_refl _)
 have hlen:(d++List.replicate P (0:F)).length=R.length:=by simp[hl]
 have hE:Gh P d=Gn (d++List.replicate P 0) R 1:=by
  apply fx
  ·rw[HW,OU _ _ _ hlen];simp
  ·intro j hj
   rw[HW] at hj
   show (Gh P d)[j]?.getD 0=(Gn (d++List.replicate P 0) R 1)[j]?.getD 0
   rw[show (Gn (d++List.replicate P 0) R 1)[j]?.getD 0=fa ((d++List.replicate P (0:F))[j]?.getD 0) (fm (R[j]?.getD 0) 1) from OQ _ _ _ _ hlen]
   unfold Gh
   rw[hR,Jl]
   by_cases h:j<d.length
   ·rw[List.getElem?_append_left h,List.getElem?_append_left h,h0 j h,DE]
   ·rw[List.getElem?_append_right (by omega),List.getElem?_append_right (by omega),List.getElem?_drop,List.getElem?_replicate,if_pos (by omega),show d.length+(j-d.length)=j by omega]
    exact(JX _).symm
 rw[hE]
 unfold Mn
 have h2:(Gn (d++List.replicate P 0) R 1).length=(d++List.replicate P (0:F)).length:=by rw[OU _ _ _ hlen]
 rw[h2,Nt _ _ _ _ hlen]
 have h3:Mn i (d++List.replicate P (0:F))=Fh (d++List.replicate P (0:F)) (SR (d++List.replicate P (0:F)).length i):=rfl
 have h4:Mn i R=Fh R (SR (d++List.replicate P (0:F)).length i):=by unfold Mn;rw[hlen]
 rw[←h3,←h4,he,T1,Fu]
end Go.Pw
end
