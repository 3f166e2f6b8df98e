/- A part of the proof. -/
import Derived.Test.YtibkjeolahobbaaGreatDoorPgChrH
set_option linter.all false
open Go Go.Pw Go.Proofs
namespace Go.Pw
set_option maxRecDepth 100000
set_option maxHeartbeats 3200000
theorem TT (x:F):∀(w c:List F) (j:Nat),j<w.length->w.length<=c.length->FT (w.set j x) c=fa (FT w c) (fm (fa (w[j]?.getD 0) x) (c[j]?.getD 0))
 |a::w,b::c,0,_,_=>by
  show fa (fm x b) (FT w c)=fa (fa (fm a b) (FT w c)) (fm (fa a x) b)
  rw[jl,NM (fm a b) (FT w c),D4,←D4 (fm a b),Fh,JC,NM]
 |a::w,b::c,j+1,h,hl=>by
  have ih:=TT x w c j (by simpa using h) (by simpa using hl)
  show fa (fm a b) (FT (w.set j x) c)=fa (fa (fm a b) (FT w c)) (fm (fa (w[j]?.getD 0) x) (c[j]?.getD 0))
  rw[ih,D4]
theorem Vx (w:List F) (j:Nat) (x:F):∀(js:List Nat) (xs:List F),j∉js->G5 (w.set j x) js xs=G5 w js xs
 |[],xs,_=>rfl
 |k::js,[],_=>rfl
 |k::js,y::xs,h=>by
  have ih:=Vx w j x js xs fun e=>h (by simp[e])
  show fa ((w.set j x)[k]?.getD 0) y::G5 (w.set j x) js xs=fa (w[k]?.getD 0) y::G5 w js xs
  rw[ih,List.getElem?_set_ne fun e=>h (by simp[e])]
theorem SN (c:List F):∀(at_:List Nat) (xs w:List F),at_.Nodup->at_.length=xs.length->(∀j,j∈at_->j<w.length)->w.length<=c.length ->
  FT (EN w at_ xs) c=fa (FT w c) (FT (at_.map fun j=>c[j]?.getD 0) (G5 w at_ xs))
 |[],xs,w,_,_,_,_=>by rw[N2];simp[La,C3]
 |j::js,x::xs,w,hn,hl,hlt,hc=>by
  rw[List.nodup_cons] at hn
  have hj:=hlt j (by simp)
  have ih:=SN c js xs (w.set j x) hn.2 (by simpa using hl) (fun k hk=>by simpa using hlt k (by simp[hk])) (by simpa using hc)
  show FT (EN (w.set j x) js xs) c=fa (FT w c) (fa (fm (c[j]?.getD 0) (fa (w[j]?.getD 0) x)) (FT (js.map fun j=>c[j]?.getD 0) (G5 w js xs)))
  rw[ih,TT x w c j hj hc,Vx _ _ _ _ _ hn.1,D4,Dk (c[j]?.getD 0)]
theorem g9 (L i:Nat) (at_:List Nat) (h:∀j,j∈at_->j<L):(at_.map fun j=>(Ri L i)[j]?.getD 0)=at_.map fun j=>XH L i j :=
 List.map_congr_left fun j hj=>Tc L i j (h j hj)
theorem P3 {L P:Nat}{w xs:List F}{at_:List Nat}(hw:w.length=L) (hp:aj L at_) (hl:at_.length=xs.length) (i:Nat) (h:i<P) :
  EV (KA L P (EN w at_ xs)) i=fa (EV (KA L P w) i) (FT (at_.map fun j=>XH L i j) (G5 w at_ xs)):=by
 show (KA L P (EN w at_ xs))[i]?.getD 0=fa ((KA L P w)[i]?.getD 0) _
 rw[KL _ _ _ _ h,KL _ _ _ _ h,SN (Ri L i) at_ xs w hp.nd hl (fun j hj=>by rw[hw];exact hp.lt j hj) (by rw[Pq];omega),g9 L i at_ hp.lt]
theorem X2 {L P:Nat}{at_:List Nat}{s v:List F}(hv:v.length=at_.length):RK 1 (O' L P at_ s) v↔∀i,i<P->fa (EV s i) (FT (at_.map fun j=>XH L i j) v)=0:=by
 have hl:=(NN L P at_ s).len
 constructor
 ·intro h i hi
  have:=h i (by omega)
  rwa [TU _ _ _ _ _ _ hv i hi,JQ,NM] at this
 ·intro h i hi
  rw[TU _ _ _ _ _ _ hv i (by omega),JQ,NM];exact h i (by omega)
def jt (L P:Nat) (w:List F):Prop:=∀i,i<P->EV (KA L P w) i=0
theorem Om (w:List F):∀(at_:List Nat) (v:List F),at_.length=v.length->G5 w at_ (G5 w at_ v)=v
 |[],[],_=>rfl
 |j::js,x::v,h=>by
  have ih:=Om w js v (by simpa using h)
  show fa (w[j]?.getD 0) (fa (w[j]?.getD 0) x)::G5 w js (G5 w js v)=x::v
  rw[ih,←D4,Fh,JC]
theorem da {L P:Nat}{w r:List F}{mk l:List Nat}(hw:w.length=L) (hp:aj L (mk++l)) (h:hit L P w mk l=some r):jt L P r/\r.length=L/\∀j,j∉mk++l->r[j]?.getD 0=w[j]?.getD 0:=by
 unfold hit at h
 rw[Option.map_eq_some_iff] at h
 obtain⟨v,hv,rfl⟩:=h
 obtain⟨h1,h2⟩:=R1 hv
 refine⟨fun i hi=>?_,by rw[N3];exact hw,fun j hj=>N4 _ _ _ _ hj⟩
 rw[P3 hw hp (by rw[RB _ _ _ h1.symm]) i hi,Om _ _ _ h1.symm]
 exact(X2 h1).1 h2 i hi
theorem Tx:∀(at_:List Nat) (w c:List F),at_.Nodup->c.length=w.length->(∀j,j∈at_->j<w.length)->(∀j,j∉at_->c[j]?.getD 0=w[j]?.getD 0)->EN w at_ (at_.map fun j=>c[j]?.getD 0)=c
 |[],w,c,_,hl,_,h=>by
  rw[N2]
  exact(eH hl fun j _=>h j (by simp)).symm
 |j::js,w,c,hn,hl,hlt,h=>by
  rw[List.nodup_cons] at hn
  show EN (w.set j (c[j]?.getD 0)) js (js.map fun j=>c[j]?.getD 0)=c
  refine Tx js _ c hn.2 (by simpa using hl) (fun k hk=>by simpa using hlt k (by simp[hk])) fun k hk=>?_
  by_cases hkj:k=j
  ·subst hkj
   have:=hlt k (by simp)
   rw[List.getElem?_set_self this];rfl
  ·rw[List.getElem?_set_ne (fun e=>hkj e.symm)]
   exact h k (by simp[hk,hkj])
theorem W2 {L P:Nat}(hL:L<=15) {w c:List F}{mk l:List Nat}(hw:w.length=L) (hc:c.length=L) (hp:aj L (mk++l)) (hm:(mk++l).length<=P) (hcode:jt L P c) (h:∀j,j∉mk++l->c[j]?.getD 0=w[j]?.getD 0):hit L P w mk l=some c:=by
 obtain⟨A,hA⟩:∃A,mk++l=A:=⟨_,rfl⟩
 unfold hit
 rw[hA] at hp hm h ⊢
 obtain⟨ys,hys⟩:∃ys,(A.map fun j=>c[j]?.getD 0)=ys:=⟨_,rfl⟩
 have hyl:A.length=ys.length:=by rw[←hys];simp
 have hc2:EN w A ys=c:=by
  rw[←hys];exact Tx A w c hp.nd (by omega) (fun j hj=>by rw[hw];exact hp.lt j hj) h
 have hal:=RB w A ys hyl
 have hs:Ld L P A (KA L P w)=some (G5 w A ys):=by
  refine R3 hL hp hm hal ((X2 hal).2 fun i hi=>?_)
  rw[←P3 hw hp hyl i hi,hc2]
  exact hcode i hi
 rw[hs,Option.map_some,Om _ _ _ hyl,hc2]
theorem aO {L P:Nat}(hL:L<=15) {c d:List F}{at_:List Nat}(hc:c.length=L) (hd:d.length=L) (hp:aj L at_) (hm:at_.length<=P) (h1:jt L P c) (h2:jt L P d) (h:∀j,j∉at_->c[j]?.getD 0=d[j]?.getD 0):c=d:=by
 have e1:hit L P d [] at_=some c:=W2 hL hd hc (by simpa using hp) (by simpa using hm) h1 (by simpa using h)
 have e2:hit L P d [] at_=some d:=W2 hL hd hd (by simpa using hp) (by simpa using hm) h2 (fun _ _=>rfl)
 rw[e1] at e2
 simpa using e2
def CM (L:Nat) (mk:List Nat):Nat->Nat->List (List Nat)
 |0,_=>[[]]
 |m+1,fr=>((List.range' fr (L-fr)).filter fun j=>!mk.contains j).flatMap fun j=>(CM L mk m (j+1)).map (j :: ·)
structure Sc (L:Nat) (mk:List Nat) (fr:Nat) (l:List Nat):Prop where
 asc:l.Pairwise (· < ·)
 ge:∀j,j∈l->fr<=j
 lt:∀j,j∈l->j<L
 un:∀j,j∈l->j∉mk
theorem IW (L:Nat) (mk:List Nat):∀(m fr:Nat) (l:List Nat),l∈CM L mk m fr->l.length=m/\Sc L mk fr l
 |0,fr,l,h=>by
  simp[CM] at h;subst h
  exact⟨rfl,.nil,by simp,by simp,by simp⟩
 |m+1,fr,l,h=>by
  simp only[CM,List.mem_flatMap,List.mem_filter,List.mem_range'_1,List.mem_map] at h
  obtain⟨j,⟨hj,hjm⟩,l',hl',rfl⟩:=h
  obtain⟨h1,h2⟩:=IW L mk m (j+1) l' hl'
  refine⟨by simp[h1],List.pairwise_cons.2 ⟨fun k hk=>by have:=h2.ge k hk;omega,h2.asc⟩,fun k hk=>?_,fun k hk=>?_,fun k hk=>?_⟩
  ·rcases List.mem_cons.1 hk with rfl|hk
   ·omega
   ·have:=h2.ge k hk;omega
  ·rcases List.mem_cons.1 hk with rfl|hk
   ·omega
   ·exact h2.lt k hk
  ·rcases List.mem_cons.1 hk with rfl|hk
   ·simpa using hjm
   ·exact h2.un k hk
theorem Ua (L:Nat) (mk:List Nat):∀(l:List Nat) (fr:Nat),Sc L mk fr l->l∈CM L mk l.length fr
 |[],fr,_=>by simp[CM]
 |j::l,fr,h=>by
  have h1:=List.pairwise_cons.1 h.asc
  have ih:=Ua L mk l (j+1) ⟨h1.2,fun k hk=>h1.1 k hk,fun k hk=>h.lt k (by simp[hk]),fun k hk=>h.un k (by simp[hk])⟩
  simp only[List.length_cons,CM,List.mem_flatMap,List.mem_filter,List.mem_range'_1,List.mem_map]
  refine⟨j,⟨⟨h.ge j (by simp),?_⟩,?_⟩,l,ih,rfl⟩
  ·have:=h.ge j (by simp);have:=h.lt j (by simp);omega
  ·have:=h.un j (by simp)
   simpa using this
structure ak (L:Nat) (mk:List Nat):Prop where
 asc:mk.Pairwise (· < ·)
 lt:∀j,j∈mk->j<L
theorem GE {l:List Nat}(h:l.Pairwise (· < ·)):l.Nodup:=h.imp fun h=>Nat.ne_of_lt h
theorem S1 {L fr:Nat}{mk l:List Nat}(hm:ak L mk) (h:Sc L mk fr l):aj L (mk++l):=by
 refine⟨List.nodup_append.2 ⟨GE hm.asc,GE h.asc,fun a ha b hb e=>h.un b hb (e ▸ ha)⟩,fun j hj=>?_⟩
 rcases List.mem_append.1 hj with hj|hj
 ·exact hm.lt j hj
 ·exact h.lt j hj
noncomputable def Nf (L P:Nat) (w:List F) (mk:List Nat):Option (List F) :=
 if mk.length<=P then (List.range ((P-mk.length)/2+1)).findSome? fun e=>(CM L mk e 0).findSome? (hit L P w mk) else none
def Re (L:Nat) (a b:List F) (mk:List Nat):List Nat:=(List.range L).filter fun j=>decide (a[j]?.getD 0≠b[j]?.getD 0) && !mk.contains j
theorem TW (L:Nat) (a b:List F) (mk:List Nat):Sc L mk 0 (Re L a b mk):=by
 refine⟨List.Pairwise.filter _ List.pairwise_lt_range,fun _ _=>Nat.zero_le _,fun j hj=>?_,fun j hj=>?_⟩
 ·simp[Re] at hj;exact hj.1
 ·simp[Re] at hj;exact hj.2.2
theorem TX {L:Nat}{a b:List F}{mk:List Nat}(ha:a.length=L) (hb:b.length=L) {j:Nat}(h:j∉mk++Re L a b mk):a[j]?.getD 0=b[j]?.getD 0:=by
 by_cases hj:j<L
 ·simp only[List.mem_append,not_or] at h
  by_cases he:a[j]?.getD 0=b[j]?.getD 0
  ·exact he
  ·exact absurd (by simp[Re,hj,h.1];exact he) h.2
 ·rw[List.getElem?_eq_none (by omega),List.getElem?_eq_none (by omega)]
theorem QT:∀(l k:List Nat),l.Nodup->(∀j,j∈l->j∈k)->l.length<=k.length
 |[],k,_,_=>Nat.zero_le _
 |x::l,k,hn,h=>by
  rw[List.nodup_cons] at hn
  have hx:=h x (by simp)
  have ih:=QT l (k.erase x) hn.2 fun j hj=>(List.mem_erase_of_ne (show j≠x from fun e=>hn.1 (by rw[←e];exact hj))).2 (h j (by simp[hj]))
  rw[List.length_erase_of_mem hx] at ih
  have:0<k.length:=List.length_pos_of_mem hx
  simp only[List.length_cons]
  omega
theorem le {L fr:Nat}{a b:List F}{mk l:List Nat}(hs:Sc L mk fr l) (h:∀j,j∉mk++l->a[j]?.getD 0=b[j]?.getD 0):(Re L a b mk).length<=l.length:=by
 have hsub:∀j,j∈Re L a b mk->j∈l:=fun j hj=>by
  simp[Re] at hj
  by_cases hjl:j∈l
  ·exact hjl
  ·exact absurd (h j (by simp[hj.2.2,hjl])) hj.2.1
 exact QT _ _ (GE (TW L a b mk).asc) hsub
theorem L0 {α β:Type}{f:α->Option β}{l:List α}{r:β}(h:l.findSome? f=some r):∃x,x∈l/\f x=some r:=by
 rw[List.findSome?_eq_some_iff] at h
 obtain⟨l1,a,l2,rfl,h2,_⟩:=h
 exact⟨a,by simp,h2⟩
theorem Ql {L P:Nat}{w r:List F}{mk:List Nat}(hw:w.length=L) (hm:ak L mk) (h:Nf L P w mk=some r) :
  jt L P r/\r.length=L/\2*(Re L r w mk).length+mk.length<=P:=by
 unfold Nf at h
 split at h
 ·rename_i hle
  obtain⟨e,he,h⟩:=L0 h
  obtain⟨l,hl,h⟩:=L0 h
  obtain⟨h1,h2⟩:=IW L mk e 0 l hl
  obtain⟨h3,h4,h5⟩:=da hw (S1 hm h2) h
  refine⟨h3,h4,?_⟩
  have:=le h2 h5
  simp at he
  omega
 ·cases h
theorem lf {L P:Nat}(hL:L<=15) {w c:List F}{mk:List Nat}(hw:w.length=L) (hc:c.length=L) (hm:ak L mk) (hcode:jt L P c) (h:2*(Re L c w mk).length+mk.length<=P):Nf L P w mk=some c:=by
 have hs:=TW L c w mk
 have hp:=S1 hm hs
 have hhit:hit L P w mk (Re L c w mk)=some c:=W2 hL hw hc hp (by simp;omega) hcode fun j hj=>TX hc hw hj
 have hfound:∃r,Nf L P w mk=some r:=by
  unfold Nf
  rw[if_pos (by omega)]
  cases hf:(List.range ((P-mk.length)/2+1)).findSome? fun e=>(CM L mk e 0).findSome? (hit L P w mk) with
  |some r=>exact⟨r,rfl⟩
  |none =>
   rw[List.findSome?_eq_none_iff] at hf
   have h1:=hf (Re L c w mk).length (by simp;omega)
   rw[List.findSome?_eq_none_iff] at h1
   have h2:=h1 _ (Ua L mk _ 0 hs)
   rw[hhit] at h2;cases h2
 obtain⟨r,hr⟩:=hfound
 rw[hr]
 congr 1
 obtain⟨h1,h2,h3⟩:=Ql hw hm hr
 have hs2:=TW L r w mk
 obtain⟨at_,hat⟩:∃at_,mk++((Re L r w mk)++(Re L c w mk).filter fun j=>!(Re L r w mk).contains j)=at_:=⟨_,rfl⟩
 refine aO hL (at_:=at_) h2 hc ?_ ?_ h1 hcode fun j hj=>?_
 ·rw[←hat]
  refine⟨List.nodup_append.2 ⟨GE hm.asc,List.nodup_append.2 ⟨GE hs2.asc,(GE hs.asc).filter _,fun a ha b hb e=>?_⟩,fun a ha b hb e=>?_⟩,fun j hj=>?_⟩
  ·simp at hb;exact hb.2 (e ▸ ha)
  ·subst e
   rcases List.mem_append.1 hb with hb|hb
   ·exact hs2.un a hb ha
   ·exact hs.un a (List.mem_filter.1 hb).1 ha
  ·rcases List.mem_append.1 hj with hj|hj
   ·exact hm.lt j hj
   ·rcases List.mem_append.1 hj with hj|hj
    ·exact hs2.lt j hj
    ·exact hs.lt j (List.mem_filter.1 hj).1
 ·rw[←hat]
  have:=List.length_filter_le (fun j=>!(Re L r w mk).contains j) (Re L c w mk)
  simp only[List.length_append]
  omega
 ·rw[←hat] at hj
  simp only[List.mem_append,not_or,List.mem_filter] at hj
  obtain⟨j1,j2,j3⟩:=hj
  have j4:j∉Re L c w mk:=fun hh=>j3 ⟨hh,by simpa using j2⟩
  exact(TX h2 hw (fun e=>(List.mem_append.1 e).elim j1 j2)).trans (TX hc hw (fun e=>(List.mem_append.1 e).elim j1 j4)).symm
section
abbrev U_:Df:=[((900004,0),(900004,0)),((901004,0),(901004,0))]
structure nD (G:List Nat->Option (List F)) (A:List Nat->Prop) (f:FuncId) (cs:List AV):Prop where
 body:Bp E0.P f=true
 st:AV.sites.sitesL cs=[900004,901004]
 nr:∀(V:AJ) (os:List Nat),AV.nrm.live V os 900004 0=true->AV.nrm.live V os 901004 0=true->AV.nrm.nrmL V os cs=cs
 rn:AV.ren.renL U_ cs=some cs
 ar:Ns U_ cs cs
 call:∀(nl:Bool) (l:List Nat) (b:Bool) (o:List F) (fnd:Bool),A l->(nl=true->l=[])->H9 E0 f (vv b o fnd) (.d (.list nl (Aj (ni l)))::cs) (vh b o fnd (G l)) (.d (.bool (G l).isNone))
theorem Q2:Bp E0.P Bt=true:=by kernel_rfl
theorem Wj (b:Bool) (o:List F) (fnd:Bool):PM (vv b o fnd)=true:=by simp[vv,PM,CO,EL,Aa.isHist]
theorem any_cons {α:Type}(l:List α):True:=trivial
theorem Yz (L:Nat) (mk:List Nat) (m j:Nat) (G:List Nat->Option (List F)) (hj:j<L) :
  (CM L mk (m+1) j).findSome? G=if mk.contains j then (CM L mk (m+1) (j+1)).findSome? G else
   ((CM L mk m (j+1)).findSome? fun l=>G (j::l)).or ((CM L mk (m+1) (j+1)).findSome? G):=by
 have hr:List.range' j (L-j)=j::List.range' (j+1) (L-(j+1)):=by
  rw[show L-j=(L-(j+1))+1 by omega,List.range'_succ]
 simp only[CM]
 rw[hr,List.filter_cons]
 cases h:mk.contains j with
 |true=>simp
 |false =>
  simp only[Bool.not_false,if_true,Bool.false_eq_true,if_false,List.flatMap_cons,List.findSome?_append]
  rw[List.findSome?_map];rfl
theorem bV (L:Nat) (mk:List Nat) (m:Nat):CM L mk (m+1) L=[]:=by simp[CM]
theorem bU (L:Nat) (mk:List Nat) (m fr:Nat) (l:List Nat) (h:l∈CM L mk m fr):l.length=m:=(IW L mk m fr l h).1
theorem bT (L:Nat) (mk:List Nat) (m fr j:Nat) (l:List Nat) (hf:fr<=j) (hj:j<L) (hm:mk.contains j=false) (h:l∈CM L mk m (j+1)):j::l∈CM L mk (m+1) fr:=by
 simp only[CM,List.mem_flatMap,List.mem_filter,List.mem_range'_1,List.mem_map]
 exact⟨j,⟨⟨hf,by omega⟩,by simpa using hm⟩,l,h,rfl⟩
theorem lI (mk:List Nat) (j:Nat):iR (ni mk) (j:Int)=mk.contains j:=by
 unfold iR ni
 rw[Bool.eq_iff_iff]
 simp only[List.contains_iff_mem,List.mem_map]
 constructor
 ·rintro⟨k,hk,he⟩
  have:k=j:=by omega
  subst this;exact hk
 ·exact fun h=>⟨j,h,rfl⟩
attribute [local congr] Bh A7 A8 Au Bi Az A1 A0 Ar Ai Ab AZ Aw Ad Ax BF BJ BH BI BG BK BC Ag Ay Ah BA BS Af BD BE BB A_ A' A6 Bj A9 Av Ae
attribute [local irreducible] IntKind.wrap A5 Option.getD and or
theorem Rj {G:List Nat->Option (List F)}{A:List Nat->Prop}{f:FuncId}{cs:List AV}(hY:nD G A f cs) (j:Nat) (nl:Bool) (l:List Nat) (b:Bool) (o:List F) (fnd:Bool) (hA:A (j::l)) (hll:l.length<=100) :
  H9 E0 Bt (vv b o fnd) [.d (.list nl (Aj (ni l))),.ablk false [.fn f cs] 0,.d (.ptr [.int .i64 (j:Int)])] (vh b o fnd (G (j::l))) (.d (.bool (G (j::l)).isNone)):=by
 have c1:=hY.call false (j::l) b o fnd hA (by simp)
 have hst:=hY.st
 have hbody:=hY.body
 have hl:D.int .i64 (j:Int)::Aj (ni l)=Aj (ni (j::l)):=rfl
 have h1:((vv b o fnd).all fun q=>Eu (vh b o fnd (G (j::l))) q.1 q.2.1)=true:=by cases G (j::l)<;>simp[vv,vh,Eu]
 refine Da HM Aq (by simp) (Wj b o fnd) h1 fun hwf hwo=>?_
 rw[ED];unfold Ek
 unfold vv at c1 ⊢
 have har:Ns U_ (.d (.list false (Aj (ni (j::l))))::cs) (.d (.list false (Aj (ni (j::l))))::cs):=⟨rfl,hY.ar⟩
 cases hg:G (j::l) with
 |none =>
  rw[hg,JG] at c1
  rw[JG]
  unfold vv at c1 ⊢
  (try (simp -implicitDefEqProofs only[go_sem,hst,hbody,hl,HI]));repeat' first|(with_reducible first|exact tI|refine aI ?_ ?_|intro _)|((first|with_reducible refine AM ?_ ?_<;>intro _)<;>try (simp -implicitDefEqProofs only[go_sem,hst,hbody,hl,HI]))|simp (disch:=omega) only[An]
  all_goals first|omega|(simp;done)|(simp;omega)|skip
  refine Ex U_ U_ c1 har (by simp[Handed,Df.get,Aa.ren,AV.ren,AV.ren.renL,AJ.get,BW,B6,Dv,AJ.reach,AV.sites,AV.sites.sitesL,AJ.osites,hst]) (by simp[CL,Eu,CO,Df.get,Dv,EL,CF]) (by rfl) (by simp only[Dw,Df.get,Aa.ren,AV.ren,AV.ren.renL,and_self,and_true,true_and,if_true,reduceIte];rfl) ?_
  (try (simp -implicitDefEqProofs only[go_sem,hst,HI]));repeat' first|(with_reducible first|exact tI|refine aI ?_ ?_|intro _)|((first|with_reducible refine AM ?_ ?_<;>intro _)<;>try (simp -implicitDefEqProofs only[go_sem,hst,HI]))|simp (disch:=omega) only[An]
  all_goals first|omega|(simp;done)|(simp;omega)|skip
  all_goals first|rfl|skip
 |some z =>
  rw[hg,JF] at c1
  rw[JF]
  unfold vv at c1 ⊢
  (try (simp -implicitDefEqProofs only[go_sem,hst,hbody,hl,HI]));repeat' first|(with_reducible first|exact tI|refine aI ?_ ?_|intro _)|((first|with_reducible refine AM ?_ ?_<;>intro _)<;>try (simp -implicitDefEqProofs only[go_sem,hst,hbody,hl,HI]))|simp (disch:=omega) only[An]
  all_goals first|omega|(simp;done)|(simp;omega)|skip
  refine Ex U_ U_ c1 har (by simp[Handed,Df.get,Aa.ren,AV.ren,AV.ren.renL,AJ.get,BW,B6,Dv,AJ.reach,AV.sites,AV.sites.sitesL,AJ.osites,hst]) (by simp[CL,Eu,CO,Df.get,Dv,EL,CF]) (by rfl) (by simp only[Dw,Df.get,Aa.ren,AV.ren,AV.ren.renL,and_self,and_true,true_and,if_true,reduceIte];rfl) ?_
  (try (simp -implicitDefEqProofs only[go_sem,hst,HI]));repeat' first|(with_reducible first|exact tI|refine aI ?_ ?_|intro _)|((first|with_reducible refine AM ?_ ?_<;>intro _)<;>try (simp -implicitDefEqProofs only[go_sem,hst,HI]))|simp (disch:=omega) only[An]
  all_goals first|omega|(simp;done)|(simp;omega)|skip
  all_goals first|rfl|skip
theorem am {G:List Nat->Option (List F)}{A:List Nat->Prop}{f:FuncId}{cs:List AV}(hY:nD G A f cs) (j:Nat) :
  nD (fun l=>G (j::l)) (fun l=>A (j::l)/\l.length<=100) Bt [.ablk false [.fn f cs] 0,.d (.ptr [.int .i64 (j:Int)])] :=
 ⟨Q2,by simp[AV.sites,AV.sites.sitesL,hY.st],fun V os h1 h2=>by simp[AV.nrm,AV.nrm.nrmL,hY.nr V os h1 h2,AV.one],by simp[AV.ren,AV.ren.renL,hY.rn],
  ⟨by simp[jR,AV.ren,AV.ren.renL,hY.rn],rfl,trivial⟩,fun nl l b o fnd hA _=>Rj hY j nl l b o fnd hA.1 hA.2⟩
theorem PB (L P:Nat) (n:Bool) (mk:List Nat) (hL:L<=15):∀(m fr:Nat) {G:List Nat->Option (List F)}{A:List Nat->Prop}{f:FuncId}{cs:List AV}(hY:nD G A f cs) (hA:∀l,l∈CM L mk m fr->A l) (hfr:fr<=L) (hm:m<=50) (b:Bool) (o:List F) (fnd:Bool),
  H9 E0 Fr (vv b o fnd) [.d (Td L P),.d (.list n (Aj (ni mk))),.d (.int .i64 (fr:Int)),.d (.int .i64 (m:Int)),.fn f cs] (vh b o fnd ((CM L mk m fr).findSome? G)) (.d (.bool ((CM L mk m fr).findSome? G).isNone))
 |0,fr,G,A,f,cs,hY,hA,hfr,hm,b,o,fnd=>by
  have e0:(CM L mk 0 fr).findSome? G=G []:=by simp[CM]
  rw[e0]
  have c1:=hY.call true [] b o fnd (hA [] (by simp[CM])) (fun _=>rfl)
  rw[show Aj (ni [])=[] from rfl] at c1
  have hst:=hY.st
  have hbody:=hY.body
  have h1:((vv b o fnd).all fun q=>Eu (vh b o fnd (G [])) q.1 q.2.1)=true:=by cases G []<;>simp[vv,vh,Eu]
  refine Da E9 Aq (by simp) (Wj b o fnd) h1 fun hwf hwo=>?_
  rw[ED];unfold Dm
  have har:Ns U_ (.d (.list true [])::cs) (.d (.list true [])::cs):=⟨rfl,hY.ar⟩
  have hz0:((0:Nat):Int)=0:=rfl
  cases hg:G [] with
  |none =>
   rw[hg,JG] at c1
   rw[JG]
   unfold vv at c1 ⊢
   (try (simp -implicitDefEqProofs only[go_sem,hst,hbody,B0,hz0]));repeat' first|(with_reducible first|exact tI|refine aI ?_ ?_|intro _)|((first|with_reducible refine AM ?_ ?_<;>intro _)<;>try (simp -implicitDefEqProofs only[go_sem,hst,hbody,B0,hz0]))|simp (disch:=omega) only[An]|((with_reducible refine Ao ?_);refine⟨_,rfl,?_,?_⟩)
   all_goals first|omega|(simp;done)|(simp;omega)|skip
   refine Ex U_ U_ c1 har (by simp[Handed,Df.get,Aa.ren,AV.ren,AV.ren.renL,AJ.get,BW,B6,Dv,AJ.reach,AV.sites,AV.sites.sitesL,AJ.osites,hst]) (by simp[CL,Eu,CO,Df.get,Dv,EL,CF]) (by rfl) (by simp only[Dw,Df.get,Aa.ren,AV.ren,AV.ren.renL,and_self,and_true,true_and,if_true,reduceIte];rfl) ?_
   (try (simp -implicitDefEqProofs only[go_sem,hst]));repeat' first|(with_reducible first|exact tI|refine aI ?_ ?_|intro _)|((first|with_reducible refine AM ?_ ?_<;>intro _)<;>try (simp -implicitDefEqProofs only[go_sem,hst]))|simp (disch:=omega) only[An]|((with_reducible refine Ao ?_);refine⟨_,rfl,?_,?_⟩)
   all_goals first|omega|(simp;done)|(simp;omega)|skip
   all_goals first|rfl|skip
  |some z =>
   rw[hg,JF] at c1
   rw[JF]
   unfold vv at c1 ⊢
   (try (simp -implicitDefEqProofs only[go_sem,hst,hbody,B0,hz0]));repeat' first|(with_reducible first|exact tI|refine aI ?_ ?_|intro _)|((first|with_reducible refine AM ?_ ?_<;>intro _)<;>try (simp -implicitDefEqProofs only[go_sem,hst,hbody,B0,hz0]))|simp (disch:=omega) only[An]|((with_reducible refine Ao ?_);refine⟨_,rfl,?_,?_⟩)
   all_goals first|omega|(simp;done)|(simp;omega)|skip
   refine Ex U_ U_ c1 har (by simp[Handed,Df.get,Aa.ren,AV.ren,AV.ren.renL,AJ.get,BW,B6,Dv,AJ.reach,AV.sites,AV.sites.sitesL,AJ.osites,hst]) (by simp[CL,Eu,CO,Df.get,Dv,EL,CF]) (by rfl) (by simp only[Dw,Df.get,Aa.ren,AV.ren,AV.ren.renL,and_self,and_true,true_and,if_true,reduceIte];rfl) ?_
   (try (simp -implicitDefEqProofs only[go_sem,hst]));repeat' first|(with_reducible first|exact tI|refine aI ?_ ?_|intro _)|((first|with_reducible refine AM ?_ ?_<;>intro _)<;>try (simp -implicitDefEqProofs only[go_sem,hst]))|simp (disch:=omega) only[An]|((with_reducible refine Ao ?_);refine⟨_,rfl,?_,?_⟩)
   all_goals first|omega|(simp;done)|(simp;omega)|skip
   all_goals first|rfl|skip
 |m+1,fr,G,A,f,cs,hY,hA,hfr,hm,b,o,fnd=>by
  have hst:=hY.st
  have hnr:=hY.nr
  have h1:((vv b o fnd).all fun q=>Eu (vh b o fnd ((CM L mk (m+1) fr).findSome? G)) q.1 q.2.1)=true:=by cases (CM L mk (m+1) fr).findSome? G<;>simp[vv,vh,Eu]
  refine Da E9 Aq (by simp) (Wj b o fnd) h1 fun hwf hwo=>?_
  rw[ED];unfold Dm
  have hz0:¬((m+1:Nat):Int)=0:=by omega
  have hwm:IntKind.i64.wrap (((m+1:Nat):Int)-1)=(m:Int):=by rw[Ak _ (by omega)];omega
  unfold vv
  (try (simp -implicitDefEqProofs only[go_sem,hst,hnr,B0,hz0]));repeat' first|(with_reducible first|exact tI|refine aI ?_ ?_|intro _)|((first|with_reducible refine AM ?_ ?_<;>intro _)<;>try (simp -implicitDefEqProofs only[go_sem,hst,hnr,B0,hz0]))|simp (disch:=omega) only[An]|((with_reducible refine Ao ?_);refine⟨_,rfl,?_,?_⟩)
  all_goals first|omega|(simp;done)|(simp;omega)|skip
  refine AY (α:=Nat) (l0:=?l1) (m0:=?m1) (fun x=>[]) (fun x=>[(11,.cells [.d (.int .i64 (x:Int))])]) (fun x=>fr<=x/\x<=L/\(CM L mk (m+1) x).findSome? G=(CM L mk (m+1) fr).findSome? G) (fun x=>L-x) fr ?h01 ?he1 ?he21 ?hI1 ?step1
  case h01=>(simp -implicitDefEqProofs only[go_sem,hst,hnr];rfl)
  case he1=>rfl
  case he21=>rfl
  case' step1=>(rintro j hI;try dsimp only at hI)
  case' hI1=>try dsimp only
  ·exact⟨by omega,hfr,rfl⟩
  ·obtain⟨j1,j2,j3⟩:=hI
   by_cases hj:j<L
   ·have hj':(j:Int)<(L:Int):=by omega
    have hwj:IntKind.i64.wrap ((j:Int)+1)=((j+1:Nat):Int):=by rw[Ak _ (by omega)];omega
    have c0:=Oq n (ni mk) (j:Int)
    rw[lI] at c0
    have hnx:=Yz L mk m j G hj
    cases hc:mk.contains j with
    |true =>
     rw[hc] at c0 hnx
     rw[if_pos rfl] at hnx
     have hfin:(CM L mk (m+1) (j+1)).findSome? G=(CM L mk (m+1) fr).findSome? G:=by rw[←j3,hnx]
     (try (simp -implicitDefEqProofs only[go_sem,hst,hnr,hj',hwj]));repeat' first|(with_reducible first|exact tI|refine aI ?_ ?_|intro _)|((first|with_reducible refine AM ?_ ?_<;>intro _|(with_reducible refine isCall ?_);first|refine AE c0 ?_)<;>try (simp -implicitDefEqProofs only[go_sem,hst,hnr,hj',hwj]))|simp (disch:=omega) only[An]|((with_reducible refine Ao ?_);refine⟨_,rfl,?_,?_⟩)
     all_goals first|omega|(simp;done)|(simp;omega)|skip
     all_goals first|exact hfin|skip
    |false =>
     rw[hc] at c0 hnx
     simp only[Bool.false_eq_true,if_false] at hnx
     have hYn:=am hY j
     have hlen:∀l,l∈CM L mk m (j+1)->l.length<=100:=fun l hl=>by rw[bU L mk m (j+1) l hl];omega
     have ih:=PB L P n mk hL m (j+1) hYn (fun l hl=>⟨hA _ (bT L mk m fr j l j1 hj hc hl),hlen l hl⟩) (by omega) (by omega) b o fnd
     have har:Ns U_ [.d (Td L P),.d (.list n (Aj (ni mk))),.d (.int .i64 ((j+1:Nat):Int)),.d (.int .i64 (m:Int)),.fn Bt [.ablk false [.fn f cs] 0,.d (.ptr [.int .i64 (j:Int)])]] [.d (Td L P),.d (.list n (Aj (ni mk))),.d (.int .i64 ((j+1:Nat):Int)),.d (.int .i64 (m:Int)),.fn Bt [.ablk false [.fn f cs] 0,.d (.ptr [.int .i64 (j:Int)])]] :=
      ⟨rfl,rfl,rfl,rfl,by simp[jR,AV.ren,AV.ren.renL,hY.rn],trivial⟩
     cases hr:(CM L mk m (j+1)).findSome? fun l=>G (j::l) with
     |none =>
      rw[hr] at ih hnx
      have hfin:(CM L mk (m+1) (j+1)).findSome? G=(CM L mk (m+1) fr).findSome? G:=by rw[←j3,hnx];rfl
      rw[JG,Option.isNone_none] at ih
      rw[B0] at ih har
      unfold vv at ih
      (try (simp -implicitDefEqProofs only[go_sem,hst,hnr,hj',hwj,hwm]));repeat' first|(with_reducible first|exact tI|refine aI ?_ ?_|intro _)|((first|with_reducible refine AM ?_ ?_<;>intro _|(with_reducible refine isCall ?_);first|refine AE c0 ?_)<;>try (simp -implicitDefEqProofs only[go_sem,hst,hnr,hj',hwj,hwm]))|simp (disch:=omega) only[An]|((with_reducible refine Ao ?_);refine⟨_,rfl,?_,?_⟩)
      all_goals first|omega|(simp;done)|(simp;omega)|skip
      refine Ex U_ U_ ih har (by simp[Handed,Df.get,Aa.ren,AV.ren,AV.ren.renL,AJ.get,BW,B6,Dv,AJ.reach,AV.sites,AV.sites.sitesL,AJ.osites,hst]) (by simp[CL,Eu,CO,Df.get,Dv,EL,CF]) (by rfl) (by simp only[Dw,Df.get,Aa.ren,AV.ren,AV.ren.renL,and_self,and_true,true_and,if_true,reduceIte];rfl) ?_
      (try (simp -implicitDefEqProofs only[go_sem,hst,hnr,hwj]));repeat' first|(with_reducible first|exact tI|refine aI ?_ ?_|intro _)|((first|with_reducible refine AM ?_ ?_<;>intro _)<;>try (simp -implicitDefEqProofs only[go_sem,hst,hnr,hwj]))|simp (disch:=omega) only[An]|((with_reducible refine Ao ?_);refine⟨_,rfl,?_,?_⟩)
      all_goals first|omega|(simp;done)|(simp;omega)|skip
      all_goals first|exact hfin|skip
     |some z =>
      rw[hr] at ih hnx
      have hfin:(CM L mk (m+1) fr).findSome? G=some z:=by rw[←j3,hnx];rfl
      rw[hfin,JF]
      rw[JF,Option.isNone_some] at ih
      rw[B0] at ih har
      unfold vv at ih ⊢
      (try (simp -implicitDefEqProofs only[go_sem,hst,hnr,hj',hwj,hwm]));repeat' first|(with_reducible first|exact tI|refine aI ?_ ?_|intro _)|((first|with_reducible refine AM ?_ ?_<;>intro _|(with_reducible refine isCall ?_);first|refine AE c0 ?_)<;>try (simp -implicitDefEqProofs only[go_sem,hst,hnr,hj',hwj,hwm]))|simp (disch:=omega) only[An]|((with_reducible refine Ao ?_);refine⟨_,rfl,?_,?_⟩)
      all_goals first|omega|(simp;done)|(simp;omega)|skip
      refine Ex U_ U_ ih har (by simp[Handed,Df.get,Aa.ren,AV.ren,AV.ren.renL,AJ.get,BW,B6,Dv,AJ.reach,AV.sites,AV.sites.sitesL,AJ.osites,hst]) (by simp[CL,Eu,CO,Df.get,Dv,EL,CF]) (by rfl) (by simp only[Dw,Df.get,Aa.ren,AV.ren,AV.ren.renL,and_self,and_true,true_and,if_true,reduceIte];rfl) ?_
      (try (simp -implicitDefEqProofs only[go_sem,hst,hnr,hwj]));repeat' first|(with_reducible first|exact tI|refine aI ?_ ?_|intro _)|((first|with_reducible refine AM ?_ ?_<;>intro _)<;>try (simp -implicitDefEqProofs only[go_sem,hst,hnr,hwj]))|simp (disch:=omega) only[An]|((with_reducible refine Ao ?_);refine⟨_,rfl,?_,?_⟩)
      all_goals first|omega|(simp;done)|(simp;omega)|skip
      all_goals first|rfl|skip
   ·have hj':¬(j:Int)<(L:Int):=by omega
    have hje:j=L:=by omega
    subst hje
    have hfin:(CM j mk (m+1) fr).findSome? G=none:=by rw[←j3,bV];rfl
    rw[hfin,JG]
    unfold vv
    (try (simp -implicitDefEqProofs only[go_sem,hst,hnr,hj']));repeat' first|(with_reducible first|exact tI|refine aI ?_ ?_|intro _)|((first|with_reducible refine AM ?_ ?_<;>intro _)<;>try (simp -implicitDefEqProofs only[go_sem,hst,hnr,hj']))|simp (disch:=omega) only[An]|((with_reducible refine Ao ?_);refine⟨_,rfl,?_,?_⟩)
    all_goals first|omega|(simp;done)|(simp;omega)|skip
    all_goals first|rfl|skip
end
section
def decR (o:Option (List F)):D:=match o with
 |some r=>.tup [.list false (us r),.bool true]
 |none=>.tup [.list true [],.bool false]
theorem SP (v:List F):decR (some v)=.tup [.list false (us v),.bool true]:=rfl
theorem SQ:decR none=.tup [.list true [],.bool false]:=rfl
theorem Rl:Bp E0.P Ct=true:=by kernel_rfl
theorem Kt {β:Type}{f:Nat->Option β}{e:Nat}{r:β}(h:∀i,i<e->f i=none) (he:f e=some r):∀N,e<N->(List.range N).findSome? f=some r
 |0,hN=>by omega
 |N+1,hN=>by
  rw[List.range_succ,List.findSome?_append]
  by_cases h2:e<N
  ·rw[Kt h he N h2];rfl
  ·have:e=N:=by omega
   subst this
   have hn:(List.range e).findSome? f=none:=by
    rw[List.findSome?_eq_none_iff];exact fun i hi=>h i (by simpa using hi)
   rw[hn]
   simp[he]
noncomputable def aK (L P:Nat) (w:List F) (mk:List Nat) (e:Nat):Option (List F):=(CM L mk e 0).findSome? (hit L P w mk)
theorem i_ {L P:Nat}{w r:List F}{mk:List Nat}{e:Nat}(h:∀i,i<e->aK L P w mk i=none) (he:aK L P w mk e=some r) (hb:2*e+mk.length<=P):Nf L P w mk=some r:=by
 unfold Nf
 rw[if_pos (by omega)]
 exact Kt h he _ (by omega)
theorem ed {L P:Nat}{w:List F}{mk:List Nat}{e:Nat}(h:∀i,i<e->aK L P w mk i=none) (hb:¬2*e+mk.length<=P):Nf L P w mk=none:=by
 unfold Nf
 split
 ·rw[List.findSome?_eq_none_iff]
  intro i hi
  simp at hi
  exact h i (by omega)
 ·rfl
theorem fP {L P:Nat}{w:List F}{mk:List Nat}(n2:Bool) (hL:L<=15) (hL1:1<=L) (hP:1<=P) (hP2:P<=15) (hw:w.length=L) (hm:ak L mk) :
  nD (hit L P w mk) (fun l=>Sc L mk 0 l/\2*l.length+mk.length<=P) Ct [.d (.ptr [.list n2 (Aj (ni mk))]),.d (.ptr [.int .i64 L,.int .i64 P]),.d (.ptr [.list false (us (KA L P w))]),.d (.ptr [.list false (us w)]),.ptr 900004 0 0,.ptr 901004 0 0] :=
 ⟨Rl,rfl,fun V os h1 h2=>by simp[AV.nrm,AV.nrm.nrmL,h1,h2],rfl,⟨rfl,rfl,rfl,rfl,rfl,rfl,trivial⟩,fun nl l b o fnd hA _ =>
  TY L P nl n2 false b fnd o w mk l hL hL1 hP hP2 hw (S1 hm hA.1) (by have:=hA.2;simp;omega) rfl⟩
attribute [local congr] Bh A7 A8 Au Bi Az A1 A0 Ar Ai Ab AZ Aw Ad Ax BF BJ BH BI BG BK BC Ag Ay Ah BA BS Af BD BE BB A_ A' A6 Bj A9 Av Ae
attribute [local irreducible] IntKind.wrap A5 Option.getD and or
theorem Md (L P:Nat) (n1 n2:Bool) (w:List F) (mk:List Nat) (hL:L<=15) (hL1:1<=L) (hP:1<=P) (hP2:P<=15) (hw:w.length=L) (hm:ak L mk) (hml:mk.length<=100) (hn1:n1=false) :
  CI E0 F8 [Td L P,.list n1 (us w),.list n2 (Aj (ni mk))] (decR (Nf L P w mk)):=by
 subst hn1
 have c1:=Og L P false w hL hL1 hP hP2 hw
 have hY:=fP (P:=P) n2 hL hL1 hP hP2 hw hm
 refine AK I0 Aq (by simp) fun hwf=>?_
 rw[AW];unfold Fb
 rw[B0] at c1 ⊢
 (try (simp -implicitDefEqProofs only[go_sem]));repeat' first|(with_reducible first|exact tI|refine aI ?_ ?_|intro _)|((first|with_reducible refine AM ?_ ?_<;>intro _|(with_reducible refine isCall ?_);first|refine AE c1 ?_)<;>try (simp -implicitDefEqProofs only[go_sem]))|simp (disch:=omega) only[An]|((with_reducible refine CW ?_);refine⟨(_,_,_,_),rfl,?_,?_⟩)
 all_goals first|omega|(simp;done)|(simp;omega)|skip
 refine AY (α:=Nat×Bool×(List F)×Bool) (l0:=?l1) (m0:=?m1) (fun x=>[(9,.d (.int .i64 (x.1:Int)))]) (fun x=>[(6,.cells [.d (.list x.2.1 (us x.2.2.1))]),(7,.cells [.d (.bool x.2.2.2)])]) (fun x=>x.1<=100/\((x.2.2.2=false/\x.2.1=true/\x.2.2.1=[]/\∀i,i<x.1->aK L P w mk i=none)\/(x.2.2.2=true/\x.2.1=false/\Nf L P w mk=some x.2.2.1))) (fun x=>(if x.2.2.2 then 0 else 101-x.1)) (0,true,[],false) ?h01 ?he1 ?he21 ?hI1 ?step1
 case h01=>(simp -implicitDefEqProofs only[go_sem];rfl)
 case he1=>rfl
 case he21=>rfl
 case' step1=>(rintro⟨e,b,o,fnd⟩ hI;try dsimp only at hI)
 case' hI1=>try dsimp only
 ·exact⟨by omega,.inl ⟨rfl,rfl,rfl,fun i hi=>absurd hi (by omega)⟩⟩
 ·obtain⟨h1,h2⟩:=hI
  have hw2:IntKind.i64.wrap (2*(e:Int))=2*(e:Int):=Ak _ (by omega)
  have hw3:IntKind.i64.wrap (2*(e:Int)+(mk.length:Int))=2*(e:Int)+(mk.length:Int):=Ak _ (by omega)
  have hw4:IntKind.i64.wrap ((e:Int)+1)=((e+1:Nat):Int):=by rw[Ak _ (by omega)];omega
  rcases h2 with⟨rfl,rfl,rfl,h3⟩|⟨rfl,rfl,h3⟩
  ·by_cases hb:2*e+mk.length<=P
   ·have hb':2*(e:Int)+(mk.length:Int)<=(P:Int):=by omega
    have c2:=PB L P n2 mk hL e 0 hY (fun l hl=>⟨(IW L mk e 0 l hl).2,by rw[(IW L mk e 0 l hl).1];exact hb⟩) (by omega) (by omega) true [] false
    rw[show (((0:Nat):Int))=0 from rfl] at c2
    rw[B0] at c2
    obtain⟨R,hR⟩:∃R,aK L P w mk e=R:=⟨_,rfl⟩
    rw[show (CM L mk e 0).findSome? (hit L P w mk)=R from hR] at c2
    cases R with
    |none =>
     rw[JG,Option.isNone_none] at c2
     unfold vv at c2
     have hn:∀i,i<e+1->aK L P w mk i=none:=fun i hi=>by
      rcases Nat.lt_succ_iff_lt_or_eq.1 hi with hi|rfl
      ·exact h3 i hi
      ·exact hR
     (try (simp -implicitDefEqProofs only[go_sem,hw2,hw3,hb',hw4]));repeat' first|(with_reducible first|exact tI|refine aI ?_ ?_|intro _)|((first|with_reducible refine AM ?_ ?_<;>intro _|(with_reducible refine isCall ?_);first|(refine Ex ([((900004,0),(6,0)),((901004,0),(7,0))]) ([((900004,0),(6,0)),((901004,0),(7,0))]) (c2) (by repeat' first|exact True.intro|exact rfl|refine And.intro ?_ ?_) (by simp[Handed,Df.get,Aa.ren,AV.ren,AV.ren.renL,AJ.get,BW,B6,Dv,AJ.reach,AV.sites,AV.sites.sitesL,AJ.osites]) (by simp[CL,Eu,CO,Df.get,Dv,EL,CF]) (by rfl) (by simp only[Dw,Df.get,Aa.ren,AV.ren,AV.ren.renL,and_self,and_true,true_and,if_true,reduceIte];rfl) ?_))<;>try (simp -implicitDefEqProofs only[go_sem,hw2,hw3,hb',hw4]))|simp (disch:=omega) only[An]|((with_reducible refine CW ?_);refine⟨(_,_,_,_),rfl,?_,?_⟩)
     all_goals first|omega|(simp;done)|(simp;omega)|skip
     all_goals first|exact .inl ⟨trivial,trivial,trivial,hn⟩|skip
    |some r =>
     have hfin:=i_ h3 hR hb
     rw[JF,Option.isNone_some] at c2
     unfold vv at c2
     (try (simp -implicitDefEqProofs only[go_sem,hw2,hw3,hb',hw4]));repeat' first|(with_reducible first|exact tI|refine aI ?_ ?_|intro _)|((first|with_reducible refine AM ?_ ?_<;>intro _|(with_reducible refine isCall ?_);first|(refine Ex ([((900004,0),(6,0)),((901004,0),(7,0))]) ([((900004,0),(6,0)),((901004,0),(7,0))]) (c2) (by repeat' first|exact True.intro|exact rfl|refine And.intro ?_ ?_) (by simp[Handed,Df.get,Aa.ren,AV.ren,AV.ren.renL,AJ.get,BW,B6,Dv,AJ.reach,AV.sites,AV.sites.sitesL,AJ.osites]) (by simp[CL,Eu,CO,Df.get,Dv,EL,CF]) (by rfl) (by simp only[Dw,Df.get,Aa.ren,AV.ren,AV.ren.renL,and_self,and_true,true_and,if_true,reduceIte];rfl) ?_))<;>try (simp -implicitDefEqProofs only[go_sem,hw2,hw3,hb',hw4]))|simp (disch:=omega) only[An]|((with_reducible refine CW ?_);refine⟨(_,_,_,_),rfl,?_,?_⟩)
     all_goals first|omega|(simp;done)|(simp;omega)|skip
     all_goals first|exact .inr ⟨trivial,trivial,hfin⟩|skip
   ·have hb':¬2*(e:Int)+(mk.length:Int)<=(P:Int):=by omega
    rw[ed h3 hb,SQ]
    (try (simp -implicitDefEqProofs only[go_sem,hw2,hw3,hb',hw4]));repeat' first|(with_reducible first|exact tI|refine aI ?_ ?_|intro _)|((first|with_reducible refine AM ?_ ?_<;>intro _)<;>try (simp -implicitDefEqProofs only[go_sem,hw2,hw3,hb',hw4]))|simp (disch:=omega) only[An]|((with_reducible refine CW ?_);refine⟨(_,_,_,_),rfl,?_,?_⟩)
    all_goals first|omega|(simp;done)|(simp;omega)|skip
    all_goals first|rfl|skip
  ·rw[h3,SP]
   (try (simp -implicitDefEqProofs only[go_sem,hw2,hw3,hw4]));repeat' first|(with_reducible first|exact tI|refine aI ?_ ?_|intro _)|((first|with_reducible refine AM ?_ ?_<;>intro _)<;>try (simp -implicitDefEqProofs only[go_sem,hw2,hw3,hw4]))|simp (disch:=omega) only[An]|((with_reducible refine CW ?_);refine⟨(_,_,_,_),rfl,?_,?_⟩)
   all_goals first|omega|(simp;done)|(simp;omega)|skip
   all_goals first|rfl|skip
end
theorem eh (n i:Nat):Ri (n+1) i=gp (i*n)::Ri n i:=by
 unfold Ri
 rw[List.range_succ_eq_map,List.map_cons,List.map_map]
 congr 1
 apply List.map_congr_left
 intro j hj
 show XH (n+1) i (j+1)=XH n i j
 unfold XH
 rw[show n+1-1-(j+1)=n-1-j by omega]
def MQ (i:Nat) (w:List F):F:=FT w (Ri w.length i)
theorem eN (i:Nat):MQ i []=0:=rfl
theorem Pn (i:Nat) (y:F) (ys:List F):MQ i (y::ys)=fa (fm y (gp (i*ys.length))) (MQ i ys):=by
 show FT (y::ys) (Ri (ys.length+1) i)=_
 rw[eh];rfl
theorem lV (i:Nat) (l:List F) (o:Nat) (y:F) (h:o<l.length):MQ i (l.set o y)=fa (MQ i l) (fm (fa (l[o]?.getD 0) y) (gp (i*(l.length-1-o)))):=by
 unfold MQ
 rw[List.length_set,TT y l _ o h (by rw[Pq];omega),Tc _ _ _ h];rfl
def Cy:List F->Nat->F->List F->List F
 |l,o,b,[]=>l
 |l,o,b,y::ys=>Cy (l.set o (fa (l[o]?.getD 0) (fm b y))) (o+1) b ys
theorem I6:∀(g l:List F) (o:Nat) (b:F),(Cy l o b g).length=l.length
 |[],l,o,b=>rfl
 |y::ys,l,o,b=>by show (Cy _ (o+1) b ys).length=_;rw[I6 ys];simp
theorem RE (y:F):∀(g l:List F) (o:Nat) (b:F),Cy l o b (g++[y])=(Cy l o b g).set (o+g.length) (fa ((Cy l o b g)[o+g.length]?.getD 0) (fm b y))
 |[],l,o,b=>rfl
 |z::zs,l,o,b=>by
  show Cy _ (o+1) b (zs++[y])=_
  rw[RE y zs]
  show _=(Cy (l.set o (fa (l[o]?.getD 0) (fm b z))) (o+1) b zs).set (o+(zs.length+1)) (fa ((Cy (l.set o (fa (l[o]?.getD 0) (fm b z))) (o+1) b zs)[o+(zs.length+1)]?.getD 0) (fm b y))
  rw[show o+1+zs.length=o+(zs.length+1) by omega]
theorem RF (j:Nat):∀(g l:List F) (o:Nat) (b:F),j<o->(Cy l o b g)[j]?.getD 0=l[j]?.getD 0
 |[],l,o,b,_=>rfl
 |y::ys,l,o,b,h=>by
  show (Cy _ (o+1) b ys)[j]?.getD 0=_
  rw[RF j ys _ (o+1) b (by omega),List.getElem?_set_ne (by omega)]
theorem Qg (i:Nat):∀(g l:List F) (o:Nat) (b:F),o+g.length<=l.length->MQ i (Cy l o b g)=fa (MQ i l) (fm (fm b (MQ i g)) (gp (i*(l.length-o-g.length))))
 |[],l,o,b,h=>by show MQ i l=_;rw[eN,Dj,CZ,C3]
 |y::ys,l,o,b,h=>by
  simp only[List.length_cons] at h
  show MQ i (Cy _ (o+1) b ys)=_
  rw[Qg i ys _ (o+1) b (by rw[List.length_set];omega),lV i l o _ (by omega),Pn,List.length_set,List.length_cons]
  rw[←D4 (l[o]?.getD 0),Fh,JC,Lz,D4]
  congr 1
  have e1:l.length-1-o=ys.length+(l.length-o-(ys.length+1)):=by omega
  have e2:l.length-(o+1)-ys.length=l.length-o-(ys.length+1):=by omega
  rw[e1,e2,Nat.mul_add,W4,Dk (fa _ _),Lz,Dk (gp (i*(l.length-o-(ys.length+1)))),Dk (gp (i*(l.length-o-(ys.length+1))))]
  simp only[Fg]
theorem Qd (i:Nat):∀a:List F,MQ i (a++[0])=fm (MQ i a) (gp i)
 |[]=>by
  show MQ i [0]=_
  rw[Pn,CZ,eN,CZ,C3]
 |y::ys=>by
  show MQ i (y::(ys++[0]))=_
  rw[Pn,Pn,Qd i ys,List.length_append,List.length_singleton,Nat.mul_add,Nat.mul_one,W4,Dk (fa _ _),Lz,Dk (gp i) (MQ i ys),Dk (gp i) (fm y _),Fg]
theorem ip (i:Nat) (a:List F) (h:MQ i a=0):∀n,MQ i (a++List.replicate n 0)=0
 |0=>by simpa using h
 |n+1=>by rw[List.replicate_succ',←List.append_assoc,Qd,ip i a h n,CZ]
def Ix:Nat->List F
 |0=>[1]
 |i+1=>Cy (Ix i++[0]) 1 (gp i) (Ix i)
theorem Kz:∀i,(Ix i).length=i+1
 |0=>rfl
 |i+1=>by show (Cy (Ix i++[0]) 1 (gp i) (Ix i)).length=_;rw[I6];simp[Kz i]
theorem ec:∀i,(Ix i)[0]?.getD 0=1
 |0=>rfl
 |i+1=>by
  show (Cy (Ix i++[0]) 1 (gp i) (Ix i))[0]?.getD 0=1
  rw[RF 0 _ _ 1 _ (by omega),List.getElem?_append_left (by rw[Kz];omega),ec i]
theorem eQ (r:Nat):∀i,r<i->MQ r (Ix i)=0
 |0,h=>by omega
 |i+1,h=>by
  show MQ r (Cy (Ix i++[0]) 1 (gp i) (Ix i))=0
  rw[Qg r _ _ _ _ (by simp;omega),Qd,List.length_append,Kz]
  rw[show i+1+([(0:F)]).length-1-(i+1)=0 by simp,Nat.mul_zero,YO,JQ,Dk (gp i)]
  by_cases hr:r<i
  ·rw[eQ r i hr,CZ,CZ,C3]
  ·have:r=i:=by omega
   subst this
   rw[Fh]
def GM (g d:List F) (P:Nat):Nat->List F
 |0=>d++List.replicate P 0
 |i+1=>Cy (GM g d P i) i ((GM g d P i)[i]?.getD 0) g
theorem G8 (g d:List F) (P:Nat):∀i,(GM g d P i).length=d.length+P
 |0=>by simp[GM]
 |i+1=>by show (Cy _ _ _ _).length=_;rw[I6,G8 g d P i]
theorem X8 (g d:List F) (P:Nat) (hg:g[0]?.getD 0=1):∀i,i<=d.length->∀j,j<i->(GM g d P i)[j]?.getD 0=0
 |0,_,j,hj=>by omega
 |i+1,hi,j,hj=>by
  show (Cy (GM g d P i) i ((GM g d P i)[i]?.getD 0) g)[j]?.getD 0=0
  cases g with
  |nil=>exact absurd hg (by decide)
  |cons y ys =>
   have hy:y=1:=by simpa using hg
   subst hy
   show (Cy ((GM (1::ys) d P i).set i _) (i+1) _ ys)[j]?.getD 0=0
   rw[RF j _ _ _ _ (by omega)]
   by_cases h:j=i
   ·subst h
    rw[JQ,Fh,List.getElem?_set_self (by rw[G8];omega)];rfl
   ·rw[List.getElem?_set_ne (fun e=>h e.symm)]
    exact X8 (1::ys) d P rfl i (by omega) j (by omega)
theorem YQ (r:Nat) (g d:List F) (P:Nat) (hg:MQ r g=0) (hl:g.length=P+1):∀i,i<=d.length->MQ r (GM g d P i)=MQ r (d++List.replicate P 0)
 |0,_=>rfl
 |i+1,hi=>by
  show MQ r (Cy _ _ _ _)=_
  rw[Qg r _ _ _ _ (by rw[G8];omega),hg,Dj,CZ,C3]
  exact YQ r g d P hg hl i (by omega)
def IB (P:Nat) (d:List F):List F:=d++(GM (Ix P) d P d.length).drop d.length
theorem Iw (P:Nat) (d:List F):(IB P d).length=d.length+P:=by
 unfold IB;rw[List.length_append,List.length_drop,G8];omega
theorem lh (L P:Nat) (w:List F) (hw:w.length=L):jt L P w↔∀i,i<P->MQ i w=0:=by
 subst hw
 constructor
 ·intro h i hi
  have:=h i hi
  rwa [show EV (KA w.length P w) i=FT w (Ri w.length i) from KL _ _ _ _ hi] at this
 ·intro h i hi
  rw[show EV (KA w.length P w) i=FT w (Ri w.length i) from KL _ _ _ _ hi]
  exact h i hi
theorem eU (P:Nat) (d:List F):jt (d.length+P) P (IB P d):=by
 rw[lh _ _ _ (Iw P d)]
 intro i hi
 obtain⟨R,hR⟩:∃R,GM (Ix P) d P d.length=R:=⟨_,rfl⟩
 have hl:R.length=d.length+P:=by rw[←hR];exact G8 _ _ _ _
 have h0:∀j,j<d.length->R[j]?.getD 0=0:=by rw[←hR];exact X8 _ _ _ (ec P) _ (Nat.le_refl _)
 have he:MQ i R=MQ i (d++List.replicate P 0):=by rw[←hR];exact YQ i _ _ _ (eQ i P hi) (Kz P) _ (Nat.le_refl _)
 have hlen:(d++List.replicate P (0:F)).length=R.length:=by simp[hl]
 have hE:IB P d=GZ (d++List.replicate P 0) R 1:=by
  apply eH
  ·rw[Iw,Nu _ _ _ hlen];simp
  ·intro j hj
   rw[Iw] at hj
   show (IB P d)[j]?.getD 0=(GZ (d++List.replicate P 0) R 1)[j]?.getD 0
   rw[show (GZ (d++List.replicate P 0) R 1)[j]?.getD 0=fa ((d++List.replicate P (0:F))[j]?.getD 0) (fm (R[j]?.getD 0) 1) from Nr _ _ _ _ hlen]
   unfold IB
   rw[hR,JQ]
   by_cases h:j<d.length
   ·rw[List.getElem?_append_left h,List.getElem?_append_left h,h0 j h,C3]
   ·rw[List.getElem?_append_right (by omega),List.getElem?_append_right (by omega),List.getElem?_drop,List.getElem?_replicate,if_pos (by omega),show d.length+(j-d.length)=j by omega]
    exact(JC _).symm
 rw[hE]
 unfold MQ
 have h2:(GZ (d++List.replicate P 0) R 1).length=(d++List.replicate P (0:F)).length:=by rw[Nu _ _ _ hlen]
 rw[h2,NO _ _ _ _ hlen]
 have h3:MQ i (d++List.replicate P (0:F))=FT (d++List.replicate P (0:F)) (Ri (d++List.replicate P (0:F)).length i):=rfl
 have h4:MQ i R=FT R (Ri (d++List.replicate P (0:F)).length i):=by unfold MQ;rw[hlen]
 rw[←h3,←h4,he,S_,Fh]
end Go.Pw
