/- A part of the proof. -/
import Derived.Test.YtibkjeolahobbaaGreatDoorPgChrH
set_option linter.all false
section
namespace Go.Pw
theorem Ua (x:F):∀(w c:List F) (j:Nat),j<w.length->w.length<=c.length->Fh (w.set j x) c=fa (Fh w c) (fm (fa (w[j]?.getD 0) x) (c[j]?.getD 0))
 |a::w,b::c,0,_,_=>by
  show fa (fm x b) (Fh w c)=fa (fa (fm a b) (Fh w c)) (fm (fa a x) b)
  rw[mC,Nw (fm a b) (Fh w c),EK,←EK (fm a b),Fu,JZ,Nw]
 |a::w,b::c,j+1,h,hl=>by
  have ih:=Ua x w c j (by simpa using h) (by simpa using hl)
  show fa (fm a b) (Fh (w.set j x) c)=fa (fa (fm a b) (Fh w c)) (fm (fa (w[j]?.getD 0) x) (c[j]?.getD 0))
  rw[ih,EK]
theorem XB (w:List F) (j:Nat) (x:F):∀(js:List Nat) (xs:List F),j∉js->HF (w.set j x) js xs=HF w js xs
 |[],xs,_=>rfl
 |k::js,[],_=>rfl
 |k::js,y::xs,h=>by
  have ih:=XB w j x js xs fun e=>h (by simp[e])
  show fa ((w.set j x)[k]?.getD 0) y::HF (w.set j x) js xs=fa (w[k]?.getD 0) y::HF w js xs
  rw[ih,List.getElem?_set_ne fun e=>h (by simp[e])]
theorem TG (c:List F):∀(at_:List Nat) (xs w:List F),at_.Nodup->at_.length=xs.length->(∀j,j∈at_->j<w.length)->w.length<=c.length ->
  Fh (EZ w at_ xs) c=fa (Fh w c) (Fh (at_.map fun j=>c[j]?.getD 0) (HF w at_ xs))
 |[],xs,w,_,_,_,_=>by rw[Om];simp[Lw,DE]
 |j::js,x::xs,w,hn,hl,hlt,hc=>by
  rw[List.nodup_cons] at hn
  have hj:=hlt j (by simp)
  have ih:=TG c js xs (w.set j x) hn.2 (by simpa using hl) (fun k hk=>by simpa using hlt k (by simp[hk])) (by simpa using hc)
  show Fh (EZ (w.set j x) js xs) c=fa (Fh w c) (fa (fm (c[j]?.getD 0) (fa (w[j]?.getD 0) x)) (Fh (js.map fun j=>c[j]?.getD 0) (HF w js xs)))
  rw[ih,Ua x w c j hj hc,XB _ _ _ _ _ hn.1,EK,Dt (c[j]?.getD 0)]
theorem j5 (L i:Nat) (at_:List Nat) (h:∀j,j∈at_->j<L):(at_.map fun j=>(Sc L i)[j]?.getD 0)=at_.map fun j=>YV L i j :=
 List.map_congr_left fun j hj=>Uh L i j (h j hj)
theorem Qn {L P:Nat}{w xs:List F}{at_:List Nat}(hw:w.length=L) (hp:cr L at_) (hl:at_.length=xs.length) (i:Nat) (h:i<P) :
  Eg (KW L P (EZ w at_ xs)) i=fa (Eg (KW L P w) i) (Fh (at_.map fun j=>YV L i j) (HF w at_ xs)):=by
 show (KW L P (EZ w at_ xs))[i]?.getD 0=fa ((KW L P w)[i]?.getD 0) _
 rw[Kl _ _ _ _ h,Kl _ _ _ _ h,TG (Sc L i) at_ xs w hp.nd hl (fun j hj=>by rw[hw];exact hp.lt j hj) (by rw[Qc];omega),j5 L i at_ hp.lt]
theorem ZF {L P:Nat}{at_:List Nat}{s v:List F}(hv:v.length=at_.length):SI 1 (Pr L P at_ s) v↔∀i,i<P->fa (Eg s i) (Fh (at_.map fun j=>YV L i j) v)=0:=by
 have hl:=(Ny L P at_ s).len
 constructor
 ·intro h i hi
  have:=h i (by omega)
  rwa [Ub _ _ _ _ _ _ hv i hi,Jn,Nw] at this
 ·intro h i hi
  rw[Ub _ _ _ _ _ _ hv i (by omega),Jn,Nw];exact h i (by omega)
def iE (L P:Nat) (w:List F):Prop:=∀i,i<P->Eg (KW L P w) i=0
theorem PY (w:List F):∀(at_:List Nat) (v:List F),at_.length=v.length->HF w at_ (HF w at_ v)=v
 |[],[],_=>rfl
 |j::js,x::v,h=>by
  have ih:=PY w js v (by simpa using h)
  show fa (w[j]?.getD 0) (fa (w[j]?.getD 0) x)::HF w js (HF w js v)=x::v
  rw[ih,←EK,Fu,JZ]
theorem fN {L P:Nat}{w r:List F}{mk l:List Nat}(hw:w.length=L) (hp:cr L (mk++l)) (h:hit L P w mk l=some r):iE L P r/\r.length=L/\∀j,j∉mk++l->r[j]?.getD 0=w[j]?.getD 0:=by
 unfold hit at h
 rw[Option.map_eq_some_iff] at h
 obtain⟨v,hv,rfl⟩:=h
 obtain⟨h1,h2⟩:=Sw hv
 refine⟨fun i hi=>?_,by rw[Oo];exact hw,fun j hj=>Oq _ _ _ _ hj⟩
 rw[Qn hw hp (by rw[R9 _ _ _ h1.symm]) i hi,PY _ _ _ h1.symm]
 exact(ZF h1).1 h2 i hi
theorem U2:∀(at_:List Nat) (w c:List F),at_.Nodup->c.length=w.length->(∀j,j∈at_->j<w.length)->(∀j,j∉at_->c[j]?.getD 0=w[j]?.getD 0)->EZ w at_ (at_.map fun j=>c[j]?.getD 0)=c
 |[],w,c,_,hl,_,h=>by
  rw[Om]
  exact(gB hl fun j _=>h j (by simp)).symm
 |j::js,w,c,hn,hl,hlt,h=>by
  rw[List.nodup_cons] at hn
  show EZ (w.set j (c[j]?.getD 0)) js (js.map fun j=>c[j]?.getD 0)=c
  refine U2 js _ c hn.2 (by simpa using hl) (fun k hk=>by simpa using hlt k (by simp[hk])) fun k hk=>?_
  by_cases hkj:k=j
  ·subst hkj
   have:=hlt k (by simp)
   rw[List.getElem?_set_self this];rfl
  ·rw[List.getElem?_set_ne (fun e=>hkj e.symm)]
   exact h k (by simp[hk,hkj])
theorem YC {L P:Nat}(hL:L<=15) {w c:List F}{mk l:List Nat}(hw:w.length=L) (hc:c.length=L) (hp:cr L (mk++l)) (hm:(mk++l).length<=P) (hcode:iE L P c) (h:∀j,j∉mk++l->c[j]?.getD 0=w[j]?.getD 0):hit L P w mk l=some c:=by
 obtain⟨A,hA⟩:∃A,mk++l=A:=⟨_,rfl⟩
 unfold hit
 rw[hA] at hp hm h ⊢
 obtain⟨ys,hys⟩:∃ys,(A.map fun j=>c[j]?.getD 0)=ys:=⟨_,rfl⟩
 have hyl:A.length=ys.length:=by rw[←hys];simp
 have hc2:EZ w A ys=c:=by
  rw[←hys];exact U2 A w c hp.nd (by omega) (fun j hj=>by rw[hw];exact hp.lt j hj) h
 have hal:=R9 w A ys hyl
 have hs:L3 L P A (KW L P w)=some (HF w A ys):=by
  refine Sx hL hp hm hal ((ZF hal).2 fun i hi=>?_)
  rw[←Qn hw hp hyl i hi,hc2]
  exact hcode i hi
 rw[hs,Option.map_some,PY _ _ _ hyl,hc2]
theorem TP {L P:Nat}(hL:L<=15) {c d:List F}{at_:List Nat}(hc:c.length=L) (hd:d.length=L) (hp:cr L at_) (hm:at_.length<=P) (h1:iE L P c) (h2:iE L P d) (h:∀j,j∉at_->c[j]?.getD 0=d[j]?.getD 0):c=d:=by
 have e1:hit L P d [] at_=some c:=YC hL hd hc (by simpa using hp) (by simpa using hm) h1 (by simpa using h)
 have e2:hit L P d [] at_=some d:=YC hL hd hd (by simpa using hp) (by simpa using hm) h2 (fun _ _=>rfl)
 rw[e1] at e2
 simpa using e2
def CR (L:Nat) (mk:List Nat):Nat->Nat->List (List Nat)
 |0,_=>[[]]
 |m+1,fr=>((List.range' fr (L-fr)).filter fun j=>!mk.contains j).flatMap fun j=>(CR L mk m (j+1)).map (j :: ·)
structure TX (L:Nat) (mk:List Nat) (fr:Nat) (l:List Nat):Prop where
 asc:l.Pairwise (· < ·)
 ge:∀j,j∈l->fr<=j
 lt:∀j,j∈l->j<L
 un:∀j,j∈l->j∉mk
theorem Iv (L:Nat) (mk:List Nat):∀(m fr:Nat) (l:List Nat),l∈CR L mk m fr->l.length=m/\TX L mk fr l
 |0,fr,l,h=>by
  simp[CR] at h;subst h
  exact⟨rfl,.nil,by simp,by simp,by simp⟩
 |m+1,fr,l,h=>by
  simp only[CR,List.mem_flatMap,List.mem_filter,List.mem_range'_1,List.mem_map] at h
  obtain⟨j,⟨hj,hjm⟩,l',hl',rfl⟩:=h
  obtain⟨h1,h2⟩:=Iv L mk m (j+1) l' hl'
  refine⟨by simp[h1],List.pairwise_cons.2 ⟨fun k hk=>by have:=h2.ge k hk;omega,h2.asc⟩,fun k hk=>?_,fun k hk=>?_,fun k hk=>?_⟩
  ·rcases List.mem_cons.1 hk with rfl|hk
   ·omega
   ·have:=h2.ge k hk;omega
  ·rcases List.mem_cons.1 hk with rfl|hk
   ·omega
   ·exact h2.lt k hk
  ·rcases List.mem_cons.1 hk with rfl|hk
   ·simpa using hjm
   ·exact h2.un k hk
theorem VZ (L:Nat) (mk:List Nat):∀(l:List Nat) (fr:Nat),TX L mk fr l->l∈CR L mk l.length fr
 |[],fr,_=>by simp[CR]
 |j::l,fr,h=>by
  have h1:=List.pairwise_cons.1 h.asc
  have ih:=VZ L mk l (j+1) ⟨h1.2,fun k hk=>h1.1 k hk,fun k hk=>h.lt k (by simp[hk]),fun k hk=>h.un k (by simp[hk])⟩
  simp only[List.length_cons,CR,List.mem_flatMap,List.mem_filter,List.mem_range'_1,List.mem_map]
  refine⟨j,⟨⟨h.ge j (by simp),?_⟩,?_⟩,l,ih,rfl⟩
  ·have:=h.ge j (by simp);have:=h.lt j (by simp);omega
  ·have:=h.un j (by simp)
   simpa using this
structure Y2 (L:Nat) (mk:List Nat):Prop where
 asc:mk.Pairwise (· < ·)
 lt:∀j,j∈mk->j<L
theorem EU {l:List Nat}(h:l.Pairwise (· < ·)):l.Nodup:=h.imp fun h=>Nat.ne_of_lt h
theorem T2 {L fr:Nat}{mk l:List Nat}(hm:Y2 L mk) (h:TX L mk fr l):cr L (mk++l):=by
 refine⟨List.nodup_append.2 ⟨EU hm.asc,EU h.asc,fun a ha b hb e=>h.un b hb (e ▸ ha)⟩,fun j hj=>?_⟩
 rcases List.mem_append.1 hj with hj|hj
 ·exact hm.lt j hj
 ·exact h.lt j hj
noncomputable def M5 (L P:Nat) (w:List F) (mk:List Nat):Option (List F) :=
 if mk.length<=P then (List.range ((P-mk.length)/2+1)).findSome? fun e=>(CR L mk e 0).findSome? (hit L P w mk) else none
def Mw (L:Nat) (a b:List F) (mk:List Nat):List Nat:=(List.range L).filter fun j=>decide (a[j]?.getD 0≠b[j]?.getD 0) && !mk.contains j
theorem N0 (L:Nat) (a b:List F) (mk:List Nat):TX L mk 0 (Mw L a b mk):=by
 refine⟨List.Pairwise.filter _ List.pairwise_lt_range,fun _ _=>Nat.zero_le _,fun j hj=>?_,fun j hj=>?_⟩
 ·simp[Mw] at hj;exact hj.1
 ·simp[Mw] at hj;exact hj.2.2
theorem N1 {L:Nat}{a b:List F}{mk:List Nat}(ha:a.length=L) (hb:b.length=L) {j:Nat}(h:j∉mk++Mw L a b mk):a[j]?.getD 0=b[j]?.getD 0:=by
 by_cases hj:j<L
 ·simp only[List.mem_append,not_or] at h
  by_cases he:a[j]?.getD 0=b[j]?.getD 0
  ·exact he
  ·exact absurd (by simp[Mw,hj,h.1];exact he) h.2
 ·rw[List.getElem?_eq_none (by omega),List.getElem?_eq_none (by omega)]
theorem RE:∀(l k:List Nat),l.Nodup->(∀j,j∈l->j∈k)->l.length<=k.length
 |[],k,_,_=>Nat.zero_le _
 |x::l,k,hn,h=>by
  rw[List.nodup_cons] at hn
  have hx:=h x (by simp)
  have ih:=RE l (k.erase x) hn.2 fun j hj=>(List.mem_erase_of_ne (show j≠x from fun e=>hn.1 (by rw[←e];exact hj))).2 (h j (by simp[hj]))
  rw[List.length_erase_of_mem hx] at ih
  have:0<k.length:=List.length_pos_of_mem hx
  simp only[List.length_cons]
  omega
theorem oM {L fr:Nat}{a b:List F}{mk l:List Nat}(hs:TX L mk fr l) (h:∀j,j∉mk++l->a[j]?.getD 0=b[j]?.getD 0):(Mw L a b mk).length<=l.length:=by
 have hsub:∀j,j∈Mw L a b mk->j∈l:=fun j hj=>by
  simp[Mw] at hj
  by_cases hjl:j∈l
  ·exact hjl
  ·exact absurd (h j (by simp[hj.2.2,hjl])) hj.2.1
 exact RE _ _ (EU (N0 L a b mk).asc) hsub
theorem MU {α β:Type}{f:α->Option β}{l:List α}{r:β}(h:l.findSome? f=some r):∃x,x∈l/\f x=some r:=by
 rw[List.findSome?_eq_some_iff] at h
 obtain⟨l1,a,l2,rfl,h2,_⟩:=h
 exact⟨a,by simp,h2⟩
theorem N2 {L P:Nat}{w r:List F}{mk:List Nat}(hw:w.length=L) (hm:Y2 L mk) (h:M5 L P w mk=some r) :
  iE L P r/\r.length=L/\2*(Mw L r w mk).length+mk.length<=P:=by
 unfold M5 at h
 split at h
 ·rename_i hle
  obtain⟨e,he,h⟩:=MU h
  obtain⟨l,hl,h⟩:=MU h
  obtain⟨h1,h2⟩:=Iv L mk e 0 l hl
  obtain⟨h3,h4,h5⟩:=fN hw (T2 hm h2) h
  refine⟨h3,h4,?_⟩
  have:=oM h2 h5
  simp at he
  omega
 ·cases h
theorem oO {L P:Nat}(hL:L<=15) {w c:List F}{mk:List Nat}(hw:w.length=L) (hc:c.length=L) (hm:Y2 L mk) (hcode:iE L P c) (h:2*(Mw L c w mk).length+mk.length<=P):M5 L P w mk=some c:=by
 have hs:=N0 L c w mk
 have hp:=T2 hm hs
 have hhit:hit L P w mk (Mw L c w mk)=some c:=YC hL hw hc hp (by simp;omega) hcode fun j hj=>N1 hc hw hj
 have hfound:∃r,M5 L P w mk=some r:=by
  unfold M5
  rw[if_pos (by omega)]
  cases hf:(List.range ((P-mk.length)/2+1)).findSome? fun e=>(CR L mk e 0).findSome? (hit L P w mk) with
  |some r=>exact⟨r,rfl⟩
  |none =>
   rw[List.findSome?_eq_none_iff] at hf
   have h1:=hf (Mw L c w mk).length (by simp;omega)
   rw[List.findSome?_eq_none_iff] at h1
   have h2:=h1 _ (VZ L mk _ 0 hs)
   rw[hhit] at h2;cases h2
 obtain⟨r,hr⟩:=hfound
 rw[hr]
 congr 1
 obtain⟨h1,h2,h3⟩:=N2 hw hm hr
 have hs2:=N0 L r w mk
 obtain⟨at_,hat⟩:∃at_,mk++((Mw L r w mk)++(Mw L c w mk).filter fun j=>!(Mw L r w mk).contains j)=at_:=⟨_,rfl⟩
 refine TP hL (at_:=at_) h2 hc ?_ ?_ h1 hcode fun j hj=>?_
 ·rw[←hat]
  refine⟨List.nodup_append.2 ⟨EU hm.asc,List.nodup_append.2 ⟨EU hs2.asc,(EU hs.asc).filter _,fun a ha b hb e=>?_⟩,fun a ha b hb e=>?_⟩,fun j hj=>?_⟩
  ·simp at hb;exact hb.2 (e ▸ ha)
  ·subst e
   rcases List.mem_append.1 hb with hb|hb
   ·exact hs2.un a hb ha
   ·exact hs.un a (List.mem_filter.1 hb).1 ha
  ·rcases List.mem_append.1 hj with hj|hj
   ·exact hm.lt j hj
   ·rcases List.mem_append.1 hj with hj|hj
    ·exact hs2.lt j hj
    ·exact hs.lt j (List.mem_filter.1 hj).1
 ·rw[←hat]
  have:=List.length_filter_le (fun j=>!(Mw L r w mk).contains j) (Mw L c w mk)
  simp only[List.length_append]
  omega
 ·rw[←hat] at hj
  simp only[List.mem_append,not_or,List.mem_filter] at hj
  obtain⟨j1,j2,j3⟩:=hj
  have j4:j∉Mw L c w mk:=fun hh=>j3 ⟨hh,by simpa using j2⟩
  exact(N1 h2 hw (fun e=>(List.mem_append.1 e).elim j1 j2)).trans (N1 hc hw (fun e=>(List.mem_append.1 e).elim j1 j4)).symm
end Go.Pw
end
section
open Go Go.Pw Go.Proofs
namespace Go.Pw
set_option maxRecDepth 100000
set_option maxHeartbeats 3200000
abbrev WD:Dm:=[((900004,0),(900004,0)),((901004,0),(901004,0))]
structure ph (G:List Nat->Option (List F)) (A:List Nat->Prop) (f:FuncId) (cs:List AV):Prop where
 body:B0 E0.P f=true
 st:AV.sites.sitesL cs=[900004,901004]
 nr:∀(V:AN) (os:List Nat),AV.nrm.live V os 900004 0=true->AV.nrm.live V os 901004 0=true->AV.nrm.nrmL V os cs=cs
 rn:AV.ren.renL WD cs=some cs
 ar:OY WD cs cs
 call:∀(nl:Bool) (l:List Nat) (b:Bool) (o:List F) (fnd:Bool),A l->(nl=true->l=[])->IR E0 f (vv b o fnd) (.d (.list nl (Am (ni l)))::cs) (vh b o fnd (G l)) (.d (.bool (G l).isNone))
theorem Ry:B0 E0.P B1=true:=by kernel_rfl
theorem Xy (b:Bool) (o:List F) (fnd:Bool):P_ (vv b o fnd)=true:=by simp[vv,P_,CV,EY,Ad.isHist]
theorem any_cons {α:Type}(l:List α):True:=trivial
theorem aJ (L:Nat) (mk:List Nat) (m j:Nat) (G:List Nat->Option (List F)) (hj:j<L) :
  (CR L mk (m+1) j).findSome? G=if mk.contains j then (CR L mk (m+1) (j+1)).findSome? G else
   ((CR L mk m (j+1)).findSome? fun l=>G (j::l)).or ((CR L mk (m+1) (j+1)).findSome? G):=by
 have hr:List.range' j (L-j)=j::List.range' (j+1) (L-(j+1)):=by
  rw[show L-j=(L-(j+1))+1 by omega,List.range'_succ]
 simp only[CR]
 rw[hr,List.filter_cons]
 cases h:mk.contains j with
 |true=>simp
 |false =>
  simp only[Bool.not_false,if_true,Bool.false_eq_true,if_false,List.flatMap_cons,List.findSome?_append]
  rw[List.findSome?_map];rfl
theorem db (L:Nat) (mk:List Nat) (m:Nat):CR L mk (m+1) L=[]:=by simp[CR]
theorem da (L:Nat) (mk:List Nat) (m fr:Nat) (l:List Nat) (h:l∈CR L mk m fr):l.length=m:=(Iv L mk m fr l h).1
theorem dZ (L:Nat) (mk:List Nat) (m fr j:Nat) (l:List Nat) (hf:fr<=j) (hj:j<L) (hm:mk.contains j=false) (h:l∈CR L mk m (j+1)):j::l∈CR L mk (m+1) fr:=by
 simp only[CR,List.mem_flatMap,List.mem_filter,List.mem_range'_1,List.mem_map]
 exact⟨j,⟨⟨hf,by omega⟩,by simpa using hm⟩,l,h,rfl⟩
theorem nh (mk:List Nat) (j:Nat):kN (ni mk) (j:Int)=mk.contains j:=by
 unfold kN ni
 rw[Bool.eq_iff_iff]
 simp only[List.contains_iff_mem,List.mem_map]
 constructor
 ·rintro⟨k,hk,he⟩
  have:k=j:=by omega
  subst this;exact hk
 ·exact fun h=>⟨j,h,rfl⟩
attribute [local congr] Bl A_ A' Ar Bm Ay A0 Az Aq Ak Ae Aa Av Af Aw BL BP BN BO BM BQ BF Ai Ax Aj BD BX Ah BJ BK BE BG BI BH BB BC A9 Bn BA Au Ag
attribute [local irreducible] IntKind.wrap A4 Option.getD and or
theorem Sd {G:List Nat->Option (List F)}{A:List Nat->Prop}{f:FuncId}{cs:List AV}(hY:ph G A f cs) (j:Nat) (nl:Bool) (l:List Nat) (b:Bool) (o:List F) (fnd:Bool) (hA:A (j::l)) (hll:l.length<=100) :
  IR E0 B1 (vv b o fnd) [.d (.list nl (Am (ni l))),.ablk false [.fn f cs] 0,.d (.ptr [.int .i64 (j:Int)])] (vh b o fnd (G (j::l))) (.d (.bool (G (j::l)).isNone)):=by
 have c1:=hY.call false (j::l) b o fnd hA (by simp)
 have hst:=hY.st
 have hbody:=hY.body
 have hl:D.int .i64 (j:Int)::Am (ni l)=Am (ni (j::l)):=rfl
 have h1:((vv b o fnd).all fun q=>E_ (vh b o fnd (G (j::l))) q.1 q.2.1)=true:=by cases G (j::l)<;>simp[vv,vh,E_]
 refine Di Hb Ap (by simp) (Xy b o fnd) h1 fun hwf hwo=>?_
 rw[ES];unfold E2
 unfold vv at c1 ⊢
 have har:OY WD (.d (.list false (Am (ni (j::l))))::cs) (.d (.list false (Am (ni (j::l))))::cs):=⟨rfl,hY.ar⟩
 cases hg:G (j::l) with
 |none =>
  rw[hg,Je] at c1
  rw[Je]
  unfold vv at c1 ⊢
  (try (simp -implicitDefEqProofs only[go_sem,hst,hbody,hl,HU]));repeat' first|(with_reducible first|exact tI|refine aI ?_ ?_|intro _)|((first|with_reducible refine AO ?_ ?_<;>intro _)<;>try (simp -implicitDefEqProofs only[go_sem,hst,hbody,hl,HU]))|simp (disch:=omega) only[Al]
  all_goals first|omega|(simp;done)|(simp;omega)|skip
  refine FA WD WD c1 har (by simp[Handed,Dm.get,Ad.ren,AV.ren,AV.ren.renL,AN.get,Bb,CI,D8,AN.reach,AV.sites,AV.sites.sitesL,AN.osites,hst]) (by simp[CQ,E_,CV,Dm.get,D8,EY,CL]) (by rfl) (by simp only[D9,Dm.get,Ad.ren,AV.ren,AV.ren.renL,and_self,and_true,true_and,if_true,reduceIte];rfl) ?_
  (try (simp -implicitDefEqProofs only[go_sem,hst,HU]));repeat' first|(with_reducible first|exact tI|refine aI ?_ ?_|intro _)|((first|with_reducible refine AO ?_ ?_<;>intro _)<;>try (simp -implicitDefEqProofs only[go_sem,hst,HU]))|simp (disch:=omega) only[Al]
  all_goals first|omega|(simp;done)|(simp;omega)|skip
  all_goals first|rfl|skip
 |some z =>
  rw[hg,Jd] at c1
  rw[Jd]
  unfold vv at c1 ⊢
  (try (simp -implicitDefEqProofs only[go_sem,hst,hbody,hl,HU]));repeat' first|(with_reducible first|exact tI|refine aI ?_ ?_|intro _)|((first|with_reducible refine AO ?_ ?_<;>intro _)<;>try (simp -implicitDefEqProofs only[go_sem,hst,hbody,hl,HU]))|simp (disch:=omega) only[Al]
  all_goals first|omega|(simp;done)|(simp;omega)|skip
  refine FA WD WD c1 har (by simp[Handed,Dm.get,Ad.ren,AV.ren,AV.ren.renL,AN.get,Bb,CI,D8,AN.reach,AV.sites,AV.sites.sitesL,AN.osites,hst]) (by simp[CQ,E_,CV,Dm.get,D8,EY,CL]) (by rfl) (by simp only[D9,Dm.get,Ad.ren,AV.ren,AV.ren.renL,and_self,and_true,true_and,if_true,reduceIte];rfl) ?_
  (try (simp -implicitDefEqProofs only[go_sem,hst,HU]));repeat' first|(with_reducible first|exact tI|refine aI ?_ ?_|intro _)|((first|with_reducible refine AO ?_ ?_<;>intro _)<;>try (simp -implicitDefEqProofs only[go_sem,hst,HU]))|simp (disch:=omega) only[Al]
  all_goals first|omega|(simp;done)|(simp;omega)|skip
  all_goals first|rfl|skip
theorem cw {G:List Nat->Option (List F)}{A:List Nat->Prop}{f:FuncId}{cs:List AV}(hY:ph G A f cs) (j:Nat) :
  ph (fun l=>G (j::l)) (fun l=>A (j::l)/\l.length<=100) B1 [.ablk false [.fn f cs] 0,.d (.ptr [.int .i64 (j:Int)])] :=
 ⟨Ry,by simp[AV.sites,AV.sites.sitesL,hY.st],fun V os h1 h2=>by simp[AV.nrm,AV.nrm.nrmL,hY.nr V os h1 h2,AV.one],by simp[AV.ren,AV.ren.renL,hY.rn],
  ⟨by simp[lP,AV.ren,AV.ren.renL,hY.rn],rfl,trivial⟩,fun nl l b o fnd hA _=>Sd hY j nl l b o fnd hA.1 hA.2⟩
theorem Pu (L P:Nat) (n:Bool) (mk:List Nat) (hL:L<=15):∀(m fr:Nat) {G:List Nat->Option (List F)}{A:List Nat->Prop}{f:FuncId}{cs:List AV}(hY:ph G A f cs) (hA:∀l,l∈CR L mk m fr->A l) (hfr:fr<=L) (hm:m<=50) (b:Bool) (o:List F) (fnd:Bool),
  IR E0 F7 (vv b o fnd) [.d (Ui L P),.d (.list n (Am (ni mk))),.d (.int .i64 (fr:Int)),.d (.int .i64 (m:Int)),.fn f cs] (vh b o fnd ((CR L mk m fr).findSome? G)) (.d (.bool ((CR L mk m fr).findSome? G).isNone))
 |0,fr,G,A,f,cs,hY,hA,hfr,hm,b,o,fnd=>by
  have e0:(CR L mk 0 fr).findSome? G=G []:=by simp[CR]
  rw[e0]
  have c1:=hY.call true [] b o fnd (hA [] (by simp[CR])) (fun _=>rfl)
  rw[show Am (ni [])=[] from rfl] at c1
  have hst:=hY.st
  have hbody:=hY.body
  have h1:((vv b o fnd).all fun q=>E_ (vh b o fnd (G [])) q.1 q.2.1)=true:=by cases G []<;>simp[vv,vh,E_]
  refine Di FI Ap (by simp) (Xy b o fnd) h1 fun hwf hwo=>?_
  rw[ES];unfold Dz
  have har:OY WD (.d (.list true [])::cs) (.d (.list true [])::cs):=⟨rfl,hY.ar⟩
  have hz0:((0:Nat):Int)=0:=rfl
  cases hg:G [] with
  |none =>
   rw[hg,Je] at c1
   rw[Je]
   unfold vv at c1 ⊢
   (try (simp -implicitDefEqProofs only[go_sem,hst,hbody,B6,hz0]));repeat' first|(with_reducible first|exact tI|refine aI ?_ ?_|intro _)|((first|with_reducible refine AO ?_ ?_<;>intro _)<;>try (simp -implicitDefEqProofs only[go_sem,hst,hbody,B6,hz0]))|simp (disch:=omega) only[Al]|((with_reducible refine A1 ?_);refine⟨_,rfl,?_,?_⟩)
   all_goals first|omega|(simp;done)|(simp;omega)|skip
   refine FA WD WD c1 har (by simp[Handed,Dm.get,Ad.ren,AV.ren,AV.ren.renL,AN.get,Bb,CI,D8,AN.reach,AV.sites,AV.sites.sitesL,AN.osites,hst]) (by simp[CQ,E_,CV,Dm.get,D8,EY,CL]) (by rfl) (by simp only[D9,Dm.get,Ad.ren,AV.ren,AV.ren.renL,and_self,and_true,true_and,if_true,reduceIte];rfl) ?_
   (try (simp -implicitDefEqProofs only[go_sem,hst]));repeat' first|(with_reducible first|exact tI|refine aI ?_ ?_|intro _)|((first|with_reducible refine AO ?_ ?_<;>intro _)<;>try (simp -implicitDefEqProofs only[go_sem,hst]))|simp (disch:=omega) only[Al]|((with_reducible refine A1 ?_);refine⟨_,rfl,?_,?_⟩)
   all_goals first|omega|(simp;done)|(simp;omega)|skip
   all_goals first|rfl|skip
  |some z =>
   rw[hg,Jd] at c1
   rw[Jd]
   unfold vv at c1 ⊢
   (try (simp -implicitDefEqProofs only[go_sem,hst,hbody,B6,hz0]));repeat' first|(with_reducible first|exact tI|refine aI ?_ ?_|intro _)|((first|with_reducible refine AO ?_ ?_<;>intro _)<;>try (simp -implicitDefEqProofs only[go_sem,hst,hbody,B6,hz0]))|simp (disch:=omega) only[Al]|((with_reducible refine A1 ?_);refine⟨_,rfl,?_,?_⟩)
   all_goals first|omega|(simp;done)|(simp;omega)|skip
   refine FA WD WD c1 har (by simp[Handed,Dm.get,Ad.ren,AV.ren,AV.ren.renL,AN.get,Bb,CI,D8,AN.reach,AV.sites,AV.sites.sitesL,AN.osites,hst]) (by simp[CQ,E_,CV,Dm.get,D8,EY,CL]) (by rfl) (by simp only[D9,Dm.get,Ad.ren,AV.ren,AV.ren.renL,and_self,and_true,true_and,if_true,reduceIte];rfl) ?_
   (try (simp -implicitDefEqProofs only[go_sem,hst]));repeat' first|(with_reducible first|exact tI|refine aI ?_ ?_|intro _)|((first|with_reducible refine AO ?_ ?_<;>intro _)<;>try (simp -implicitDefEqProofs only[go_sem,hst]))|simp (disch:=omega) only[Al]|((with_reducible refine A1 ?_);refine⟨_,rfl,?_,?_⟩)
   all_goals first|omega|(simp;done)|(simp;omega)|skip
   all_goals first|rfl|skip
 |m+1,fr,G,A,f,cs,hY,hA,hfr,hm,b,o,fnd=>by
  have hst:=hY.st
  have hnr:=hY.nr
  have h1:((vv b o fnd).all fun q=>E_ (vh b o fnd ((CR L mk (m+1) fr).findSome? G)) q.1 q.2.1)=true:=by cases (CR L mk (m+1) fr).findSome? G<;>simp[vv,vh,E_]
  refine Di FI Ap (by simp) (Xy b o fnd) h1 fun hwf hwo=>?_
  rw[ES];unfold Dz
  have hz0:¬((m+1:Nat):Int)=0:=by omega
  have hwm:IntKind.i64.wrap (((m+1:Nat):Int)-1)=(m:Int):=by rw[AZ _ (by omega)];omega
  unfold vv
  (try (simp -implicitDefEqProofs only[go_sem,hst,hnr,B6,hz0]));repeat' first|(with_reducible first|exact tI|refine aI ?_ ?_|intro _)|((first|with_reducible refine AO ?_ ?_<;>intro _)<;>try (simp -implicitDefEqProofs only[go_sem,hst,hnr,B6,hz0]))|simp (disch:=omega) only[Al]|((with_reducible refine A1 ?_);refine⟨_,rfl,?_,?_⟩)
  all_goals first|omega|(simp;done)|(simp;omega)|skip
  refine AY (α:=Nat) (l0:=?l1) (m0:=?m1) (fun x=>[]) (fun x=>[(11,.cells [.d (.int .i64 (x:Int))])]) (fun x=>fr<=x/\x<=L/\(CR L mk (m+1) x).findSome? G=(CR L mk (m+1) fr).findSome? G) (fun x=>L-x) fr ?h01 ?he1 ?he21 ?hI1 ?step1
  case h01=>(simp -implicitDefEqProofs only[go_sem,hst,hnr];rfl)
  case he1=>rfl
  case he21=>rfl
  case' step1=>(rintro j hI;try dsimp only at hI)
  case' hI1=>try dsimp only
  ·exact⟨by omega,hfr,rfl⟩
  ·obtain⟨j1,j2,j3⟩:=hI
   by_cases hj:j<L
   ·have hj':(j:Int)<(L:Int):=by omega
    have hwj:IntKind.i64.wrap ((j:Int)+1)=((j+1:Nat):Int):=by rw[AZ _ (by omega)];omega
    have c0:=PZ n (ni mk) (j:Int)
    rw[nh] at c0
    have hnx:=aJ L mk m j G hj
    cases hc:mk.contains j with
    |true =>
     rw[hc] at c0 hnx
     rw[if_pos rfl] at hnx
     have hfin:(CR L mk (m+1) (j+1)).findSome? G=(CR L mk (m+1) fr).findSome? G:=by rw[←j3,hnx]
     (try (simp -implicitDefEqProofs only[go_sem,hst,hnr,hj',hwj]));repeat' first|(with_reducible first|exact tI|refine aI ?_ ?_|intro _)|((first|with_reducible refine AO ?_ ?_<;>intro _|(with_reducible refine isCall ?_);first|refine AE c0 ?_)<;>try (simp -implicitDefEqProofs only[go_sem,hst,hnr,hj',hwj]))|simp (disch:=omega) only[Al]|((with_reducible refine A1 ?_);refine⟨_,rfl,?_,?_⟩)
     all_goals first|omega|(simp;done)|(simp;omega)|skip
     all_goals first|exact hfin|skip
    |false =>
     rw[hc] at c0 hnx
     simp only[Bool.false_eq_true,if_false] at hnx
     have hYn:=cw hY j
     have hlen:∀l,l∈CR L mk m (j+1)->l.length<=100:=fun l hl=>by rw[da L mk m (j+1) l hl];omega
     have ih:=Pu L P n mk hL m (j+1) hYn (fun l hl=>⟨hA _ (dZ L mk m fr j l j1 hj hc hl),hlen l hl⟩) (by omega) (by omega) b o fnd
     have har:OY WD [.d (Ui L P),.d (.list n (Am (ni mk))),.d (.int .i64 ((j+1:Nat):Int)),.d (.int .i64 (m:Int)),.fn B1 [.ablk false [.fn f cs] 0,.d (.ptr [.int .i64 (j:Int)])]] [.d (Ui L P),.d (.list n (Am (ni mk))),.d (.int .i64 ((j+1:Nat):Int)),.d (.int .i64 (m:Int)),.fn B1 [.ablk false [.fn f cs] 0,.d (.ptr [.int .i64 (j:Int)])]] :=
      ⟨rfl,rfl,rfl,rfl,by simp[lP,AV.ren,AV.ren.renL,hY.rn],trivial⟩
     cases hr:(CR L mk m (j+1)).findSome? fun l=>G (j::l) with
     |none =>
      rw[hr] at ih hnx
      have hfin:(CR L mk (m+1) (j+1)).findSome? G=(CR L mk (m+1) fr).findSome? G:=by rw[←j3,hnx];rfl
      rw[Je,Option.isNone_none] at ih
      rw[B6] at ih har
      unfold vv at ih
      (try (simp -implicitDefEqProofs only[go_sem,hst,hnr,hj',hwj,hwm]));repeat' first|(with_reducible first|exact tI|refine aI ?_ ?_|intro _)|((first|with_reducible refine AO ?_ ?_<;>intro _|(with_reducible refine isCall ?_);first|refine AE c0 ?_)<;>try (simp -implicitDefEqProofs only[go_sem,hst,hnr,hj',hwj,hwm]))|simp (disch:=omega) only[Al]|((with_reducible refine A1 ?_);refine⟨_,rfl,?_,?_⟩)
      all_goals first|omega|(simp;done)|(simp;omega)|skip
      refine FA WD WD ih har (by simp[Handed,Dm.get,Ad.ren,AV.ren,AV.ren.renL,AN.get,Bb,CI,D8,AN.reach,AV.sites,AV.sites.sitesL,AN.osites,hst]) (by simp[CQ,E_,CV,Dm.get,D8,EY,CL]) (by rfl) (by simp only[D9,Dm.get,Ad.ren,AV.ren,AV.ren.renL,and_self,and_true,true_and,if_true,reduceIte];rfl) ?_
      (try (simp -implicitDefEqProofs only[go_sem,hst,hnr,hwj]));repeat' first|(with_reducible first|exact tI|refine aI ?_ ?_|intro _)|((first|with_reducible refine AO ?_ ?_<;>intro _)<;>try (simp -implicitDefEqProofs only[go_sem,hst,hnr,hwj]))|simp (disch:=omega) only[Al]|((with_reducible refine A1 ?_);refine⟨_,rfl,?_,?_⟩)
      all_goals first|omega|(simp;done)|(simp;omega)|skip
      all_goals first|exact hfin|skip
     |some z =>
      rw[hr] at ih hnx
      have hfin:(CR L mk (m+1) fr).findSome? G=some z:=by rw[←j3,hnx];rfl
      rw[hfin,Jd]
      rw[Jd,Option.isNone_some] at ih
      rw[B6] at ih har
      unfold vv at ih ⊢
      (try (simp -implicitDefEqProofs only[go_sem,hst,hnr,hj',hwj,hwm]));repeat' first|(with_reducible first|exact tI|refine aI ?_ ?_|intro _)|((first|with_reducible refine AO ?_ ?_<;>intro _|(with_reducible refine isCall ?_);first|refine AE c0 ?_)<;>try (simp -implicitDefEqProofs only[go_sem,hst,hnr,hj',hwj,hwm]))|simp (disch:=omega) only[Al]|((with_reducible refine A1 ?_);refine⟨_,rfl,?_,?_⟩)
      all_goals first|omega|(simp;done)|(simp;omega)|skip
      refine FA WD WD ih har (by simp[Handed,Dm.get,Ad.ren,AV.ren,AV.ren.renL,AN.get,Bb,CI,D8,AN.reach,AV.sites,AV.sites.sitesL,AN.osites,hst]) (by simp[CQ,E_,CV,Dm.get,D8,EY,CL]) (by rfl) (by simp only[D9,Dm.get,Ad.ren,AV.ren,AV.ren.renL,and_self,and_true,true_and,if_true,reduceIte];rfl) ?_
      (try (simp -implicitDefEqProofs only[go_sem,hst,hnr,hwj]));repeat' first|(with_reducible first|exact tI|refine aI ?_ ?_|intro _)|((first|with_reducible refine AO ?_ ?_<;>intro _)<;>try (simp -implicitDefEqProofs only[go_sem,hst,hnr,hwj]))|simp (disch:=omega) only[Al]|((with_reducible refine A1 ?_);refine⟨_,rfl,?_,?_⟩)
      all_goals first|omega|(simp;done)|(simp;omega)|skip
      all_goals first|rfl|skip
   ·have hj':¬(j:Int)<(L:Int):=by omega
    have hje:j=L:=by omega
    subst hje
    have hfin:(CR j mk (m+1) fr).findSome? G=none:=by rw[←j3,db];rfl
    rw[hfin,Je]
    unfold vv
    (try (simp -implicitDefEqProofs only[go_sem,hst,hnr,hj']));repeat' first|(with_reducible first|exact tI|refine aI ?_ ?_|intro _)|((first|with_reducible refine AO ?_ ?_<;>intro _)<;>try (simp -implicitDefEqProofs only[go_sem,hst,hnr,hj']))|simp (disch:=omega) only[Al]|((with_reducible refine A1 ?_);refine⟨_,rfl,?_,?_⟩)
    all_goals first|omega|(simp;done)|(simp;omega)|skip
    all_goals first|rfl|skip
end Go.Pw
end
section
open Go Go.Pw Go.Proofs
namespace Go.Pw
set_option maxRecDepth 100000
set_option maxHeartbeats 3200000
def decR (o:Option (List F)):D:=match o with
 |some r=>.tup [.list false (us r),.bool true]
 |none=>.tup [.list true [],.bool false]
theorem TI (v:List F):decR (some v)=.tup [.list false (us v),.bool true]:=rfl
theorem TJ:decR none=.tup [.list true [],.bool false]:=rfl
theorem Sf:B0 E0.P C2=true:=by kernel_rfl
theorem LE {β:Type}{f:Nat->Option β}{e:Nat}{r:β}(h:∀i,i<e->f i=none) (he:f e=some r):∀N,e<N->(List.range N).findSome? f=some r
 |0,hN=>by omega
 |N+1,hN=>by
  rw[List.range_succ,List.findSome?_append]
  by_cases h2:e<N
  ·rw[LE h he N h2];rfl
  ·have:e=N:=by omega
   subst this
   have hn:(List.range e).findSome? f=none:=by
    rw[List.findSome?_eq_none_iff];exact fun i hi=>h i (by simpa using hi)
   rw[hn]
   simp[he]
noncomputable def b9 (L P:Nat) (w:List F) (mk:List Nat) (e:Nat):Option (List F):=(CR L mk e 0).findSome? (hit L P w mk)
theorem kx {L P:Nat}{w r:List F}{mk:List Nat}{e:Nat}(h:∀i,i<e->b9 L P w mk i=none) (he:b9 L P w mk e=some r) (hb:2*e+mk.length<=P):M5 L P w mk=some r:=by
 unfold M5
 rw[if_pos (by omega)]
 exact LE h he _ (by omega)
theorem gT {L P:Nat}{w:List F}{mk:List Nat}{e:Nat}(h:∀i,i<e->b9 L P w mk i=none) (hb:¬2*e+mk.length<=P):M5 L P w mk=none:=by
 unfold M5
 split
 ·rw[List.findSome?_eq_none_iff]
  intro i hi
  simp at hi
  exact h i (by omega)
 ·rfl
theorem iO {L P:Nat}{w:List F}{mk:List Nat}(n2:Bool) (hL:L<=15) (hL1:1<=L) (hP:1<=P) (hP2:P<=15) (hw:w.length=L) (hm:Y2 L mk) :
  ph (hit L P w mk) (fun l=>TX L mk 0 l/\2*l.length+mk.length<=P) C2 [.d (.ptr [.list n2 (Am (ni mk))]),.d (.ptr [.int .i64 L,.int .i64 P]),.d (.ptr [.list false (us (KW L P w))]),.d (.ptr [.list false (us w)]),.ptr 900004 0 0,.ptr 901004 0 0] :=
 ⟨Sf,rfl,fun V os h1 h2=>by simp[AV.nrm,AV.nrm.nrmL,h1,h2],rfl,⟨rfl,rfl,rfl,rfl,rfl,rfl,trivial⟩,fun nl l b o fnd hA _ =>
  Ud L P nl n2 false b fnd o w mk l hL hL1 hP hP2 hw (T2 hm hA.1) (by have:=hA.2;simp;omega) rfl⟩
attribute [local congr] Bl A_ A' Ar Bm Ay A0 Az Aq Ak Ae Aa Av Af Aw BL BP BN BO BM BQ BF Ai Ax Aj BD BX Ah BJ BK BE BG BI BH BB BC A9 Bn BA Au Ag
attribute [local irreducible] IntKind.wrap A4 Option.getD and or
theorem M9 (L P:Nat) (n1 n2:Bool) (w:List F) (mk:List Nat) (hL:L<=15) (hL1:1<=L) (hP:1<=P) (hP2:P<=15) (hw:w.length=L) (hm:Y2 L mk) (hml:mk.length<=100) (hn1:n1=false) :
  CE E0 GK [Ui L P,.list n1 (us w),.list n2 (Am (ni mk))] (decR (M5 L P w mk)):=by
 subst hn1
 have c1:=PS L P false w hL hL1 hP hP2 hw
 have hY:=iO (P:=P) n2 hL hL1 hP hP2 hw hm
 refine AP JK Ap (by simp) fun hwf=>?_
 rw[AW];unfold Fp
 rw[B6] at c1 ⊢
 (try (simp -implicitDefEqProofs only[go_sem]));repeat' first|(with_reducible first|exact tI|refine aI ?_ ?_|intro _)|((first|with_reducible refine AO ?_ ?_<;>intro _|(with_reducible refine isCall ?_);first|refine AE c1 ?_)<;>try (simp -implicitDefEqProofs only[go_sem]))|simp (disch:=omega) only[Al]|((with_reducible refine Cc ?_);refine⟨(_,_,_,_),rfl,?_,?_⟩)
 all_goals first|omega|(simp;done)|(simp;omega)|skip
 refine AY (α:=Nat×Bool×(List F)×Bool) (l0:=?l1) (m0:=?m1) (fun x=>[(9,.d (.int .i64 (x.1:Int)))]) (fun x=>[(6,.cells [.d (.list x.2.1 (us x.2.2.1))]),(7,.cells [.d (.bool x.2.2.2)])]) (fun x=>x.1<=100/\((x.2.2.2=false/\x.2.1=true/\x.2.2.1=[]/\∀i,i<x.1->b9 L P w mk i=none)\/(x.2.2.2=true/\x.2.1=false/\M5 L P w mk=some x.2.2.1))) (fun x=>(if x.2.2.2 then 0 else 101-x.1)) (0,true,[],false) ?h01 ?he1 ?he21 ?hI1 ?step1
 case h01=>(simp -implicitDefEqProofs only[go_sem];rfl)
 case he1=>rfl
 case he21=>rfl
 case' step1=>(rintro⟨e,b,o,fnd⟩ hI;try dsimp only at hI)
 case' hI1=>try dsimp only
 ·exact⟨by omega,.inl ⟨rfl,rfl,rfl,fun i hi=>absurd hi (by omega)⟩⟩
 ·obtain⟨h1,h2⟩:=hI
  have hw2:IntKind.i64.wrap (2*(e:Int))=2*(e:Int):=AZ _ (by omega)
  have hw3:IntKind.i64.wrap (2*(e:Int)+(mk.length:Int))=2*(e:Int)+(mk.length:Int):=AZ _ (by omega)
  have hw4:IntKind.i64.wrap ((e:Int)+1)=((e+1:Nat):Int):=by rw[AZ _ (by omega)];omega
  rcases h2 with⟨rfl,rfl,rfl,h3⟩|⟨rfl,rfl,h3⟩
  ·by_cases hb:2*e+mk.length<=P
   ·have hb':2*(e:Int)+(mk.length:Int)<=(P:Int):=by omega
    have c2:=Pu L P n2 mk hL e 0 hY (fun l hl=>⟨(Iv L mk e 0 l hl).2,by rw[(Iv L mk e 0 l hl).1];exact hb⟩) (by omega) (by omega) true [] false
    rw[show (((0:Nat):Int))=0 from rfl] at c2
    rw[B6] at c2
    obtain⟨R,hR⟩:∃R,b9 L P w mk e=R:=⟨_,rfl⟩
    rw[show (CR L mk e 0).findSome? (hit L P w mk)=R from hR] at c2
    cases R with
    |none =>
     rw[Je,Option.isNone_none] at c2
     unfold vv at c2
     have hn:∀i,i<e+1->b9 L P w mk i=none:=fun i hi=>by
      rcases Nat.lt_succ_iff_lt_or_eq.1 hi with hi|rfl
      ·exact h3 i hi
      ·exact hR
     (try (simp -implicitDefEqProofs only[go_sem,hw2,hw3,hb',hw4]));repeat' first|(with_reducible first|exact tI|refine aI ?_ ?_|intro _)|((first|with_reducible refine AO ?_ ?_<;>intro _|(with_reducible refine isCall ?_);first|(refine FA ([((900004,0),(6,0)),((901004,0),(7,0))]) ([((900004,0),(6,0)),((901004,0),(7,0))]) (c2) (by repeat' first|exact True.intro|exact rfl|refine And.intro ?_ ?_) (by simp[Handed,Dm.get,Ad.ren,AV.ren,AV.ren.renL,AN.get,Bb,CI,D8,AN.reach,AV.sites,AV.sites.sitesL,AN.osites]) (by simp[CQ,E_,CV,Dm.get,D8,EY,CL]) (by rfl) (by simp only[D9,Dm.get,Ad.ren,AV.ren,AV.ren.renL,and_self,and_true,true_and,if_true,reduceIte];rfl) ?_))<;>try (simp -implicitDefEqProofs only[go_sem,hw2,hw3,hb',hw4]))|simp (disch:=omega) only[Al]|((with_reducible refine Cc ?_);refine⟨(_,_,_,_),rfl,?_,?_⟩)
     all_goals first|omega|(simp;done)|(simp;omega)|skip
     all_goals first|exact .inl ⟨trivial,trivial,trivial,hn⟩|skip
    |some r =>
     have hfin:=kx h3 hR hb
     rw[Jd,Option.isNone_some] at c2
     unfold vv at c2
     (try (simp -implicitDefEqProofs only[go_sem,hw2,hw3,hb',hw4]));repeat' first|(with_reducible first|exact tI|refine aI ?_ ?_|intro _)|((first|with_reducible refine AO ?_ ?_<;>intro _|(with_reducible refine isCall ?_);first|(refine FA ([((900004,0),(6,0)),((901004,0),(7,0))]) ([((900004,0),(6,0)),((901004,0),(7,0))]) (c2) (by repeat' first|exact True.intro|exact rfl|refine And.intro ?_ ?_) (by simp[Handed,Dm.get,Ad.ren,AV.ren,AV.ren.renL,AN.get,Bb,CI,D8,AN.reach,AV.sites,AV.sites.sitesL,AN.osites]) (by simp[CQ,E_,CV,Dm.get,D8,EY,CL]) (by rfl) (by simp only[D9,Dm.get,Ad.ren,AV.ren,AV.ren.renL,and_self,and_true,true_and,if_true,reduceIte];rfl) ?_))<;>try (simp -implicitDefEqProofs only[go_sem,hw2,hw3,hb',hw4]))|simp (disch:=omega) only[Al]|((with_reducible refine Cc ?_);refine⟨(_,_,_,_),rfl,?_,?_⟩)
     all_goals first|omega|(simp;done)|(simp;omega)|skip
     all_goals first|exact .inr ⟨trivial,trivial,hfin⟩|skip
   ·have hb':¬2*(e:Int)+(mk.length:Int)<=(P:Int):=by omega
    rw[gT h3 hb,TJ]
    (try (simp -implicitDefEqProofs only[go_sem,hw2,hw3,hb',hw4]));repeat' first|(with_reducible first|exact tI|refine aI ?_ ?_|intro _)|((first|with_reducible refine AO ?_ ?_<;>intro _)<;>try (simp -implicitDefEqProofs only[go_sem,hw2,hw3,hb',hw4]))|simp (disch:=omega) only[Al]|((with_reducible refine Cc ?_);refine⟨(_,_,_,_),rfl,?_,?_⟩)
    all_goals first|omega|(simp;done)|(simp;omega)|skip
    all_goals first|rfl|skip
  ·rw[h3,TI]
   (try (simp -implicitDefEqProofs only[go_sem,hw2,hw3,hw4]));repeat' first|(with_reducible first|exact tI|refine aI ?_ ?_|intro _)|((first|with_reducible refine AO ?_ ?_<;>intro _)<;>try (simp -implicitDefEqProofs only[go_sem,hw2,hw3,hw4]))|simp (disch:=omega) only[Al]|((with_reducible refine Cc ?_);refine⟨(_,_,_,_),rfl,?_,?_⟩)
   all_goals first|omega|(simp;done)|(simp;omega)|skip
   all_goals first|rfl|skip
end Go.Pw
end
section
namespace Go.Pw
theorem ga (n i:Nat):Sc (n+1) i=gp (i*n)::Sc n i:=by
 unfold Sc
 rw[List.range_succ_eq_map,List.map_cons,List.map_map]
 congr 1
 apply List.map_congr_left
 intro j hj
 show YV (n+1) i (j+1)=YV n i j
 unfold YV
 rw[show n+1-1-(j+1)=n-1-j by omega]
def Mu (i:Nat) (w:List F):F:=Fh w (Sc w.length i)
theorem gG (i:Nat):Mu i []=0:=rfl
theorem QW (i:Nat) (y:F) (ys:List F):Mu i (y::ys)=fa (fm y (gp (i*ys.length))) (Mu i ys):=by
 show Fh (y::ys) (Sc (ys.length+1) i)=_
 rw[ga];rfl
theorem oC (i:Nat) (l:List F) (o:Nat) (y:F) (h:o<l.length):Mu i (l.set o y)=fa (Mu i l) (fm (fa (l[o]?.getD 0) y) (gp (i*(l.length-1-o)))):=by
 unfold Mu
 rw[List.length_set,Ua y l _ o h (by rw[Qc];omega),Uh _ _ _ h];rfl
def C8:List F->Nat->F->List F->List F
 |l,o,b,[]=>l
 |l,o,b,y::ys=>C8 (l.set o (fa (l[o]?.getD 0) (fm b y))) (o+1) b ys
theorem JQ:∀(g l:List F) (o:Nat) (b:F),(C8 l o b g).length=l.length
 |[],l,o,b=>rfl
 |y::ys,l,o,b=>by show (C8 _ (o+1) b ys).length=_;rw[JQ ys];simp
theorem SB (y:F):∀(g l:List F) (o:Nat) (b:F),C8 l o b (g++[y])=(C8 l o b g).set (o+g.length) (fa ((C8 l o b g)[o+g.length]?.getD 0) (fm b y))
 |[],l,o,b=>rfl
 |z::zs,l,o,b=>by
  show C8 _ (o+1) b (zs++[y])=_
  rw[SB y zs]
  show _=(C8 (l.set o (fa (l[o]?.getD 0) (fm b z))) (o+1) b zs).set (o+(zs.length+1)) (fa ((C8 (l.set o (fa (l[o]?.getD 0) (fm b z))) (o+1) b zs)[o+(zs.length+1)]?.getD 0) (fm b y))
  rw[show o+1+zs.length=o+(zs.length+1) by omega]
theorem SC (j:Nat):∀(g l:List F) (o:Nat) (b:F),j<o->(C8 l o b g)[j]?.getD 0=l[j]?.getD 0
 |[],l,o,b,_=>rfl
 |y::ys,l,o,b,h=>by
  show (C8 _ (o+1) b ys)[j]?.getD 0=_
  rw[SC j ys _ (o+1) b (by omega),List.getElem?_set_ne (by omega)]
theorem RS (i:Nat):∀(g l:List F) (o:Nat) (b:F),o+g.length<=l.length->Mu i (C8 l o b g)=fa (Mu i l) (fm (fm b (Mu i g)) (gp (i*(l.length-o-g.length))))
 |[],l,o,b,h=>by show Mu i l=_;rw[gG,Dr,Cf,DE]
 |y::ys,l,o,b,h=>by
  simp only[List.length_cons] at h
  show Mu i (C8 _ (o+1) b ys)=_
  rw[RS i ys _ (o+1) b (by rw[List.length_set];omega),oC i l o _ (by omega),QW,List.length_set,List.length_cons]
  rw[←EK (l[o]?.getD 0),Fu,JZ,MT,EK]
  congr 1
  have e1:l.length-1-o=ys.length+(l.length-o-(ys.length+1)):=by omega
  have e2:l.length-(o+1)-ys.length=l.length-o-(ys.length+1):=by omega
  rw[e1,e2,Nat.mul_add,YF,Dt (fa _ _),MT,Dt (gp (i*(l.length-o-(ys.length+1)))),Dt (gp (i*(l.length-o-(ys.length+1))))]
  simp only[Ft]
theorem RQ (i:Nat):∀a:List F,Mu i (a++[0])=fm (Mu i a) (gp i)
 |[]=>by
  show Mu i [0]=_
  rw[QW,Cf,gG,Cf,DE]
 |y::ys=>by
  show Mu i (y::(ys++[0]))=_
  rw[QW,QW,RQ i ys,List.length_append,List.length_singleton,Nat.mul_add,Nat.mul_one,YF,Dt (fa _ _),MT,Dt (gp i) (Mu i ys),Dt (gp i) (fm y _),Ft]
theorem kj (i:Nat) (a:List F) (h:Mu i a=0):∀n,Mu i (a++List.replicate n 0)=0
 |0=>by simpa using h
 |n+1=>by rw[List.replicate_succ',←List.append_assoc,RQ,kj i a h n,Cf]
def JG:Nat->List F
 |0=>[1]
 |i+1=>C8 (JG i++[0]) 1 (gp i) (JG i)
theorem LJ:∀i,(JG i).length=i+1
 |0=>rfl
 |i+1=>by show (C8 (JG i++[0]) 1 (gp i) (JG i)).length=_;rw[JQ];simp[LJ i]
theorem gS:∀i,(JG i)[0]?.getD 0=1
 |0=>rfl
 |i+1=>by
  show (C8 (JG i++[0]) 1 (gp i) (JG i))[0]?.getD 0=1
  rw[SC 0 _ _ 1 _ (by omega),List.getElem?_append_left (by rw[LJ];omega),gS i]
theorem gJ (r:Nat):∀i,r<i->Mu r (JG i)=0
 |0,h=>by omega
 |i+1,h=>by
  show Mu r (C8 (JG i++[0]) 1 (gp i) (JG i))=0
  rw[RS r _ _ _ _ (by simp;omega),RQ,List.length_append,LJ]
  rw[show i+1+([(0:F)]).length-1-(i+1)=0 by simp,Nat.mul_zero,ZZ,Jn,Dt (gp i)]
  by_cases hr:r<i
  ·rw[gJ r i hr,Cf,Cf,DE]
  ·have:r=i:=by omega
   subst this
   rw[Fu]
def GX (g d:List F) (P:Nat):Nat->List F
 |0=>d++List.replicate P 0
 |i+1=>C8 (GX g d P i) i ((GX g d P i)[i]?.getD 0) g
theorem HG (g d:List F) (P:Nat):∀i,(GX g d P i).length=d.length+P
 |0=>by simp[GX]
 |i+1=>by show (C8 _ _ _ _).length=_;rw[JQ,HG g d P i]
theorem ZJ (g d:List F) (P:Nat) (hg:g[0]?.getD 0=1):∀i,i<=d.length->∀j,j<i->(GX g d P i)[j]?.getD 0=0
 |0,_,j,hj=>by omega
 |i+1,hi,j,hj=>by
  show (C8 (GX g d P i) i ((GX g d P i)[i]?.getD 0) g)[j]?.getD 0=0
  cases g with
  |nil=>exact absurd hg (by decide)
  |cons y ys =>
   have hy:y=1:=by simpa using hg
   subst hy
   show (C8 ((GX (1::ys) d P i).set i _) (i+1) _ ys)[j]?.getD 0=0
   rw[SC j _ _ _ _ (by omega)]
   by_cases h:j=i
   ·subst h
    rw[Jn,Fu,List.getElem?_set_self (by rw[HG];omega)];rfl
   ·rw[List.getElem?_set_ne (fun e=>h e.symm)]
    exact ZJ (1::ys) d P rfl i (by omega) j (by omega)
theorem Ze (r:Nat) (g d:List F) (P:Nat) (hg:Mu r g=0) (hl:g.length=P+1):∀i,i<=d.length->Mu r (GX g d P i)=Mu r (d++List.replicate P 0)
 |0,_=>rfl
 |i+1,hi=>by
  show Mu r (C8 _ _ _ _)=_
  rw[RS r _ _ _ _ (by rw[HG];omega),hg,Dr,Cf,DE]
  exact Ze r g d P hg hl i (by omega)
def Gh (P:Nat) (d:List F):List F:=d++(GX (JG P) d P d.length).drop d.length
theorem HX (P:Nat) (d:List F):(Gh P d).length=d.length+P:=by
 unfold Gh;rw[List.length_append,List.length_drop,HG];omega
theorem oP (L P:Nat) (w:List F) (hw:w.length=L):iE L P w↔∀i,i<P->Mu i w=0:=by
 subst hw
 constructor
 ·intro h i hi
  have:=h i hi
  rwa [show Eg (KW w.length P w) i=Fh w (Sc w.length i) from Kl _ _ _ _ hi] at this
 ·intro h i hi
  rw[show Eg (KW w.length P w) i=Fh w (Sc w.length i) from Kl _ _ _ _ hi]
  exact h i hi
theorem Wa (P:Nat) (d:List F):iE (d.length+P) P (Gh P d):=by
 rw[oP _ _ _ (HX P d)]
 intro i hi
 obtain⟨R,hR⟩:∃R,GX (JG P) d P d.length=R:=⟨_,rfl⟩
 have hl:R.length=d.length+P:=by rw[←hR];exact HG _ _ _ _
 have h0:∀j,j<d.length->R[j]?.getD 0=0:=by rw[←hR];exact ZJ _ _ _ (gS P) _ (Nat.le_refl _)
 have he:Mu i R=Mu i (d++List.replicate P 0):=by rw[←hR];exact Ze i _ _ _ (gJ i P hi) (LJ P) _ (Nat.le_refl _)
 have hlen:(d++List.replicate P (0:F)).length=R.length:=by simp[hl]
 have hE:Gh P d=Gn (d++List.replicate P 0) R 1:=by
  apply gB
  ·rw[HX,Oa _ _ _ hlen];simp
  ·intro j hj
   rw[HX] at hj
   show (Gh P d)[j]?.getD 0=(Gn (d++List.replicate P 0) R 1)[j]?.getD 0
   rw[show (Gn (d++List.replicate P 0) R 1)[j]?.getD 0=fa ((d++List.replicate P (0:F))[j]?.getD 0) (fm (R[j]?.getD 0) 1) from OX _ _ _ _ hlen]
   unfold Gh
   rw[hR,Jn]
   by_cases h:j<d.length
   ·rw[List.getElem?_append_left h,List.getElem?_append_left h,h0 j h,DE]
   ·rw[List.getElem?_append_right (by omega),List.getElem?_append_right (by omega),List.getElem?_drop,List.getElem?_replicate,if_pos (by omega),show d.length+(j-d.length)=j by omega]
    exact(JZ _).symm
 rw[hE]
 unfold Mu
 have h2:(Gn (d++List.replicate P 0) R 1).length=(d++List.replicate P (0:F)).length:=by rw[Oa _ _ _ hlen]
 rw[h2,Nz _ _ _ _ hlen]
 have h3:Mu i (d++List.replicate P (0:F))=Fh (d++List.replicate P (0:F)) (Sc (d++List.replicate P (0:F)).length i):=rfl
 have h4:Mu i R=Fh R (Sc (d++List.replicate P (0:F)).length i):=by unfold Mu;rw[hlen]
 rw[←h3,←h4,he,UA,Fu]
end Go.Pw
end
