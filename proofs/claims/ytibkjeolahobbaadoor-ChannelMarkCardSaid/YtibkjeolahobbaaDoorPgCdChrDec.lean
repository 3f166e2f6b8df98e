/- A part of the proof. -/
import Derived.Test.YtibkjeolahobbaaDoorPgCdChrH
set_option linter.all false
section
namespace Go.Pw
theorem Tb (x:F):∀(w c:List F) (j:Nat),j<w.length->w.length<=c.length->Fd (w.set j x) c=fa (Fd w c) (fm (fa (w[j]?.getD 0) x) (c[j]?.getD 0))
 |a::w,b::c,0,_,_=>by
  show fa (fm x b) (Fd w c)=fa (fa (fm a b) (Fd w c)) (fm (fa a x) b)
  rw[jY,NM (fm a b) (Fd w c),EA,←EA (fm a b),Fp,JE,NM]
 |a::w,b::c,j+1,h,hl=>by
  have ih:=Tb x w c j (by simpa using h) (by simpa using hl)
  show fa (fm a b) (Fd (w.set j x) c)=fa (fa (fm a b) (Fd w c)) (fm (fa (w[j]?.getD 0) x) (c[j]?.getD 0))
  rw[ih,EA]
theorem V8 (w:List F) (j:Nat) (x:F):∀(js:List Nat) (xs:List F),j∉js->G6 (w.set j x) js xs=G6 w js xs
 |[],xs,_=>rfl
 |k::js,[],_=>rfl
 |k::js,y::xs,h=>by
  have ih:=V8 w j x js xs fun e=>h (by simp[e])
  show fa ((w.set j x)[k]?.getD 0) y::G6 (w.set j x) js xs=fa (w[k]?.getD 0) y::G6 w js xs
  rw[ih,List.getElem?_set_ne fun e=>h (by simp[e])]
theorem SL (c:List F):∀(at_:List Nat) (xs w:List F),at_.Nodup->at_.length=xs.length->(∀j,j∈at_->j<w.length)->w.length<=c.length ->
  Fd (ER w at_ xs) c=fa (Fd w c) (Fd (at_.map fun j=>c[j]?.getD 0) (G6 w at_ xs))
 |[],xs,w,_,_,_,_=>by rw[N8];simp[La,C6]
 |j::js,x::xs,w,hn,hl,hlt,hc=>by
  rw[List.nodup_cons] at hn
  have hj:=hlt j (by simp)
  have ih:=SL c js xs (w.set j x) hn.2 (by simpa using hl) (fun k hk=>by simpa using hlt k (by simp[hk])) (by simpa using hc)
  show Fd (ER (w.set j x) js xs) c=fa (Fd w c) (fa (fm (c[j]?.getD 0) (fa (w[j]?.getD 0) x)) (Fd (js.map fun j=>c[j]?.getD 0) (G6 w js xs)))
  rw[ih,Tb x w c j hj hc,V8 _ _ _ _ _ hn.1,EA,Dt (c[j]?.getD 0)]
theorem gn (L i:Nat) (at_:List Nat) (h:∀j,j∈at_->j<L):(at_.map fun j=>(Rb L i)[j]?.getD 0)=at_.map fun j=>XR L i j :=
 List.map_congr_left fun j hj=>Tj L i j (h j hj)
theorem P1 {L P:Nat}{w xs:List F}{at_:List Nat}(hw:w.length=L) (hp:aw L at_) (hl:at_.length=xs.length) (i:Nat) (h:i<P) :
  Ea (KD L P (ER w at_ xs)) i=fa (Ea (KD L P w) i) (Fd (at_.map fun j=>XR L i j) (G6 w at_ xs)):=by
 show (KD L P (ER w at_ xs))[i]?.getD 0=fa ((KD L P w)[i]?.getD 0) _
 rw[KP _ _ _ _ h,KP _ _ _ _ h,SL (Rb L i) at_ xs w hp.nd hl (fun j hj=>by rw[hw];exact hp.lt j hj) (by rw[Pt];omega),gn L i at_ hp.lt]
theorem X9 {L P:Nat}{at_:List Nat}{s v:List F}(hv:v.length=at_.length):RF 1 (PB L P at_ s) v↔∀i,i<P->fa (Ea s i) (Fd (at_.map fun j=>XR L i j) v)=0:=by
 have hl:=(NN L P at_ s).len
 constructor
 ·intro h i hi
  have:=h i (by omega)
  rwa [Tc _ _ _ _ _ _ hv i hi,JS,NM] at this
 ·intro h i hi
  rw[Tc _ _ _ _ _ _ hv i (by omega),JS,NM];exact h i (by omega)
def fA (L P:Nat) (w:List F):Prop:=∀i,i<P->Ea (KD L P w) i=0
theorem Ou (w:List F):∀(at_:List Nat) (v:List F),at_.length=v.length->G6 w at_ (G6 w at_ v)=v
 |[],[],_=>rfl
 |j::js,x::v,h=>by
  have ih:=Ou w js v (by simpa using h)
  show fa (w[j]?.getD 0) (fa (w[j]?.getD 0) x)::G6 w js (G6 w js v)=x::v
  rw[ih,←EA,Fp,JE]
theorem dT {L P:Nat}{w r:List F}{mk l:List Nat}(hw:w.length=L) (hp:aw L (mk++l)) (h:hit L P w mk l=some r):fA L P r/\r.length=L/\∀j,j∉mk++l->r[j]?.getD 0=w[j]?.getD 0:=by
 unfold hit at h
 rw[Option.map_eq_some_iff] at h
 obtain⟨v,hv,rfl⟩:=h
 obtain⟨h1,h2⟩:=Ry hv
 refine⟨fun i hi=>?_,by rw[N9];exact hw,fun j hj=>N_ _ _ _ _ hj⟩
 rw[P1 hw hp (by rw[Q7 _ _ _ h1.symm]) i hi,Ou _ _ _ h1.symm]
 exact(X9 h1).1 h2 i hi
theorem T5:∀(at_:List Nat) (w c:List F),at_.Nodup->c.length=w.length->(∀j,j∈at_->j<w.length)->(∀j,j∉at_->c[j]?.getD 0=w[j]?.getD 0)->ER w at_ (at_.map fun j=>c[j]?.getD 0)=c
 |[],w,c,_,hl,_,h=>by
  rw[N8]
  exact(d_ hl fun j _=>h j (by simp)).symm
 |j::js,w,c,hn,hl,hlt,h=>by
  rw[List.nodup_cons] at hn
  show ER (w.set j (c[j]?.getD 0)) js (js.map fun j=>c[j]?.getD 0)=c
  refine T5 js _ c hn.2 (by simpa using hl) (fun k hk=>by simpa using hlt k (by simp[hk])) fun k hk=>?_
  by_cases hkj:k=j
  ·subst hkj
   have:=hlt k (by simp)
   rw[List.getElem?_set_self this];rfl
  ·rw[List.getElem?_set_ne (fun e=>hkj e.symm)]
   exact h k (by simp[hk,hkj])
theorem W_ {L P:Nat}(hL:L<=15) {w c:List F}{mk l:List Nat}(hw:w.length=L) (hc:c.length=L) (hp:aw L (mk++l)) (hm:(mk++l).length<=P) (hcode:fA L P c) (h:∀j,j∉mk++l->c[j]?.getD 0=w[j]?.getD 0):hit L P w mk l=some c:=by
 obtain⟨A,hA⟩:∃A,mk++l=A:=⟨_,rfl⟩
 unfold hit
 rw[hA] at hp hm h ⊢
 obtain⟨ys,hys⟩:∃ys,(A.map fun j=>c[j]?.getD 0)=ys:=⟨_,rfl⟩
 have hyl:A.length=ys.length:=by rw[←hys];simp
 have hc2:ER w A ys=c:=by
  rw[←hys];exact T5 A w c hp.nd (by omega) (fun j hj=>by rw[hw];exact hp.lt j hj) h
 have hal:=Q7 w A ys hyl
 have hs:Le L P A (KD L P w)=some (G6 w A ys):=by
  refine Rz hL hp hm hal ((X9 hal).2 fun i hi=>?_)
  rw[←P1 hw hp hyl i hi,hc2]
  exact hcode i hi
 rw[hs,Option.map_some,Ou _ _ _ hyl,hc2]
theorem SS {L P:Nat}(hL:L<=15) {c d:List F}{at_:List Nat}(hc:c.length=L) (hd:d.length=L) (hp:aw L at_) (hm:at_.length<=P) (h1:fA L P c) (h2:fA L P d) (h:∀j,j∉at_->c[j]?.getD 0=d[j]?.getD 0):c=d:=by
 have e1:hit L P d [] at_=some c:=W_ hL hd hc (by simpa using hp) (by simpa using hm) h1 (by simpa using h)
 have e2:hit L P d [] at_=some d:=W_ hL hd hd (by simpa using hp) (by simpa using hm) h2 (fun _ _=>rfl)
 rw[e1] at e2
 simpa using e2
def CP (L:Nat) (mk:List Nat):Nat->Nat->List (List Nat)
 |0,_=>[[]]
 |m+1,fr=>((List.range' fr (L-fr)).filter fun j=>!mk.contains j).flatMap fun j=>(CP L mk m (j+1)).map (j :: ·)
structure Sa (L:Nat) (mk:List Nat) (fr:Nat) (l:List Nat):Prop where
 asc:l.Pairwise (· < ·)
 ge:∀j,j∈l->fr<=j
 lt:∀j,j∈l->j<L
 un:∀j,j∈l->j∉mk
theorem IW (L:Nat) (mk:List Nat):∀(m fr:Nat) (l:List Nat),l∈CP L mk m fr->l.length=m/\Sa L mk fr l
 |0,fr,l,h=>by
  simp[CP] at h;subst h
  exact⟨rfl,.nil,by simp,by simp,by simp⟩
 |m+1,fr,l,h=>by
  simp only[CP,List.mem_flatMap,List.mem_filter,List.mem_range'_1,List.mem_map] at h
  obtain⟨j,⟨hj,hjm⟩,l',hl',rfl⟩:=h
  obtain⟨h1,h2⟩:=IW L mk m (j+1) l' hl'
  refine⟨by simp[h1],List.pairwise_cons.2 ⟨fun k hk=>by have:=h2.ge k hk;omega,h2.asc⟩,fun k hk=>?_,fun k hk=>?_,fun k hk=>?_⟩
  ·rcases List.mem_cons.1 hk with rfl|hk
   ·omega
   ·have:=h2.ge k hk;omega
  ·rcases List.mem_cons.1 hk with rfl|hk
   ·omega
   ·exact h2.lt k hk
  ·rcases List.mem_cons.1 hk with rfl|hk
   ·simpa using hjm
   ·exact h2.un k hk
theorem Ud (L:Nat) (mk:List Nat):∀(l:List Nat) (fr:Nat),Sa L mk fr l->l∈CP L mk l.length fr
 |[],fr,_=>by simp[CP]
 |j::l,fr,h=>by
  have h1:=List.pairwise_cons.1 h.asc
  have ih:=Ud L mk l (j+1) ⟨h1.2,fun k hk=>h1.1 k hk,fun k hk=>h.lt k (by simp[hk]),fun k hk=>h.un k (by simp[hk])⟩
  simp only[List.length_cons,CP,List.mem_flatMap,List.mem_filter,List.mem_range'_1,List.mem_map]
  refine⟨j,⟨⟨h.ge j (by simp),?_⟩,?_⟩,l,ih,rfl⟩
  ·have:=h.ge j (by simp);have:=h.lt j (by simp);omega
  ·have:=h.un j (by simp)
   simpa using this
structure Xv (L:Nat) (mk:List Nat):Prop where
 asc:mk.Pairwise (· < ·)
 lt:∀j,j∈mk->j<L
theorem EL {l:List Nat}(h:l.Pairwise (· < ·)):l.Nodup:=h.imp fun h=>Nat.ne_of_lt h
theorem S3 {L fr:Nat}{mk l:List Nat}(hm:Xv L mk) (h:Sa L mk fr l):aw L (mk++l):=by
 refine⟨List.nodup_append.2 ⟨EL hm.asc,EL h.asc,fun a ha b hb e=>h.un b hb (e ▸ ha)⟩,fun j hj=>?_⟩
 rcases List.mem_append.1 hj with hj|hj
 ·exact hm.lt j hj
 ·exact h.lt j hj
noncomputable def MX (L P:Nat) (w:List F) (mk:List Nat):Option (List F) :=
 if mk.length<=P then (List.range ((P-mk.length)/2+1)).findSome? fun e=>(CP L mk e 0).findSome? (hit L P w mk) else none
def MR (L:Nat) (a b:List F) (mk:List Nat):List Nat:=(List.range L).filter fun j=>decide (a[j]?.getD 0≠b[j]?.getD 0) && !mk.contains j
theorem NQ (L:Nat) (a b:List F) (mk:List Nat):Sa L mk 0 (MR L a b mk):=by
 refine⟨List.Pairwise.filter _ List.pairwise_lt_range,fun _ _=>Nat.zero_le _,fun j hj=>?_,fun j hj=>?_⟩
 ·simp[MR] at hj;exact hj.1
 ·simp[MR] at hj;exact hj.2.2
theorem NR {L:Nat}{a b:List F}{mk:List Nat}(ha:a.length=L) (hb:b.length=L) {j:Nat}(h:j∉mk++MR L a b mk):a[j]?.getD 0=b[j]?.getD 0:=by
 by_cases hj:j<L
 ·simp only[List.mem_append,not_or] at h
  by_cases he:a[j]?.getD 0=b[j]?.getD 0
  ·exact he
  ·exact absurd (by simp[MR,hj,h.1];exact he) h.2
 ·rw[List.getElem?_eq_none (by omega),List.getElem?_eq_none (by omega)]
theorem NA:∀(l k:List Nat),l.Nodup->(∀j,j∈l->j∈k)->l.length<=k.length
 |[],k,_,_=>Nat.zero_le _
 |x::l,k,hn,h=>by
  rw[List.nodup_cons] at hn
  have hx:=h x (by simp)
  have ih:=NA l (k.erase x) hn.2 fun j hj=>(List.mem_erase_of_ne (show j≠x from fun e=>hn.1 (by rw[←e];exact hj))).2 (h j (by simp[hj]))
  rw[List.length_erase_of_mem hx] at ih
  have:0<k.length:=List.length_pos_of_mem hx
  simp only[List.length_cons]
  omega
theorem lL {L fr:Nat}{a b:List F}{mk l:List Nat}(hs:Sa L mk fr l) (h:∀j,j∉mk++l->a[j]?.getD 0=b[j]?.getD 0):(MR L a b mk).length<=l.length:=by
 have hsub:∀j,j∈MR L a b mk->j∈l:=fun j hj=>by
  simp[MR] at hj
  by_cases hjl:j∈l
  ·exact hjl
  ·exact absurd (h j (by simp[hj.2.2,hjl])) hj.2.1
 exact NA _ _ (EL (NQ L a b mk).asc) hsub
theorem L0 {α β:Type}{f:α->Option β}{l:List α}{r:β}(h:l.findSome? f=some r):∃x,x∈l/\f x=some r:=by
 rw[List.findSome?_eq_some_iff] at h
 obtain⟨l1,a,l2,rfl,h2,_⟩:=h
 exact⟨a,by simp,h2⟩
theorem NS {L P:Nat}{w r:List F}{mk:List Nat}(hw:w.length=L) (hm:Xv L mk) (h:MX L P w mk=some r) :
  fA L P r/\r.length=L/\2*(MR L r w mk).length+mk.length<=P:=by
 unfold MX at h
 split at h
 ·rename_i hle
  obtain⟨e,he,h⟩:=L0 h
  obtain⟨l,hl,h⟩:=L0 h
  obtain⟨h1,h2⟩:=IW L mk e 0 l hl
  obtain⟨h3,h4,h5⟩:=dT hw (S3 hm h2) h
  refine⟨h3,h4,?_⟩
  have:=lL h2 h5
  simp at he
  omega
 ·cases h
theorem lM {L P:Nat}(hL:L<=15) {w c:List F}{mk:List Nat}(hw:w.length=L) (hc:c.length=L) (hm:Xv L mk) (hcode:fA L P c) (h:2*(MR L c w mk).length+mk.length<=P):MX L P w mk=some c:=by
 have hs:=NQ L c w mk
 have hp:=S3 hm hs
 have hhit:hit L P w mk (MR L c w mk)=some c:=W_ hL hw hc hp (by simp;omega) hcode fun j hj=>NR hc hw hj
 have hfound:∃r,MX L P w mk=some r:=by
  unfold MX
  rw[if_pos (by omega)]
  cases hf:(List.range ((P-mk.length)/2+1)).findSome? fun e=>(CP L mk e 0).findSome? (hit L P w mk) with
  |some r=>exact⟨r,rfl⟩
  |none =>
   rw[List.findSome?_eq_none_iff] at hf
   have h1:=hf (MR L c w mk).length (by simp;omega)
   rw[List.findSome?_eq_none_iff] at h1
   have h2:=h1 _ (Ud L mk _ 0 hs)
   rw[hhit] at h2;cases h2
 obtain⟨r,hr⟩:=hfound
 rw[hr]
 congr 1
 obtain⟨h1,h2,h3⟩:=NS hw hm hr
 have hs2:=NQ L r w mk
 obtain⟨at_,hat⟩:∃at_,mk++((MR L r w mk)++(MR L c w mk).filter fun j=>!(MR L r w mk).contains j)=at_:=⟨_,rfl⟩
 refine SS hL (at_:=at_) h2 hc ?_ ?_ h1 hcode fun j hj=>?_
 ·rw[←hat]
  refine⟨List.nodup_append.2 ⟨EL hm.asc,List.nodup_append.2 ⟨EL hs2.asc,(EL hs.asc).filter _,fun a ha b hb e=>?_⟩,fun a ha b hb e=>?_⟩,fun j hj=>?_⟩
  ·simp at hb;exact hb.2 (e ▸ ha)
  ·subst e
   rcases List.mem_append.1 hb with hb|hb
   ·exact hs2.un a hb ha
   ·exact hs.un a (List.mem_filter.1 hb).1 ha
  ·rcases List.mem_append.1 hj with hj|hj
   ·exact hm.lt j hj
   ·rcases List.mem_append.1 hj with hj|hj
    ·exact hs2.lt j hj
    ·exact hs.lt j (List.mem_filter.1 hj).1
 ·rw[←hat]
  have:=List.length_filter_le (fun j=>!(MR L r w mk).contains j) (MR L c w mk)
  simp only[List.length_append]
  omega
 ·rw[←hat] at hj
  simp only[List.mem_append,not_or,List.mem_filter] at hj
  obtain⟨j1,j2,j3⟩:=hj
  have j4:j∉MR L c w mk:=fun hh=>j3 ⟨hh,by simpa using j2⟩
  exact(NR h2 hw (fun e=>(List.mem_append.1 e).elim j1 j2)).trans (NR hc hw (fun e=>(List.mem_append.1 e).elim j1 j4)).symm
end Go.Pw
end
section
open Go Go.Pw Go.Proofs
namespace Go.Pw
set_option maxRecDepth 100000
set_option maxHeartbeats 3200000
abbrev VG:Dm:=[((900004,0),(900004,0)),((901004,0),(901004,0))]
structure md (G:List Nat->Option (List F)) (A:List Nat->Prop) (f:FuncId) (cs:List AV):Prop where
 body:Bu E0.P f=true
 st:AV.sites.sitesL cs=[900004,901004]
 nr:∀(V:AJ) (os:List Nat),AV.nrm.live V os 900004 0=true->AV.nrm.live V os 901004 0=true->AV.nrm.nrmL V os cs=cs
 rn:AV.ren.renL VG cs=some cs
 ar:N0 VG cs cs
 call:∀(nl:Bool) (l:List Nat) (b:Bool) (o:List F) (fnd:Bool),A l->(nl=true->l=[])->H_ E0 f (vv b o fnd) (.d (.list nl (Al (ni l)))::cs) (vh b o fnd (G l)) (.d (.bool (G l).isNone))
theorem Qv:Bu E0.P Bw=true:=by kernel_rfl
theorem Wt (b:Bool) (o:List F) (fnd:Bool):PR (vv b o fnd)=true:=by simp[vv,PR,CT,D6,Aa.isHist]
theorem any_cons {α:Type}(l:List α):True:=trivial
theorem Y8 (L:Nat) (mk:List Nat) (m j:Nat) (G:List Nat->Option (List F)) (hj:j<L) :
  (CP L mk (m+1) j).findSome? G=if mk.contains j then (CP L mk (m+1) (j+1)).findSome? G else
   ((CP L mk m (j+1)).findSome? fun l=>G (j::l)).or ((CP L mk (m+1) (j+1)).findSome? G):=by
 have hr:List.range' j (L-j)=j::List.range' (j+1) (L-(j+1)):=by
  rw[show L-j=(L-(j+1))+1 by omega,List.range'_succ]
 simp only[CP]
 rw[hr,List.filter_cons]
 cases h:mk.contains j with
 |true=>simp
 |false =>
  simp only[Bool.not_false,if_true,Bool.false_eq_true,if_false,List.flatMap_cons,List.findSome?_append]
  rw[List.findSome?_map];rfl
theorem ba (L:Nat) (mk:List Nat) (m:Nat):CP L mk (m+1) L=[]:=by simp[CP]
theorem bZ (L:Nat) (mk:List Nat) (m fr:Nat) (l:List Nat) (h:l∈CP L mk m fr):l.length=m:=(IW L mk m fr l h).1
theorem bX (L:Nat) (mk:List Nat) (m fr j:Nat) (l:List Nat) (hf:fr<=j) (hj:j<L) (hm:mk.contains j=false) (h:l∈CP L mk m (j+1)):j::l∈CP L mk (m+1) fr:=by
 simp only[CP,List.mem_flatMap,List.mem_filter,List.mem_range'_1,List.mem_map]
 exact⟨j,⟨⟨hf,by omega⟩,by simpa using hm⟩,l,h,rfl⟩
theorem kr (mk:List Nat) (j:Nat):hZ (ni mk) (j:Int)=mk.contains j:=by
 unfold hZ ni
 rw[Bool.eq_iff_iff]
 simp only[List.contains_iff_mem,List.mem_map]
 constructor
 ·rintro⟨k,hk,he⟩
  have:k=j:=by omega
  subst this;exact hk
 ·exact fun h=>⟨j,h,rfl⟩
attribute [local congr] Bi A9 A_ Aq Bj Ax Az Ay Ap Aj Ad AY Au Ae Av BH BL BJ BK BI BM BE Ah Aw Ai BC BS Ag BF BG BD BA BB A8 Bl A' Ar Af
attribute [local irreducible] IntKind.wrap A3 Option.getD and or
theorem Rc {G:List Nat->Option (List F)}{A:List Nat->Prop}{f:FuncId}{cs:List AV}(hY:md G A f cs) (j:Nat) (nl:Bool) (l:List Nat) (b:Bool) (o:List F) (fnd:Bool) (hA:A (j::l)) (hll:l.length<=100) :
  H_ E0 Bw (vv b o fnd) [.d (.list nl (Al (ni l))),.ablk false [.fn f cs] 0,.d (.ptr [.int .i64 (j:Int)])] (vh b o fnd (G (j::l))) (.d (.bool (G (j::l)).isNone)):=by
 have c1:=hY.call false (j::l) b o fnd hA (by simp)
 have hst:=hY.st
 have hbody:=hY.body
 have hl:D.int .i64 (j:Int)::Al (ni l)=Al (ni (j::l)):=rfl
 have h1:((vv b o fnd).all fun q=>E5 (vh b o fnd (G (j::l))) q.1 q.2.1)=true:=by cases G (j::l)<;>simp[vv,vh,E5]
 refine De HP A0 (by simp) (Wt b o fnd) h1 fun hwf hwo=>?_
 rw[EJ];unfold Ev
 unfold vv at c1 ⊢
 have har:N0 VG (.d (.list false (Al (ni (j::l))))::cs) (.d (.list false (Al (ni (j::l))))::cs):=⟨rfl,hY.ar⟩
 cases hg:G (j::l) with
 |none =>
  rw[hg,JI] at c1
  rw[JI]
  unfold vv at c1 ⊢
  (try (simp -implicitDefEqProofs only[go_sem,hst,hbody,hl,HI]));repeat' first|(with_reducible first|exact tI|refine aI ?_ ?_|intro _)|((first|with_reducible refine AO ?_ ?_<;>intro _)<;>try (simp -implicitDefEqProofs only[go_sem,hst,hbody,hl,HI]))|simp (disch:=omega) only[An]
  all_goals first|omega|(simp;done)|(simp;omega)|skip
  refine E7 VG VG c1 har (by simp[Handed,Dm.get,Aa.ren,AV.ren,AV.ren.renL,AJ.get,BV,B2,Di,AJ.reach,AV.sites,AV.sites.sitesL,AJ.osites,hst]) (by simp[CN,E5,CT,Dm.get,Di,D6,CG]) (by rfl) (by simp only[D4,Dm.get,Aa.ren,AV.ren,AV.ren.renL,and_self,and_true,true_and,if_true,reduceIte];rfl) ?_
  (try (simp -implicitDefEqProofs only[go_sem,hst,HI]));repeat' first|(with_reducible first|exact tI|refine aI ?_ ?_|intro _)|((first|with_reducible refine AO ?_ ?_<;>intro _)<;>try (simp -implicitDefEqProofs only[go_sem,hst,HI]))|simp (disch:=omega) only[An]
  all_goals first|omega|(simp;done)|(simp;omega)|skip
  all_goals first|rfl|skip
 |some z =>
  rw[hg,JH] at c1
  rw[JH]
  unfold vv at c1 ⊢
  (try (simp -implicitDefEqProofs only[go_sem,hst,hbody,hl,HI]));repeat' first|(with_reducible first|exact tI|refine aI ?_ ?_|intro _)|((first|with_reducible refine AO ?_ ?_<;>intro _)<;>try (simp -implicitDefEqProofs only[go_sem,hst,hbody,hl,HI]))|simp (disch:=omega) only[An]
  all_goals first|omega|(simp;done)|(simp;omega)|skip
  refine E7 VG VG c1 har (by simp[Handed,Dm.get,Aa.ren,AV.ren,AV.ren.renL,AJ.get,BV,B2,Di,AJ.reach,AV.sites,AV.sites.sitesL,AJ.osites,hst]) (by simp[CN,E5,CT,Dm.get,Di,D6,CG]) (by rfl) (by simp only[D4,Dm.get,Aa.ren,AV.ren,AV.ren.renL,and_self,and_true,true_and,if_true,reduceIte];rfl) ?_
  (try (simp -implicitDefEqProofs only[go_sem,hst,HI]));repeat' first|(with_reducible first|exact tI|refine aI ?_ ?_|intro _)|((first|with_reducible refine AO ?_ ?_<;>intro _)<;>try (simp -implicitDefEqProofs only[go_sem,hst,HI]))|simp (disch:=omega) only[An]
  all_goals first|omega|(simp;done)|(simp;omega)|skip
  all_goals first|rfl|skip
theorem a6 {G:List Nat->Option (List F)}{A:List Nat->Prop}{f:FuncId}{cs:List AV}(hY:md G A f cs) (j:Nat) :
  md (fun l=>G (j::l)) (fun l=>A (j::l)/\l.length<=100) Bw [.ablk false [.fn f cs] 0,.d (.ptr [.int .i64 (j:Int)])] :=
 ⟨Qv,by simp[AV.sites,AV.sites.sitesL,hY.st],fun V os h1 h2=>by simp[AV.nrm,AV.nrm.nrmL,hY.nr V os h1 h2,AV.one],by simp[AV.ren,AV.ren.renL,hY.rn],
  ⟨by simp[jD,AV.ren,AV.ren.renL,hY.rn],rfl,trivial⟩,fun nl l b o fnd hA _=>Rc hY j nl l b o fnd hA.1 hA.2⟩
theorem PF (L P:Nat) (n:Bool) (mk:List Nat) (hL:L<=15):∀(m fr:Nat) {G:List Nat->Option (List F)}{A:List Nat->Prop}{f:FuncId}{cs:List AV}(hY:md G A f cs) (hA:∀l,l∈CP L mk m fr->A l) (hfr:fr<=L) (hm:m<=50) (b:Bool) (o:List F) (fnd:Bool),
  H_ E0 Fx (vv b o fnd) [.d (Tk L P),.d (.list n (Al (ni mk))),.d (.int .i64 (fr:Int)),.d (.int .i64 (m:Int)),.fn f cs] (vh b o fnd ((CP L mk m fr).findSome? G)) (.d (.bool ((CP L mk m fr).findSome? G).isNone))
 |0,fr,G,A,f,cs,hY,hA,hfr,hm,b,o,fnd=>by
  have e0:(CP L mk 0 fr).findSome? G=G []:=by simp[CP]
  rw[e0]
  have c1:=hY.call true [] b o fnd (hA [] (by simp[CP])) (fun _=>rfl)
  rw[show Al (ni [])=[] from rfl] at c1
  have hst:=hY.st
  have hbody:=hY.body
  have h1:((vv b o fnd).all fun q=>E5 (vh b o fnd (G [])) q.1 q.2.1)=true:=by cases G []<;>simp[vv,vh,E5]
  refine De FE A0 (by simp) (Wt b o fnd) h1 fun hwf hwo=>?_
  rw[EJ];unfold Dv
  have har:N0 VG (.d (.list true [])::cs) (.d (.list true [])::cs):=⟨rfl,hY.ar⟩
  have hz0:((0:Nat):Int)=0:=rfl
  cases hg:G [] with
  |none =>
   rw[hg,JI] at c1
   rw[JI]
   unfold vv at c1 ⊢
   (try (simp -implicitDefEqProofs only[go_sem,hst,hbody,B1,hz0]));repeat' first|(with_reducible first|exact tI|refine aI ?_ ?_|intro _)|((first|with_reducible refine AO ?_ ?_<;>intro _)<;>try (simp -implicitDefEqProofs only[go_sem,hst,hbody,B1,hz0]))|simp (disch:=omega) only[An]|((with_reducible refine A5 ?_);refine⟨_,rfl,?_,?_⟩)
   all_goals first|omega|(simp;done)|(simp;omega)|skip
   refine E7 VG VG c1 har (by simp[Handed,Dm.get,Aa.ren,AV.ren,AV.ren.renL,AJ.get,BV,B2,Di,AJ.reach,AV.sites,AV.sites.sitesL,AJ.osites,hst]) (by simp[CN,E5,CT,Dm.get,Di,D6,CG]) (by rfl) (by simp only[D4,Dm.get,Aa.ren,AV.ren,AV.ren.renL,and_self,and_true,true_and,if_true,reduceIte];rfl) ?_
   (try (simp -implicitDefEqProofs only[go_sem,hst]));repeat' first|(with_reducible first|exact tI|refine aI ?_ ?_|intro _)|((first|with_reducible refine AO ?_ ?_<;>intro _)<;>try (simp -implicitDefEqProofs only[go_sem,hst]))|simp (disch:=omega) only[An]|((with_reducible refine A5 ?_);refine⟨_,rfl,?_,?_⟩)
   all_goals first|omega|(simp;done)|(simp;omega)|skip
   all_goals first|rfl|skip
  |some z =>
   rw[hg,JH] at c1
   rw[JH]
   unfold vv at c1 ⊢
   (try (simp -implicitDefEqProofs only[go_sem,hst,hbody,B1,hz0]));repeat' first|(with_reducible first|exact tI|refine aI ?_ ?_|intro _)|((first|with_reducible refine AO ?_ ?_<;>intro _)<;>try (simp -implicitDefEqProofs only[go_sem,hst,hbody,B1,hz0]))|simp (disch:=omega) only[An]|((with_reducible refine A5 ?_);refine⟨_,rfl,?_,?_⟩)
   all_goals first|omega|(simp;done)|(simp;omega)|skip
   refine E7 VG VG c1 har (by simp[Handed,Dm.get,Aa.ren,AV.ren,AV.ren.renL,AJ.get,BV,B2,Di,AJ.reach,AV.sites,AV.sites.sitesL,AJ.osites,hst]) (by simp[CN,E5,CT,Dm.get,Di,D6,CG]) (by rfl) (by simp only[D4,Dm.get,Aa.ren,AV.ren,AV.ren.renL,and_self,and_true,true_and,if_true,reduceIte];rfl) ?_
   (try (simp -implicitDefEqProofs only[go_sem,hst]));repeat' first|(with_reducible first|exact tI|refine aI ?_ ?_|intro _)|((first|with_reducible refine AO ?_ ?_<;>intro _)<;>try (simp -implicitDefEqProofs only[go_sem,hst]))|simp (disch:=omega) only[An]|((with_reducible refine A5 ?_);refine⟨_,rfl,?_,?_⟩)
   all_goals first|omega|(simp;done)|(simp;omega)|skip
   all_goals first|rfl|skip
 |m+1,fr,G,A,f,cs,hY,hA,hfr,hm,b,o,fnd=>by
  have hst:=hY.st
  have hnr:=hY.nr
  have h1:((vv b o fnd).all fun q=>E5 (vh b o fnd ((CP L mk (m+1) fr).findSome? G)) q.1 q.2.1)=true:=by cases (CP L mk (m+1) fr).findSome? G<;>simp[vv,vh,E5]
  refine De FE A0 (by simp) (Wt b o fnd) h1 fun hwf hwo=>?_
  rw[EJ];unfold Dv
  have hz0:¬((m+1:Nat):Int)=0:=by omega
  have hwm:IntKind.i64.wrap (((m+1:Nat):Int)-1)=(m:Int):=by rw[Ak _ (by omega)];omega
  unfold vv
  (try (simp -implicitDefEqProofs only[go_sem,hst,hnr,B1,hz0]));repeat' first|(with_reducible first|exact tI|refine aI ?_ ?_|intro _)|((first|with_reducible refine AO ?_ ?_<;>intro _)<;>try (simp -implicitDefEqProofs only[go_sem,hst,hnr,B1,hz0]))|simp (disch:=omega) only[An]|((with_reducible refine A5 ?_);refine⟨_,rfl,?_,?_⟩)
  all_goals first|omega|(simp;done)|(simp;omega)|skip
  refine AZ (α:=Nat) (l0:=?l1) (m0:=?m1) (fun x=>[]) (fun x=>[(11,.cells [.d (.int .i64 (x:Int))])]) (fun x=>fr<=x/\x<=L/\(CP L mk (m+1) x).findSome? G=(CP L mk (m+1) fr).findSome? G) (fun x=>L-x) fr ?h01 ?he1 ?he21 ?hI1 ?step1
  case h01=>(simp -implicitDefEqProofs only[go_sem,hst,hnr];rfl)
  case he1=>rfl
  case he21=>rfl
  case' step1=>(rintro j hI;try dsimp only at hI)
  case' hI1=>try dsimp only
  ·exact⟨by omega,hfr,rfl⟩
  ·obtain⟨j1,j2,j3⟩:=hI
   by_cases hj:j<L
   ·have hj':(j:Int)<(L:Int):=by omega
    have hwj:IntKind.i64.wrap ((j:Int)+1)=((j+1:Nat):Int):=by rw[Ak _ (by omega)];omega
    have c0:=Ov n (ni mk) (j:Int)
    rw[kr] at c0
    have hnx:=Y8 L mk m j G hj
    cases hc:mk.contains j with
    |true =>
     rw[hc] at c0 hnx
     rw[if_pos rfl] at hnx
     have hfin:(CP L mk (m+1) (j+1)).findSome? G=(CP L mk (m+1) fr).findSome? G:=by rw[←j3,hnx]
     (try (simp -implicitDefEqProofs only[go_sem,hst,hnr,hj',hwj]));repeat' first|(with_reducible first|exact tI|refine aI ?_ ?_|intro _)|((first|with_reducible refine AO ?_ ?_<;>intro _|(with_reducible refine isCall ?_);first|refine AE c0 ?_)<;>try (simp -implicitDefEqProofs only[go_sem,hst,hnr,hj',hwj]))|simp (disch:=omega) only[An]|((with_reducible refine A5 ?_);refine⟨_,rfl,?_,?_⟩)
     all_goals first|omega|(simp;done)|(simp;omega)|skip
     all_goals first|exact hfin|skip
    |false =>
     rw[hc] at c0 hnx
     simp only[Bool.false_eq_true,if_false] at hnx
     have hYn:=a6 hY j
     have hlen:∀l,l∈CP L mk m (j+1)->l.length<=100:=fun l hl=>by rw[bZ L mk m (j+1) l hl];omega
     have ih:=PF L P n mk hL m (j+1) hYn (fun l hl=>⟨hA _ (bX L mk m fr j l j1 hj hc hl),hlen l hl⟩) (by omega) (by omega) b o fnd
     have har:N0 VG [.d (Tk L P),.d (.list n (Al (ni mk))),.d (.int .i64 ((j+1:Nat):Int)),.d (.int .i64 (m:Int)),.fn Bw [.ablk false [.fn f cs] 0,.d (.ptr [.int .i64 (j:Int)])]] [.d (Tk L P),.d (.list n (Al (ni mk))),.d (.int .i64 ((j+1:Nat):Int)),.d (.int .i64 (m:Int)),.fn Bw [.ablk false [.fn f cs] 0,.d (.ptr [.int .i64 (j:Int)])]] :=
      ⟨rfl,rfl,rfl,rfl,by simp[jD,AV.ren,AV.ren.renL,hY.rn],trivial⟩
     cases hr:(CP L mk m (j+1)).findSome? fun l=>G (j::l) with
     |none =>
      rw[hr] at ih hnx
      have hfin:(CP L mk (m+1) (j+1)).findSome? G=(CP L mk (m+1) fr).findSome? G:=by rw[←j3,hnx];rfl
      rw[JI,Option.isNone_none] at ih
      rw[B1] at ih har
      unfold vv at ih
      (try (simp -implicitDefEqProofs only[go_sem,hst,hnr,hj',hwj,hwm]));repeat' first|(with_reducible first|exact tI|refine aI ?_ ?_|intro _)|((first|with_reducible refine AO ?_ ?_<;>intro _|(with_reducible refine isCall ?_);first|refine AE c0 ?_)<;>try (simp -implicitDefEqProofs only[go_sem,hst,hnr,hj',hwj,hwm]))|simp (disch:=omega) only[An]|((with_reducible refine A5 ?_);refine⟨_,rfl,?_,?_⟩)
      all_goals first|omega|(simp;done)|(simp;omega)|skip
      refine E7 VG VG ih har (by simp[Handed,Dm.get,Aa.ren,AV.ren,AV.ren.renL,AJ.get,BV,B2,Di,AJ.reach,AV.sites,AV.sites.sitesL,AJ.osites,hst]) (by simp[CN,E5,CT,Dm.get,Di,D6,CG]) (by rfl) (by simp only[D4,Dm.get,Aa.ren,AV.ren,AV.ren.renL,and_self,and_true,true_and,if_true,reduceIte];rfl) ?_
      (try (simp -implicitDefEqProofs only[go_sem,hst,hnr,hwj]));repeat' first|(with_reducible first|exact tI|refine aI ?_ ?_|intro _)|((first|with_reducible refine AO ?_ ?_<;>intro _)<;>try (simp -implicitDefEqProofs only[go_sem,hst,hnr,hwj]))|simp (disch:=omega) only[An]|((with_reducible refine A5 ?_);refine⟨_,rfl,?_,?_⟩)
      all_goals first|omega|(simp;done)|(simp;omega)|skip
      all_goals first|exact hfin|skip
     |some z =>
      rw[hr] at ih hnx
      have hfin:(CP L mk (m+1) fr).findSome? G=some z:=by rw[←j3,hnx];rfl
      rw[hfin,JH]
      rw[JH,Option.isNone_some] at ih
      rw[B1] at ih har
      unfold vv at ih ⊢
      (try (simp -implicitDefEqProofs only[go_sem,hst,hnr,hj',hwj,hwm]));repeat' first|(with_reducible first|exact tI|refine aI ?_ ?_|intro _)|((first|with_reducible refine AO ?_ ?_<;>intro _|(with_reducible refine isCall ?_);first|refine AE c0 ?_)<;>try (simp -implicitDefEqProofs only[go_sem,hst,hnr,hj',hwj,hwm]))|simp (disch:=omega) only[An]|((with_reducible refine A5 ?_);refine⟨_,rfl,?_,?_⟩)
      all_goals first|omega|(simp;done)|(simp;omega)|skip
      refine E7 VG VG ih har (by simp[Handed,Dm.get,Aa.ren,AV.ren,AV.ren.renL,AJ.get,BV,B2,Di,AJ.reach,AV.sites,AV.sites.sitesL,AJ.osites,hst]) (by simp[CN,E5,CT,Dm.get,Di,D6,CG]) (by rfl) (by simp only[D4,Dm.get,Aa.ren,AV.ren,AV.ren.renL,and_self,and_true,true_and,if_true,reduceIte];rfl) ?_
      (try (simp -implicitDefEqProofs only[go_sem,hst,hnr,hwj]));repeat' first|(with_reducible first|exact tI|refine aI ?_ ?_|intro _)|((first|with_reducible refine AO ?_ ?_<;>intro _)<;>try (simp -implicitDefEqProofs only[go_sem,hst,hnr,hwj]))|simp (disch:=omega) only[An]|((with_reducible refine A5 ?_);refine⟨_,rfl,?_,?_⟩)
      all_goals first|omega|(simp;done)|(simp;omega)|skip
      all_goals first|rfl|skip
   ·have hj':¬(j:Int)<(L:Int):=by omega
    have hje:j=L:=by omega
    subst hje
    have hfin:(CP j mk (m+1) fr).findSome? G=none:=by rw[←j3,ba];rfl
    rw[hfin,JI]
    unfold vv
    (try (simp -implicitDefEqProofs only[go_sem,hst,hnr,hj']));repeat' first|(with_reducible first|exact tI|refine aI ?_ ?_|intro _)|((first|with_reducible refine AO ?_ ?_<;>intro _)<;>try (simp -implicitDefEqProofs only[go_sem,hst,hnr,hj']))|simp (disch:=omega) only[An]|((with_reducible refine A5 ?_);refine⟨_,rfl,?_,?_⟩)
    all_goals first|omega|(simp;done)|(simp;omega)|skip
    all_goals first|rfl|skip
end Go.Pw
end
section
open Go Go.Pw Go.Proofs
namespace Go.Pw
set_option maxRecDepth 100000
set_option maxHeartbeats 3200000
def decR (o:Option (List F)):D:=match o with
 |some r=>.tup [.list false (us r),.bool true]
 |none=>.tup [.list true [],.bool false]
theorem SM (v:List F):decR (some v)=.tup [.list false (us v),.bool true]:=rfl
theorem SN:decR none=.tup [.list true [],.bool false]:=rfl
theorem Re:Bu E0.P Cy=true:=by kernel_rfl
theorem Kt {β:Type}{f:Nat->Option β}{e:Nat}{r:β}(h:∀i,i<e->f i=none) (he:f e=some r):∀N,e<N->(List.range N).findSome? f=some r
 |0,hN=>by omega
 |N+1,hN=>by
  rw[List.range_succ,List.findSome?_append]
  by_cases h2:e<N
  ·rw[Kt h he N h2];rfl
  ·have:e=N:=by omega
   subst this
   have hn:(List.range e).findSome? f=none:=by
    rw[List.findSome?_eq_none_iff];exact fun i hi=>h i (by simpa using hi)
   rw[hn]
   simp[he]
noncomputable def aR (L P:Nat) (w:List F) (mk:List Nat) (e:Nat):Option (List F):=(CP L mk e 0).findSome? (hit L P w mk)
theorem ii {L P:Nat}{w r:List F}{mk:List Nat}{e:Nat}(h:∀i,i<e->aR L P w mk i=none) (he:aR L P w mk e=some r) (hb:2*e+mk.length<=P):MX L P w mk=some r:=by
 unfold MX
 rw[if_pos (by omega)]
 exact Kt h he _ (by omega)
theorem eR {L P:Nat}{w:List F}{mk:List Nat}{e:Nat}(h:∀i,i<e->aR L P w mk i=none) (hb:¬2*e+mk.length<=P):MX L P w mk=none:=by
 unfold MX
 split
 ·rw[List.findSome?_eq_none_iff]
  intro i hi
  simp at hi
  exact h i (by omega)
 ·rfl
theorem fD {L P:Nat}{w:List F}{mk:List Nat}(n2:Bool) (hL:L<=15) (hL1:1<=L) (hP:1<=P) (hP2:P<=15) (hw:w.length=L) (hm:Xv L mk) :
  md (hit L P w mk) (fun l=>Sa L mk 0 l/\2*l.length+mk.length<=P) Cy [.d (.ptr [.list n2 (Al (ni mk))]),.d (.ptr [.int .i64 L,.int .i64 P]),.d (.ptr [.list false (us (KD L P w))]),.d (.ptr [.list false (us w)]),.ptr 900004 0 0,.ptr 901004 0 0] :=
 ⟨Re,rfl,fun V os h1 h2=>by simp[AV.nrm,AV.nrm.nrmL,h1,h2],rfl,⟨rfl,rfl,rfl,rfl,rfl,rfl,trivial⟩,fun nl l b o fnd hA _ =>
  Tf L P nl n2 false b fnd o w mk l hL hL1 hP hP2 hw (S3 hm hA.1) (by have:=hA.2;simp;omega) rfl⟩
attribute [local congr] Bi A9 A_ Aq Bj Ax Az Ay Ap Aj Ad AY Au Ae Av BH BL BJ BK BI BM BE Ah Aw Ai BC BS Ag BF BG BD BA BB A8 Bl A' Ar Af
attribute [local irreducible] IntKind.wrap A3 Option.getD and or
theorem Mb (L P:Nat) (n1 n2:Bool) (w:List F) (mk:List Nat) (hL:L<=15) (hL1:1<=L) (hP:1<=P) (hP2:P<=15) (hw:w.length=L) (hm:Xv L mk) (hml:mk.length<=100) (hn1:n1=false) :
  CK E0 GA [Tk L P,.list n1 (us w),.list n2 (Al (ni mk))] (decR (MX L P w mk)):=by
 subst hn1
 have c1:=Ol L P false w hL hL1 hP hP2 hw
 have hY:=fD (P:=P) n2 hL hL1 hP hP2 hw hm
 refine AM I2 A0 (by simp) fun hwf=>?_
 rw[AU];unfold Fk
 rw[B1] at c1 ⊢
 (try (simp -implicitDefEqProofs only[go_sem]));repeat' first|(with_reducible first|exact tI|refine aI ?_ ?_|intro _)|((first|with_reducible refine AO ?_ ?_<;>intro _|(with_reducible refine isCall ?_);first|refine AE c1 ?_)<;>try (simp -implicitDefEqProofs only[go_sem]))|simp (disch:=omega) only[An]|((with_reducible refine Cb ?_);refine⟨(_,_,_,_),rfl,?_,?_⟩)
 all_goals first|omega|(simp;done)|(simp;omega)|skip
 refine AZ (α:=Nat×Bool×(List F)×Bool) (l0:=?l1) (m0:=?m1) (fun x=>[(9,.d (.int .i64 (x.1:Int)))]) (fun x=>[(6,.cells [.d (.list x.2.1 (us x.2.2.1))]),(7,.cells [.d (.bool x.2.2.2)])]) (fun x=>x.1<=100/\((x.2.2.2=false/\x.2.1=true/\x.2.2.1=[]/\∀i,i<x.1->aR L P w mk i=none)\/(x.2.2.2=true/\x.2.1=false/\MX L P w mk=some x.2.2.1))) (fun x=>(if x.2.2.2 then 0 else 101-x.1)) (0,true,[],false) ?h01 ?he1 ?he21 ?hI1 ?step1
 case h01=>(simp -implicitDefEqProofs only[go_sem];rfl)
 case he1=>rfl
 case he21=>rfl
 case' step1=>(rintro⟨e,b,o,fnd⟩ hI;try dsimp only at hI)
 case' hI1=>try dsimp only
 ·exact⟨by omega,.inl ⟨rfl,rfl,rfl,fun i hi=>absurd hi (by omega)⟩⟩
 ·obtain⟨h1,h2⟩:=hI
  have hw2:IntKind.i64.wrap (2*(e:Int))=2*(e:Int):=Ak _ (by omega)
  have hw3:IntKind.i64.wrap (2*(e:Int)+(mk.length:Int))=2*(e:Int)+(mk.length:Int):=Ak _ (by omega)
  have hw4:IntKind.i64.wrap ((e:Int)+1)=((e+1:Nat):Int):=by rw[Ak _ (by omega)];omega
  rcases h2 with⟨rfl,rfl,rfl,h3⟩|⟨rfl,rfl,h3⟩
  ·by_cases hb:2*e+mk.length<=P
   ·have hb':2*(e:Int)+(mk.length:Int)<=(P:Int):=by omega
    have c2:=PF L P n2 mk hL e 0 hY (fun l hl=>⟨(IW L mk e 0 l hl).2,by rw[(IW L mk e 0 l hl).1];exact hb⟩) (by omega) (by omega) true [] false
    rw[show (((0:Nat):Int))=0 from rfl] at c2
    rw[B1] at c2
    obtain⟨R,hR⟩:∃R,aR L P w mk e=R:=⟨_,rfl⟩
    rw[show (CP L mk e 0).findSome? (hit L P w mk)=R from hR] at c2
    cases R with
    |none =>
     rw[JI,Option.isNone_none] at c2
     unfold vv at c2
     have hn:∀i,i<e+1->aR L P w mk i=none:=fun i hi=>by
      rcases Nat.lt_succ_iff_lt_or_eq.1 hi with hi|rfl
      ·exact h3 i hi
      ·exact hR
     (try (simp -implicitDefEqProofs only[go_sem,hw2,hw3,hb',hw4]));repeat' first|(with_reducible first|exact tI|refine aI ?_ ?_|intro _)|((first|with_reducible refine AO ?_ ?_<;>intro _|(with_reducible refine isCall ?_);first|(refine E7 ([((900004,0),(6,0)),((901004,0),(7,0))]) ([((900004,0),(6,0)),((901004,0),(7,0))]) (c2) (by repeat' first|exact True.intro|exact rfl|refine And.intro ?_ ?_) (by simp[Handed,Dm.get,Aa.ren,AV.ren,AV.ren.renL,AJ.get,BV,B2,Di,AJ.reach,AV.sites,AV.sites.sitesL,AJ.osites]) (by simp[CN,E5,CT,Dm.get,Di,D6,CG]) (by rfl) (by simp only[D4,Dm.get,Aa.ren,AV.ren,AV.ren.renL,and_self,and_true,true_and,if_true,reduceIte];rfl) ?_))<;>try (simp -implicitDefEqProofs only[go_sem,hw2,hw3,hb',hw4]))|simp (disch:=omega) only[An]|((with_reducible refine Cb ?_);refine⟨(_,_,_,_),rfl,?_,?_⟩)
     all_goals first|omega|(simp;done)|(simp;omega)|skip
     all_goals first|exact .inl ⟨trivial,trivial,trivial,hn⟩|skip
    |some r =>
     have hfin:=ii h3 hR hb
     rw[JH,Option.isNone_some] at c2
     unfold vv at c2
     (try (simp -implicitDefEqProofs only[go_sem,hw2,hw3,hb',hw4]));repeat' first|(with_reducible first|exact tI|refine aI ?_ ?_|intro _)|((first|with_reducible refine AO ?_ ?_<;>intro _|(with_reducible refine isCall ?_);first|(refine E7 ([((900004,0),(6,0)),((901004,0),(7,0))]) ([((900004,0),(6,0)),((901004,0),(7,0))]) (c2) (by repeat' first|exact True.intro|exact rfl|refine And.intro ?_ ?_) (by simp[Handed,Dm.get,Aa.ren,AV.ren,AV.ren.renL,AJ.get,BV,B2,Di,AJ.reach,AV.sites,AV.sites.sitesL,AJ.osites]) (by simp[CN,E5,CT,Dm.get,Di,D6,CG]) (by rfl) (by simp only[D4,Dm.get,Aa.ren,AV.ren,AV.ren.renL,and_self,and_true,true_and,if_true,reduceIte];rfl) ?_))<;>try (simp -implicitDefEqProofs only[go_sem,hw2,hw3,hb',hw4]))|simp (disch:=omega) only[An]|((with_reducible refine Cb ?_);refine⟨(_,_,_,_),rfl,?_,?_⟩)
     all_goals first|omega|(simp;done)|(simp;omega)|skip
     all_goals first|exact .inr ⟨trivial,trivial,hfin⟩|skip
   ·have hb':¬2*(e:Int)+(mk.length:Int)<=(P:Int):=by omega
    rw[eR h3 hb,SN]
    (try (simp -implicitDefEqProofs only[go_sem,hw2,hw3,hb',hw4]));repeat' first|(with_reducible first|exact tI|refine aI ?_ ?_|intro _)|((first|with_reducible refine AO ?_ ?_<;>intro _)<;>try (simp -implicitDefEqProofs only[go_sem,hw2,hw3,hb',hw4]))|simp (disch:=omega) only[An]|((with_reducible refine Cb ?_);refine⟨(_,_,_,_),rfl,?_,?_⟩)
    all_goals first|omega|(simp;done)|(simp;omega)|skip
    all_goals first|rfl|skip
  ·rw[h3,SM]
   (try (simp -implicitDefEqProofs only[go_sem,hw2,hw3,hw4]));repeat' first|(with_reducible first|exact tI|refine aI ?_ ?_|intro _)|((first|with_reducible refine AO ?_ ?_<;>intro _)<;>try (simp -implicitDefEqProofs only[go_sem,hw2,hw3,hw4]))|simp (disch:=omega) only[An]|((with_reducible refine Cb ?_);refine⟨(_,_,_,_),rfl,?_,?_⟩)
   all_goals first|omega|(simp;done)|(simp;omega)|skip
   all_goals first|rfl|skip
end Go.Pw
end
section
namespace Go.Pw
theorem eU (n i:Nat):Rb (n+1) i=gp (i*n)::Rb n i:=by
 unfold Rb
 rw[List.range_succ_eq_map,List.map_cons,List.map_map]
 congr 1
 apply List.map_congr_left
 intro j hj
 show XR (n+1) i (j+1)=XR n i j
 unfold XR
 rw[show n+1-1-(j+1)=n-1-j by omega]
def MO (i:Nat) (w:List F):F:=Fd w (Rb w.length i)
theorem eE (i:Nat):MO i []=0:=rfl
theorem Pq (i:Nat) (y:F) (ys:List F):MO i (y::ys)=fa (fm y (gp (i*ys.length))) (MO i ys):=by
 show Fd (y::ys) (Rb (ys.length+1) i)=_
 rw[eU];rfl
theorem lE (i:Nat) (l:List F) (o:Nat) (y:F) (h:o<l.length):MO i (l.set o y)=fa (MO i l) (fm (fa (l[o]?.getD 0) y) (gp (i*(l.length-1-o)))):=by
 unfold MO
 rw[List.length_set,Tb y l _ o h (by rw[Pt];omega),Tj _ _ _ h];rfl
def C2:List F->Nat->F->List F->List F
 |l,o,b,[]=>l
 |l,o,b,y::ys=>C2 (l.set o (fa (l[o]?.getD 0) (fm b y))) (o+1) b ys
theorem I8:∀(g l:List F) (o:Nat) (b:F),(C2 l o b g).length=l.length
 |[],l,o,b=>rfl
 |y::ys,l,o,b=>by show (C2 _ (o+1) b ys).length=_;rw[I8 ys];simp
theorem Q_ (y:F):∀(g l:List F) (o:Nat) (b:F),C2 l o b (g++[y])=(C2 l o b g).set (o+g.length) (fa ((C2 l o b g)[o+g.length]?.getD 0) (fm b y))
 |[],l,o,b=>rfl
 |z::zs,l,o,b=>by
  show C2 _ (o+1) b (zs++[y])=_
  rw[Q_ y zs]
  show _=(C2 (l.set o (fa (l[o]?.getD 0) (fm b z))) (o+1) b zs).set (o+(zs.length+1)) (fa ((C2 (l.set o (fa (l[o]?.getD 0) (fm b z))) (o+1) b zs)[o+(zs.length+1)]?.getD 0) (fm b y))
  rw[show o+1+zs.length=o+(zs.length+1) by omega]
theorem RA (j:Nat):∀(g l:List F) (o:Nat) (b:F),j<o->(C2 l o b g)[j]?.getD 0=l[j]?.getD 0
 |[],l,o,b,_=>rfl
 |y::ys,l,o,b,h=>by
  show (C2 _ (o+1) b ys)[j]?.getD 0=_
  rw[RA j ys _ (o+1) b (by omega),List.getElem?_set_ne (by omega)]
theorem QZ (i:Nat):∀(g l:List F) (o:Nat) (b:F),o+g.length<=l.length->MO i (C2 l o b g)=fa (MO i l) (fm (fm b (MO i g)) (gp (i*(l.length-o-g.length))))
 |[],l,o,b,h=>by show MO i l=_;rw[eE,Dr,Cd,C6]
 |y::ys,l,o,b,h=>by
  simp only[List.length_cons] at h
  show MO i (C2 _ (o+1) b ys)=_
  rw[QZ i ys _ (o+1) b (by rw[List.length_set];omega),lE i l o _ (by omega),Pq,List.length_set,List.length_cons]
  rw[←EA (l[o]?.getD 0),Fp,JE,Lz,EA]
  congr 1
  have e1:l.length-1-o=ys.length+(l.length-o-(ys.length+1)):=by omega
  have e2:l.length-(o+1)-ys.length=l.length-o-(ys.length+1):=by omega
  rw[e1,e2,Nat.mul_add,XB,Dt (fa _ _),Lz,Dt (gp (i*(l.length-o-(ys.length+1)))),Dt (gp (i*(l.length-o-(ys.length+1))))]
  simp only[Fo]
theorem QX (i:Nat):∀a:List F,MO i (a++[0])=fm (MO i a) (gp i)
 |[]=>by
  show MO i [0]=_
  rw[Pq,Cd,eE,Cd,C6]
 |y::ys=>by
  show MO i (y::(ys++[0]))=_
  rw[Pq,Pq,QX i ys,List.length_append,List.length_singleton,Nat.mul_add,Nat.mul_one,XB,Dt (fa _ _),Lz,Dt (gp i) (MO i ys),Dt (gp i) (fm y _),Fo]
theorem iV (i:Nat) (a:List F) (h:MO i a=0):∀n,MO i (a++List.replicate n 0)=0
 |0=>by simpa using h
 |n+1=>by rw[List.replicate_succ',←List.append_assoc,QX,iV i a h n,Cd]
def Iz:Nat->List F
 |0=>[1]
 |i+1=>C2 (Iz i++[0]) 1 (gp i) (Iz i)
theorem Kz:∀i,(Iz i).length=i+1
 |0=>rfl
 |i+1=>by show (C2 (Iz i++[0]) 1 (gp i) (Iz i)).length=_;rw[I8];simp[Kz i]
theorem eQ:∀i,(Iz i)[0]?.getD 0=1
 |0=>rfl
 |i+1=>by
  show (C2 (Iz i++[0]) 1 (gp i) (Iz i))[0]?.getD 0=1
  rw[RA 0 _ _ 1 _ (by omega),List.getElem?_append_left (by rw[Kz];omega),eQ i]
theorem eH (r:Nat):∀i,r<i->MO r (Iz i)=0
 |0,h=>by omega
 |i+1,h=>by
  show MO r (C2 (Iz i++[0]) 1 (gp i) (Iz i))=0
  rw[QZ r _ _ _ _ (by simp;omega),QX,List.length_append,Kz]
  rw[show i+1+([(0:F)]).length-1-(i+1)=0 by simp,Nat.mul_zero,YR,JS,Dt (gp i)]
  by_cases hr:r<i
  ·rw[eH r i hr,Cd,Cd,C6]
  ·have:r=i:=by omega
   subst this
   rw[Fp]
def GP (g d:List F) (P:Nat):Nat->List F
 |0=>d++List.replicate P 0
 |i+1=>C2 (GP g d P i) i ((GP g d P i)[i]?.getD 0) g
theorem G7 (g d:List F) (P:Nat):∀i,(GP g d P i).length=d.length+P
 |0=>by simp[GP]
 |i+1=>by show (C2 _ _ _ _).length=_;rw[I8,G7 g d P i]
theorem YB (g d:List F) (P:Nat) (hg:g[0]?.getD 0=1):∀i,i<=d.length->∀j,j<i->(GP g d P i)[j]?.getD 0=0
 |0,_,j,hj=>by omega
 |i+1,hi,j,hj=>by
  show (C2 (GP g d P i) i ((GP g d P i)[i]?.getD 0) g)[j]?.getD 0=0
  cases g with
  |nil=>exact absurd hg (by decide)
  |cons y ys =>
   have hy:y=1:=by simpa using hg
   subst hy
   show (C2 ((GP (1::ys) d P i).set i _) (i+1) _ ys)[j]?.getD 0=0
   rw[RA j _ _ _ _ (by omega)]
   by_cases h:j=i
   ·subst h
    rw[JS,Fp,List.getElem?_set_self (by rw[G7];omega)];rfl
   ·rw[List.getElem?_set_ne (fun e=>h e.symm)]
    exact YB (1::ys) d P rfl i (by omega) j (by omega)
theorem YU (r:Nat) (g d:List F) (P:Nat) (hg:MO r g=0) (hl:g.length=P+1):∀i,i<=d.length->MO r (GP g d P i)=MO r (d++List.replicate P 0)
 |0,_=>rfl
 |i+1,hi=>by
  show MO r (C2 _ _ _ _)=_
  rw[QZ r _ _ _ _ (by rw[G7];omega),hg,Dr,Cd,C6]
  exact YU r g d P hg hl i (by omega)
def GZ (P:Nat) (d:List F):List F:=d++(GP (Iz P) d P d.length).drop d.length
theorem HK (P:Nat) (d:List F):(GZ P d).length=d.length+P:=by
 unfold GZ;rw[List.length_append,List.length_drop,G7];omega
theorem lN (L P:Nat) (w:List F) (hw:w.length=L):fA L P w↔∀i,i<P->MO i w=0:=by
 subst hw
 constructor
 ·intro h i hi
  have:=h i hi
  rwa [show Ea (KD w.length P w) i=Fd w (Rb w.length i) from KP _ _ _ _ hi] at this
 ·intro h i hi
  rw[show Ea (KD w.length P w) i=Fd w (Rb w.length i) from KP _ _ _ _ hi]
  exact h i hi
theorem Vb (P:Nat) (d:List F):fA (d.length+P) P (GZ P d):=by
 rw[lN _ _ _ (HK P d)]
 intro i hi
 obtain⟨R,hR⟩:∃R,GP (Iz P) d P d.length=R:=⟨_,rfl⟩
 have hl:R.length=d.length+P:=by rw[←hR];exact G7 _ _ _ _
 have h0:∀j,j<d.length->R[j]?.getD 0=0:=by rw[←hR];exact YB _ _ _ (eQ P) _ (Nat.le_refl _)
 have he:MO i R=MO i (d++List.replicate P 0):=by rw[←hR];exact YU i _ _ _ (eH i P hi) (Kz P) _ (Nat.le_refl _)
 have hlen:(d++List.replicate P (0:F)).length=R.length:=by simp[hl]
 have hE:GZ P d=Ge (d++List.replicate P 0) R 1:=by
  apply d_
  ·rw[HK,N2 _ _ _ hlen];simp
  ·intro j hj
   rw[HK] at hj
   show (GZ P d)[j]?.getD 0=(Ge (d++List.replicate P 0) R 1)[j]?.getD 0
   rw[show (Ge (d++List.replicate P 0) R 1)[j]?.getD 0=fa ((d++List.replicate P (0:F))[j]?.getD 0) (fm (R[j]?.getD 0) 1) from Nz _ _ _ _ hlen]
   unfold GZ
   rw[hR,JS]
   by_cases h:j<d.length
   ·rw[List.getElem?_append_left h,List.getElem?_append_left h,h0 j h,C6]
   ·rw[List.getElem?_append_right (by omega),List.getElem?_append_right (by omega),List.getElem?_drop,List.getElem?_replicate,if_pos (by omega),show d.length+(j-d.length)=j by omega]
    exact(JE _).symm
 rw[hE]
 unfold MO
 have h2:(Ge (d++List.replicate P 0) R 1).length=(d++List.replicate P (0:F)).length:=by rw[N2 _ _ _ hlen]
 rw[h2,NO _ _ _ _ hlen]
 have h3:MO i (d++List.replicate P (0:F))=Fd (d++List.replicate P (0:F)) (Rb (d++List.replicate P (0:F)).length i):=rfl
 have h4:MO i R=Fd R (Rb (d++List.replicate P (0:F)).length i):=by unfold MO;rw[hlen]
 rw[←h3,←h4,he,TE,Fp]
end Go.Pw
end
