/- A part of the proof. -/
import Derived.Test.YtibkjeolahobbaaGreatDoorPgChrH
set_option linter.all false
open Go Go.Pw Go.Proofs
namespace Go.Pw
set_option maxRecDepth 100000
set_option maxHeartbeats 3200000
theorem UI (x:F):∀(w c:List F) (j:Nat),j<w.length->w.length<=c.length->Ff (w.set j x) c=fa (Ff w c) (fm (fa (w[j]?.getD 0) x) (c[j]?.getD 0))
 |a::w,b::c,0,_,_=>by
  show fa (fm x b) (Ff w c)=fa (fa (fm a b) (Ff w c)) (fm (fa a x) b)
  rw[lZ,Ni (fm a b) (Ff w c),EH,←EH (fm a b),Fv,JQ,Ni]
 |a::w,b::c,j+1,h,hl=>by
  have ih:=UI x w c j (by simpa using h) (by simpa using hl)
  show fa (fm a b) (Ff (w.set j x) c)=fa (fa (fm a b) (Ff w c)) (fm (fa (w[j]?.getD 0) x) (c[j]?.getD 0))
  rw[ih,EH]
theorem Wu (w:List F) (j:Nat) (x:F):∀(js:List Nat) (xs:List F),j∉js->HE (w.set j x) js xs=HE w js xs
 |[],xs,_=>rfl
 |k::js,[],_=>rfl
 |k::js,y::xs,h=>by
  have ih:=Wu w j x js xs fun e=>h (by simp[e])
  show fa ((w.set j x)[k]?.getD 0) y::HE (w.set j x) js xs=fa (w[k]?.getD 0) y::HE w js xs
  rw[ih,List.getElem?_set_ne fun e=>h (by simp[e])]
theorem S6 (c:List F):∀(at_:List Nat) (xs w:List F),at_.Nodup->at_.length=xs.length->(∀j,j∈at_->j<w.length)->w.length<=c.length ->
  Ff (EX w at_ xs) c=fa (Ff w c) (Ff (at_.map fun j=>c[j]?.getD 0) (HE w at_ xs))
 |[],xs,w,_,_,_,_=>by rw[OT];simp[Ll,DB]
 |j::js,x::xs,w,hn,hl,hlt,hc=>by
  rw[List.nodup_cons] at hn
  have hj:=hlt j (by simp)
  have ih:=S6 c js xs (w.set j x) hn.2 (by simpa using hl) (fun k hk=>by simpa using hlt k (by simp[hk])) (by simpa using hc)
  show Ff (EX (w.set j x) js xs) c=fa (Ff w c) (fa (fm (c[j]?.getD 0) (fa (w[j]?.getD 0) x)) (Ff (js.map fun j=>c[j]?.getD 0) (HE w js xs)))
  rw[ih,UI x w c j hj hc,Wu _ _ _ _ _ hn.1,EH,Dt (c[j]?.getD 0)]
theorem jt (L i:Nat) (at_:List Nat) (h:∀j,j∈at_->j<L):(at_.map fun j=>(SS L i)[j]?.getD 0)=at_.map fun j=>YB L i j :=
 List.map_congr_left fun j hj=>US L i j (h j hj)
theorem Qe {L P:Nat}{w xs:List F}{at_:List Nat}(hw:w.length=L) (hp:cF L at_) (hl:at_.length=xs.length) (i:Nat) (h:i<P) :
  Ed (KL L P (EX w at_ xs)) i=fa (Ed (KL L P w) i) (Ff (at_.map fun j=>YB L i j) (HE w at_ xs)):=by
 show (KL L P (EX w at_ xs))[i]?.getD 0=fa ((KL L P w)[i]?.getD 0) _
 rw[KX _ _ _ _ h,KX _ _ _ _ h,S6 (SS L i) at_ xs w hp.nd hl (fun j hj=>by rw[hw];exact hp.lt j hj) (by rw[QS];omega),jt L i at_ hp.lt]
theorem Y1 {L P:Nat}{at_:List Nat}{s v:List F}(hv:v.length=at_.length):R7 1 (Ph L P at_ s) v↔∀i,i<P->fa (Ed s i) (Ff (at_.map fun j=>YB L i j) v)=0:=by
 have hl:=(Nj L P at_ s).len
 constructor
 ·intro h i hi
  have:=h i (by omega)
  rwa [UJ _ _ _ _ _ _ hv i hi,Jc,Ni] at this
 ·intro h i hi
  rw[UJ _ _ _ _ _ _ hv i (by omega),Jc,Ni];exact h i (by omega)
def ln (L P:Nat) (w:List F):Prop:=∀i,i<P->Ed (KL L P w) i=0
theorem PJ (w:List F):∀(at_:List Nat) (v:List F),at_.length=v.length->HE w at_ (HE w at_ v)=v
 |[],[],_=>rfl
 |j::js,x::v,h=>by
  have ih:=PJ w js v (by simpa using h)
  show fa (w[j]?.getD 0) (fa (w[j]?.getD 0) x)::HE w js (HE w js v)=x::v
  rw[ih,←EH,Fv,JQ]
theorem fG {L P:Nat}{w r:List F}{mk l:List Nat}(hw:w.length=L) (hp:cF L (mk++l)) (h:hit L P w mk l=some r):ln L P r/\r.length=L/\∀j,j∉mk++l->r[j]?.getD 0=w[j]?.getD 0:=by
 unfold hit at h
 rw[Option.map_eq_some_iff] at h
 obtain⟨v,hv,rfl⟩:=h
 obtain⟨h1,h2⟩:=Sj hv
 refine⟨fun i hi=>?_,by rw[OU];exact hw,fun j hj=>OV _ _ _ _ hj⟩
 rw[Qe hw hp (by rw[Rx _ _ _ h1.symm]) i hi,PJ _ _ _ h1.symm]
 exact(Y1 h1).1 h2 i hi
theorem Uk:∀(at_:List Nat) (w c:List F),at_.Nodup->c.length=w.length->(∀j,j∈at_->j<w.length)->(∀j,j∉at_->c[j]?.getD 0=w[j]?.getD 0)->EX w at_ (at_.map fun j=>c[j]?.getD 0)=c
 |[],w,c,_,hl,_,h=>by
  rw[OT]
  exact(f5 hl fun j _=>h j (by simp)).symm
 |j::js,w,c,hn,hl,hlt,h=>by
  rw[List.nodup_cons] at hn
  show EX (w.set j (c[j]?.getD 0)) js (js.map fun j=>c[j]?.getD 0)=c
  refine Uk js _ c hn.2 (by simpa using hl) (fun k hk=>by simpa using hlt k (by simp[hk])) fun k hk=>?_
  by_cases hkj:k=j
  ·subst hkj
   have:=hlt k (by simp)
   rw[List.getElem?_set_self this];rfl
  ·rw[List.getElem?_set_ne (fun e=>hkj e.symm)]
   exact h k (by simp[hk,hkj])
theorem Xw {L P:Nat}(hL:L<=15) {w c:List F}{mk l:List Nat}(hw:w.length=L) (hc:c.length=L) (hp:cF L (mk++l)) (hm:(mk++l).length<=P) (hcode:ln L P c) (h:∀j,j∉mk++l->c[j]?.getD 0=w[j]?.getD 0):hit L P w mk l=some c:=by
 obtain⟨A,hA⟩:∃A,mk++l=A:=⟨_,rfl⟩
 unfold hit
 rw[hA] at hp hm h ⊢
 obtain⟨ys,hys⟩:∃ys,(A.map fun j=>c[j]?.getD 0)=ys:=⟨_,rfl⟩
 have hyl:A.length=ys.length:=by rw[←hys];simp
 have hc2:EX w A ys=c:=by
  rw[←hys];exact Uk A w c hp.nd (by omega) (fun j hj=>by rw[hw];exact hp.lt j hj) h
 have hal:=Rx w A ys hyl
 have hs:Lq L P A (KL L P w)=some (HE w A ys):=by
  refine Sk hL hp hm hal ((Y1 hal).2 fun i hi=>?_)
  rw[←Qe hw hp hyl i hi,hc2]
  exact hcode i hi
 rw[hs,Option.map_some,PJ _ _ _ hyl,hc2]
theorem bm {L P:Nat}(hL:L<=15) {c d:List F}{at_:List Nat}(hc:c.length=L) (hd:d.length=L) (hp:cF L at_) (hm:at_.length<=P) (h1:ln L P c) (h2:ln L P d) (h:∀j,j∉at_->c[j]?.getD 0=d[j]?.getD 0):c=d:=by
 have e1:hit L P d [] at_=some c:=Xw hL hd hc (by simpa using hp) (by simpa using hm) h1 (by simpa using h)
 have e2:hit L P d [] at_=some d:=Xw hL hd hd (by simpa using hp) (by simpa using hm) h2 (fun _ _=>rfl)
 rw[e1] at e2
 simpa using e2
def CQ (L:Nat) (mk:List Nat):Nat->Nat->List (List Nat)
 |0,_=>[[]]
 |m+1,fr=>((List.range' fr (L-fr)).filter fun j=>!mk.contains j).flatMap fun j=>(CQ L mk m (j+1)).map (j :: ·)
structure TJ (L:Nat) (mk:List Nat) (fr:Nat) (l:List Nat):Prop where
 asc:l.Pairwise (· < ·)
 ge:∀j,j∈l->fr<=j
 lt:∀j,j∈l->j<L
 un:∀j,j∈l->j∉mk
theorem Il (L:Nat) (mk:List Nat):∀(m fr:Nat) (l:List Nat),l∈CQ L mk m fr->l.length=m/\TJ L mk fr l
 |0,fr,l,h=>by
  simp[CQ] at h;subst h
  exact⟨rfl,.nil,by simp,by simp,by simp⟩
 |m+1,fr,l,h=>by
  simp only[CQ,List.mem_flatMap,List.mem_filter,List.mem_range'_1,List.mem_map] at h
  obtain⟨j,⟨hj,hjm⟩,l',hl',rfl⟩:=h
  obtain⟨h1,h2⟩:=Il L mk m (j+1) l' hl'
  refine⟨by simp[h1],List.pairwise_cons.2 ⟨fun k hk=>by have:=h2.ge k hk;omega,h2.asc⟩,fun k hk=>?_,fun k hk=>?_,fun k hk=>?_⟩
  ·rcases List.mem_cons.1 hk with rfl|hk
   ·omega
   ·have:=h2.ge k hk;omega
  ·rcases List.mem_cons.1 hk with rfl|hk
   ·omega
   ·exact h2.lt k hk
  ·rcases List.mem_cons.1 hk with rfl|hk
   ·simpa using hjm
   ·exact h2.un k hk
theorem VK (L:Nat) (mk:List Nat):∀(l:List Nat) (fr:Nat),TJ L mk fr l->l∈CQ L mk l.length fr
 |[],fr,_=>by simp[CQ]
 |j::l,fr,h=>by
  have h1:=List.pairwise_cons.1 h.asc
  have ih:=VK L mk l (j+1) ⟨h1.2,fun k hk=>h1.1 k hk,fun k hk=>h.lt k (by simp[hk]),fun k hk=>h.un k (by simp[hk])⟩
  simp only[List.length_cons,CQ,List.mem_flatMap,List.mem_filter,List.mem_range'_1,List.mem_map]
  refine⟨j,⟨⟨h.ge j (by simp),?_⟩,?_⟩,l,ih,rfl⟩
  ·have:=h.ge j (by simp);have:=h.lt j (by simp);omega
  ·have:=h.un j (by simp)
   simpa using this
structure cH (L:Nat) (mk:List Nat):Prop where
 asc:mk.Pairwise (· < ·)
 lt:∀j,j∈mk->j<L
theorem GO {l:List Nat}(h:l.Pairwise (· < ·)):l.Nodup:=h.imp fun h=>Nat.ne_of_lt h
theorem Tk {L fr:Nat}{mk l:List Nat}(hm:cH L mk) (h:TJ L mk fr l):cF L (mk++l):=by
 refine⟨List.nodup_append.2 ⟨GO hm.asc,GO h.asc,fun a ha b hb e=>h.un b hb (e ▸ ha)⟩,fun j hj=>?_⟩
 rcases List.mem_append.1 hj with hj|hj
 ·exact hm.lt j hj
 ·exact h.lt j hj
noncomputable def N1 (L P:Nat) (w:List F) (mk:List Nat):Option (List F) :=
 if mk.length<=P then (List.range ((P-mk.length)/2+1)).findSome? fun e=>(CQ L mk e 0).findSome? (hit L P w mk) else none
def SO (L:Nat) (a b:List F) (mk:List Nat):List Nat:=(List.range L).filter fun j=>decide (a[j]?.getD 0≠b[j]?.getD 0) && !mk.contains j
theorem UM (L:Nat) (a b:List F) (mk:List Nat):TJ L mk 0 (SO L a b mk):=by
 refine⟨List.Pairwise.filter _ List.pairwise_lt_range,fun _ _=>Nat.zero_le _,fun j hj=>?_,fun j hj=>?_⟩
 ·simp[SO] at hj;exact hj.1
 ·simp[SO] at hj;exact hj.2.2
theorem UN {L:Nat}{a b:List F}{mk:List Nat}(ha:a.length=L) (hb:b.length=L) {j:Nat}(h:j∉mk++SO L a b mk):a[j]?.getD 0=b[j]?.getD 0:=by
 by_cases hj:j<L
 ·simp only[List.mem_append,not_or] at h
  by_cases he:a[j]?.getD 0=b[j]?.getD 0
  ·exact he
  ·exact absurd (by simp[SO,hj,h.1];exact he) h.2
 ·rw[List.getElem?_eq_none (by omega),List.getElem?_eq_none (by omega)]
theorem Q7:∀(l k:List Nat),l.Nodup->(∀j,j∈l->j∈k)->l.length<=k.length
 |[],k,_,_=>Nat.zero_le _
 |x::l,k,hn,h=>by
  rw[List.nodup_cons] at hn
  have hx:=h x (by simp)
  have ih:=Q7 l (k.erase x) hn.2 fun j hj=>(List.mem_erase_of_ne (show j≠x from fun e=>hn.1 (by rw[←e];exact hj))).2 (h j (by simp[hj]))
  rw[List.length_erase_of_mem hx] at ih
  have:0<k.length:=List.length_pos_of_mem hx
  simp only[List.length_cons]
  omega
theorem nx {L fr:Nat}{a b:List F}{mk l:List Nat}(hs:TJ L mk fr l) (h:∀j,j∉mk++l->a[j]?.getD 0=b[j]?.getD 0):(SO L a b mk).length<=l.length:=by
 have hsub:∀j,j∈SO L a b mk->j∈l:=fun j hj=>by
  simp[SO] at hj
  by_cases hjl:j∈l
  ·exact hjl
  ·exact absurd (h j (by simp[hj.2.2,hjl])) hj.2.1
 exact Q7 _ _ (GO (UM L a b mk).asc) hsub
theorem MG {α β:Type}{f:α->Option β}{l:List α}{r:β}(h:l.findSome? f=some r):∃x,x∈l/\f x=some r:=by
 rw[List.findSome?_eq_some_iff] at h
 obtain⟨l1,a,l2,rfl,h2,_⟩:=h
 exact⟨a,by simp,h2⟩
theorem RQ {L P:Nat}{w r:List F}{mk:List Nat}(hw:w.length=L) (hm:cH L mk) (h:N1 L P w mk=some r) :
  ln L P r/\r.length=L/\2*(SO L r w mk).length+mk.length<=P:=by
 unfold N1 at h
 split at h
 ·rename_i hle
  obtain⟨e,he,h⟩:=MG h
  obtain⟨l,hl,h⟩:=MG h
  obtain⟨h1,h2⟩:=Il L mk e 0 l hl
  obtain⟨h3,h4,h5⟩:=fG hw (Tk hm h2) h
  refine⟨h3,h4,?_⟩
  have:=nx h2 h5
  simp at he
  omega
 ·cases h
theorem ny {L P:Nat}(hL:L<=15) {w c:List F}{mk:List Nat}(hw:w.length=L) (hc:c.length=L) (hm:cH L mk) (hcode:ln L P c) (h:2*(SO L c w mk).length+mk.length<=P):N1 L P w mk=some c:=by
 have hs:=UM L c w mk
 have hp:=Tk hm hs
 have hhit:hit L P w mk (SO L c w mk)=some c:=Xw hL hw hc hp (by simp;omega) hcode fun j hj=>UN hc hw hj
 have hfound:∃r,N1 L P w mk=some r:=by
  unfold N1
  rw[if_pos (by omega)]
  cases hf:(List.range ((P-mk.length)/2+1)).findSome? fun e=>(CQ L mk e 0).findSome? (hit L P w mk) with
  |some r=>exact⟨r,rfl⟩
  |none =>
   rw[List.findSome?_eq_none_iff] at hf
   have h1:=hf (SO L c w mk).length (by simp;omega)
   rw[List.findSome?_eq_none_iff] at h1
   have h2:=h1 _ (VK L mk _ 0 hs)
   rw[hhit] at h2;cases h2
 obtain⟨r,hr⟩:=hfound
 rw[hr]
 congr 1
 obtain⟨h1,h2,h3⟩:=RQ hw hm hr
 have hs2:=UM L r w mk
 obtain⟨at_,hat⟩:∃at_,mk++((SO L r w mk)++(SO L c w mk).filter fun j=>!(SO L r w mk).contains j)=at_:=⟨_,rfl⟩
 refine bm hL (at_:=at_) h2 hc ?_ ?_ h1 hcode fun j hj=>?_
 ·rw[←hat]
  refine⟨List.nodup_append.2 ⟨GO hm.asc,List.nodup_append.2 ⟨GO hs2.asc,(GO hs.asc).filter _,fun a ha b hb e=>?_⟩,fun a ha b hb e=>?_⟩,fun j hj=>?_⟩
  ·simp at hb;exact hb.2 (e ▸ ha)
  ·subst e
   rcases List.mem_append.1 hb with hb|hb
   ·exact hs2.un a hb ha
   ·exact hs.un a (List.mem_filter.1 hb).1 ha
  ·rcases List.mem_append.1 hj with hj|hj
   ·exact hm.lt j hj
   ·rcases List.mem_append.1 hj with hj|hj
    ·exact hs2.lt j hj
    ·exact hs.lt j (List.mem_filter.1 hj).1
 ·rw[←hat]
  have:=List.length_filter_le (fun j=>!(SO L r w mk).contains j) (SO L c w mk)
  simp only[List.length_append]
  omega
 ·rw[←hat] at hj
  simp only[List.mem_append,not_or,List.mem_filter] at hj
  obtain⟨j1,j2,j3⟩:=hj
  have j4:j∉SO L c w mk:=fun hh=>j3 ⟨hh,by simpa using j2⟩
  exact(UN h2 hw (fun e=>(List.mem_append.1 e).elim j1 j2)).trans (UN hc hw (fun e=>(List.mem_append.1 e).elim j1 j4)).symm
section
abbrev Vt:Dl:=[((900004,0),(900004,0)),((901004,0),(901004,0))]
structure pO (G:List Nat->Option (List F)) (A:List Nat->Prop) (f:FuncId) (cs:List AV):Prop where
 body:Bv E0.P f=true
 st:AV.sites.sitesL cs=[900004,901004]
 nr:∀(V:AM) (os:List Nat),AV.nrm.live V os 900004 0=true->AV.nrm.live V os 901004 0=true->AV.nrm.nrmL V os cs=cs
 rn:AV.ren.renL Vt cs=some cs
 ar:OC Vt cs cs
 call:∀(nl:Bool) (l:List Nat) (b:Bool) (o:List F) (fnd:Bool),A l->(nl=true->l=[])->IJ E0 f (vv b o fnd) (.d (.list nl (Am (ni l)))::cs) (vh b o fnd (G l)) (.d (.bool (G l).isNone))
theorem Rm:Bv E0.P B0=true:=by kernel_rfl
theorem Xe (b:Bool) (o:List F) (fnd:Bool):Pz (vv b o fnd)=true:=by simp[vv,Pz,CS,EW,Ak.isHist]
theorem any_cons {α:Type}(l:List α):True:=trivial
theorem Z2 (L:Nat) (mk:List Nat) (m j:Nat) (G:List Nat->Option (List F)) (hj:j<L) :
  (CQ L mk (m+1) j).findSome? G=if mk.contains j then (CQ L mk (m+1) (j+1)).findSome? G else
   ((CQ L mk m (j+1)).findSome? fun l=>G (j::l)).or ((CQ L mk (m+1) (j+1)).findSome? G):=by
 have hr:List.range' j (L-j)=j::List.range' (j+1) (L-(j+1)):=by
  rw[show L-j=(L-(j+1))+1 by omega,List.range'_succ]
 simp only[CQ]
 rw[hr,List.filter_cons]
 cases h:mk.contains j with
 |true=>simp
 |false =>
  simp only[Bool.not_false,if_true,Bool.false_eq_true,if_false,List.flatMap_cons,List.findSome?_append]
  rw[List.findSome?_map];rfl
theorem dJ (L:Nat) (mk:List Nat) (m:Nat):CQ L mk (m+1) L=[]:=by simp[CQ]
theorem dI (L:Nat) (mk:List Nat) (m fr:Nat) (l:List Nat) (h:l∈CQ L mk m fr):l.length=m:=(Il L mk m fr l h).1
theorem dH (L:Nat) (mk:List Nat) (m fr j:Nat) (l:List Nat) (hf:fr<=j) (hj:j<L) (hm:mk.contains j=false) (h:l∈CQ L mk m (j+1)):j::l∈CQ L mk (m+1) fr:=by
 simp only[CQ,List.mem_flatMap,List.mem_filter,List.mem_range'_1,List.mem_map]
 exact⟨j,⟨⟨hf,by omega⟩,by simpa using hm⟩,l,h,rfl⟩
theorem nQ (mk:List Nat) (j:Nat):kF (ni mk) (j:Int)=mk.contains j:=by
 unfold kF ni
 rw[Bool.eq_iff_iff]
 simp only[List.contains_iff_mem,List.mem_map]
 constructor
 ·rintro⟨k,hk,he⟩
  have:k=j:=by omega
  subst this;exact hk
 ·exact fun h=>⟨j,h,rfl⟩
attribute [local congr] Bf A9 A_ Aq Bg Ax Az Ay Ap Aj Ad AZ Au Ae Av BK BO BM BN BL BP BE Ah Aw Ai BC BW Ag BI BJ BD BF BH BG BA BB A8 Bj A' Ar Af
attribute [local irreducible] IntKind.wrap A4 Option.getD and or
theorem ST {G:List Nat->Option (List F)}{A:List Nat->Prop}{f:FuncId}{cs:List AV}(hY:pO G A f cs) (j:Nat) (nl:Bool) (l:List Nat) (b:Bool) (o:List F) (fnd:Bool) (hA:A (j::l)) (hll:l.length<=100) :
  IJ E0 B0 (vv b o fnd) [.d (.list nl (Am (ni l))),.ablk false [.fn f cs] 0,.d (.ptr [.int .i64 (j:Int)])] (vh b o fnd (G (j::l))) (.d (.bool (G (j::l)).isNone)):=by
 have c1:=hY.call false (j::l) b o fnd hA (by simp)
 have hst:=hY.st
 have hbody:=hY.body
 have hl:D.int .i64 (j:Int)::Am (ni l)=Am (ni (j::l)):=rfl
 have h1:((vv b o fnd).all fun q=>E_ (vh b o fnd (G (j::l))) q.1 q.2.1)=true:=by cases G (j::l)<;>simp[vv,vh,E_]
 refine Dg HX An (by simp) (Xe b o fnd) h1 fun hwf hwo=>?_
 rw[ER];unfold E2
 unfold vv at c1 ⊢
 have har:OC Vt (.d (.list false (Am (ni (j::l))))::cs) (.d (.list false (Am (ni (j::l))))::cs):=⟨rfl,hY.ar⟩
 cases hg:G (j::l) with
 |none =>
  rw[hg,JU] at c1
  rw[JU]
  unfold vv at c1 ⊢
  (try (simp -implicitDefEqProofs only[go_sem,hst,hbody,hl,HS]));repeat' first|(with_reducible first|exact tI|refine aI ?_ ?_|intro _)|((first|with_reducible refine AN ?_ ?_<;>intro _)<;>try (simp -implicitDefEqProofs only[go_sem,hst,hbody,hl,HS]))|simp (disch:=omega) only[Al]
  all_goals first|omega|(simp;done)|(simp;omega)|skip
  refine E' Vt Vt c1 har (by simp[Handed,Dl.get,Ak.ren,AV.ren,AV.ren.renL,AM.get,Bb,CF,D5,AM.reach,AV.sites,AV.sites.sitesL,AM.osites,hst]) (by simp[CP,E_,CS,Dl.get,D5,EW,CJ]) (by rfl) (by simp only[D6,Dl.get,Ak.ren,AV.ren,AV.ren.renL,and_self,and_true,true_and,if_true,reduceIte];rfl) ?_
  (try (simp -implicitDefEqProofs only[go_sem,hst,HS]));repeat' first|(with_reducible first|exact tI|refine aI ?_ ?_|intro _)|((first|with_reducible refine AN ?_ ?_<;>intro _)<;>try (simp -implicitDefEqProofs only[go_sem,hst,HS]))|simp (disch:=omega) only[Al]
  all_goals first|omega|(simp;done)|(simp;omega)|skip
  all_goals first|rfl|skip
 |some z =>
  rw[hg,JT] at c1
  rw[JT]
  unfold vv at c1 ⊢
  (try (simp -implicitDefEqProofs only[go_sem,hst,hbody,hl,HS]));repeat' first|(with_reducible first|exact tI|refine aI ?_ ?_|intro _)|((first|with_reducible refine AN ?_ ?_<;>intro _)<;>try (simp -implicitDefEqProofs only[go_sem,hst,hbody,hl,HS]))|simp (disch:=omega) only[Al]
  all_goals first|omega|(simp;done)|(simp;omega)|skip
  refine E' Vt Vt c1 har (by simp[Handed,Dl.get,Ak.ren,AV.ren,AV.ren.renL,AM.get,Bb,CF,D5,AM.reach,AV.sites,AV.sites.sitesL,AM.osites,hst]) (by simp[CP,E_,CS,Dl.get,D5,EW,CJ]) (by rfl) (by simp only[D6,Dl.get,Ak.ren,AV.ren,AV.ren.renL,and_self,and_true,true_and,if_true,reduceIte];rfl) ?_
  (try (simp -implicitDefEqProofs only[go_sem,hst,HS]));repeat' first|(with_reducible first|exact tI|refine aI ?_ ?_|intro _)|((first|with_reducible refine AN ?_ ?_<;>intro _)<;>try (simp -implicitDefEqProofs only[go_sem,hst,HS]))|simp (disch:=omega) only[Al]
  all_goals first|omega|(simp;done)|(simp;omega)|skip
  all_goals first|rfl|skip
theorem cN {G:List Nat->Option (List F)}{A:List Nat->Prop}{f:FuncId}{cs:List AV}(hY:pO G A f cs) (j:Nat) :
  pO (fun l=>G (j::l)) (fun l=>A (j::l)/\l.length<=100) B0 [.ablk false [.fn f cs] 0,.d (.ptr [.int .i64 (j:Int)])] :=
 ⟨Rm,by simp[AV.sites,AV.sites.sitesL,hY.st],fun V os h1 h2=>by simp[AV.nrm,AV.nrm.nrmL,hY.nr V os h1 h2,AV.one],by simp[AV.ren,AV.ren.renL,hY.rn],
  ⟨by simp[lE,AV.ren,AV.ren.renL,hY.rn],rfl,trivial⟩,fun nl l b o fnd hA _=>ST hY j nl l b o fnd hA.1 hA.2⟩
theorem Pk (L P:Nat) (n:Bool) (mk:List Nat) (hL:L<=15):∀(m fr:Nat) {G:List Nat->Option (List F)}{A:List Nat->Prop}{f:FuncId}{cs:List AV}(hY:pO G A f cs) (hA:∀l,l∈CQ L mk m fr->A l) (hfr:fr<=L) (hm:m<=50) (b:Bool) (o:List F) (fnd:Bool),
  IJ E0 F5 (vv b o fnd) [.d (UT L P),.d (.list n (Am (ni mk))),.d (.int .i64 (fr:Int)),.d (.int .i64 (m:Int)),.fn f cs] (vh b o fnd ((CQ L mk m fr).findSome? G)) (.d (.bool ((CQ L mk m fr).findSome? G).isNone))
 |0,fr,G,A,f,cs,hY,hA,hfr,hm,b,o,fnd=>by
  have e0:(CQ L mk 0 fr).findSome? G=G []:=by simp[CQ]
  rw[e0]
  have c1:=hY.call true [] b o fnd (hA [] (by simp[CQ])) (fun _=>rfl)
  rw[show Am (ni [])=[] from rfl] at c1
  have hst:=hY.st
  have hbody:=hY.body
  have h1:((vv b o fnd).all fun q=>E_ (vh b o fnd (G [])) q.1 q.2.1)=true:=by cases G []<;>simp[vv,vh,E_]
  refine Dg FI An (by simp) (Xe b o fnd) h1 fun hwf hwo=>?_
  rw[ER];unfold Dy
  have har:OC Vt (.d (.list true [])::cs) (.d (.list true [])::cs):=⟨rfl,hY.ar⟩
  have hz0:((0:Nat):Int)=0:=rfl
  cases hg:G [] with
  |none =>
   rw[hg,JU] at c1
   rw[JU]
   unfold vv at c1 ⊢
   (try (simp -implicitDefEqProofs only[go_sem,hst,hbody,B3,hz0]));repeat' first|(with_reducible first|exact tI|refine aI ?_ ?_|intro _)|((first|with_reducible refine AN ?_ ?_<;>intro _)<;>try (simp -implicitDefEqProofs only[go_sem,hst,hbody,B3,hz0]))|simp (disch:=omega) only[Al]|((with_reducible refine Ao ?_);refine⟨_,rfl,?_,?_⟩)
   all_goals first|omega|(simp;done)|(simp;omega)|skip
   refine E' Vt Vt c1 har (by simp[Handed,Dl.get,Ak.ren,AV.ren,AV.ren.renL,AM.get,Bb,CF,D5,AM.reach,AV.sites,AV.sites.sitesL,AM.osites,hst]) (by simp[CP,E_,CS,Dl.get,D5,EW,CJ]) (by rfl) (by simp only[D6,Dl.get,Ak.ren,AV.ren,AV.ren.renL,and_self,and_true,true_and,if_true,reduceIte];rfl) ?_
   (try (simp -implicitDefEqProofs only[go_sem,hst]));repeat' first|(with_reducible first|exact tI|refine aI ?_ ?_|intro _)|((first|with_reducible refine AN ?_ ?_<;>intro _)<;>try (simp -implicitDefEqProofs only[go_sem,hst]))|simp (disch:=omega) only[Al]|((with_reducible refine Ao ?_);refine⟨_,rfl,?_,?_⟩)
   all_goals first|omega|(simp;done)|(simp;omega)|skip
   all_goals first|rfl|skip
  |some z =>
   rw[hg,JT] at c1
   rw[JT]
   unfold vv at c1 ⊢
   (try (simp -implicitDefEqProofs only[go_sem,hst,hbody,B3,hz0]));repeat' first|(with_reducible first|exact tI|refine aI ?_ ?_|intro _)|((first|with_reducible refine AN ?_ ?_<;>intro _)<;>try (simp -implicitDefEqProofs only[go_sem,hst,hbody,B3,hz0]))|simp (disch:=omega) only[Al]|((with_reducible refine Ao ?_);refine⟨_,rfl,?_,?_⟩)
   all_goals first|omega|(simp;done)|(simp;omega)|skip
   refine E' Vt Vt c1 har (by simp[Handed,Dl.get,Ak.ren,AV.ren,AV.ren.renL,AM.get,Bb,CF,D5,AM.reach,AV.sites,AV.sites.sitesL,AM.osites,hst]) (by simp[CP,E_,CS,Dl.get,D5,EW,CJ]) (by rfl) (by simp only[D6,Dl.get,Ak.ren,AV.ren,AV.ren.renL,and_self,and_true,true_and,if_true,reduceIte];rfl) ?_
   (try (simp -implicitDefEqProofs only[go_sem,hst]));repeat' first|(with_reducible first|exact tI|refine aI ?_ ?_|intro _)|((first|with_reducible refine AN ?_ ?_<;>intro _)<;>try (simp -implicitDefEqProofs only[go_sem,hst]))|simp (disch:=omega) only[Al]|((with_reducible refine Ao ?_);refine⟨_,rfl,?_,?_⟩)
   all_goals first|omega|(simp;done)|(simp;omega)|skip
   all_goals first|rfl|skip
 |m+1,fr,G,A,f,cs,hY,hA,hfr,hm,b,o,fnd=>by
  have hst:=hY.st
  have hnr:=hY.nr
  have h1:((vv b o fnd).all fun q=>E_ (vh b o fnd ((CQ L mk (m+1) fr).findSome? G)) q.1 q.2.1)=true:=by cases (CQ L mk (m+1) fr).findSome? G<;>simp[vv,vh,E_]
  refine Dg FI An (by simp) (Xe b o fnd) h1 fun hwf hwo=>?_
  rw[ER];unfold Dy
  have hz0:¬((m+1:Nat):Int)=0:=by omega
  have hwm:IntKind.i64.wrap (((m+1:Nat):Int)-1)=(m:Int):=by rw[Aa _ (by omega)];omega
  unfold vv
  (try (simp -implicitDefEqProofs only[go_sem,hst,hnr,B3,hz0]));repeat' first|(with_reducible first|exact tI|refine aI ?_ ?_|intro _)|((first|with_reducible refine AN ?_ ?_<;>intro _)<;>try (simp -implicitDefEqProofs only[go_sem,hst,hnr,B3,hz0]))|simp (disch:=omega) only[Al]|((with_reducible refine Ao ?_);refine⟨_,rfl,?_,?_⟩)
  all_goals first|omega|(simp;done)|(simp;omega)|skip
  refine AY (α:=Nat) (l0:=?l1) (m0:=?m1) (fun x=>[]) (fun x=>[(11,.cells [.d (.int .i64 (x:Int))])]) (fun x=>fr<=x/\x<=L/\(CQ L mk (m+1) x).findSome? G=(CQ L mk (m+1) fr).findSome? G) (fun x=>L-x) fr ?h01 ?he1 ?he21 ?hI1 ?step1
  case h01=>(simp -implicitDefEqProofs only[go_sem,hst,hnr];rfl)
  case he1=>rfl
  case he21=>rfl
  case' step1=>(rintro j hI;try dsimp only at hI)
  case' hI1=>try dsimp only
  ·exact⟨by omega,hfr,rfl⟩
  ·obtain⟨j1,j2,j3⟩:=hI
   by_cases hj:j<L
   ·have hj':(j:Int)<(L:Int):=by omega
    have hwj:IntKind.i64.wrap ((j:Int)+1)=((j+1:Nat):Int):=by rw[Aa _ (by omega)];omega
    have c0:=PL n (ni mk) (j:Int)
    rw[nQ] at c0
    have hnx:=Z2 L mk m j G hj
    cases hc:mk.contains j with
    |true =>
     rw[hc] at c0 hnx
     rw[if_pos rfl] at hnx
     have hfin:(CQ L mk (m+1) (j+1)).findSome? G=(CQ L mk (m+1) fr).findSome? G:=by rw[←j3,hnx]
     (try (simp -implicitDefEqProofs only[go_sem,hst,hnr,hj',hwj]));repeat' first|(with_reducible first|exact tI|refine aI ?_ ?_|intro _)|((first|with_reducible refine AN ?_ ?_<;>intro _|(with_reducible refine isCall ?_);first|refine AE c0 ?_)<;>try (simp -implicitDefEqProofs only[go_sem,hst,hnr,hj',hwj]))|simp (disch:=omega) only[Al]|((with_reducible refine Ao ?_);refine⟨_,rfl,?_,?_⟩)
     all_goals first|omega|(simp;done)|(simp;omega)|skip
     all_goals first|exact hfin|skip
    |false =>
     rw[hc] at c0 hnx
     simp only[Bool.false_eq_true,if_false] at hnx
     have hYn:=cN hY j
     have hlen:∀l,l∈CQ L mk m (j+1)->l.length<=100:=fun l hl=>by rw[dI L mk m (j+1) l hl];omega
     have ih:=Pk L P n mk hL m (j+1) hYn (fun l hl=>⟨hA _ (dH L mk m fr j l j1 hj hc hl),hlen l hl⟩) (by omega) (by omega) b o fnd
     have har:OC Vt [.d (UT L P),.d (.list n (Am (ni mk))),.d (.int .i64 ((j+1:Nat):Int)),.d (.int .i64 (m:Int)),.fn B0 [.ablk false [.fn f cs] 0,.d (.ptr [.int .i64 (j:Int)])]] [.d (UT L P),.d (.list n (Am (ni mk))),.d (.int .i64 ((j+1:Nat):Int)),.d (.int .i64 (m:Int)),.fn B0 [.ablk false [.fn f cs] 0,.d (.ptr [.int .i64 (j:Int)])]] :=
      ⟨rfl,rfl,rfl,rfl,by simp[lE,AV.ren,AV.ren.renL,hY.rn],trivial⟩
     cases hr:(CQ L mk m (j+1)).findSome? fun l=>G (j::l) with
     |none =>
      rw[hr] at ih hnx
      have hfin:(CQ L mk (m+1) (j+1)).findSome? G=(CQ L mk (m+1) fr).findSome? G:=by rw[←j3,hnx];rfl
      rw[JU,Option.isNone_none] at ih
      rw[B3] at ih har
      unfold vv at ih
      (try (simp -implicitDefEqProofs only[go_sem,hst,hnr,hj',hwj,hwm]));repeat' first|(with_reducible first|exact tI|refine aI ?_ ?_|intro _)|((first|with_reducible refine AN ?_ ?_<;>intro _|(with_reducible refine isCall ?_);first|refine AE c0 ?_)<;>try (simp -implicitDefEqProofs only[go_sem,hst,hnr,hj',hwj,hwm]))|simp (disch:=omega) only[Al]|((with_reducible refine Ao ?_);refine⟨_,rfl,?_,?_⟩)
      all_goals first|omega|(simp;done)|(simp;omega)|skip
      refine E' Vt Vt ih har (by simp[Handed,Dl.get,Ak.ren,AV.ren,AV.ren.renL,AM.get,Bb,CF,D5,AM.reach,AV.sites,AV.sites.sitesL,AM.osites,hst]) (by simp[CP,E_,CS,Dl.get,D5,EW,CJ]) (by rfl) (by simp only[D6,Dl.get,Ak.ren,AV.ren,AV.ren.renL,and_self,and_true,true_and,if_true,reduceIte];rfl) ?_
      (try (simp -implicitDefEqProofs only[go_sem,hst,hnr,hwj]));repeat' first|(with_reducible first|exact tI|refine aI ?_ ?_|intro _)|((first|with_reducible refine AN ?_ ?_<;>intro _)<;>try (simp -implicitDefEqProofs only[go_sem,hst,hnr,hwj]))|simp (disch:=omega) only[Al]|((with_reducible refine Ao ?_);refine⟨_,rfl,?_,?_⟩)
      all_goals first|omega|(simp;done)|(simp;omega)|skip
      all_goals first|exact hfin|skip
     |some z =>
      rw[hr] at ih hnx
      have hfin:(CQ L mk (m+1) fr).findSome? G=some z:=by rw[←j3,hnx];rfl
      rw[hfin,JT]
      rw[JT,Option.isNone_some] at ih
      rw[B3] at ih har
      unfold vv at ih ⊢
      (try (simp -implicitDefEqProofs only[go_sem,hst,hnr,hj',hwj,hwm]));repeat' first|(with_reducible first|exact tI|refine aI ?_ ?_|intro _)|((first|with_reducible refine AN ?_ ?_<;>intro _|(with_reducible refine isCall ?_);first|refine AE c0 ?_)<;>try (simp -implicitDefEqProofs only[go_sem,hst,hnr,hj',hwj,hwm]))|simp (disch:=omega) only[Al]|((with_reducible refine Ao ?_);refine⟨_,rfl,?_,?_⟩)
      all_goals first|omega|(simp;done)|(simp;omega)|skip
      refine E' Vt Vt ih har (by simp[Handed,Dl.get,Ak.ren,AV.ren,AV.ren.renL,AM.get,Bb,CF,D5,AM.reach,AV.sites,AV.sites.sitesL,AM.osites,hst]) (by simp[CP,E_,CS,Dl.get,D5,EW,CJ]) (by rfl) (by simp only[D6,Dl.get,Ak.ren,AV.ren,AV.ren.renL,and_self,and_true,true_and,if_true,reduceIte];rfl) ?_
      (try (simp -implicitDefEqProofs only[go_sem,hst,hnr,hwj]));repeat' first|(with_reducible first|exact tI|refine aI ?_ ?_|intro _)|((first|with_reducible refine AN ?_ ?_<;>intro _)<;>try (simp -implicitDefEqProofs only[go_sem,hst,hnr,hwj]))|simp (disch:=omega) only[Al]|((with_reducible refine Ao ?_);refine⟨_,rfl,?_,?_⟩)
      all_goals first|omega|(simp;done)|(simp;omega)|skip
      all_goals first|rfl|skip
   ·have hj':¬(j:Int)<(L:Int):=by omega
    have hje:j=L:=by omega
    subst hje
    have hfin:(CQ j mk (m+1) fr).findSome? G=none:=by rw[←j3,dJ];rfl
    rw[hfin,JU]
    unfold vv
    (try (simp -implicitDefEqProofs only[go_sem,hst,hnr,hj']));repeat' first|(with_reducible first|exact tI|refine aI ?_ ?_|intro _)|((first|with_reducible refine AN ?_ ?_<;>intro _)<;>try (simp -implicitDefEqProofs only[go_sem,hst,hnr,hj']))|simp (disch:=omega) only[Al]|((with_reducible refine Ao ?_);refine⟨_,rfl,?_,?_⟩)
    all_goals first|omega|(simp;done)|(simp;omega)|skip
    all_goals first|rfl|skip
end
section
def decR (o:Option (List F)):D:=match o with
 |some r=>.tup [.list false (us r),.bool true]
 |none=>.tup [.list true [],.bool false]
theorem S8 (v:List F):decR (some v)=.tup [.list false (us v),.bool true]:=rfl
theorem S9:decR none=.tup [.list true [],.bool false]:=rfl
theorem SV:Bv E0.P Cz=true:=by kernel_rfl
theorem K5 {β:Type}{f:Nat->Option β}{e:Nat}{r:β}(h:∀i,i<e->f i=none) (he:f e=some r):∀N,e<N->(List.range N).findSome? f=some r
 |0,hN=>by omega
 |N+1,hN=>by
  rw[List.range_succ,List.findSome?_append]
  by_cases h2:e<N
  ·rw[K5 h he N h2];rfl
  ·have:e=N:=by omega
   subst this
   have hn:(List.range e).findSome? f=none:=by
    rw[List.findSome?_eq_none_iff];exact fun i hi=>h i (by simpa using hi)
   rw[hn]
   simp[he]
noncomputable def bh (L P:Nat) (w:List F) (mk:List Nat) (e:Nat):Option (List F):=(CQ L mk e 0).findSome? (hit L P w mk)
theorem kj {L P:Nat}{w r:List F}{mk:List Nat}{e:Nat}(h:∀i,i<e->bh L P w mk i=none) (he:bh L P w mk e=some r) (hb:2*e+mk.length<=P):N1 L P w mk=some r:=by
 unfold N1
 rw[if_pos (by omega)]
 exact K5 h he _ (by omega)
theorem gQ {L P:Nat}{w:List F}{mk:List Nat}{e:Nat}(h:∀i,i<e->bh L P w mk i=none) (hb:¬2*e+mk.length<=P):N1 L P w mk=none:=by
 unfold N1
 split
 ·rw[List.findSome?_eq_none_iff]
  intro i hi
  simp at hi
  exact h i (by omega)
 ·rfl
theorem hC {L P:Nat}{w:List F}{mk:List Nat}(n2:Bool) (hL:L<=15) (hL1:1<=L) (hP:1<=P) (hP2:P<=15) (hw:w.length=L) (hm:cH L mk) :
  pO (hit L P w mk) (fun l=>TJ L mk 0 l/\2*l.length+mk.length<=P) Cz [.d (.ptr [.list n2 (Am (ni mk))]),.d (.ptr [.int .i64 L,.int .i64 P]),.d (.ptr [.list false (us (KL L P w))]),.d (.ptr [.list false (us w)]),.ptr 900004 0 0,.ptr 901004 0 0] :=
 ⟨SV,rfl,fun V os h1 h2=>by simp[AV.nrm,AV.nrm.nrmL,h1,h2],rfl,⟨rfl,rfl,rfl,rfl,rfl,rfl,trivial⟩,fun nl l b o fnd hA _ =>
  UO L P nl n2 false b fnd o w mk l hL hL1 hP hP2 hw (Tk hm hA.1) (by have:=hA.2;simp;omega) rfl⟩
attribute [local congr] Bf A9 A_ Aq Bg Ax Az Ay Ap Aj Ad AZ Au Ae Av BK BO BM BN BL BP BE Ah Aw Ai BC BW Ag BI BJ BD BF BH BG BA BB A8 Bj A' Ar Af
attribute [local irreducible] IntKind.wrap A4 Option.getD and or
theorem Mt (L P:Nat) (n1 n2:Bool) (w:List F) (mk:List Nat) (hL:L<=15) (hL1:1<=L) (hP:1<=P) (hP2:P<=15) (hw:w.length=L) (hm:cH L mk) (hml:mk.length<=100) (hn1:n1=false) :
  B' E0 GH [UT L P,.list n1 (us w),.list n2 (Am (ni mk))] (decR (N1 L P w mk)):=by
 subst hn1
 have c1:=PA L P false w hL hL1 hP hP2 hw
 have hY:=hC (P:=P) n2 hL hL1 hP hP2 hw hm
 refine AO JB An (by simp) fun hwf=>?_
 rw[AW];unfold Fp
 rw[B3] at c1 ⊢
 (try (simp -implicitDefEqProofs only[go_sem]));repeat' first|(with_reducible first|exact tI|refine aI ?_ ?_|intro _)|((first|with_reducible refine AN ?_ ?_<;>intro _|(with_reducible refine isCall ?_);first|refine AE c1 ?_)<;>try (simp -implicitDefEqProofs only[go_sem]))|simp (disch:=omega) only[Al]|((with_reducible refine CY ?_);refine⟨(_,_,_,_),rfl,?_,?_⟩)
 all_goals first|omega|(simp;done)|(simp;omega)|skip
 refine AY (α:=Nat×Bool×(List F)×Bool) (l0:=?l1) (m0:=?m1) (fun x=>[(9,.d (.int .i64 (x.1:Int)))]) (fun x=>[(6,.cells [.d (.list x.2.1 (us x.2.2.1))]),(7,.cells [.d (.bool x.2.2.2)])]) (fun x=>x.1<=100/\((x.2.2.2=false/\x.2.1=true/\x.2.2.1=[]/\∀i,i<x.1->bh L P w mk i=none)\/(x.2.2.2=true/\x.2.1=false/\N1 L P w mk=some x.2.2.1))) (fun x=>(if x.2.2.2 then 0 else 101-x.1)) (0,true,[],false) ?h01 ?he1 ?he21 ?hI1 ?step1
 case h01=>(simp -implicitDefEqProofs only[go_sem];rfl)
 case he1=>rfl
 case he21=>rfl
 case' step1=>(rintro⟨e,b,o,fnd⟩ hI;try dsimp only at hI)
 case' hI1=>try dsimp only
 ·exact⟨by omega,.inl ⟨rfl,rfl,rfl,fun i hi=>absurd hi (by omega)⟩⟩
 ·obtain⟨h1,h2⟩:=hI
  have hw2:IntKind.i64.wrap (2*(e:Int))=2*(e:Int):=Aa _ (by omega)
  have hw3:IntKind.i64.wrap (2*(e:Int)+(mk.length:Int))=2*(e:Int)+(mk.length:Int):=Aa _ (by omega)
  have hw4:IntKind.i64.wrap ((e:Int)+1)=((e+1:Nat):Int):=by rw[Aa _ (by omega)];omega
  rcases h2 with⟨rfl,rfl,rfl,h3⟩|⟨rfl,rfl,h3⟩
  ·by_cases hb:2*e+mk.length<=P
   ·have hb':2*(e:Int)+(mk.length:Int)<=(P:Int):=by omega
    have c2:=Pk L P n2 mk hL e 0 hY (fun l hl=>⟨(Il L mk e 0 l hl).2,by rw[(Il L mk e 0 l hl).1];exact hb⟩) (by omega) (by omega) true [] false
    rw[show (((0:Nat):Int))=0 from rfl] at c2
    rw[B3] at c2
    obtain⟨R,hR⟩:∃R,bh L P w mk e=R:=⟨_,rfl⟩
    rw[show (CQ L mk e 0).findSome? (hit L P w mk)=R from hR] at c2
    cases R with
    |none =>
     rw[JU,Option.isNone_none] at c2
     unfold vv at c2
     have hn:∀i,i<e+1->bh L P w mk i=none:=fun i hi=>by
      rcases Nat.lt_succ_iff_lt_or_eq.1 hi with hi|rfl
      ·exact h3 i hi
      ·exact hR
     (try (simp -implicitDefEqProofs only[go_sem,hw2,hw3,hb',hw4]));repeat' first|(with_reducible first|exact tI|refine aI ?_ ?_|intro _)|((first|with_reducible refine AN ?_ ?_<;>intro _|(with_reducible refine isCall ?_);first|(refine E' ([((900004,0),(6,0)),((901004,0),(7,0))]) ([((900004,0),(6,0)),((901004,0),(7,0))]) (c2) (by repeat' first|exact True.intro|exact rfl|refine And.intro ?_ ?_) (by simp[Handed,Dl.get,Ak.ren,AV.ren,AV.ren.renL,AM.get,Bb,CF,D5,AM.reach,AV.sites,AV.sites.sitesL,AM.osites]) (by simp[CP,E_,CS,Dl.get,D5,EW,CJ]) (by rfl) (by simp only[D6,Dl.get,Ak.ren,AV.ren,AV.ren.renL,and_self,and_true,true_and,if_true,reduceIte];rfl) ?_))<;>try (simp -implicitDefEqProofs only[go_sem,hw2,hw3,hb',hw4]))|simp (disch:=omega) only[Al]|((with_reducible refine CY ?_);refine⟨(_,_,_,_),rfl,?_,?_⟩)
     all_goals first|omega|(simp;done)|(simp;omega)|skip
     all_goals first|exact .inl ⟨trivial,trivial,trivial,hn⟩|skip
    |some r =>
     have hfin:=kj h3 hR hb
     rw[JT,Option.isNone_some] at c2
     unfold vv at c2
     (try (simp -implicitDefEqProofs only[go_sem,hw2,hw3,hb',hw4]));repeat' first|(with_reducible first|exact tI|refine aI ?_ ?_|intro _)|((first|with_reducible refine AN ?_ ?_<;>intro _|(with_reducible refine isCall ?_);first|(refine E' ([((900004,0),(6,0)),((901004,0),(7,0))]) ([((900004,0),(6,0)),((901004,0),(7,0))]) (c2) (by repeat' first|exact True.intro|exact rfl|refine And.intro ?_ ?_) (by simp[Handed,Dl.get,Ak.ren,AV.ren,AV.ren.renL,AM.get,Bb,CF,D5,AM.reach,AV.sites,AV.sites.sitesL,AM.osites]) (by simp[CP,E_,CS,Dl.get,D5,EW,CJ]) (by rfl) (by simp only[D6,Dl.get,Ak.ren,AV.ren,AV.ren.renL,and_self,and_true,true_and,if_true,reduceIte];rfl) ?_))<;>try (simp -implicitDefEqProofs only[go_sem,hw2,hw3,hb',hw4]))|simp (disch:=omega) only[Al]|((with_reducible refine CY ?_);refine⟨(_,_,_,_),rfl,?_,?_⟩)
     all_goals first|omega|(simp;done)|(simp;omega)|skip
     all_goals first|exact .inr ⟨trivial,trivial,hfin⟩|skip
   ·have hb':¬2*(e:Int)+(mk.length:Int)<=(P:Int):=by omega
    rw[gQ h3 hb,S9]
    (try (simp -implicitDefEqProofs only[go_sem,hw2,hw3,hb',hw4]));repeat' first|(with_reducible first|exact tI|refine aI ?_ ?_|intro _)|((first|with_reducible refine AN ?_ ?_<;>intro _)<;>try (simp -implicitDefEqProofs only[go_sem,hw2,hw3,hb',hw4]))|simp (disch:=omega) only[Al]|((with_reducible refine CY ?_);refine⟨(_,_,_,_),rfl,?_,?_⟩)
    all_goals first|omega|(simp;done)|(simp;omega)|skip
    all_goals first|rfl|skip
  ·rw[h3,S8]
   (try (simp -implicitDefEqProofs only[go_sem,hw2,hw3,hw4]));repeat' first|(with_reducible first|exact tI|refine aI ?_ ?_|intro _)|((first|with_reducible refine AN ?_ ?_<;>intro _)<;>try (simp -implicitDefEqProofs only[go_sem,hw2,hw3,hw4]))|simp (disch:=omega) only[Al]|((with_reducible refine CY ?_);refine⟨(_,_,_,_),rfl,?_,?_⟩)
   all_goals first|omega|(simp;done)|(simp;omega)|skip
   all_goals first|rfl|skip
end
theorem gX (n i:Nat):SS (n+1) i=gp (i*n)::SS n i:=by
 unfold SS
 rw[List.range_succ_eq_map,List.map_cons,List.map_map]
 congr 1
 apply List.map_congr_left
 intro j hj
 show YB (n+1) i (j+1)=YB n i j
 unfold YB
 rw[show n+1-1-(j+1)=n-1-j by omega]
def Mi (i:Nat) (w:List F):F:=Ff w (SS w.length i)
theorem gC (i:Nat):Mi i []=0:=rfl
theorem QO (i:Nat) (y:F) (ys:List F):Mi i (y::ys)=fa (fm y (gp (i*ys.length))) (Mi i ys):=by
 show Ff (y::ys) (SS (ys.length+1) i)=_
 rw[gX];rfl
theorem nh (i:Nat) (l:List F) (o:Nat) (y:F) (h:o<l.length):Mi i (l.set o y)=fa (Mi i l) (fm (fa (l[o]?.getD 0) y) (gp (i*(l.length-1-o)))):=by
 unfold Mi
 rw[List.length_set,UI y l _ o h (by rw[QS];omega),US _ _ _ h];rfl
def C4:List F->Nat->F->List F->List F
 |l,o,b,[]=>l
 |l,o,b,y::ys=>C4 (l.set o (fa (l[o]?.getD 0) (fm b y))) (o+1) b ys
theorem JH:∀(g l:List F) (o:Nat) (b:F),(C4 l o b g).length=l.length
 |[],l,o,b=>rfl
 |y::ys,l,o,b=>by show (C4 _ (o+1) b ys).length=_;rw[JH ys];simp
theorem R0 (y:F):∀(g l:List F) (o:Nat) (b:F),C4 l o b (g++[y])=(C4 l o b g).set (o+g.length) (fa ((C4 l o b g)[o+g.length]?.getD 0) (fm b y))
 |[],l,o,b=>rfl
 |z::zs,l,o,b=>by
  show C4 _ (o+1) b (zs++[y])=_
  rw[R0 y zs]
  show _=(C4 (l.set o (fa (l[o]?.getD 0) (fm b z))) (o+1) b zs).set (o+(zs.length+1)) (fa ((C4 (l.set o (fa (l[o]?.getD 0) (fm b z))) (o+1) b zs)[o+(zs.length+1)]?.getD 0) (fm b y))
  rw[show o+1+zs.length=o+(zs.length+1) by omega]
theorem R1 (j:Nat):∀(g l:List F) (o:Nat) (b:F),j<o->(C4 l o b g)[j]?.getD 0=l[j]?.getD 0
 |[],l,o,b,_=>rfl
 |y::ys,l,o,b,h=>by
  show (C4 _ (o+1) b ys)[j]?.getD 0=_
  rw[R1 j ys _ (o+1) b (by omega),List.getElem?_set_ne (by omega)]
theorem RL (i:Nat):∀(g l:List F) (o:Nat) (b:F),o+g.length<=l.length->Mi i (C4 l o b g)=fa (Mi i l) (fm (fm b (Mi i g)) (gp (i*(l.length-o-g.length))))
 |[],l,o,b,h=>by show Mi i l=_;rw[gC,Dr,Cb,DB]
 |y::ys,l,o,b,h=>by
  simp only[List.length_cons] at h
  show Mi i (C4 _ (o+1) b ys)=_
  rw[RL i ys _ (o+1) b (by rw[List.length_set];omega),nh i l o _ (by omega),QO,List.length_set,List.length_cons]
  rw[←EH (l[o]?.getD 0),Fv,JQ,MF,EH]
  congr 1
  have e1:l.length-1-o=ys.length+(l.length-o-(ys.length+1)):=by omega
  have e2:l.length-(o+1)-ys.length=l.length-o-(ys.length+1):=by omega
  rw[e1,e2,Nat.mul_add,Xz,Dt (fa _ _),MF,Dt (gp (i*(l.length-o-(ys.length+1)))),Dt (gp (i*(l.length-o-(ys.length+1))))]
  simp only[Fu]
theorem RI (i:Nat):∀a:List F,Mi i (a++[0])=fm (Mi i a) (gp i)
 |[]=>by
  show Mi i [0]=_
  rw[QO,Cb,gC,Cb,DB]
 |y::ys=>by
  show Mi i (y::(ys++[0]))=_
  rw[QO,QO,RI i ys,List.length_append,List.length_singleton,Nat.mul_add,Nat.mul_one,Xz,Dt (fa _ _),MF,Dt (gp i) (Mi i ys),Dt (gp i) (fm y _),Fu]
theorem kY (i:Nat) (a:List F) (h:Mi i a=0):∀n,Mi i (a++List.replicate n 0)=0
 |0=>by simpa using h
 |n+1=>by rw[List.replicate_succ',←List.append_assoc,RI,kY i a h n,Cb]
def I9:Nat->List F
 |0=>[1]
 |i+1=>C4 (I9 i++[0]) 1 (gp i) (I9 i)
theorem K_:∀i,(I9 i).length=i+1
 |0=>rfl
 |i+1=>by show (C4 (I9 i++[0]) 1 (gp i) (I9 i)).length=_;rw[JH];simp[K_ i]
theorem gP:∀i,(I9 i)[0]?.getD 0=1
 |0=>rfl
 |i+1=>by
  show (C4 (I9 i++[0]) 1 (gp i) (I9 i))[0]?.getD 0=1
  rw[R1 0 _ _ 1 _ (by omega),List.getElem?_append_left (by rw[K_];omega),gP i]
theorem gF (r:Nat):∀i,r<i->Mi r (I9 i)=0
 |0,h=>by omega
 |i+1,h=>by
  show Mi r (C4 (I9 i++[0]) 1 (gp i) (I9 i))=0
  rw[RL r _ _ _ _ (by simp;omega),RI,List.length_append,K_]
  rw[show i+1+([(0:F)]).length-1-(i+1)=0 by simp,Nat.mul_zero,ZN,Jc,Dt (gp i)]
  by_cases hr:r<i
  ·rw[gF r i hr,Cb,Cb,DB]
  ·have:r=i:=by omega
   subst this
   rw[Fv]
def GW (g d:List F) (P:Nat):Nat->List F
 |0=>d++List.replicate P 0
 |i+1=>C4 (GW g d P i) i ((GW g d P i)[i]?.getD 0) g
theorem HG (g d:List F) (P:Nat):∀i,(GW g d P i).length=d.length+P
 |0=>by simp[GW]
 |i+1=>by show (C4 _ _ _ _).length=_;rw[JH,HG g d P i]
theorem Y7 (g d:List F) (P:Nat) (hg:g[0]?.getD 0=1):∀i,i<=d.length->∀j,j<i->(GW g d P i)[j]?.getD 0=0
 |0,_,j,hj=>by omega
 |i+1,hi,j,hj=>by
  show (C4 (GW g d P i) i ((GW g d P i)[i]?.getD 0) g)[j]?.getD 0=0
  cases g with
  |nil=>exact absurd hg (by decide)
  |cons y ys =>
   have hy:y=1:=by simpa using hg
   subst hy
   show (C4 ((GW (1::ys) d P i).set i _) (i+1) _ ys)[j]?.getD 0=0
   rw[R1 j _ _ _ _ (by omega)]
   by_cases h:j=i
   ·subst h
    rw[Jc,Fv,List.getElem?_set_self (by rw[HG];omega)];rfl
   ·rw[List.getElem?_set_ne (fun e=>h e.symm)]
    exact Y7 (1::ys) d P rfl i (by omega) j (by omega)
theorem ZR (r:Nat) (g d:List F) (P:Nat) (hg:Mi r g=0) (hl:g.length=P+1):∀i,i<=d.length->Mi r (GW g d P i)=Mi r (d++List.replicate P 0)
 |0,_=>rfl
 |i+1,hi=>by
  show Mi r (C4 _ _ _ _)=_
  rw[RL r _ _ _ _ (by rw[HG];omega),hg,Dr,Cb,DB]
  exact ZR r g d P hg hl i (by omega)
def IQ (P:Nat) (d:List F):List F:=d++(GW (I9 P) d P d.length).drop d.length
theorem I7 (P:Nat) (d:List F):(IQ P d).length=d.length+P:=by
 unfold IQ;rw[List.length_append,List.length_drop,HG];omega
theorem nz (L P:Nat) (w:List F) (hw:w.length=L):ln L P w↔∀i,i<P->Mi i w=0:=by
 subst hw
 constructor
 ·intro h i hi
  have:=h i hi
  rwa [show Ed (KL w.length P w) i=Ff w (SS w.length i) from KX _ _ _ _ hi] at this
 ·intro h i hi
  rw[show Ed (KL w.length P w) i=Ff w (SS w.length i) from KX _ _ _ _ hi]
  exact h i hi
theorem gJ (P:Nat) (d:List F):ln (d.length+P) P (IQ P d):=by
 rw[nz _ _ _ (I7 P d)]
 intro i hi
 obtain⟨R,hR⟩:∃R,GW (I9 P) d P d.length=R:=⟨_,rfl⟩
 have hl:R.length=d.length+P:=by rw[←hR];exact HG _ _ _ _
 have h0:∀j,j<d.length->R[j]?.getD 0=0:=by rw[←hR];exact Y7 _ _ _ (gP P) _ (Nat.le_refl _)
 have he:Mi i R=Mi i (d++List.replicate P 0):=by rw[←hR];exact ZR i _ _ _ (gF i P hi) (K_ P) _ (Nat.le_refl _)
 have hlen:(d++List.replicate P (0:F)).length=R.length:=by simp[hl]
 have hE:IQ P d=Gj (d++List.replicate P 0) R 1:=by
  apply f5
  ·rw[I7,OE _ _ _ hlen];simp
  ·intro j hj
   rw[I7] at hj
   show (IQ P d)[j]?.getD 0=(Gj (d++List.replicate P 0) R 1)[j]?.getD 0
   rw[show (Gj (d++List.replicate P 0) R 1)[j]?.getD 0=fa ((d++List.replicate P (0:F))[j]?.getD 0) (fm (R[j]?.getD 0) 1) from OB _ _ _ _ hlen]
   unfold IQ
   rw[hR,Jc]
   by_cases h:j<d.length
   ·rw[List.getElem?_append_left h,List.getElem?_append_left h,h0 j h,DB]
   ·rw[List.getElem?_append_right (by omega),List.getElem?_append_right (by omega),List.getElem?_drop,List.getElem?_replicate,if_pos (by omega),show d.length+(j-d.length)=j by omega]
    exact(JQ _).symm
 rw[hE]
 unfold Mi
 have h2:(Gj (d++List.replicate P 0) R 1).length=(d++List.replicate P (0:F)).length:=by rw[OE _ _ _ hlen]
 rw[h2,Nk _ _ _ _ hlen]
 have h3:Mi i (d++List.replicate P (0:F))=Ff (d++List.replicate P (0:F)) (SS (d++List.replicate P (0:F)).length i):=rfl
 have h4:Mi i R=Ff R (SS (d++List.replicate P (0:F)).length i):=by unfold Mi;rw[hlen]
 rw[←h3,←h4,he,Tv,Fv]
end Go.Pw
