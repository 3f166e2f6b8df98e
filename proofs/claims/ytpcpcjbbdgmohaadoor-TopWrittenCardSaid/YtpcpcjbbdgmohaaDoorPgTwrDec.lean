/- A part of the proof. -/
import Derived.Test.YtpcpcjbbdgmohaaDoorPgTwrH
set_option linter.all false
section
namespace Go.Pw
theorem Qo (x:F):∀(w c:List F) (j:Nat),j<w.length->w.length<=c.length->E' (w.set j x) c=fa (E' w c) (fm (fa (w[j]?.getD 0) x) (c[j]?.getD 0))
 |a::w,b::c,0,_,_=>by
  show fa (fm x b) (E' w c)=fa (fa (fm a b) (E' w c)) (fm (fa a x) b)
  rw[ce,Lh (fm a b) (E' w c),D0,←D0 (fm a b),FK,H3,Lh]
 |a::w,b::c,j+1,h,hl=>by
  have ih:=Qo x w c j (by simpa using h) (by simpa using hl)
  show fa (fm a b) (E' (w.set j x) c)=fa (fa (fm a b) (E' w c)) (fm (fa (w[j]?.getD 0) x) (c[j]?.getD 0))
  rw[ih,D0]
theorem Sr (w:List F) (j:Nat) (x:F):∀(js:List Nat) (xs:List F),j∉js->GP (w.set j x) js xs=GP w js xs
 |[],xs,_=>rfl
 |k::js,[],_=>rfl
 |k::js,y::xs,h=>by
  have ih:=Sr w j x js xs fun e=>h (by simp[e])
  show fa ((w.set j x)[k]?.getD 0) y::GP (w.set j x) js xs=fa (w[k]?.getD 0) y::GP w js xs
  rw[ih,List.getElem?_set_ne fun e=>h (by simp[e])]
theorem Ps (c:List F):∀(at_:List Nat) (xs w:List F),at_.Nodup->at_.length=xs.length->(∀j,j∈at_->j<w.length)->w.length<=c.length ->
  E' (EA w at_ xs) c=fa (E' w c) (E' (at_.map fun j=>c[j]?.getD 0) (GP w at_ xs))
 |[],xs,w,_,_,_,_=>by rw[MB];simp[J4,Cy]
 |j::js,x::xs,w,hn,hl,hlt,hc=>by
  rw[List.nodup_cons] at hn
  have hj:=hlt j (by simp)
  have ih:=Ps c js xs (w.set j x) hn.2 (by simpa using hl) (fun k hk=>by simpa using hlt k (by simp[hk])) (by simpa using hc)
  show E' (EA (w.set j x) js xs) c=fa (E' w c) (fa (fm (c[j]?.getD 0) (fa (w[j]?.getD 0) x)) (E' (js.map fun j=>c[j]?.getD 0) (GP w js xs)))
  rw[ih,Qo x w c j hj hc,Sr _ _ _ _ _ hn.1,D0,Df (c[j]?.getD 0)]
theorem a7 (L i:Nat) (at_:List Nat) (h:∀j,j∈at_->j<L):(at_.map fun j=>(PF L i)[j]?.getD 0)=at_.map fun j=>T8 L i j :=
 List.map_congr_left fun j hj=>Qy L i j (h j hj)
theorem Ni {L P:Nat}{w xs:List F}{at_:List Nat}(hw:w.length=L) (hp:Wz L at_) (hl:at_.length=xs.length) (i:Nat) (h:i<P) :
  EG (I2 L P (EA w at_ xs)) i=fa (EG (I2 L P w) i) (E' (at_.map fun j=>T8 L i j) (GP w at_ xs)):=by
 show (I2 L P (EA w at_ xs))[i]?.getD 0=fa ((I2 L P w)[i]?.getD 0) _
 rw[JF _ _ _ _ h,JF _ _ _ _ h,Ps (PF L i) at_ xs w hp.nd hl (fun j hj=>by rw[hw];exact hp.lt j hj) (by rw[NW];omega),a7 L i at_ hp.lt]
theorem Uk {L P:Nat}{at_:List Nat}{s v:List F}(hv:v.length=at_.length):Ox 1 (Mu L P at_ s) v↔∀i,i<P->fa (EG s i) (E' (at_.map fun j=>T8 L i j) v)=0:=by
 have hl:=(Li L P at_ s).len
 constructor
 ·intro h i hi
  have:=h i (by omega)
  rwa [Qp _ _ _ _ _ _ hv i hi,II,Lh] at this
 ·intro h i hi
  rw[Qp _ _ _ _ _ _ hv i (by omega),II,Lh];exact h i (by omega)
def cr (L P:Nat) (w:List F):Prop:=∀i,i<P->EG (I2 L P w) i=0
theorem Md (w:List F):∀(at_:List Nat) (v:List F),at_.length=v.length->GP w at_ (GP w at_ v)=v
 |[],[],_=>rfl
 |j::js,x::v,h=>by
  have ih:=Md w js v (by simpa using h)
  show fa (w[j]?.getD 0) (fa (w[j]?.getD 0) x)::GP w js (GP w js v)=x::v
  rw[ih,←D0,FK,H3]
theorem Ye {L P:Nat}{w r:List F}{mk l:List Nat}(hw:w.length=L) (hp:Wz L (mk++l)) (h:hit L P w mk l=some r):cr L P r/\r.length=L/\∀j,j∉mk++l->r[j]?.getD 0=w[j]?.getD 0:=by
 unfold hit at h
 rw[Option.map_eq_some_iff] at h
 obtain⟨v,hv,rfl⟩:=h
 obtain⟨h1,h2⟩:=PU hv
 refine⟨fun i hi=>?_,by rw[MC];exact hw,fun j hj=>MD _ _ _ _ hj⟩
 rw[Ni hw hp (by rw[Oj _ _ _ h1.symm]) i hi,Md _ _ _ h1.symm]
 exact(Uk h1).1 h2 i hi
theorem RH:∀(at_:List Nat) (w c:List F),at_.Nodup->c.length=w.length->(∀j,j∈at_->j<w.length)->(∀j,j∉at_->c[j]?.getD 0=w[j]?.getD 0)->EA w at_ (at_.map fun j=>c[j]?.getD 0)=c
 |[],w,c,_,hl,_,h=>by
  rw[MB]
  exact(Y8 hl fun j _=>h j (by simp)).symm
 |j::js,w,c,hn,hl,hlt,h=>by
  rw[List.nodup_cons] at hn
  show EA (w.set j (c[j]?.getD 0)) js (js.map fun j=>c[j]?.getD 0)=c
  refine RH js _ c hn.2 (by simpa using hl) (fun k hk=>by simpa using hlt k (by simp[hk])) fun k hk=>?_
  by_cases hkj:k=j
  ·subst hkj
   have:=hlt k (by simp)
   rw[List.getElem?_set_self this];rfl
  ·rw[List.getElem?_set_ne (fun e=>hkj e.symm)]
   exact h k (by simp[hk,hkj])
theorem Tr {L P:Nat}(hL:L<=15) {w c:List F}{mk l:List Nat}(hw:w.length=L) (hc:c.length=L) (hp:Wz L (mk++l)) (hm:(mk++l).length<=P) (hcode:cr L P c) (h:∀j,j∉mk++l->c[j]?.getD 0=w[j]?.getD 0):hit L P w mk l=some c:=by
 obtain⟨A,hA⟩:∃A,mk++l=A:=⟨_,rfl⟩
 unfold hit
 rw[hA] at hp hm h ⊢
 obtain⟨ys,hys⟩:∃ys,(A.map fun j=>c[j]?.getD 0)=ys:=⟨_,rfl⟩
 have hyl:A.length=ys.length:=by rw[←hys];simp
 have hc2:EA w A ys=c:=by
  rw[←hys];exact RH A w c hp.nd (by omega) (fun j hj=>by rw[hw];exact hp.lt j hj) h
 have hal:=Oj w A ys hyl
 have hs:J_ L P A (I2 L P w)=some (GP w A ys):=by
  refine PV hL hp hm hal ((Uk hal).2 fun i hi=>?_)
  rw[←Ni hw hp hyl i hi,hc2]
  exact hcode i hi
 rw[hs,Option.map_some,Md _ _ _ hyl,hc2]
theorem Wq {L P:Nat}(hL:L<=15) {c d:List F}{at_:List Nat}(hc:c.length=L) (hd:d.length=L) (hp:Wz L at_) (hm:at_.length<=P) (h1:cr L P c) (h2:cr L P d) (h:∀j,j∉at_->c[j]?.getD 0=d[j]?.getD 0):c=d:=by
 have e1:hit L P d [] at_=some c:=Tr hL hd hc (by simpa using hp) (by simpa using hm) h1 (by simpa using h)
 have e2:hit L P d [] at_=some d:=Tr hL hd hd (by simpa using hp) (by simpa using hm) h2 (fun _ _=>rfl)
 rw[e1] at e2
 simpa using e2
def CH (L:Nat) (mk:List Nat):Nat->Nat->List (List Nat)
 |0,_=>[[]]
 |m+1,fr=>((List.range' fr (L-fr)).filter fun j=>!mk.contains j).flatMap fun j=>(CH L mk m (j+1)).map (j :: ·)
structure P8 (L:Nat) (mk:List Nat) (fr:Nat) (l:List Nat):Prop where
 asc:l.Pairwise (· < ·)
 ge:∀j,j∈l->fr<=j
 lt:∀j,j∈l->j<L
 un:∀j,j∈l->j∉mk
theorem HV (L:Nat) (mk:List Nat):∀(m fr:Nat) (l:List Nat),l∈CH L mk m fr->l.length=m/\P8 L mk fr l
 |0,fr,l,h=>by
  simp[CH] at h;subst h
  exact⟨rfl,.nil,by simp,by simp,by simp⟩
 |m+1,fr,l,h=>by
  simp only[CH,List.mem_flatMap,List.mem_filter,List.mem_range'_1,List.mem_map] at h
  obtain⟨j,⟨hj,hjm⟩,l',hl',rfl⟩:=h
  obtain⟨h1,h2⟩:=HV L mk m (j+1) l' hl'
  refine⟨by simp[h1],List.pairwise_cons.2 ⟨fun k hk=>by have:=h2.ge k hk;omega,h2.asc⟩,fun k hk=>?_,fun k hk=>?_,fun k hk=>?_⟩
  ·rcases List.mem_cons.1 hk with rfl|hk
   ·omega
   ·have:=h2.ge k hk;omega
  ·rcases List.mem_cons.1 hk with rfl|hk
   ·omega
   ·exact h2.lt k hk
  ·rcases List.mem_cons.1 hk with rfl|hk
   ·simpa using hjm
   ·exact h2.un k hk
theorem Ro (L:Nat) (mk:List Nat):∀(l:List Nat) (fr:Nat),P8 L mk fr l->l∈CH L mk l.length fr
 |[],fr,_=>by simp[CH]
 |j::l,fr,h=>by
  have h1:=List.pairwise_cons.1 h.asc
  have ih:=Ro L mk l (j+1) ⟨h1.2,fun k hk=>h1.1 k hk,fun k hk=>h.lt k (by simp[hk]),fun k hk=>h.un k (by simp[hk])⟩
  simp only[List.length_cons,CH,List.mem_flatMap,List.mem_filter,List.mem_range'_1,List.mem_map]
  refine⟨j,⟨⟨h.ge j (by simp),?_⟩,?_⟩,l,ih,rfl⟩
  ·have:=h.ge j (by simp);have:=h.lt j (by simp);omega
  ·have:=h.un j (by simp)
   simpa using this
structure Zl (L:Nat) (mk:List Nat):Prop where
 asc:mk.Pairwise (· < ·)
 lt:∀j,j∈mk->j<L
theorem Ff {l:List Nat}(h:l.Pairwise (· < ·)):l.Nodup:=h.imp fun h=>Nat.ne_of_lt h
theorem QO {L fr:Nat}{mk l:List Nat}(hm:Zl L mk) (h:P8 L mk fr l):Wz L (mk++l):=by
 refine⟨List.nodup_append.2 ⟨Ff hm.asc,Ff h.asc,fun a ha b hb e=>h.un b hb (e ▸ ha)⟩,fun j hj=>?_⟩
 rcases List.mem_append.1 hj with hj|hj
 ·exact hm.lt j hj
 ·exact h.lt j hj
noncomputable def Ly (L P:Nat) (w:List F) (mk:List Nat):Option (List F) :=
 if mk.length<=P then (List.range ((P-mk.length)/2+1)).findSome? fun e=>(CH L mk e 0).findSome? (hit L P w mk) else none
def PA (L:Nat) (a b:List F) (mk:List Nat):List Nat:=(List.range L).filter fun j=>decide (a[j]?.getD 0≠b[j]?.getD 0) && !mk.contains j
theorem Qr (L:Nat) (a b:List F) (mk:List Nat):P8 L mk 0 (PA L a b mk):=by
 refine⟨List.Pairwise.filter _ List.pairwise_lt_range,fun _ _=>Nat.zero_le _,fun j hj=>?_,fun j hj=>?_⟩
 ·simp[PA] at hj;exact hj.1
 ·simp[PA] at hj;exact hj.2.2
theorem Qs {L:Nat}{a b:List F}{mk:List Nat}(ha:a.length=L) (hb:b.length=L) {j:Nat}(h:j∉mk++PA L a b mk):a[j]?.getD 0=b[j]?.getD 0:=by
 by_cases hj:j<L
 ·simp only[List.mem_append,not_or] at h
  by_cases he:a[j]?.getD 0=b[j]?.getD 0
  ·exact he
  ·exact absurd (by simp[PA,hj,h.1];exact he) h.2
 ·rw[List.getElem?_eq_none (by omega),List.getElem?_eq_none (by omega)]
theorem N2:∀(l k:List Nat),l.Nodup->(∀j,j∈l->j∈k)->l.length<=k.length
 |[],k,_,_=>Nat.zero_le _
 |x::l,k,hn,h=>by
  rw[List.nodup_cons] at hn
  have hx:=h x (by simp)
  have ih:=N2 l (k.erase x) hn.2 fun j hj=>(List.mem_erase_of_ne (show j≠x from fun e=>hn.1 (by rw[←e];exact hj))).2 (h j (by simp[hj]))
  rw[List.length_erase_of_mem hx] at ih
  have:0<k.length:=List.length_pos_of_mem hx
  simp only[List.length_cons]
  omega
theorem eO {L fr:Nat}{a b:List F}{mk l:List Nat}(hs:P8 L mk fr l) (h:∀j,j∉mk++l->a[j]?.getD 0=b[j]?.getD 0):(PA L a b mk).length<=l.length:=by
 have hsub:∀j,j∈PA L a b mk->j∈l:=fun j hj=>by
  simp[PA] at hj
  by_cases hjl:j∈l
  ·exact hjl
  ·exact absurd (h j (by simp[hj.2.2,hjl])) hj.2.1
 exact N2 _ _ (Ff (Qr L a b mk).asc) hsub
theorem KR {α β:Type}{f:α->Option β}{l:List α}{r:β}(h:l.findSome? f=some r):∃x,x∈l/\f x=some r:=by
 rw[List.findSome?_eq_some_iff] at h
 obtain⟨l1,a,l2,rfl,h2,_⟩:=h
 exact⟨a,by simp,h2⟩
theorem OH {L P:Nat}{w r:List F}{mk:List Nat}(hw:w.length=L) (hm:Zl L mk) (h:Ly L P w mk=some r) :
  cr L P r/\r.length=L/\2*(PA L r w mk).length+mk.length<=P:=by
 unfold Ly at h
 split at h
 ·rename_i hle
  obtain⟨e,he,h⟩:=KR h
  obtain⟨l,hl,h⟩:=KR h
  obtain⟨h1,h2⟩:=HV L mk e 0 l hl
  obtain⟨h3,h4,h5⟩:=Ye hw (QO hm h2) h
  refine⟨h3,h4,?_⟩
  have:=eO h2 h5
  simp at he
  omega
 ·cases h
theorem eP {L P:Nat}(hL:L<=15) {w c:List F}{mk:List Nat}(hw:w.length=L) (hc:c.length=L) (hm:Zl L mk) (hcode:cr L P c) (h:2*(PA L c w mk).length+mk.length<=P):Ly L P w mk=some c:=by
 have hs:=Qr L c w mk
 have hp:=QO hm hs
 have hhit:hit L P w mk (PA L c w mk)=some c:=Tr hL hw hc hp (by simp;omega) hcode fun j hj=>Qs hc hw hj
 have hfound:∃r,Ly L P w mk=some r:=by
  unfold Ly
  rw[if_pos (by omega)]
  cases hf:(List.range ((P-mk.length)/2+1)).findSome? fun e=>(CH L mk e 0).findSome? (hit L P w mk) with
  |some r=>exact⟨r,rfl⟩
  |none =>
   rw[List.findSome?_eq_none_iff] at hf
   have h1:=hf (PA L c w mk).length (by simp;omega)
   rw[List.findSome?_eq_none_iff] at h1
   have h2:=h1 _ (Ro L mk _ 0 hs)
   rw[hhit] at h2;cases h2
 obtain⟨r,hr⟩:=hfound
 rw[hr]
 congr 1
 obtain⟨h1,h2,h3⟩:=OH hw hm hr
 have hs2:=Qr L r w mk
 obtain⟨at_,hat⟩:∃at_,mk++((PA L r w mk)++(PA L c w mk).filter fun j=>!(PA L r w mk).contains j)=at_:=⟨_,rfl⟩
 refine Wq hL (at_:=at_) h2 hc ?_ ?_ h1 hcode fun j hj=>?_
 ·rw[←hat]
  refine⟨List.nodup_append.2 ⟨Ff hm.asc,List.nodup_append.2 ⟨Ff hs2.asc,(Ff hs.asc).filter _,fun a ha b hb e=>?_⟩,fun a ha b hb e=>?_⟩,fun j hj=>?_⟩
  ·simp at hb;exact hb.2 (e ▸ ha)
  ·subst e
   rcases List.mem_append.1 hb with hb|hb
   ·exact hs2.un a hb ha
   ·exact hs.un a (List.mem_filter.1 hb).1 ha
  ·rcases List.mem_append.1 hj with hj|hj
   ·exact hm.lt j hj
   ·rcases List.mem_append.1 hj with hj|hj
    ·exact hs2.lt j hj
    ·exact hs.lt j (List.mem_filter.1 hj).1
 ·rw[←hat]
  have:=List.length_filter_le (fun j=>!(PA L r w mk).contains j) (PA L c w mk)
  simp only[List.length_append]
  omega
 ·rw[←hat] at hj
  simp only[List.mem_append,not_or,List.mem_filter] at hj
  obtain⟨j1,j2,j3⟩:=hj
  have j4:j∉PA L c w mk:=fun hh=>j3 ⟨hh,by simpa using j2⟩
  exact(Qs h2 hw (fun e=>(List.mem_append.1 e).elim j1 j2)).trans (Qs hc hw (fun e=>(List.mem_append.1 e).elim j1 j4)).symm
end Go.Pw
end
section
open Go Go.Pw Go.Proofs
namespace Go.Pw
set_option maxRecDepth 100000
set_option maxHeartbeats 3200000
abbrev SE:DG:=[((900004,0),(900004,0)),((901004,0),(901004,0))]
structure fV (G:List Nat->Option (List F)) (A:List Nat->Prop) (f:FuncId) (cs:List AV):Prop where
 body:Bq E0.P f=true
 st:AV.sites.sitesL cs=[900004,901004]
 nr:∀(V:AI) (os:List Nat),AV.nrm.live V os 900004 0=true->AV.nrm.live V os 901004 0=true->AV.nrm.nrmL V os cs=cs
 rn:AV.ren.renL SE cs=some cs
 ar:L7 SE cs cs
 call:∀(nl:Bool) (l:List Nat) (b:Bool) (o:List F) (fnd:Bool),A l->(nl=true->l=[])->HI E0 f (vv b o fnd) (.d (.list nl (A4 (ni l)))::cs) (vh b o fnd (G l)) (.d (.bool (G l).isNone))
theorem OY:Bq E0.P Bk=true:=by kernel_rfl
theorem Ta (b:Bool) (o:List F) (fnd:Bool):MN (vv b o fnd)=true:=by simp[vv,MN,B6,Dv,AW.isHist]
theorem any_cons {α:Type}(l:List α):True:=trivial
theorem VZ (L:Nat) (mk:List Nat) (m j:Nat) (G:List Nat->Option (List F)) (hj:j<L) :
  (CH L mk (m+1) j).findSome? G=if mk.contains j then (CH L mk (m+1) (j+1)).findSome? G else
   ((CH L mk m (j+1)).findSome? fun l=>G (j::l)).or ((CH L mk (m+1) (j+1)).findSome? G):=by
 have hr:List.range' j (L-j)=j::List.range' (j+1) (L-(j+1)):=by
  rw[show L-j=(L-(j+1))+1 by omega,List.range'_succ]
 simp only[CH]
 rw[hr,List.filter_cons]
 cases h:mk.contains j with
 |true=>simp
 |false =>
  simp only[Bool.not_false,if_true,Bool.false_eq_true,if_false,List.flatMap_cons,List.findSome?_append]
  rw[List.findSome?_map];rfl
theorem XX (L:Nat) (mk:List Nat) (m:Nat):CH L mk (m+1) L=[]:=by simp[CH]
theorem XW (L:Nat) (mk:List Nat) (m fr:Nat) (l:List Nat) (h:l∈CH L mk m fr):l.length=m:=(HV L mk m fr l h).1
theorem XV (L:Nat) (mk:List Nat) (m fr j:Nat) (l:List Nat) (hf:fr<=j) (hj:j<L) (hm:mk.contains j=false) (h:l∈CH L mk m (j+1)):j::l∈CH L mk (m+1) fr:=by
 simp only[CH,List.mem_flatMap,List.mem_filter,List.mem_range'_1,List.mem_map]
 exact⟨j,⟨⟨hf,by omega⟩,by simpa using hm⟩,l,h,rfl⟩
theorem d0 (mk:List Nat) (j:Nat):bN (ni mk) (j:Int)=mk.contains j:=by
 unfold bN ni
 rw[Bool.eq_iff_iff]
 simp only[List.contains_iff_mem,List.mem_map]
 constructor
 ·rintro⟨k,hk,he⟩
  have:k=j:=by omega
  subst this;exact hk
 ·exact fun h=>⟨j,h,rfl⟩
attribute [local congr] Bx A9 A_ Au Bz A0 A2 A1 Ar An Ai Ab Av Aj Ax BG BK BI BJ BH BL BD Ay Aw Al Az Am BB BT Ak BE BF BC A' BA B1
attribute [local irreducible] IntKind.wrap BM Option.getD and or
theorem PG {G:List Nat->Option (List F)}{A:List Nat->Prop}{f:FuncId}{cs:List AV}(hY:fV G A f cs) (j:Nat) (nl:Bool) (l:List Nat) (b:Bool) (o:List F) (fnd:Bool) (hA:A (j::l)) (hll:l.length<=100) :
  HI E0 Bk (vv b o fnd) [.d (.list nl (A4 (ni l))),.ablk false [.fn f cs] 0,.d (.ptr [.int .i64 (j:Int)])] (vh b o fnd (G (j::l))) (.d (.bool (G (j::l)).isNone)):=by
 have c1:=hY.call false (j::l) b o fnd hA (by simp)
 have hst:=hY.st
 have hbody:=hY.body
 have hl:D.int .i64 (j:Int)::A4 (ni l)=A4 (ni (j::l)):=rfl
 have h1:((vv b o fnd).all fun q=>EF (vh b o fnd (G (j::l))) q.1 q.2.1)=true:=by cases G (j::l)<;>simp[vv,vh,EF]
 refine C4 Ge A5 (by simp) (Ta b o fnd) h1 fun hwf hwo=>?_
 rw[D8];unfold Ec
 unfold vv at c1 ⊢
 have har:L7 SE (.d (.list false (A4 (ni (j::l))))::cs) (.d (.list false (A4 (ni (j::l))))::cs):=⟨rfl,hY.ar⟩
 cases hg:G (j::l) with
 |none =>
  rw[hg,H7] at c1
  rw[H7]
  unfold vv at c1 ⊢
  (try (simp -implicitDefEqProofs only[go_sem,hst,hbody,hl,Fc]));repeat' first|(with_reducible first|exact tI|refine aI ?_ ?_|intro _)|((first|with_reducible refine AN ?_ ?_<;>intro _)<;>try (simp -implicitDefEqProofs only[go_sem,hst,hbody,hl,Fc]))|simp (disch:=omega) only[Ap]
  all_goals first|omega|(simp<;>omega)|skip
  refine D_ SE SE c1 har (by simp[Handed,DG.get,AW.ren,AV.ren,AV.ren.renL,AI.get,Bl,Bu,DR,AI.reach,AV.sites,AV.sites.sitesL,AI.osites,hst]) (by simp[B0,EF,B6,DG.get,DR,Dv,B8]) (by rfl) (by simp only[Db,DG.get,AW.ren,AV.ren,AV.ren.renL,and_self,and_true,true_and,if_true,reduceIte];rfl) ?_
  (try (simp -implicitDefEqProofs only[go_sem,hst,Fc]));repeat' first|(with_reducible first|exact tI|refine aI ?_ ?_|intro _)|((first|with_reducible refine AN ?_ ?_<;>intro _)<;>try (simp -implicitDefEqProofs only[go_sem,hst,Fc]))|simp (disch:=omega) only[Ap]
  all_goals first|omega|(simp<;>omega)|skip
  all_goals first|rfl|skip
 |some z =>
  rw[hg,H6] at c1
  rw[H6]
  unfold vv at c1 ⊢
  (try (simp -implicitDefEqProofs only[go_sem,hst,hbody,hl,Fc]));repeat' first|(with_reducible first|exact tI|refine aI ?_ ?_|intro _)|((first|with_reducible refine AN ?_ ?_<;>intro _)<;>try (simp -implicitDefEqProofs only[go_sem,hst,hbody,hl,Fc]))|simp (disch:=omega) only[Ap]
  all_goals first|omega|(simp<;>omega)|skip
  refine D_ SE SE c1 har (by simp[Handed,DG.get,AW.ren,AV.ren,AV.ren.renL,AI.get,Bl,Bu,DR,AI.reach,AV.sites,AV.sites.sitesL,AI.osites,hst]) (by simp[B0,EF,B6,DG.get,DR,Dv,B8]) (by rfl) (by simp only[Db,DG.get,AW.ren,AV.ren,AV.ren.renL,and_self,and_true,true_and,if_true,reduceIte];rfl) ?_
  (try (simp -implicitDefEqProofs only[go_sem,hst,Fc]));repeat' first|(with_reducible first|exact tI|refine aI ?_ ?_|intro _)|((first|with_reducible refine AN ?_ ?_<;>intro _)<;>try (simp -implicitDefEqProofs only[go_sem,hst,Fc]))|simp (disch:=omega) only[Ap]
  all_goals first|omega|(simp<;>omega)|skip
  all_goals first|rfl|skip
theorem W3 {G:List Nat->Option (List F)}{A:List Nat->Prop}{f:FuncId}{cs:List AV}(hY:fV G A f cs) (j:Nat) :
  fV (fun l=>G (j::l)) (fun l=>A (j::l)/\l.length<=100) Bk [.ablk false [.fn f cs] 0,.d (.ptr [.int .i64 (j:Int)])] :=
 ⟨OY,by simp[AV.sites,AV.sites.sitesL,hY.st],fun V os h1 h2=>by simp[AV.nrm,AV.nrm.nrmL,hY.nr V os h1 h2,AV.one],by simp[AV.ren,AV.ren.renL,hY.rn],
  ⟨by simp[cJ,AV.ren,AV.ren.renL,hY.rn],rfl,trivial⟩,fun nl l b o fnd hA _=>PG hY j nl l b o fnd hA.1 hA.2⟩
theorem Mw (L P:Nat) (n:Bool) (mk:List Nat) (hL:L<=15):∀(m fr:Nat) {G:List Nat->Option (List F)}{A:List Nat->Prop}{f:FuncId}{cs:List AV}(hY:fV G A f cs) (hA:∀l,l∈CH L mk m fr->A l) (hfr:fr<=L) (hm:m<=50) (b:Bool) (o:List F) (fnd:Bool),
  HI E0 FR (vv b o fnd) [.d (Qz L P),.d (.list n (A4 (ni mk))),.d (.int .i64 (fr:Int)),.d (.int .i64 (m:Int)),.fn f cs] (vh b o fnd ((CH L mk m fr).findSome? G)) (.d (.bool ((CH L mk m fr).findSome? G).isNone))
 |0,fr,G,A,f,cs,hY,hA,hfr,hm,b,o,fnd=>by
  have e0:(CH L mk 0 fr).findSome? G=G []:=by simp[CH]
  rw[e0]
  have c1:=hY.call true [] b o fnd (hA [] (by simp[CH])) (fun _=>rfl)
  rw[show A4 (ni [])=[] from rfl] at c1
  have hst:=hY.st
  have hbody:=hY.body
  have h1:((vv b o fnd).all fun q=>EF (vh b o fnd (G [])) q.1 q.2.1)=true:=by cases G []<;>simp[vv,vh,EF]
  refine C4 Em A5 (by simp) (Ta b o fnd) h1 fun hwf hwo=>?_
  rw[D8];unfold Di
  have har:L7 SE (.d (.list true [])::cs) (.d (.list true [])::cs):=⟨rfl,hY.ar⟩
  have hz0:((0:Nat):Int)=0:=rfl
  cases hg:G [] with
  |none =>
   rw[hg,H7] at c1
   rw[H7]
   unfold vv at c1 ⊢
   (try (simp -implicitDefEqProofs only[go_sem,hst,hbody,Bj,hz0]));repeat' first|(with_reducible first|exact tI|refine aI ?_ ?_|intro _)|((first|with_reducible refine AN ?_ ?_<;>intro _)<;>try (simp -implicitDefEqProofs only[go_sem,hst,hbody,Bj,hz0]))|simp (disch:=omega) only[Ap]|((with_reducible refine Ae ?_);refine⟨_,rfl,?_,?_⟩)
   all_goals first|omega|(simp<;>omega)|skip
   refine D_ SE SE c1 har (by simp[Handed,DG.get,AW.ren,AV.ren,AV.ren.renL,AI.get,Bl,Bu,DR,AI.reach,AV.sites,AV.sites.sitesL,AI.osites,hst]) (by simp[B0,EF,B6,DG.get,DR,Dv,B8]) (by rfl) (by simp only[Db,DG.get,AW.ren,AV.ren,AV.ren.renL,and_self,and_true,true_and,if_true,reduceIte];rfl) ?_
   (try (simp -implicitDefEqProofs only[go_sem,hst]));repeat' first|(with_reducible first|exact tI|refine aI ?_ ?_|intro _)|((first|with_reducible refine AN ?_ ?_<;>intro _)<;>try (simp -implicitDefEqProofs only[go_sem,hst]))|simp (disch:=omega) only[Ap]|((with_reducible refine Ae ?_);refine⟨_,rfl,?_,?_⟩)
   all_goals first|omega|(simp<;>omega)|skip
   all_goals first|rfl|skip
  |some z =>
   rw[hg,H6] at c1
   rw[H6]
   unfold vv at c1 ⊢
   (try (simp -implicitDefEqProofs only[go_sem,hst,hbody,Bj,hz0]));repeat' first|(with_reducible first|exact tI|refine aI ?_ ?_|intro _)|((first|with_reducible refine AN ?_ ?_<;>intro _)<;>try (simp -implicitDefEqProofs only[go_sem,hst,hbody,Bj,hz0]))|simp (disch:=omega) only[Ap]|((with_reducible refine Ae ?_);refine⟨_,rfl,?_,?_⟩)
   all_goals first|omega|(simp<;>omega)|skip
   refine D_ SE SE c1 har (by simp[Handed,DG.get,AW.ren,AV.ren,AV.ren.renL,AI.get,Bl,Bu,DR,AI.reach,AV.sites,AV.sites.sitesL,AI.osites,hst]) (by simp[B0,EF,B6,DG.get,DR,Dv,B8]) (by rfl) (by simp only[Db,DG.get,AW.ren,AV.ren,AV.ren.renL,and_self,and_true,true_and,if_true,reduceIte];rfl) ?_
   (try (simp -implicitDefEqProofs only[go_sem,hst]));repeat' first|(with_reducible first|exact tI|refine aI ?_ ?_|intro _)|((first|with_reducible refine AN ?_ ?_<;>intro _)<;>try (simp -implicitDefEqProofs only[go_sem,hst]))|simp (disch:=omega) only[Ap]|((with_reducible refine Ae ?_);refine⟨_,rfl,?_,?_⟩)
   all_goals first|omega|(simp<;>omega)|skip
   all_goals first|rfl|skip
 |m+1,fr,G,A,f,cs,hY,hA,hfr,hm,b,o,fnd=>by
  have hst:=hY.st
  have hnr:=hY.nr
  have h1:((vv b o fnd).all fun q=>EF (vh b o fnd ((CH L mk (m+1) fr).findSome? G)) q.1 q.2.1)=true:=by cases (CH L mk (m+1) fr).findSome? G<;>simp[vv,vh,EF]
  refine C4 Em A5 (by simp) (Ta b o fnd) h1 fun hwf hwo=>?_
  rw[D8];unfold Di
  have hz0:¬((m+1:Nat):Int)=0:=by omega
  have hwm:IntKind.i64.wrap (((m+1:Nat):Int)-1)=(m:Int):=by rw[Af _ (by omega)];omega
  unfold vv
  (try (simp -implicitDefEqProofs only[go_sem,hst,hnr,Bj,hz0]));repeat' first|(with_reducible first|exact tI|refine aI ?_ ?_|intro _)|((first|with_reducible refine AN ?_ ?_<;>intro _)<;>try (simp -implicitDefEqProofs only[go_sem,hst,hnr,Bj,hz0]))|simp (disch:=omega) only[Ap]|((with_reducible refine Ae ?_);refine⟨_,rfl,?_,?_⟩)
  all_goals first|omega|(simp<;>omega)|skip
  refine AX (α:=Nat) (l0:=?l1) (m0:=?m1) (fun x=>[]) (fun x=>[(11,.cells [.d (.int .i64 (x:Int))])]) (fun x=>fr<=x/\x<=L/\(CH L mk (m+1) x).findSome? G=(CH L mk (m+1) fr).findSome? G) (fun x=>L-x) fr ?h01 ?he1 ?he21 ?hI1 ?step1
  case h01=>(simp -implicitDefEqProofs only[go_sem,hst,hnr];rfl)
  case he1=>rfl
  case he21=>rfl
  case' step1=>(rintro j hI;try dsimp only at hI)
  case' hI1=>try dsimp only
  ·exact⟨by omega,hfr,rfl⟩
  ·obtain⟨j1,j2,j3⟩:=hI
   by_cases hj:j<L
   ·have hj':(j:Int)<(L:Int):=by omega
    have hwj:IntKind.i64.wrap ((j:Int)+1)=((j+1:Nat):Int):=by rw[Af _ (by omega)];omega
    have c0:=Mf n (ni mk) (j:Int)
    rw[d0] at c0
    have hnx:=VZ L mk m j G hj
    cases hc:mk.contains j with
    |true =>
     rw[hc] at c0 hnx
     rw[if_pos rfl] at hnx
     have hfin:(CH L mk (m+1) (j+1)).findSome? G=(CH L mk (m+1) fr).findSome? G:=by rw[←j3,hnx]
     (try (simp -implicitDefEqProofs only[go_sem,hst,hnr,hj',hwj]));repeat' first|(with_reducible first|exact tI|refine aI ?_ ?_|intro _)|((first|with_reducible refine AN ?_ ?_<;>intro _|(with_reducible refine isCall ?_);first|refine AG c0 ?_)<;>try (simp -implicitDefEqProofs only[go_sem,hst,hnr,hj',hwj]))|simp (disch:=omega) only[Ap]|((with_reducible refine Ae ?_);refine⟨_,rfl,?_,?_⟩)
     all_goals first|omega|(simp<;>omega)|skip
     all_goals first|exact hfin|skip
    |false =>
     rw[hc] at c0 hnx
     simp only[Bool.false_eq_true,if_false] at hnx
     have hYn:=W3 hY j
     have hlen:∀l,l∈CH L mk m (j+1)->l.length<=100:=fun l hl=>by rw[XW L mk m (j+1) l hl];omega
     have ih:=Mw L P n mk hL m (j+1) hYn (fun l hl=>⟨hA _ (XV L mk m fr j l j1 hj hc hl),hlen l hl⟩) (by omega) (by omega) b o fnd
     have har:L7 SE [.d (Qz L P),.d (.list n (A4 (ni mk))),.d (.int .i64 ((j+1:Nat):Int)),.d (.int .i64 (m:Int)),.fn Bk [.ablk false [.fn f cs] 0,.d (.ptr [.int .i64 (j:Int)])]] [.d (Qz L P),.d (.list n (A4 (ni mk))),.d (.int .i64 ((j+1:Nat):Int)),.d (.int .i64 (m:Int)),.fn Bk [.ablk false [.fn f cs] 0,.d (.ptr [.int .i64 (j:Int)])]] :=
      ⟨rfl,rfl,rfl,rfl,by simp[cJ,AV.ren,AV.ren.renL,hY.rn],trivial⟩
     cases hr:(CH L mk m (j+1)).findSome? fun l=>G (j::l) with
     |none =>
      rw[hr] at ih hnx
      have hfin:(CH L mk (m+1) (j+1)).findSome? G=(CH L mk (m+1) fr).findSome? G:=by rw[←j3,hnx];rfl
      rw[H7,Option.isNone_none] at ih
      rw[Bj] at ih har
      unfold vv at ih
      (try (simp -implicitDefEqProofs only[go_sem,hst,hnr,hj',hwj,hwm]));repeat' first|(with_reducible first|exact tI|refine aI ?_ ?_|intro _)|((first|with_reducible refine AN ?_ ?_<;>intro _|(with_reducible refine isCall ?_);first|refine AG c0 ?_)<;>try (simp -implicitDefEqProofs only[go_sem,hst,hnr,hj',hwj,hwm]))|simp (disch:=omega) only[Ap]|((with_reducible refine Ae ?_);refine⟨_,rfl,?_,?_⟩)
      all_goals first|omega|(simp<;>omega)|skip
      refine D_ SE SE ih har (by simp[Handed,DG.get,AW.ren,AV.ren,AV.ren.renL,AI.get,Bl,Bu,DR,AI.reach,AV.sites,AV.sites.sitesL,AI.osites,hst]) (by simp[B0,EF,B6,DG.get,DR,Dv,B8]) (by rfl) (by simp only[Db,DG.get,AW.ren,AV.ren,AV.ren.renL,and_self,and_true,true_and,if_true,reduceIte];rfl) ?_
      (try (simp -implicitDefEqProofs only[go_sem,hst,hnr,hwj]));repeat' first|(with_reducible first|exact tI|refine aI ?_ ?_|intro _)|((first|with_reducible refine AN ?_ ?_<;>intro _)<;>try (simp -implicitDefEqProofs only[go_sem,hst,hnr,hwj]))|simp (disch:=omega) only[Ap]|((with_reducible refine Ae ?_);refine⟨_,rfl,?_,?_⟩)
      all_goals first|omega|(simp<;>omega)|skip
      all_goals first|exact hfin|skip
     |some z =>
      rw[hr] at ih hnx
      have hfin:(CH L mk (m+1) fr).findSome? G=some z:=by rw[←j3,hnx];rfl
      rw[hfin,H6]
      rw[H6,Option.isNone_some] at ih
      rw[Bj] at ih har
      unfold vv at ih ⊢
      (try (simp -implicitDefEqProofs only[go_sem,hst,hnr,hj',hwj,hwm]));repeat' first|(with_reducible first|exact tI|refine aI ?_ ?_|intro _)|((first|with_reducible refine AN ?_ ?_<;>intro _|(with_reducible refine isCall ?_);first|refine AG c0 ?_)<;>try (simp -implicitDefEqProofs only[go_sem,hst,hnr,hj',hwj,hwm]))|simp (disch:=omega) only[Ap]|((with_reducible refine Ae ?_);refine⟨_,rfl,?_,?_⟩)
      all_goals first|omega|(simp<;>omega)|skip
      refine D_ SE SE ih har (by simp[Handed,DG.get,AW.ren,AV.ren,AV.ren.renL,AI.get,Bl,Bu,DR,AI.reach,AV.sites,AV.sites.sitesL,AI.osites,hst]) (by simp[B0,EF,B6,DG.get,DR,Dv,B8]) (by rfl) (by simp only[Db,DG.get,AW.ren,AV.ren,AV.ren.renL,and_self,and_true,true_and,if_true,reduceIte];rfl) ?_
      (try (simp -implicitDefEqProofs only[go_sem,hst,hnr,hwj]));repeat' first|(with_reducible first|exact tI|refine aI ?_ ?_|intro _)|((first|with_reducible refine AN ?_ ?_<;>intro _)<;>try (simp -implicitDefEqProofs only[go_sem,hst,hnr,hwj]))|simp (disch:=omega) only[Ap]|((with_reducible refine Ae ?_);refine⟨_,rfl,?_,?_⟩)
      all_goals first|omega|(simp<;>omega)|skip
      all_goals first|rfl|skip
   ·have hj':¬(j:Int)<(L:Int):=by omega
    have hje:j=L:=by omega
    subst hje
    have hfin:(CH j mk (m+1) fr).findSome? G=none:=by rw[←j3,XX];rfl
    rw[hfin,H7]
    unfold vv
    (try (simp -implicitDefEqProofs only[go_sem,hst,hnr,hj']));repeat' first|(with_reducible first|exact tI|refine aI ?_ ?_|intro _)|((first|with_reducible refine AN ?_ ?_<;>intro _)<;>try (simp -implicitDefEqProofs only[go_sem,hst,hnr,hj']))|simp (disch:=omega) only[Ap]|((with_reducible refine Ae ?_);refine⟨_,rfl,?_,?_⟩)
    all_goals first|omega|(simp<;>omega)|skip
    all_goals first|rfl|skip
end Go.Pw
end
section
open Go Go.Pw Go.Proofs
namespace Go.Pw
set_option maxRecDepth 100000
set_option maxHeartbeats 3200000
def decR (o:Option (List F)):D:=match o with
 |some r=>.tup [.list false (us r),.bool true]
 |none=>.tup [.list true [],.bool false]
theorem Pu (v:List F):decR (some v)=.tup [.list false (us v),.bool true]:=rfl
theorem Pv:decR none=.tup [.list true [],.bool false]:=rfl
theorem PH:Bq E0.P Ck=true:=by kernel_rfl
theorem Ja {β:Type}{f:Nat->Option β}{e:Nat}{r:β}(h:∀i,i<e->f i=none) (he:f e=some r):∀N,e<N->(List.range N).findSome? f=some r
 |0,hN=>by omega
 |N+1,hN=>by
  rw[List.range_succ,List.findSome?_append]
  by_cases h2:e<N
  ·rw[Ja h he N h2];rfl
  ·have:e=N:=by omega
   subst this
   have hn:(List.range e).findSome? f=none:=by
    rw[List.findSome?_eq_none_iff];exact fun i hi=>h i (by simpa using hi)
   rw[hn]
   simp[he]
noncomputable def Wm (L P:Nat) (w:List F) (mk:List Nat) (e:Nat):Option (List F):=(CH L mk e 0).findSome? (hit L P w mk)
theorem bq {L P:Nat}{w r:List F}{mk:List Nat}{e:Nat}(h:∀i,i<e->Wm L P w mk i=none) (he:Wm L P w mk e=some r) (hb:2*e+mk.length<=P):Ly L P w mk=some r:=by
 unfold Ly
 rw[if_pos (by omega)]
 exact Ja h he _ (by omega)
theorem ZL {L P:Nat}{w:List F}{mk:List Nat}{e:Nat}(h:∀i,i<e->Wm L P w mk i=none) (hb:¬2*e+mk.length<=P):Ly L P w mk=none:=by
 unfold Ly
 split
 ·rw[List.findSome?_eq_none_iff]
  intro i hi
  simp at hi
  exact h i (by omega)
 ·rfl
theorem Zo {L P:Nat}{w:List F}{mk:List Nat}(n2:Bool) (hL:L<=15) (hL1:1<=L) (hP:1<=P) (hP2:P<=15) (hw:w.length=L) (hm:Zl L mk) :
  fV (hit L P w mk) (fun l=>P8 L mk 0 l/\2*l.length+mk.length<=P) Ck [.d (.ptr [.list n2 (A4 (ni mk))]),.d (.ptr [.int .i64 L,.int .i64 P]),.d (.ptr [.list false (us (I2 L P w))]),.d (.ptr [.list false (us w)]),.ptr 900004 0 0,.ptr 901004 0 0] :=
 ⟨PH,rfl,fun V os h1 h2=>by simp[AV.nrm,AV.nrm.nrmL,h1,h2],rfl,⟨rfl,rfl,rfl,rfl,rfl,rfl,trivial⟩,fun nl l b o fnd hA _ =>
  Qt L P nl n2 false b fnd o w mk l hL hL1 hP hP2 hw (QO hm hA.1) (by have:=hA.2;simp;omega) rfl⟩
attribute [local congr] Bx A9 A_ Au Bz A0 A2 A1 Ar An Ai Ab Av Aj Ax BG BK BI BJ BH BL BD Ay Aw Al Az Am BB BT Ak BE BF BC A' BA B1
attribute [local irreducible] IntKind.wrap BM Option.getD and or
theorem K4 (L P:Nat) (n1 n2:Bool) (w:List F) (mk:List Nat) (hL:L<=15) (hL1:1<=L) (hP:1<=P) (hP2:P<=15) (hw:w.length=L) (hm:Zl L mk) (hml:mk.length<=100) (hn1:n1=false) :
  DE E0 Fa [Qz L P,.list n1 (us w),.list n2 (A4 (ni mk))] (decR (Ly L P w mk)):=by
 subst hn1
 have c1:=Ma L P false w hL hL1 hP hP2 hw
 have hY:=Zo (P:=P) n2 hL hL1 hP hP2 hw hm
 refine AP Hp A5 (by simp) fun hwf=>?_
 rw[AU];unfold FG
 rw[Bj] at c1 ⊢
 (try (simp -implicitDefEqProofs only[go_sem]));repeat' first|(with_reducible first|exact tI|refine aI ?_ ?_|intro _)|((first|with_reducible refine AN ?_ ?_<;>intro _|(with_reducible refine isCall ?_);first|refine AG c1 ?_)<;>try (simp -implicitDefEqProofs only[go_sem]))|simp (disch:=omega) only[Ap]|((with_reducible refine Dq ?_);refine⟨(_,_,_,_),rfl,?_,?_⟩)
 all_goals first|omega|(simp<;>omega)|skip
 refine AX (α:=Nat×Bool×(List F)×Bool) (l0:=?l1) (m0:=?m1) (fun x=>[(9,.d (.int .i64 (x.1:Int)))]) (fun x=>[(6,.cells [.d (.list x.2.1 (us x.2.2.1))]),(7,.cells [.d (.bool x.2.2.2)])]) (fun x=>x.1<=100/\((x.2.2.2=false/\x.2.1=true/\x.2.2.1=[]/\∀i,i<x.1->Wm L P w mk i=none)\/(x.2.2.2=true/\x.2.1=false/\Ly L P w mk=some x.2.2.1))) (fun x=>(if x.2.2.2 then 0 else 101-x.1)) (0,true,[],false) ?h01 ?he1 ?he21 ?hI1 ?step1
 case h01=>(simp -implicitDefEqProofs only[go_sem];rfl)
 case he1=>rfl
 case he21=>rfl
 case' step1=>(rintro⟨e,b,o,fnd⟩ hI;try dsimp only at hI)
 case' hI1=>try dsimp only
 ·exact⟨by omega,.inl ⟨rfl,rfl,rfl,fun i hi=>absurd hi (by omega)⟩⟩
 ·obtain⟨h1,h2⟩:=hI
  have hw2:IntKind.i64.wrap (2*(e:Int))=2*(e:Int):=Af _ (by omega)
  have hw3:IntKind.i64.wrap (2*(e:Int)+(mk.length:Int))=2*(e:Int)+(mk.length:Int):=Af _ (by omega)
  have hw4:IntKind.i64.wrap ((e:Int)+1)=((e+1:Nat):Int):=by rw[Af _ (by omega)];omega
  rcases h2 with⟨rfl,rfl,rfl,h3⟩|⟨rfl,rfl,h3⟩
  ·by_cases hb:2*e+mk.length<=P
   ·have hb':2*(e:Int)+(mk.length:Int)<=(P:Int):=by omega
    have c2:=Mw L P n2 mk hL e 0 hY (fun l hl=>⟨(HV L mk e 0 l hl).2,by rw[(HV L mk e 0 l hl).1];exact hb⟩) (by omega) (by omega) true [] false
    rw[show (((0:Nat):Int))=0 from rfl] at c2
    rw[Bj] at c2
    obtain⟨R,hR⟩:∃R,Wm L P w mk e=R:=⟨_,rfl⟩
    rw[show (CH L mk e 0).findSome? (hit L P w mk)=R from hR] at c2
    cases R with
    |none =>
     rw[H7,Option.isNone_none] at c2
     unfold vv at c2
     have hn:∀i,i<e+1->Wm L P w mk i=none:=fun i hi=>by
      rcases Nat.lt_succ_iff_lt_or_eq.1 hi with hi|rfl
      ·exact h3 i hi
      ·exact hR
     (try (simp -implicitDefEqProofs only[go_sem,hw2,hw3,hb',hw4]));repeat' first|(with_reducible first|exact tI|refine aI ?_ ?_|intro _)|((first|with_reducible refine AN ?_ ?_<;>intro _|(with_reducible refine isCall ?_);first|(refine D_ ([((900004,0),(6,0)),((901004,0),(7,0))]) ([((900004,0),(6,0)),((901004,0),(7,0))]) (c2) (by repeat' first|exact True.intro|exact rfl|refine And.intro ?_ ?_) (by simp[Handed,DG.get,AW.ren,AV.ren,AV.ren.renL,AI.get,Bl,Bu,DR,AI.reach,AV.sites,AV.sites.sitesL,AI.osites]) (by simp[B0,EF,B6,DG.get,DR,Dv,B8]) (by rfl) (by simp only[Db,DG.get,AW.ren,AV.ren,AV.ren.renL,and_self,and_true,true_and,if_true,reduceIte];rfl) ?_))<;>try (simp -implicitDefEqProofs only[go_sem,hw2,hw3,hb',hw4]))|simp (disch:=omega) only[Ap]|((with_reducible refine Dq ?_);refine⟨(_,_,_,_),rfl,?_,?_⟩)
     all_goals first|omega|(simp<;>omega)|skip
     all_goals first|exact .inl ⟨trivial,trivial,trivial,hn⟩|skip
    |some r =>
     have hfin:=bq h3 hR hb
     rw[H6,Option.isNone_some] at c2
     unfold vv at c2
     (try (simp -implicitDefEqProofs only[go_sem,hw2,hw3,hb',hw4]));repeat' first|(with_reducible first|exact tI|refine aI ?_ ?_|intro _)|((first|with_reducible refine AN ?_ ?_<;>intro _|(with_reducible refine isCall ?_);first|(refine D_ ([((900004,0),(6,0)),((901004,0),(7,0))]) ([((900004,0),(6,0)),((901004,0),(7,0))]) (c2) (by repeat' first|exact True.intro|exact rfl|refine And.intro ?_ ?_) (by simp[Handed,DG.get,AW.ren,AV.ren,AV.ren.renL,AI.get,Bl,Bu,DR,AI.reach,AV.sites,AV.sites.sitesL,AI.osites]) (by simp[B0,EF,B6,DG.get,DR,Dv,B8]) (by rfl) (by simp only[Db,DG.get,AW.ren,AV.ren,AV.ren.renL,and_self,and_true,true_and,if_true,reduceIte];rfl) ?_))<;>try (simp -implicitDefEqProofs only[go_sem,hw2,hw3,hb',hw4]))|simp (disch:=omega) only[Ap]|((with_reducible refine Dq ?_);refine⟨(_,_,_,_),rfl,?_,?_⟩)
     all_goals first|omega|(simp<;>omega)|skip
     all_goals first|exact .inr ⟨trivial,trivial,hfin⟩|skip
   ·have hb':¬2*(e:Int)+(mk.length:Int)<=(P:Int):=by omega
    rw[ZL h3 hb,Pv]
    (try (simp -implicitDefEqProofs only[go_sem,hw2,hw3,hb',hw4]));repeat' first|(with_reducible first|exact tI|refine aI ?_ ?_|intro _)|((first|with_reducible refine AN ?_ ?_<;>intro _)<;>try (simp -implicitDefEqProofs only[go_sem,hw2,hw3,hb',hw4]))|simp (disch:=omega) only[Ap]|((with_reducible refine Dq ?_);refine⟨(_,_,_,_),rfl,?_,?_⟩)
    all_goals first|omega|(simp<;>omega)|skip
    all_goals first|rfl|skip
  ·rw[h3,Pu]
   (try (simp -implicitDefEqProofs only[go_sem,hw2,hw3,hw4]));repeat' first|(with_reducible first|exact tI|refine aI ?_ ?_|intro _)|((first|with_reducible refine AN ?_ ?_<;>intro _)<;>try (simp -implicitDefEqProofs only[go_sem,hw2,hw3,hw4]))|simp (disch:=omega) only[Ap]|((with_reducible refine Dq ?_);refine⟨(_,_,_,_),rfl,?_,?_⟩)
   all_goals first|omega|(simp<;>omega)|skip
   all_goals first|rfl|skip
end Go.Pw
end
section
namespace Go.Pw
theorem ZO (n i:Nat):PF (n+1) i=gp (i*n)::PF n i:=by
 unfold PF
 rw[List.range_succ_eq_map,List.map_cons,List.map_map]
 congr 1
 apply List.map_congr_left
 intro j hj
 show T8 (n+1) i (j+1)=T8 n i j
 unfold T8
 rw[show n+1-1-(j+1)=n-1-j by omega]
def Ku (i:Nat) (w:List F):F:=E' w (PF w.length i)
theorem Y9 (i:Nat):Ku i []=0:=rfl
theorem NR (i:Nat) (y:F) (ys:List F):Ku i (y::ys)=fa (fm y (gp (i*ys.length))) (Ku i ys):=by
 show E' (y::ys) (PF (ys.length+1) i)=_
 rw[ZO];rfl
theorem eE (i:Nat) (l:List F) (o:Nat) (y:F) (h:o<l.length):Ku i (l.set o y)=fa (Ku i l) (fm (fa (l[o]?.getD 0) y) (gp (i*(l.length-1-o)))):=by
 unfold Ku
 rw[List.length_set,Qo y l _ o h (by rw[NW];omega),Qy _ _ _ h];rfl
def Cr:List F->Nat->F->List F->List F
 |l,o,b,[]=>l
 |l,o,b,y::ys=>Cr (l.set o (fa (l[o]?.getD 0) (fm b y))) (o+1) b ys
theorem Hv:∀(g l:List F) (o:Nat) (b:F),(Cr l o b g).length=l.length
 |[],l,o,b=>rfl
 |y::ys,l,o,b=>by show (Cr _ (o+1) b ys).length=_;rw[Hv ys];simp
theorem Om (y:F):∀(g l:List F) (o:Nat) (b:F),Cr l o b (g++[y])=(Cr l o b g).set (o+g.length) (fa ((Cr l o b g)[o+g.length]?.getD 0) (fm b y))
 |[],l,o,b=>rfl
 |z::zs,l,o,b=>by
  show Cr _ (o+1) b (zs++[y])=_
  rw[Om y zs]
  show _=(Cr (l.set o (fa (l[o]?.getD 0) (fm b z))) (o+1) b zs).set (o+(zs.length+1)) (fa ((Cr (l.set o (fa (l[o]?.getD 0) (fm b z))) (o+1) b zs)[o+(zs.length+1)]?.getD 0) (fm b y))
  rw[show o+1+zs.length=o+(zs.length+1) by omega]
theorem Oo (j:Nat):∀(g l:List F) (o:Nat) (b:F),j<o->(Cr l o b g)[j]?.getD 0=l[j]?.getD 0
 |[],l,o,b,_=>rfl
 |y::ys,l,o,b,h=>by
  show (Cr _ (o+1) b ys)[j]?.getD 0=_
  rw[Oo j ys _ (o+1) b (by omega),List.getElem?_set_ne (by omega)]
theorem OC (i:Nat):∀(g l:List F) (o:Nat) (b:F),o+g.length<=l.length->Ku i (Cr l o b g)=fa (Ku i l) (fm (fm b (Ku i g)) (gp (i*(l.length-o-g.length))))
 |[],l,o,b,h=>by show Ku i l=_;rw[Y9,De,CP,Cy]
 |y::ys,l,o,b,h=>by
  simp only[List.length_cons] at h
  show Ku i (Cr _ (o+1) b ys)=_
  rw[OC i ys _ (o+1) b (by rw[List.length_set];omega),eE i l o _ (by omega),NR,List.length_set,List.length_cons]
  rw[←D0 (l[o]?.getD 0),FK,H3,KQ,D0]
  congr 1
  have e1:l.length-1-o=ys.length+(l.length-o-(ys.length+1)):=by omega
  have e2:l.length-(o+1)-ys.length=l.length-o-(ys.length+1):=by omega
  rw[e1,e2,Nat.mul_add,Tu,Df (fa _ _),KQ,Df (gp (i*(l.length-o-(ys.length+1)))),Df (gp (i*(l.length-o-(ys.length+1))))]
  simp only[FJ]
theorem OB (i:Nat):∀a:List F,Ku i (a++[0])=fm (Ku i a) (gp i)
 |[]=>by
  show Ku i [0]=_
  rw[NR,CP,Y9,CP,Cy]
 |y::ys=>by
  show Ku i (y::(ys++[0]))=_
  rw[NR,NR,OB i ys,List.length_append,List.length_singleton,Nat.mul_add,Nat.mul_one,Tu,Df (fa _ _),KQ,Df (gp i) (Ku i ys),Df (gp i) (fm y _),FJ]
theorem bf (i:Nat) (a:List F) (h:Ku i a=0):∀n,Ku i (a++List.replicate n 0)=0
 |0=>by simpa using h
 |n+1=>by rw[List.replicate_succ',←List.append_assoc,OB,bf i a h n,CP]
def Hm:Nat->List F
 |0=>[1]
 |i+1=>Cr (Hm i++[0]) 1 (gp i) (Hm i)
theorem Jc:∀i,(Hm i).length=i+1
 |0=>rfl
 |i+1=>by show (Cr (Hm i++[0]) 1 (gp i) (Hm i)).length=_;rw[Hv];simp[Jc i]
theorem ZK:∀i,(Hm i)[0]?.getD 0=1
 |0=>rfl
 |i+1=>by
  show (Cr (Hm i++[0]) 1 (gp i) (Hm i))[0]?.getD 0=1
  rw[Oo 0 _ _ 1 _ (by omega),List.getElem?_append_left (by rw[Jc];omega),ZK i]
theorem ZC (r:Nat):∀i,r<i->Ku r (Hm i)=0
 |0,h=>by omega
 |i+1,h=>by
  show Ku r (Cr (Hm i++[0]) 1 (gp i) (Hm i))=0
  rw[OC r _ _ _ _ (by simp;omega),OB,List.length_append,Jc]
  rw[show i+1+([(0:F)]).length-1-(i+1)=0 by simp,Nat.mul_zero,U1,II,Df (gp i)]
  by_cases hr:r<i
  ·rw[ZC r i hr,CP,CP,Cy]
  ·have:r=i:=by omega
   subst this
   rw[FK]
def Fn (g d:List F) (P:Nat):Nat->List F
 |0=>d++List.replicate P 0
 |i+1=>Cr (Fn g d P i) i ((Fn g d P i)[i]?.getD 0) g
theorem GQ (g d:List F) (P:Nat):∀i,(Fn g d P i).length=d.length+P
 |0=>by simp[Fn]
 |i+1=>by show (Cr _ _ _ _).length=_;rw[Hv,GQ g d P i]
theorem Un (g d:List F) (P:Nat) (hg:g[0]?.getD 0=1):∀i,i<=d.length->∀j,j<i->(Fn g d P i)[j]?.getD 0=0
 |0,_,j,hj=>by omega
 |i+1,hi,j,hj=>by
  show (Cr (Fn g d P i) i ((Fn g d P i)[i]?.getD 0) g)[j]?.getD 0=0
  cases g with
  |nil=>exact absurd hg (by decide)
  |cons y ys =>
   have hy:y=1:=by simpa using hg
   subst hy
   show (Cr ((Fn (1::ys) d P i).set i _) (i+1) _ ys)[j]?.getD 0=0
   rw[Oo j _ _ _ _ (by omega)]
   by_cases h:j=i
   ·subst h
    rw[II,FK,List.getElem?_set_self (by rw[GQ];omega)];rfl
   ·rw[List.getElem?_set_ne (fun e=>h e.symm)]
    exact Un (1::ys) d P rfl i (by omega) j (by omega)
theorem U4 (r:Nat) (g d:List F) (P:Nat) (hg:Ku r g=0) (hl:g.length=P+1):∀i,i<=d.length->Ku r (Fn g d P i)=Ku r (d++List.replicate P 0)
 |0,_=>rfl
 |i+1,hi=>by
  show Ku r (Cr _ _ _ _)=_
  rw[OC r _ _ _ _ (by rw[GQ];omega),hg,De,CP,Cy]
  exact U4 r g d P hg hl i (by omega)
def GN (P:Nat) (d:List F):List F:=d++(Fn (Hm P) d P d.length).drop d.length
theorem FL (P:Nat) (d:List F):(GN P d).length=d.length+P:=by
 unfold GN;rw[List.length_append,List.length_drop,GQ];omega
theorem eQ (L P:Nat) (w:List F) (hw:w.length=L):cr L P w↔∀i,i<P->Ku i w=0:=by
 subst hw
 constructor
 ·intro h i hi
  have:=h i hi
  rwa [show EG (I2 w.length P w) i=E' w (PF w.length i) from JF _ _ _ _ hi] at this
 ·intro h i hi
  rw[show EG (I2 w.length P w) i=E' w (PF w.length i) from JF _ _ _ _ hi]
  exact h i hi
theorem ZF (P:Nat) (d:List F):cr (d.length+P) P (GN P d):=by
 rw[eQ _ _ _ (FL P d)]
 intro i hi
 obtain⟨R,hR⟩:∃R,Fn (Hm P) d P d.length=R:=⟨_,rfl⟩
 have hl:R.length=d.length+P:=by rw[←hR];exact GQ _ _ _ _
 have h0:∀j,j<d.length->R[j]?.getD 0=0:=by rw[←hR];exact Un _ _ _ (ZK P) _ (Nat.le_refl _)
 have he:Ku i R=Ku i (d++List.replicate P 0):=by rw[←hR];exact U4 i _ _ _ (ZC i P hi) (Jc P) _ (Nat.le_refl _)
 have hlen:(d++List.replicate P (0:F)).length=R.length:=by simp[hl]
 have hE:GN P d=Fz (d++List.replicate P 0) R 1:=by
  apply Y8
  ·rw[FL,L9 _ _ _ hlen];simp
  ·intro j hj
   rw[FL] at hj
   show (GN P d)[j]?.getD 0=(Fz (d++List.replicate P 0) R 1)[j]?.getD 0
   rw[show (Fz (d++List.replicate P 0) R 1)[j]?.getD 0=fa ((d++List.replicate P (0:F))[j]?.getD 0) (fm (R[j]?.getD 0) 1) from L6 _ _ _ _ hlen]
   unfold GN
   rw[hR,II]
   by_cases h:j<d.length
   ·rw[List.getElem?_append_left h,List.getElem?_append_left h,h0 j h,Cy]
   ·rw[List.getElem?_append_right (by omega),List.getElem?_append_right (by omega),List.getElem?_drop,List.getElem?_replicate,if_pos (by omega),show d.length+(j-d.length)=j by omega]
    exact(H3 _).symm
 rw[hE]
 unfold Ku
 have h2:(Fz (d++List.replicate P 0) R 1).length=(d++List.replicate P (0:F)).length:=by rw[L9 _ _ _ hlen]
 rw[h2,Ll _ _ _ _ hlen]
 have h3:Ku i (d++List.replicate P (0:F))=E' (d++List.replicate P (0:F)) (PF (d++List.replicate P (0:F)).length i):=rfl
 have h4:Ku i R=E' R (PF (d++List.replicate P (0:F)).length i):=by unfold Ku;rw[hlen]
 rw[←h3,←h4,he,QV,FK]
end Go.Pw
end
