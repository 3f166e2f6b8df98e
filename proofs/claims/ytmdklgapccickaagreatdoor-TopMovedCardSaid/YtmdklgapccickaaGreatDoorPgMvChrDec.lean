/- Part. -/
import Derived.Test.YtmdklgapccickaaGreatDoorPgMvChrJ
import Derived.Test.YtmdklgapccickaaGreatDoorPgMvChrA
set_option linter.all false
open List renaming replicate->aa,mem_append->ax,mem_filter->ay,all_eq_true->ck,range->cp,length_append->cw,getElem?_set_ne->c8,mem_map->ea,length_cons->eb,findSome?_eq_none_iff->et,nodup_cons->hU,range'->hX,mem_flatMap->hY,mem_range'_1->i5,mem_cons->i7,nodup_append->j0,length_set->j4,getElem?_append_left->kk,take_of_length_le->la,map_congr_left->lb,getElem?_set_self->na,pairwise_cons->ne,getElem?_eq_none->no,findSome?_append->ox,length_singleton->ra,getElem?_append_right->ro
open Nat renaming zero_le->az,mul_add->q7,le_refl->rb
open Option renaming getD->f0,isNone_none->oy,isNone_some->pv,map_eq_some_iff->rz,map_some->r3
open Go Go.Pw Go.Proofs
namespace Go.Pw
set_option maxRecDepth 100000
set_option maxHeartbeats 3200000
theorem ZT(x:F):∀(w c:List F) (j:Nat),j<w.length->w.length<=c.length->Gi (w.set j x) c=fa (Gi w c) (fm (fa (w[j]?.getD 0) x) (c[j]?.getD 0))
 |a::w,b::c,0,_,_=>by
  show fa (fm x b) (Gi w c)=fa (fa (fm a b) (Gi w c)) (fm (fa a x) b);rw[xV,RJ (fm a b) (Gi w c),E4,←E4 (fm a b),Gx,LX,RJ]
 |a::w,b::c,j+1,h,hl=>by
  have ih:=ZT x w c j (by simpa using h) (by simpa using hl);show fa (fm a b) (Gi (w.set j x) c)=fa (fa (fm a b) (Gi w c)) (fm (fa (w[j]?.getD 0) x) (c[j]?.getD 0));rw[ih,E4]
theorem dn(w:List F)(j:Nat)(x:F):∀(i:List Nat) (xs:List F),j∉i->Im (w.set j x) i xs=Im w i xs
 |[],xs,_=>rfl
 |k::i,[],_=>rfl
 |k::i,y::xs,h=>by
  have ih:=dn w j x i xs fun e=>h (by simp[e])
  show fa ((w.set j x)[k]?.getD 0) y::Im (w.set j x) i xs=fa (w[k]?.getD 0) y::Im w i xs;rw[ih,c8 fun e=>h (by simp[e])]
theorem X5(c:List F):∀(at_:List Nat) (xs w:List F),at_.Nodup->at_.length=xs.length->(∀j,j∈at_->j<w.length)->w.length<=c.length ->
  Gi (FY w at_ xs) c=fa (Gi w c) (Gi (at_.map fun j=>c[j]?.getD 0) (Im w at_ xs))
 |[],xs,w,_,_,_,_=>by rw[SO];simp[Om,Dc]
 |j::js,x::xs,w,hn,hl,hlt,hc=>by
  rw[hU]at hn;have e:=hlt j (by simp);have ih:=X5 c js xs (w.set j x) hn.2 (by simpa using hl) (fun k hk=>by simpa using hlt k (by simp[hk])) (by simpa using hc);show Gi (FY (w.set j x) js xs) c=fa (Gi w c) (fa (fm (c[j]?.getD 0) (fa (w[j]?.getD 0) x)) (Gi (js.map fun j=>c[j]?.getD 0) (Im w js xs)));rw[ih,ZT x w c j e hc,dn _ _ _ _ _ hn.1,E4,EU (c[j]?.getD 0)]
theorem uU(L i:Nat)(at_:List Nat)(h:∀j,j∈at_->j<L):(at_.map fun j=>(X_ L i)[j]?.getD 0)=at_.map fun j=>gC L i j :=
 lb fun j e=>Zd L i j (h j e)
theorem U7{L P:Nat}{w xs:List F}{at_:List Nat}(e:w.length=L)(hp:mu L at_)(hl:at_.length=xs.length)(i:Nat)(h:i<P) :
  FX (Mu L P (FY w at_ xs)) i=fa (FX (Mu L P w) i) (Gi (at_.map fun j=>gC L i j) (Im w at_ xs)):=by
 show(Mu L P (FY w at_ xs))[i]?.getD 0=fa ((Mu L P w)[i]?.getD 0) _;rw[M6 _ _ _ _ h,M6 _ _ _ _ h,X5 (X_ L i) at_ xs w hp.nd hl (fun j l=>by rw[e];exact hp.lt j l) (by rw[Um];omega),uU L i at_ hp.lt]
theorem iL{L P:Nat}{at_:List Nat}{s v:List F}(hv:v.length=at_.length):Wg 1 (Ti L P at_ s) v↔∀i,i<P->fa (FX s i) (Gi (at_.map fun j=>gC L i j) v)=0:=by
 have hl:=(RM L P at_ s).len;constructor
 ·intro h i hi;have:=h i (by omega);rwa [ZU _ _ _ _ _ _ hv i hi,Lq,RJ]at this
 ·intro h i hi;rw[ZU _ _ _ _ _ _ hv i (by omega),Lq,RJ];exact h i (by omega)
def sE(L P:Nat)(w:List F):Prop:=∀i,i<P->FX (Mu L P w) i=0
theorem TJ(w:List F):∀(at_:List Nat) (v:List F),at_.length=v.length->Im w at_ (Im w at_ v)=v
 |[],[],_=>rfl
 |j::js,x::v,h=>by
  have ih:=TJ w js v (by simpa using h);show fa (w[j]?.getD 0) (fa (w[j]?.getD 0) x)::Im w js (Im w js v)=x::v;rw[ih,←E4,Gx,LX]
theorem py{L P:Nat}{w r:List F}{mk l:List Nat}(e:w.length=L)(hp:mu L (mk++l))(h:hit L P w mk l=some r):sE L P r/\r.length=L/\∀j,j∉mk++l->r[j]?.getD 0=w[j]?.getD 0:=by
 unfold hit at h;rw[rz]at h;obtain⟨v,hv,rfl⟩:=h;obtain⟨h1,h2⟩:=XX hv;refine⟨fun i hi=>?_,by rw[SP];exact e,fun j m=>SQ _ _ _ _ m⟩;rw[U7 e hp (by rw[WR _ _ _ h1.symm]) i hi,TJ _ _ _ h1.symm];exact(iL h1).1 h2 i hi
theorem aH:∀(at_:List Nat) (w c:List F),at_.Nodup->c.length=w.length->(∀j,j∈at_->j<w.length)->(∀j,j∉at_->c[j]?.getD 0=w[j]?.getD 0)->FY w at_ (at_.map fun j=>c[j]?.getD 0)=c
 |[],w,c,_,hl,_,h=>by
  rw[SO];exact(qd hl fun j _=>h j (by simp)).symm
 |j::js,w,c,hn,hl,hlt,h=>by
  rw[hU]at hn;show FY (w.set j (c[j]?.getD 0)) js (js.map fun j=>c[j]?.getD 0)=c;refine aH js _ c hn.2 (by simpa using hl) (fun k hk=>by simpa using hlt k (by simp[hk])) fun k hk=>?_
  by_cases i:k=j
  ·subst i;have:=hlt k (by simp);rw[na this];rfl
  ·rw[c8 (fun e=>i e.symm)];exact h k (by simp[hk,i])
theorem fg{L P:Nat}(t:L<=15){w c:List F}{mk l:List Nat}(q:w.length=L)(hc:c.length=L)(hp:mu L (mk++l))(hm:(mk++l).length<=P)(m:sE L P c)(h:∀j,j∉mk++l->c[j]?.getD 0=w[j]?.getD 0):hit L P w mk l=some c:=by
 obtain⟨A,u⟩:∃A,mk++l=A:=⟨_,rfl⟩
 unfold hit;rw[u]at hp hm h ⊢;obtain⟨ys,o⟩:∃ys,(A.map fun j=>c[j]?.getD 0)=ys:=⟨_,rfl⟩
 have e:A.length=ys.length:=by rw[←o];simp
 have p:FY w A ys=c:=by
  rw[←o];exact aH A w c hp.nd (by omega) (fun j r=>by rw[q];exact hp.lt j r) h
 have n:=WR w A ys e
 have hs:Ou L P A (Mu L P w)=some (Im w A ys):=by
  refine XY t hp hm n ((iL n).2 fun i hi=>?_);rw[←U7 q hp e i hi,p];exact m i hi
 rw[hs,r3,TJ _ _ _ e,p]
theorem X'{L P:Nat}(e:L<=15){c d:List F}{at_:List Nat}(hc:c.length=L)(hd:d.length=L)(hp:mu L at_)(hm:at_.length<=P)(h1:sE L P c)(h2:sE L P d)(h:∀j,j∉at_->c[j]?.getD 0=d[j]?.getD 0):c=d:=by
 have e1:hit L P d [] at_=some c:=fg e hd hc (by simpa using hp) (by simpa using hm) h1 (by simpa using h);have e2:hit L P d [] at_=some d:=fg e hd hd (by simpa using hp) (by simpa using hm) h2 (fun _ _=>rfl);rw[e1]at e2;simpa using e2
def Cm(L:Nat)(mk:List Nat):Nat->Nat->List (List Nat)
 |0,_=>[[]]
 |m+1,fr=>((hX fr (L-fr)).filter fun j=>!mk.contains j).flatMap fun j=>(Cm L mk m (j+1)).map (j :: ·)
structure YM (L:Nat) (mk:List Nat) (fr:Nat) (l:List Nat):Prop where
 asc:l.Pairwise (· < ·)
 ge:∀j,j∈l->fr<=j
 lt:∀j,j∈l->j<L
 un:∀j,j∈l->j∉mk
theorem KV(L:Nat)(mk:List Nat):∀(m fr:Nat) (l:List Nat),l∈Cm L mk m fr->l.length=m/\YM L mk fr l
 |0,fr,l,h=>by
  simp[Cm]at h;subst h;exact⟨rfl,.nil,by simp,by simp,by simp⟩
 |m+1,fr,l,h=>by
  simp only[Cm,hY,ay,i5,ea]at h;obtain⟨j,⟨o,i⟩,n,e,rfl⟩:=h;obtain⟨h1,h2⟩:=KV L mk m (j+1) n e;refine⟨by simp[h1],ne.2 ⟨fun k hk=>by have:=h2.ge k hk;omega,h2.asc⟩,fun k hk=>?_,fun k hk=>?_,fun k hk=>?_⟩
  ·rcases i7.1 hk with rfl|hk
   ·omega
   ·have:=h2.ge k hk;omega
  ·rcases i7.1 hk with rfl|hk
   ·omega
   ·exact h2.lt k hk
  ·rcases i7.1 hk with rfl|hk
   ·simpa using i
   ·exact h2.un k hk
theorem bF(L:Nat)(mk:List Nat):∀(l:List Nat) (fr:Nat),YM L mk fr l->l∈Cm L mk l.length fr
 |[],fr,_=>by simp[Cm]
 |j::l,fr,h=>by
  have h1:=ne.1 h.asc;have ih:=bF L mk l (j+1) ⟨h1.2,fun k hk=>h1.1 k hk,fun k hk=>h.lt k (by simp[hk]),fun k hk=>h.un k (by simp[hk])⟩;simp only[eb,Cm,hY,ay,i5,ea];refine⟨j,⟨⟨h.ge j (by simp),?_⟩,?_⟩,l,ih,rfl⟩
  ·have:=h.ge j (by simp);have:=h.lt j (by simp);omega
  ·have:=h.un j (by simp);simpa using this
structure gt (L:Nat) (mk:List Nat):Prop where
 asc:mk.Pairwise (· < ·)
 lt:∀j,j∈mk->j<L
theorem FB{l:List Nat}(h:l.Pairwise (· < ·)):l.Nodup:=h.imp fun h=>Nat.ne_of_lt h
theorem Yq{L fr:Nat}{mk l:List Nat}(hm:gt L mk)(h:YM L mk fr l):mu L (mk++l):=by
 refine⟨j0.2 ⟨FB hm.asc,FB h.asc,fun a m b hb e=>h.un b hb (e▸m)⟩,fun j i=>?_⟩;rcases ax.1 i with i|i
 ·exact hm.lt j i
 ·exact h.lt j i
noncomputable def Rr(L P:Nat)(w:List F)(mk:List Nat):Option (List F) :=
 if mk.length<=P then(cp ((P-mk.length)/2+1)).findSome? fun e=>(Cm L mk e 0).findSome? (hit L P w mk)else none
def P7(L:Nat)(a b:List F)(mk:List Nat):List Nat:=(cp L).filter fun j=>decide (a[j]?.getD 0≠b[j]?.getD 0) && !mk.contains j
theorem RO(L:Nat)(a b:List F)(mk:List Nat):YM L mk 0 (P7 L a b mk):=by
 refine⟨List.Pairwise.filter _ List.pairwise_lt_range,fun _ _=>az _,fun j e=>?_,fun j e=>?_⟩
 ·simp[P7]at e;exact e.1
 ·simp[P7]at e;exact e.2.2
theorem RP{L:Nat}{a b:List F}{mk:List Nat}(l:a.length=L)(hb:b.length=L){j:Nat}(h:j∉mk++P7 L a b mk):a[j]?.getD 0=b[j]?.getD 0:=by
 by_cases i:j<L
 ·simp only[ax,not_or]at h
  by_cases e:a[j]?.getD 0=b[j]?.getD 0
  ·exact e
  ·exact absurd (by simp[P7,i,h.1];exact e) h.2
 ·rw[no (by omega),no (by omega)]
theorem Qy:∀(l k:List Nat),l.Nodup->(∀j,j∈l->j∈k)->l.length<=k.length
 |[],k,_,_=>az _
 |x::l,k,hn,h=>by
  rw[hU]at hn;have hx:=h x (by simp);have ih:=Qy l (k.erase x) hn.2 fun j i=>(List.mem_erase_of_ne (show j≠x from fun e=>hn.1 (by rw[←e];exact i))).2 (h j (by simp[i]))
  rw[List.length_erase_of_mem hx]at ih;have:0<k.length:=List.length_pos_of_mem hx;simp only[eb];omega
theorem zc{L fr:Nat}{a b:List F}{mk l:List Nat}(hs:YM L mk fr l)(h:∀j,j∉mk++l->a[j]?.getD 0=b[j]?.getD 0):(P7 L a b mk).length<=l.length:=by
 have e:∀j,j∈P7 L a b mk->j∈l:=fun j m=>by
  simp[P7]at m
  by_cases i:j∈l
  ·exact i
  ·exact absurd (h j (by simp[m.2.2,i])) m.2.1
 exact Qy _ _ (FB (RO L a b mk).asc) e
theorem PN{α β:Type}{f:α->Option β}{l:List α}{r:β}(h:l.findSome? f=some r):∃x,x∈l/\f x=some r:=by
 rw[List.findSome?_eq_some_iff]at h;obtain⟨l1,a,l2,rfl,h2,_⟩:=h;exact⟨a,by simp,h2⟩
theorem RR{L P:Nat}{w r:List F}{mk:List Nat}(i:w.length=L)(hm:gt L mk)(h:Rr L P w mk=some r) :
  sE L P r/\r.length=L/\2*(P7 L r w mk).length+mk.length<=P:=by
 unfold Rr at h;split at h
 ·rename_i o;obtain⟨e,m,h⟩:=PN h;obtain⟨l,hl,h⟩:=PN h;obtain⟨h1,h2⟩:=KV L mk e 0 l hl;obtain⟨p,j,n⟩:=py i (Yq hm h2) h;refine⟨p,j,?_⟩;have:=zc h2 n;simp at m;omega
 ·cases h
theorem ze{L P:Nat}(t:L<=15){w c:List F}{mk:List Nat}(p:w.length=L)(hc:c.length=L)(hm:gt L mk)(l:sE L P c)(h:2*(P7 L c w mk).length+mk.length<=P):Rr L P w mk=some c:=by
 have hs:=RO L c w mk;have hp:=Yq hm hs;have o:hit L P w mk (P7 L c w mk)=some c:=fg t p hc hp (by simp;omega) l fun j i=>RP hc p i
 have hfound:∃r,Rr L P w mk=some r:=by
  unfold Rr;rw[if_pos (by omega)]
  cases hf:(cp ((P-mk.length)/2+1)).findSome? fun e=>(Cm L mk e 0).findSome? (hit L P w mk)with
  |some r=>exact⟨r,rfl⟩
  |none =>
   rw[et]at hf;have h1:=hf (P7 L c w mk).length (by simp;omega);rw[et]at h1;have h2:=h1 _ (bF L mk _ 0 hs);rw[o]at h2;cases h2
 obtain⟨r,hr⟩:=hfound;rw[hr];congr 1;obtain⟨h1,h2,A⟩:=RR p hm hr;have m:=RO L r w mk;obtain⟨at_,n⟩:∃at_,mk++((P7 L r w mk)++(P7 L c w mk).filter fun j=>!(P7 L r w mk).contains j)=at_:=⟨_,rfl⟩
 refine X' t (at_:=at_) h2 hc ?_ ?_ h1 l fun j i=>?_
 ·rw[←n];refine⟨j0.2 ⟨FB hm.asc,j0.2 ⟨FB m.asc,(FB hs.asc).filter _,fun a q b hb e=>?_⟩,fun a q b hb e=>?_⟩,fun j i=>?_⟩
  ·simp at hb;exact hb.2 (e▸q)
  ·subst e;rcases ax.1 hb with hb|hb
   ·exact m.un a hb q
   ·exact hs.un a (ay.1 hb).1 q
  ·rcases ax.1 i with i|i
   ·exact hm.lt j i
   ·rcases ax.1 i with i|i
    ·exact m.lt j i
    ·exact hs.lt j (ay.1 i).1
 ·rw[←n];have:=List.length_filter_le (fun j=>!(P7 L r w mk).contains j) (P7 L c w mk);simp only[cw];omega
 ·rw[←n]at i;simp only[ax,not_or,ay]at i;obtain⟨x,u,z⟩:=i;have y:j∉P7 L c w mk:=fun hh=>z ⟨hh,by simpa using u⟩
  exact(RP h2 p (fun e=>(ax.1 e).elim x u)).trans (RP hc p (fun e=>(ax.1 e).elim x y)).symm
section
abbrev cH:Ren:=[((900004,0),(900004,0)),((901004,0),(901004,0))]
structure YOk (G:List Nat->Option (List F)) (A:List Nat->Prop) (f:FuncId) (cs:List AV):Prop where
 body:BA E0.P f=true
 st:AV.sites.sitesL cs=[900004,901004]
 nr:∀(V:AO) (os:List Nat),AV.nrm.live V os 900004 0=true->AV.nrm.live V os 901004 0=true->AV.nrm.nrmL V os cs=cs
 rn:AV.ren.renL cH cs=some cs
 ar:PT cH cs cs
 call:∀(nl:Bool) (l:List Nat) (b:Bool) (o:List F) (fnd:Bool),A l->(nl=true->l=[])->Eg E0 f (vv b o fnd) (.d (.list nl (Ad (ni l)))::cs) (vh b o fnd (G l)) (.d (.bool (G l).isNone))
theorem WA:BA E0.P Bz=true:=by kernel_rfl
theorem fJ(b:Bool)(o:List F)(fnd:Bool):I_ (vv b o fnd)=true:=by simp[vv,I_,CG,Cr,AY.isHist]
theorem any_cons{α:Type}(l:List α):True:=trivial
theorem jw(L:Nat)(mk:List Nat)(m j:Nat)(G:List Nat->Option (List F))(e:j<L) :
  (Cm L mk (m+1) j).findSome? G=if mk.contains j then(Cm L mk (m+1) (j+1)).findSome? G else
   ((Cm L mk m (j+1)).findSome? fun l=>G (j::l)).or ((Cm L mk (m+1) (j+1)).findSome? G):=by
 have hr:hX j (L-j)=j::hX (j+1) (L-(j+1)):=by
  rw[show L-j=(L-(j+1))+1 by omega,List.range'_succ]
 simp only[Cm];rw[hr,List.filter_cons]
 cases h:mk.contains j with
 |true=>simp
 |false =>
  simp only[Bool.not_false,if_true,Bool.false_eq_true,if_false,List.flatMap_cons,ox];rw[List.findSome?_map];rfl
theorem nY(L:Nat)(mk:List Nat)(m:Nat):Cm L mk (m+1) L=[]:=by simp[Cm]
theorem nX(L:Nat)(mk:List Nat)(m fr:Nat)(l:List Nat)(h:l∈Cm L mk m fr):l.length=m:=(KV L mk m fr l h).1
theorem nW(L:Nat)(mk:List Nat)(m fr j:Nat)(l:List Nat)(e:fr<=j)(i:j<L)(hm:mk.contains j=false)(h:l∈Cm L mk m (j+1)):j::l∈Cm L mk (m+1) fr:=by
 simp only[Cm,hY,ay,i5,ea];exact⟨j,⟨⟨e,by omega⟩,by simpa using hm⟩,l,h,rfl⟩
theorem zD(mk:List Nat)(j:Nat):xS (ni mk) (j:Int)=mk.contains j:=by
 unfold xS ni;rw[Bool.eq_iff_iff];simp only[List.contains_iff_mem,ea];constructor
 ·rintro⟨k,hk,e⟩;have:k=j:=by omega
  subst this;exact hk
 ·exact fun h=>⟨j,h,rfl⟩
attribute [local irreducible] IntKind.wrap Ah f0 and or
theorem W9{G:List Nat->Option (List F)}{A:List Nat->Prop}{f:FuncId}{cs:List AV}(m:YOk G A f cs)(j:Nat)(nl:Bool)(l:List Nat)(b:Bool)(o:List F)(fnd:Bool)(u:A (j::l))(r:l.length<=100) :
  Eg E0 Bz (vv b o fnd) [.d (.list nl (Ad (ni l))),.ablk false [.fn f cs] 0,.d (.ptr [.int .i64 (j:Int)])] (vh b o fnd (G (j::l))) (.d (.bool (G (j::l)).isNone)):=by
 have c1:=m.call false (j::l) b o fnd u (by simp);have e:=m.st;have h:=m.body;have hl:D.int .i64 (j:Int)::Ad (ni l)=Ad (ni (j::l)):=rfl;have h1:((vv b o fnd).all fun q=>Fh (vh b o fnd (G (j::l))) q.1 q.2.1)=true:=by cases G (j::l)<;>simp[vv,vh,Fh]
 refine BW JF AR (by simp) (fJ b o fnd) (ck.2 fun q t=>by rw[ck.1 h1 q t,Bool.or_true]) fun p n=>?_
 rw[Bh];unfold Fw;unfold vv at c1 ⊢;have i:PT cH (.d (.list false (Ad (ni (j::l))))::cs) (.d (.list false (Ad (ni (j::l))))::cs):=⟨rfl,m.ar⟩
 cases hg:G (j::l)with
 |none =>
  rw[hg,Lb]at c1;rw[Lb];unfold vv at c1 ⊢;refine' Ta e h hl @P3
  all_goals try exact BL
  refine QR cH cH c1 i (by simp[Handed,Ren.get,AY.ren,AV.ren,AV.ren.renL,AO.get,BH,Cn,Jf,AO.reach,AV.sites,AV.sites.sitesL,AO.osites,e]) (by simp[ET,Fh,CG,Ren.get,Jf,Cr,CB]) (by rfl) (by simp only[HO,Ren.get,AY.ren,AV.ren,AV.ren.renL,and_self,and_true,true_and,if_true,reduceIte];rfl) ?_;refine' MX e @P3
  all_goals try exact BL
  all_goals first|rfl|skip
 |some z =>
  rw[hg,La]at c1;rw[La];unfold vv at c1 ⊢;refine' Ta e h hl @P3
  all_goals try exact BL
  refine QR cH cH c1 i (by simp[Handed,Ren.get,AY.ren,AV.ren,AV.ren.renL,AO.get,BH,Cn,Jf,AO.reach,AV.sites,AV.sites.sitesL,AO.osites,e]) (by simp[ET,Fh,CG,Ren.get,Jf,Cr,CB]) (by rfl) (by simp only[HO,Ren.get,AY.ren,AV.ren,AV.ren.renL,and_self,and_true,true_and,if_true,reduceIte];rfl) ?_;refine' MX e @P3
  all_goals try exact BL
  all_goals first|rfl|skip
theorem mw{G:List Nat->Option (List F)}{A:List Nat->Prop}{f:FuncId}{cs:List AV}(e:YOk G A f cs)(j:Nat) :
  YOk (fun l=>G (j::l)) (fun l=>A (j::l)/\l.length<=100) Bz [.ablk false [.fn f cs] 0,.d (.ptr [.int .i64 (j:Int)])] :=
 ⟨WA,by simp[AV.sites,AV.sites.sitesL,e.st],fun V os h1 h2=>by simp[AV.nrm,AV.nrm.nrmL,e.nr V os h1 h2,AV.one],by simp[AV.ren,AV.ren.renL,e.rn],
  ⟨by simp[wh,AV.ren,AV.ren.renL,e.rn],rfl,trivial⟩,fun nl l b o fnd h _=>W9 e j nl l b o fnd h.1 h.2⟩
theorem Tm(L P:Nat)(n:Bool)(mk:List Nat)(hL:L<=15):∀(m fr:Nat) {G:List Nat->Option (List F)}{A:List Nat->Prop}{f:FuncId}{cs:List AV}(J:YOk G A f cs) (U:∀l,l∈Cm L mk m fr->A l) (O:fr<=L) (hm:m<=50) (b:Bool) (o:List F) (fnd:Bool),
  Eg E0 G_ (vv b o fnd) [.d (Ze L P),.d (.list n (Ad (ni mk))),.d (.int .i64 (fr:Int)),.d (.int .i64 (m:Int)),.fn f cs] (vh b o fnd ((Cm L mk m fr).findSome? G)) (.d (.bool ((Cm L mk m fr).findSome? G).isNone))
 |0,fr,G,A,f,cs,J,U,O,hm,b,o,fnd=>by
  have e0:(Cm L mk 0 fr).findSome? G=G []:=by simp[Cm]
  rw[e0];have c1:=J.call true [] b o fnd (U [] (by simp[Cm])) (fun _=>rfl);rw[show Ad (ni [])=[] from rfl]at c1;have e:=J.st;have B:=J.body;have h1:((vv b o fnd).all fun q=>Fh (vh b o fnd (G [])) q.1 q.2.1)=true:=by cases G []<;>simp[vv,vh,Fh]
  refine BW GB AR (by simp) (fJ b o fnd) (ck.2 fun q hq=>by rw[ck.1 h1 q hq,Bool.or_true]) fun β Y=>?_
  rw[Bh];unfold EY;have y:PT cH (.d (.list true [])::cs) (.d (.list true [])::cs):=⟨rfl,J.ar⟩
  have M:((0:Nat):Int)=0:=rfl
  cases hg:G []with
  |none =>
   rw[hg,Lb]at c1;rw[Lb];unfold vv at c1 ⊢;refine' Ta e B @DC M
   all_goals try exact BL
   refine QR cH cH c1 y (by simp[Handed,Ren.get,AY.ren,AV.ren,AV.ren.renL,AO.get,BH,Cn,Jf,AO.reach,AV.sites,AV.sites.sitesL,AO.osites,e]) (by simp[ET,Fh,CG,Ren.get,Jf,Cr,CB]) (by rfl) (by simp only[HO,Ren.get,AY.ren,AV.ren,AV.ren.renL,and_self,and_true,true_and,if_true,reduceIte];rfl) ?_;refine' HM e
   all_goals try exact BL
   all_goals first|rfl|skip
  |some z =>
   rw[hg,La]at c1;rw[La];unfold vv at c1 ⊢;refine' Ta e B @DC M
   all_goals try exact BL
   refine QR cH cH c1 y (by simp[Handed,Ren.get,AY.ren,AV.ren,AV.ren.renL,AO.get,BH,Cn,Jf,AO.reach,AV.sites,AV.sites.sitesL,AO.osites,e]) (by simp[ET,Fh,CG,Ren.get,Jf,Cr,CB]) (by rfl) (by simp only[HO,Ren.get,AY.ren,AV.ren,AV.ren.renL,and_self,and_true,true_and,if_true,reduceIte];rfl) ?_;refine' HM e
   all_goals try exact BL
   all_goals first|rfl|skip
 |m+1,fr,G,A,f,cs,J,U,O,hm,b,o,fnd=>by
  have e:=J.st;have p:=J.nr;have h1:((vv b o fnd).all fun q=>Fh (vh b o fnd ((Cm L mk (m+1) fr).findSome? G)) q.1 q.2.1)=true:=by cases(Cm L mk (m+1) fr).findSome? G<;>simp[vv,vh,Fh]
  refine BW GB AR (by simp) (fJ b o fnd) (ck.2 fun q hq=>by rw[ck.1 h1 q hq,Bool.or_true]) fun β Y=>?_
  rw[Bh];unfold EY;have M:¬((m+1:Nat):Int)=0:=by omega
  have N:IntKind.i64.wrap (((m+1:Nat):Int)-1)=(m:Int):=by rw[Am _ (by omega)];omega
  unfold vv;refine' Ta e p @DC M
  all_goals try exact BL
  refine BN (α:=Nat) (l0:=?l1) (m0:=?m1) (fun x=>[]) (fun x=>[(11,.cells [.d (.int .i64 (x:Int))])]) (fun x=>fr<=x/\x<=L/\(Cm L mk (m+1) x).findSome? G=(Cm L mk (m+1) fr).findSome? G) (fun x=>L-x) fr ?h01 ?he1 ?he21 ?hI1 ?step1
  case h01=>(simp -implicitDefEqProofs only[go_sem,e,p];rfl)
  case he1=>rfl
  case he21=>rfl
  case' step1=>(rintro j hI;try dsimp only at hI)
  case' hI1=>try dsimp only
  ·exact⟨by omega,O,rfl⟩
  ·obtain⟨j1,j2,T⟩:=hI
   by_cases hj:j<L
   ·have t:(j:Int)<(L:Int):=by omega
    have u:=HE (i:=j) (by omega);have R:=TL n (ni mk) (j:Int);rw[zD]at R;have r:=jw L mk m j G hj
    cases hc:mk.contains j with
    |true =>
     rw[hc]at R r;rw[if_pos rfl]at r;have h:(Cm L mk (m+1) (j+1)).findSome? G=(Cm L mk (m+1) fr).findSome? G:=by rw[←T,r]
     refine' Gj e p t u;repeat' first|(refine' BJ;(first|refine AF R ?_)<;>refine' Gj e p t u)|refine' BI|done
     all_goals try exact BL
     all_goals first|exact h|skip
    |false =>
     rw[hc]at R r;simp only[Bool.false_eq_true,if_false]at r;have Z:=mw J j;have S:∀l,l∈Cm L mk m (j+1)->l.length<=100:=fun l hl=>by rw[nX L mk m (j+1) l hl];omega
     have ih:=Tm L P n mk hL m (j+1) Z (fun l hl=>⟨U _ (nW L mk m fr j l j1 hj hc hl),S l hl⟩) (by omega) (by omega) b o fnd
     have y:PT cH [.d (Ze L P),.d (.list n (Ad (ni mk))),.d (.int .i64 ((j+1:Nat):Int)),.d (.int .i64 (m:Int)),.fn Bz [.ablk false [.fn f cs] 0,.d (.ptr [.int .i64 (j:Int)])]] [.d (Ze L P),.d (.list n (Ad (ni mk))),.d (.int .i64 ((j+1:Nat):Int)),.d (.int .i64 (m:Int)),.fn Bz [.ablk false [.fn f cs] 0,.d (.ptr [.int .i64 (j:Int)])]] :=
      ⟨rfl,rfl,rfl,rfl,by simp[wh,AV.ren,AV.ren.renL,J.rn],trivial⟩
     cases hr:(Cm L mk m (j+1)).findSome? fun l=>G (j::l)with
     |none =>
      rw[hr]at ih r;have h:(Cm L mk (m+1) (j+1)).findSome? G=(Cm L mk (m+1) fr).findSome? G:=by rw[←T,r];rfl
      rw[Lb,oy]at ih;rw[DC]at ih y;unfold vv at ih;refine' dz e p t u N;repeat' first|(refine' BJ;(first|refine AF R ?_)<;>refine' dz e p t u N)|refine' BI|done
      all_goals try exact BL
      refine QR cH cH ih y (by simp[Handed,Ren.get,AY.ren,AV.ren,AV.ren.renL,AO.get,BH,Cn,Jf,AO.reach,AV.sites,AV.sites.sitesL,AO.osites,e]) (by simp[ET,Fh,CG,Ren.get,Jf,Cr,CB]) (by rfl) (by simp only[HO,Ren.get,AY.ren,AV.ren,AV.ren.renL,and_self,and_true,true_and,if_true,reduceIte];rfl) ?_;refine' LV e p u
      all_goals try exact BL
      all_goals first|exact h|skip
     |some z =>
      rw[hr]at ih r;have h:(Cm L mk (m+1) fr).findSome? G=some z:=by rw[←T,r];rfl
      rw[h,La];rw[La,pv]at ih;rw[DC]at ih y;unfold vv at ih ⊢;refine' dz e p t u N;repeat' first|(refine' BJ;(first|refine AF R ?_)<;>refine' dz e p t u N)|refine' BI|done
      all_goals try exact BL
      refine QR cH cH ih y (by simp[Handed,Ren.get,AY.ren,AV.ren,AV.ren.renL,AO.get,BH,Cn,Jf,AO.reach,AV.sites,AV.sites.sitesL,AO.osites,e]) (by simp[ET,Fh,CG,Ren.get,Jf,Cr,CB]) (by rfl) (by simp only[HO,Ren.get,AY.ren,AV.ren,AV.ren.renL,and_self,and_true,true_and,if_true,reduceIte];rfl) ?_;refine' LV e p u
      all_goals try exact BL
      all_goals first|rfl|skip
   ·have t:¬(j:Int)<(L:Int):=by omega
    have X:j=L:=by omega
    subst X;have h:(Cm j mk (m+1) fr).findSome? G=none:=by rw[←T,nY];rfl
    rw[h,Lb];unfold vv;refine' LV e p t
    all_goals try exact BL
    all_goals first|rfl|skip
end
section
def decR(o:Option (List F)):D:=match o with
 |some r=>.tup [.list false (us r),.bool true]
 |none=>.tup [.list true [],.bool false]
theorem X6(v:List F):decR (some v)=.tup [.list false (us v),.bool true]:=rfl
theorem X7:decR none=.tup [.list true [],.bool false]:=rfl
theorem XB:BA E0.P DT=true:=by kernel_rfl
theorem Nh{β:Type}{f:Nat->Option β}{e:Nat}{r:β}(h:∀i,i<e->f i=none)(j:f e=some r):∀N,e<N->(cp N).findSome? f=some r
 |0,hN=>by omega
 |N+1,hN=>by
  rw[List.range_succ,ox]
  by_cases h2:e<N
  ·rw[Nh h j N h2];rfl
  ·have:e=N:=by omega
   subst this
   have hn:(cp e).findSome? f=none:=by
    rw[et];exact fun i hi=>h i (by simpa using hi)
   rw[hn];simp[j]
noncomputable def l_(L P:Nat)(w:List F)(mk:List Nat)(e:Nat):Option (List F):=(Cm L mk e 0).findSome? (hit L P w mk)
theorem vc{L P:Nat}{w r:List F}{mk:List Nat}{e:Nat}(h:∀i,i<e->l_ L P w mk i=none)(j:l_ L P w mk e=some r)(hb:2*e+mk.length<=P):Rr L P w mk=some r:=by
 unfold Rr;rw[if_pos (by omega)];exact Nh h j _ (by omega)
theorem q9{L P:Nat}{w:List F}{mk:List Nat}{e:Nat}(h:∀i,i<e->l_ L P w mk i=none)(hb:¬2*e+mk.length<=P):Rr L P w mk=none:=by
 unfold Rr;split
 ·rw[et];intro i hi;simp at hi;exact h i (by omega)
 ·rfl
theorem sH{L P:Nat}{w:List F}{mk:List Nat}(n2:Bool)(n:L<=15)(h:1<=L)(m:1<=P)(e:P<=15)(j:w.length=L)(hm:gt L mk) :
  YOk (hit L P w mk) (fun l=>YM L mk 0 l/\2*l.length+mk.length<=P) DT [.d (.ptr [.list n2 (Ad (ni mk))]),.d (.ptr [.int .i64 L,.int .i64 P]),.d (.ptr [.list false (us (Mu L P w))]),.d (.ptr [.list false (us w)]),.ptr 900004 0 0,.ptr 901004 0 0] :=
 ⟨XB,rfl,fun V os h1 h2=>by simp[AV.nrm,AV.nrm.nrmL,h1,h2],rfl,⟨rfl,rfl,rfl,rfl,rfl,rfl,trivial⟩,fun nl l b o fnd i _ =>
  ZW L P nl n2 false b fnd o w mk l n h m e j (Yq hm i.1) (by have:=i.2;simp;omega) rfl⟩
attribute [local irreducible] IntKind.wrap Ah f0 and or
theorem QH(L P:Nat)(n1 n2:Bool)(w:List F)(mk:List Nat)(u:L<=15)(t:1<=L)(A:1<=P)(p:P<=15)(B:w.length=L)(hm:gt L mk)(N:mk.length<=100)(z:n1=false) :
  BU E0 HR [Ze L P,.list n1 (us w),.list n2 (Ad (ni mk))] (decR (Rr L P w mk)):=by
 subst z;have c1:=TC L P false w u t A p B;have J:=sH (P:=P) n2 u t A p B hm;refine AL LC AR (by simp) fun M=>?_
 rw[AN];unfold Gs;rw[DC]at c1 ⊢;refine' Fp;repeat' first|(refine' BJ;(first|refine AF c1 ?_)<;>refine' Fp)|refine' BI|done
 all_goals try exact BL
 refine AZ (α:=Nat×Bool×(List F)×Bool) (fun x=>[(9,.d (.int .i64 (x.1:Int)))]) (fun x=>[(6,.cells [.d (.list x.2.1 (us x.2.2.1))]),(7,.cells [.d (.bool x.2.2.2)])]) (fun x=>x.1<=100/\((x.2.2.2=false/\x.2.1=true/\x.2.2.1=[]/\∀i,i<x.1->l_ L P w mk i=none)\/(x.2.2.2=true/\x.2.1=false/\Rr L P w mk=some x.2.2.1))) (fun x=>(if x.2.2.2 then 0 else 101-x.1)) (0,true,[],false) ?hI1 ?step1
 case' step1=>(rintro⟨e,b,o,fnd⟩ G;try dsimp only at G)
 case' hI1=>try dsimp only
 ·exact⟨by omega,.inl ⟨rfl,rfl,rfl,fun i hi=>absurd hi (by omega)⟩⟩
 ·obtain⟨h1,h2⟩:=G;have h:IntKind.i64.wrap (2*(e:Int))=2*(e:Int):=Am _ (by omega);have m:IntKind.i64.wrap (2*(e:Int)+(mk.length:Int))=2*(e:Int)+(mk.length:Int):=Am _ (by omega);have j:=HE (i:=e) (by omega);rcases h2 with⟨rfl,rfl,rfl,h3⟩|⟨rfl,rfl,h3⟩
  ·by_cases hb:2*e+mk.length<=P
   ·have n:2*(e:Int)+(mk.length:Int)<=(P:Int):=by omega
    have c2:=Tm L P n2 mk u e 0 J (fun l hl=>⟨(KV L mk e 0 l hl).2,by rw[(KV L mk e 0 l hl).1];exact hb⟩) (by omega) (by omega) true [] false;rw[show(((0:Nat):Int))=0 from rfl]at c2;rw[DC]at c2;obtain⟨R,y⟩:∃R,l_ L P w mk e=R:=⟨_,rfl⟩
    rw[show(Cm L mk e 0).findSome? (hit L P w mk)=R from y]at c2
    cases R with
    |none =>
     rw[Lb,oy]at c2;unfold vv at c2
     have hn:∀i,i<e+1->l_ L P w mk i=none:=fun i hi=>by
      rcases Nat.lt_succ_iff_lt_or_eq.1 hi with hi|rfl
      ·exact h3 i hi
      ·exact y
     refine' Gj h m n j;repeat' first|(refine' BJ;(first|refine B_ ([((900004,0),(6,0)),((901004,0),(7,0))]) ([((900004,0),(6,0)),((901004,0),(7,0))]) (c2) ?_)<;>refine' Gj h m n j)|refine' BI|done
     all_goals try exact BL
     all_goals first|exact .inl ⟨trivial,trivial,trivial,hn⟩|skip
    |some r =>
     have q:=vc h3 y hb;rw[La,pv]at c2;unfold vv at c2;refine' Gj h m n j;repeat' first|(refine' BJ;(first|refine B_ ([((900004,0),(6,0)),((901004,0),(7,0))]) ([((900004,0),(6,0)),((901004,0),(7,0))]) (c2) ?_)<;>refine' Gj h m n j)|refine' BI|done
     all_goals try exact BL
     all_goals first|exact .inr ⟨trivial,trivial,q⟩|skip
   ·have n:¬2*(e:Int)+(mk.length:Int)<=(P:Int):=by omega
    rw[q9 h3 hb,X7];refine' Ta h m n j
    all_goals try exact BL
    all_goals first|rfl|skip
  ·rw[h3,X6];refine' LV h m j
   all_goals try exact BL
   all_goals first|rfl|skip
end
theorem rG(n i:Nat):X_ (n+1) i=gp (i*n)::X_ n i:=by
 unfold X_;rw[List.range_succ_eq_map,List.map_cons,List.map_map];congr 1;apply lb;intro j e;show gC (n+1) i (j+1)=gC n i j;unfold gC;rw[show n+1-1-(j+1)=n-1-j by omega]
def RK(i:Nat)(w:List F):F:=Gi w (X_ w.length i)
theorem qg(i:Nat):RK i []=0:=rfl
theorem Uh(i:Nat)(y:F)(ys:List F):RK i (y::ys)=fa (fm y (gp (i*ys.length))) (RK i ys):=by
 show Gi (y::ys) (X_ (ys.length+1) i)=_;rw[rG];rfl
theorem zV(i:Nat)(l:List F)(o:Nat)(y:F)(h:o<l.length):RK i (l.set o y)=fa (RK i l) (fm (fa (l[o]?.getD 0) y) (gp (i*(l.length-1-o)))):=by
 unfold RK;rw[j4,ZT y l _ o h (by rw[Um];omega),Zd _ _ _ h];rfl
def DY:List F->Nat->F->List F->List F
 |l,o,b,[]=>l
 |l,o,b,y::ys=>DY (l.set o (fa (l[o]?.getD 0) (fm b y))) (o+1) b ys
theorem LK:∀(g l:List F) (o:Nat) (b:F),(DY l o b g).length=l.length
 |[],l,o,b=>rfl
 |y::ys,l,o,b=>by show(DY _ (o+1) b ys).length=_;rw[LK ys];simp
theorem WU(y:F):∀(g l:List F) (o:Nat) (b:F),DY l o b (g++[y])=(DY l o b g).set (o+g.length) (fa ((DY l o b g)[o+g.length]?.getD 0) (fm b y))
 |[],l,o,b=>rfl
 |z::zs,l,o,b=>by
  show DY _ (o+1) b (zs++[y])=_;rw[WU y zs];show _=(DY (l.set o (fa (l[o]?.getD 0) (fm b z))) (o+1) b zs).set (o+(zs.length+1)) (fa ((DY (l.set o (fa (l[o]?.getD 0) (fm b z))) (o+1) b zs)[o+(zs.length+1)]?.getD 0) (fm b y));rw[show o+1+zs.length=o+(zs.length+1) by omega]
theorem WV(j:Nat):∀(g l:List F) (o:Nat) (b:F),j<o->(DY l o b g)[j]?.getD 0=l[j]?.getD 0
 |[],l,o,b,_=>rfl
 |y::ys,l,o,b,h=>by
  show(DY _ (o+1) b ys)[j]?.getD 0=_;rw[WV j ys _ (o+1) b (by omega),c8 (by omega)]
theorem Vm(i:Nat):∀(g l:List F) (o:Nat) (b:F),o+g.length<=l.length->RK i (DY l o b g)=fa (RK i l) (fm (fm b (RK i g)) (gp (i*(l.length-o-g.length))))
 |[],l,o,b,h=>by show RK i l=_;rw[qg,Eu,DM,Dc]
 |y::ys,l,o,b,h=>by
  simp only[eb]at h;show RK i (DY _ (o+1) b ys)=_;rw[Vm i ys _ (o+1) b (by rw[j4];omega),zV i l o _ (by omega),Uh,j4,eb];rw[←E4 (l[o]?.getD 0),Gx,LX,PM,E4];congr 1;have e1:l.length-1-o=ys.length+(l.length-o-(ys.length+1)):=by omega
  have e2:l.length-(o+1)-ys.length=l.length-o-(ys.length+1):=by omega
  rw[e1,e2,q7,fk,EU (fa _ _),PM,EU (gp (i*(l.length-o-(ys.length+1)))),EU (gp (i*(l.length-o-(ys.length+1))))];simp only[Gw]
theorem ct(i:Nat):∀a:List F,RK i (a++[0])=fm (RK i a) (gp i)
 |[]=>by
  show RK i [0]=_;rw[Uh,DM,qg,DM,Dc]
 |y::ys=>by
  show RK i (y::(ys++[0]))=_;rw[Uh,Uh,ct i ys,cw,ra,q7,Nat.mul_one,fk,EU (fa _ _),PM,EU (gp i) (RK i ys),EU (gp i) (fm y _),Gw]
def K7:Nat->List F
 |0=>[1]
 |i+1=>DY (K7 i++[0]) 1 (gp i) (K7 i)
theorem Nn:∀i,(K7 i).length=i+1
 |0=>rfl
 |i+1=>by show(DY (K7 i++[0]) 1 (gp i) (K7 i)).length=_;rw[LK];simp[Nn i]
theorem qy:∀i,(K7 i)[0]?.getD 0=1
 |0=>rfl
 |i+1=>by
  show(DY (K7 i++[0]) 1 (gp i) (K7 i))[0]?.getD 0=1;rw[WV 0 _ _ 1 _ (by omega),kk (by rw[Nn];omega),qy i]
theorem qo(r:Nat):∀i,r<i->RK r (K7 i)=0
 |0,h=>by omega
 |i+1,h=>by
  show RK r (DY (K7 i++[0]) 1 (gp i) (K7 i))=0;rw[Vm r _ _ _ _ (by simp;omega),ct,cw,Nn];rw[show i+1+([(0:F)]).length-1-(i+1)=0 by simp,Nat.mul_zero,iq,Lq,EU (gp i)]
  by_cases hr:r<i
  ·rw[qo r i hr,DM,DM,Dc]
  ·have:r=i:=by omega
   subst this;rw[Gx]
def Hp(g d:List F)(P:Nat):Nat->List F
 |0=>d++aa P 0
 |i+1=>DY (Hp g d P i) i ((Hp g d P i)[i]?.getD 0) g
theorem Io(g d:List F)(P:Nat):∀i,(Hp g d P i).length=d.length+P
 |0=>by simp[Hp]
 |i+1=>by show(DY _ _ _ _).length=_;rw[LK,Io g d P i]
theorem iP(g d:List F)(P:Nat)(hg:g[0]?.getD 0=1):∀i,i<=d.length->∀j,j<i->(Hp g d P i)[j]?.getD 0=0
 |0,_,j,hj=>by omega
 |i+1,hi,j,hj=>by
  show(DY (Hp g d P i) i ((Hp g d P i)[i]?.getD 0) g)[j]?.getD 0=0
  cases g with
  |nil=>exact absurd hg (by decide)
  |cons y ys =>
   have l:y=1:=by simpa using hg
   subst l;show(DY ((Hp (1::ys) d P i).set i _) (i+1) _ ys)[j]?.getD 0=0;rw[WV j _ _ _ _ (by omega)]
   by_cases h:j=i
   ·subst h;rw[Lq,Gx,na (by rw[Io];omega)];rfl
   ·rw[c8 (fun e=>h e.symm)];exact iP (1::ys) d P rfl i (by omega) j (by omega)
theorem i0(r:Nat)(g d:List F)(P:Nat)(hg:RK r g=0)(hl:g.length=P+1):∀i,i<=d.length->RK r (Hp g d P i)=RK r (d++aa P 0)
 |0,_=>rfl
 |i+1,hi=>by
  show RK r (DY _ _ _ _)=_;rw[Vm r _ _ _ _ (by rw[Io];omega),hg,Eu,DM,Dc];exact i0 r g d P hg hl i (by omega)
def H9(P:Nat)(d:List F):List F:=d++(Hp (K7 P) d P d.length).drop d.length
theorem JC(P:Nat)(d:List F):(H9 P d).length=d.length+P:=by
 unfold H9;rw[cw,List.length_drop,Io];omega
theorem zf(L P:Nat)(w:List F)(e:w.length=L):sE L P w↔∀i,i<P->RK i w=0:=by
 subst e;constructor
 ·intro h i hi;have:=h i hi;rwa [show FX (Mu w.length P w) i=Gi w (X_ w.length i) from M6 _ _ _ _ hi]at this
 ·intro h i hi;rw[show FX (Mu w.length P w) i=Gi w (X_ w.length i) from M6 _ _ _ _ hi];exact h i hi
theorem dC(P:Nat)(d:List F):sE (d.length+P) P (H9 P d):=by
 rw[zf _ _ _ (JC P d)];intro i hi;obtain⟨R,l⟩:∃R,Hp (K7 P) d P d.length=R:=⟨_,rfl⟩
 have hl:R.length=d.length+P:=by rw[←l];exact Io _ _ _ _
 have h0:∀j,j<d.length->R[j]?.getD 0=0:=by rw[←l];exact iP _ _ _ (qy P) _ (rb _)
 have n:RK i R=RK i (d++aa P 0):=by rw[←l];exact i0 i _ _ _ (qo i P hi) (Nn P) _ (rb _)
 have e:(d++aa P (0:F)).length=R.length:=by simp[hl]
 have o:H9 P d=H2 (d++aa P 0) R 1:=by
  apply qd
  ·rw[JC,SA _ _ _ e];simp
  ·intro j q;rw[JC]at q;show(H9 P d)[j]?.getD 0=(H2 (d++aa P 0) R 1)[j]?.getD 0;rw[show(H2 (d++aa P 0) R 1)[j]?.getD 0=fa ((d++aa P (0:F))[j]?.getD 0) (fm (R[j]?.getD 0) 1) from R8 _ _ _ _ e];unfold H9;rw[l,Lq]
   by_cases h:j<d.length
   ·rw[kk h,kk h,h0 j h,Dc]
   ·rw[ro (by omega),ro (by omega),List.getElem?_drop,List.getElem?_replicate,if_pos (by omega),show d.length+(j-d.length)=j by omega];exact(LX _).symm
 rw[o];unfold RK;have h2:(H2 (d++aa P 0) R 1).length=(d++aa P (0:F)).length:=by rw[SA _ _ _ e]
 rw[h2,RN _ _ _ _ e];have p:RK i (d++aa P (0:F))=Gi (d++aa P (0:F)) (X_ (d++aa P (0:F)).length i):=rfl;have m:RK i R=Gi R (X_ (d++aa P (0:F)).length i):=by unfold RK;rw[e]
 rw[←p,←m,n,Y3,Gx]
section
theorem WT(l g:List F)(o k:Nat)(b:F)(h:k<g.length):(DY l o b (g.take k)).set (o+k) (fa ((DY l o b (g.take k))[o+k]?.getD 0) (fm b (g[k]?.getD 0)))=DY l o b (g.take (k+1)):=by
 rw[←Bu g 0 k h,WU];rw[show(g.take k).length=k by simp;omega]
theorem dp(l g:List F)(k:Nat)(b:F)(h:k<g.length):(DY l 1 b (g.take k)).set (k+1) (fa ((DY l 1 b (g.take k))[k+1]?.getD 0) (fm (g[k]?.getD 0) b))=DY l 1 b (g.take (k+1)):=by
 rw[←WT l g 1 k b h,EU b,Nat.add_comm 1 k]
attribute [local irreducible] IntKind.wrap Ah f0 and or
theorem QG(L P:Nat)(n1:Bool)(d:List F)(hL:L<=15)(hP:1<=P)(hd:d.length+P=L)(γ:1<=d.length)(Y:n1=false) :
  BU E0 HQ [Ze L P,.list n1 (us d)] (.list false (us (H9 P d))):=by
 subst Y;have c0:=KT false d (by omega) (by omega) rfl;refine AL LB AR (by simp) fun β=>?_
 rw[AN];unfold Gr;rw[DC];refine' FP
 all_goals try exact BL
 rw[show([D.int .u8 1]:List D)=us (K7 0) from rfl];refine AZ (α:=Nat) (fun x=>[(19,.d (.int .i64 (x:Int))),(5,.d (.list false (us (K7 x))))]) (fun x=>[]) (fun x=>x<=P) (fun x=>P-x) 0 ?hI1 ?step1
 case' step1=>(rintro i hI;try dsimp only at hI)
 case' hI1=>try dsimp only
 ·exact az _
 ·have J:=Nn i
  by_cases h:i<P
  ·have h':(i:Int)<(P:Int):=by omega
   have S:=HE (i:=i) (by omega);have hG:K7 (i+1)=DY (K7 i++[0]) 1 (gp i) (K7 i):=rfl;obtain⟨G,n⟩:∃G,K7 i=G:=⟨_,rfl⟩
   rw[n]at J hG ⊢;have c1:=KT false G (by omega) (by omega) rfl;have c2:=FR i (by omega);refine' FS h' @U1;repeat' first|(refine' BJ;(first|refine B_ ([]) ([((7,1),(23,1))]) (c1) ?_)<;>refine' FS h' @U1)|refine' BI|done
   all_goals try exact BL
   refine AZ (α:=Nat) (fun x=>[(28,.d (.int .i64 (x:Int)))]) (fun x=>[(23,.row 180 1 false (us (DY (G++[0]) 1 (gp i) (G.take x))))]) (fun x=>x<=G.length) (fun x=>G.length-x) 0 ?hI2 ?step2
   case' step2=>(rintro k hI2;try dsimp only at hI2)
   case' hI2=>try dsimp only
   ·exact az _
   ·have u:=LK (G.take k) (G++[0]) 1 (gp i);rw[cw,ra]at u
    by_cases hk:k<G.length
    ·have e:(k:Int)<(G.length:Int):=by omega
     have l:=HE (i:=k) (by omega);have T:=ED (G[k]?.getD 0) (gp i);have j:=dp (G++[0]) G k (gp i) hk;refine' Gj e l u j;repeat' first|(refine' BJ;(first|refine AF c2 ?_|refine AF T ?_)<;>refine' Gj e l u j)|refine' BI|done
     all_goals try exact BL
     all_goals first|rfl|(simp at *;done)|(simp at *;omega)|skip
    ·have e:¬(k:Int)<(G.length:Int):=by omega
     have q:G.take k=G:=la (by omega);rw[q,←hG];refine' MX e S
     all_goals try exact BL
     all_goals first|rfl|omega|skip
  ·have h':¬(i:Int)<(P:Int):=by omega
   have O:i=P:=by omega
   subst O;obtain⟨G,n⟩:∃G,K7 i=G:=⟨_,rfl⟩
   rw[n]at J ⊢;refine' FA h' @YT @d_;repeat' first|(refine' BJ;(first|refine B_ ([]) ([((7,1),(48,1))]) (c0) ?_)<;>refine' FA h' @YT @d_)|refine' BI|done
   all_goals try exact BL
   rw[show us (d++aa i 0)=us (Hp G d i 0) from rfl];refine AZ (α:=Nat) (fun x=>[(55,.d (.int .i64 (x:Int)))]) (fun x=>[(48,.row 180 1 false (us (Hp G d i x)))]) (fun x=>x<=d.length) (fun x=>d.length-x) 0 ?hI3 ?step3
   case' step3=>(rintro m hI3;try dsimp only at hI3)
   case' hI3=>try dsimp only
   ·exact az _
   ·have t:=Io G d i m;have r:Hp G d i (m+1)=DY (Hp G d i m) m ((Hp G d i m)[m]?.getD 0) G:=rfl;obtain⟨R,hR⟩:∃R,Hp G d i m=R:=⟨_,rfl⟩
    rw[hR]at t r ⊢
    by_cases hm:m<d.length
    ·have o:(m:Int)<(d.length:Int):=by omega
     have X:=HE (i:=m) (by omega);have N:m<R.length:=by omega
     obtain⟨B,hB⟩:∃B,R[m]?.getD 0=B:=⟨_,rfl⟩
     rw[hB]at r;refine' LV o N hB
     all_goals try exact BL
     rw[show us R=us (DY R m B (G.take 0)) from rfl];refine AZ (α:=Nat) (fun x=>[(64,.d (.int .i64 (x:Int)))]) (fun x=>[(48,.row 180 1 false (us (DY R m B (G.take x))))]) (fun x=>x<=G.length) (fun x=>G.length-x) 0 ?hI4 ?step4
     case' step4=>(rintro k hI4;try dsimp only at hI4)
     case' hI4=>try dsimp only
     ·exact az _
     ·have u:=LK (G.take k) R m B
      by_cases hk:k<G.length
      ·have e:(k:Int)<(G.length:Int):=by omega
       have l:=HE (i:=k) (by omega);have p:IntKind.i64.wrap ((m:Int)+(k:Int))=((m+k:Nat):Int):=by rw[Am _ (by omega)];omega
       have y:m+k<R.length:=by omega
       have T:=ED B (G[k]?.getD 0);have j:=WT R G m k B hk;refine' QX e l p u y j;repeat' first|(refine' BJ;(first|refine AF T ?_)<;>refine' QX e l p u y j)|refine' BI|done
       all_goals try exact BL
       all_goals first|rfl|(simp at *;done)|(simp at *;omega)|skip
      ·have e:¬(k:Int)<(G.length:Int):=by omega
       have q:G.take k=G:=la (by omega);rw[q,←r];refine' MX e X
       all_goals try exact BL
       all_goals first|rfl|omega|skip
    ·have o:¬(m:Int)<(d.length:Int):=by omega
     have U:m=d.length:=by omega
     have Z:=Wa false false d (R.drop d.length) (by omega) (by simp;omega);have A:d++R.drop d.length=H9 i d:=by rw[←hR,U,←n];rfl
     have z:(H9 i d).isEmpty=false:=by
      have h5:=JC i d
      cases hE:H9 i d with
      |nil=>rw[hE]at h5;simp at h5;omega
      |cons=>rfl
     have M:List.take (d.length+i-d.length) (R.drop d.length)=R.drop d.length:=la (by simp;omega);rw[A,z]at Z;refine' FA o t M;repeat' first|(refine' BJ;(first|refine AF Z ?_)<;>refine' FA o t M)|refine' BI|done
     all_goals try exact BL
     all_goals first|rfl|(simp at *;done)|(simp at *;omega)|skip
end
section
theorem Ny{L P:Int}(h:JN L P=true):2<=L/\L<=15/\1<=P/\P<=8/\P<L:=by simpa[JN]using h
theorem mG{L P:Int}(h:JN L P=true):∃l p:Nat,L=(l:Int)/\P=(p:Int)/\2<=l/\l<=15/\1<=p/\p<=8/\p<l:=by
 have:=Ny h;exact⟨L.toNat,P.toNat,by omega,by omega,by omega,by omega,by omega,by omega,by omega⟩
theorem nL(a b:Nat):Int.tdiv (a:Int) (b:Int)=((a/b:Nat):Int):=by
 rw[Int.tdiv_eq_ediv_of_nonneg (by omega)];rfl
theorem nJ(a b:Nat):Int.tmod (a:Int) (b:Int)=((a%b:Nat):Int):=by
 rw[Int.tmod_eq_emod_of_nonneg (by omega)];rfl
attribute [local irreducible] IntKind.wrap Ah f0 and or
end
end Go.Pw
