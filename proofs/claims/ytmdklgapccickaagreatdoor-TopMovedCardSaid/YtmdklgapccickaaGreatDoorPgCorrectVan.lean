/- Part. -/
import Derived.Test.YtmdklgapccickaaGreatDoorPgMvChrA
set_option linter.all false
open List renaming getElem?_eq_getElem->aa,range->ax,length_set->ay,getElem?_set_ne->az,zipWith->ck,getElem?_eq_none->cp,map_cons->cw,getElem?_drop->c8,getElem?_map->ea,getElem?_set_self->et,ext_getElem->f0,nodup_cons->hU,getElem_mem->hX,getElem?_append_right->hY,length_take->i5,drop_eq_getElem_cons->i7,append_assoc->j0,take_length->j4,take_add_one->lb,getElem?_take_of_lt->na,take_of_length_le->ne,getElem?_zipWith->no,zipWith_cons_cons->ox,map_nil->oy,take_succ->pv,set_append_right->q7,set_cons_zero->rb,drop_eq_nil_of_le->ro,append_nil->rz,getElem_of_mem->r3,range_succ->r4
open Option renaming getD_some->eb,getD->kk,map_some->r5
open Nat renaming lt_succ_iff_lt_or_eq->la,sub_self->ra
section
namespace Go.Pw
def WS(v w:List F):List F:=ck fa v w
theorem r9(v w:List F)(h:v.length=w.length):(WS v w).length=v.length:=by simp[WS,h]
theorem rh(v w:List F)(j:Nat)(h:v.length=w.length):FX (WS v w) j=fa (FX v j) (FX w j):=by
 unfold FX WS;rw[no]
 by_cases e:j<v.length
 ·rw[aa e,aa (by omega)];rfl
 ·rw[cp (by omega),cp (l:=w) (by omega)];rfl
theorem dH:∀(r v w:List F),v.length=w.length->Gi r (WS v w)=fa (Gi r v) (Gi r w)
 |[],v,w,_=>by simp[Om,Dc]
 |x::r,[],[],_=>by simp[WS,Vp,Dc]
 |x::r,a::v,b::w,h=>by
  have ih:=dH r v w (by simpa using h);simp only[WS,ox,Ec]at ih ⊢;rw[ih,PM,fa4]
theorem qd{v w:List F}(hl:v.length=w.length)(h:∀j,j<v.length->FX v j=FX w j):v=w:=by
 apply f0 hl;intro j h1 h2;have:=h j h1;unfold FX at this;rwa [aa h1,aa h2]at this
def ZF(x:F):Nat->F
 |0=>1
 |n+1=>fm x (ZF x n)
theorem zF(t i:Nat):gp (i*t)=ZF (gp t) i:=by
 induction i with
 |zero=>rw[Nat.zero_mul];exact iq
 |succ i ih=>rw[Nat.add_mul,Nat.one_mul,Nat.add_comm,fk,ih];rfl
theorem AAE:∀(xs vs:List F),vs.length=xs.length->xs.Nodup->(∀i,i<xs.length->Gi (xs.map fun x=>ZF x i) vs=0)->∀j,FX vs j=0
 |[],[],_,_,_=>fun j=>rfl
 |x::xs,v::vs,hl,hn,h=>by
  have p:vs.length=xs.length:=by simpa using hl
  rw[hU]at hn
  have key:∀(i:Nat) (ys m:List F),m.length=ys.length->Gi (ys.map fun y=>ZF y i) (ck (fun y w=>fm w (fa y x)) ys m)=fa (Gi (ys.map fun y=>ZF y (i+1)) m) (fm x (Gi (ys.map fun y=>ZF y i) m)):=by
   intro i ys
   induction ys with
   |nil=>intro m _;rw[oy,Om,oy,Om,Eu];rfl
   |cons y ys ih =>
    intro m u
    cases m with
    |nil=>simp at u
    |cons w m =>
     have:=ih m (by simpa using u);simp only[cw,ox,Ec];rw[this,PM w,PM (ZF y i),PM x,fa4];congr 1
     ·congr 1;show fm (ZF y i) (fm w y)=fm (fm y (ZF y i)) w;rw[EU w y,←Gw,EU (ZF y i) y]
     ·congr 1;rw[RH,EU,Gw];rw[RH]
  have A:∀i,i<xs.length->Gi (xs.map fun y=>ZF y i) (ck (fun y w=>fm w (fa y x)) xs vs)=0:=fun i hi=>by
   rw[key i xs vs p];have h1:=h i (by simp;omega);have h2:=h (i+1) (by simpa using hi);simp only[cw,Ec]at h1 h2;have e1:Gi (xs.map fun y=>ZF y i) vs=fm (ZF x i) v:=(JA _ _ h1).symm;have e2:Gi (xs.map fun y=>ZF y (i+1)) vs=fm (ZF x (i+1)) v:=(JA _ _ h2).symm;rw[e1,e2,←Gw];exact Gx _
  have ih:=AAE xs (ck (fun y w=>fm w (fa y x)) xs vs) (by simp[p]) hn.2 A
  have l:∀j,FX vs j=0:=fun j=>by
   by_cases q:j<xs.length
   ·have:=ih j;unfold FX at this ⊢;rw[no,aa q,aa (by omega)]at this;rw[aa (by omega)];have hne:fa xs[j] x≠0:=fun e=>hn.1 (by rw[←JA _ _ e];exact hX q)
    exact(Vj _ _ this).resolve_right hne
   ·exact Zk _ _ (by omega)
  have o:v=0:=by
   have h0:=h 0 (by simp);simp only[cw,Ec]at h0
   have:Gi (xs.map fun y=>ZF y 0) vs=0:=by
    have r:vs=List.replicate vs.length 0:=by
     apply qd (by simp);intro j q;rw[l j];simp[FX,q]
    rw[r];generalize xs.map (fun y=>ZF y 0)=zs;generalize vs.length=n
    induction zs generalizing n with
    |nil=>rfl
    |cons z zs t =>
     cases n with
     |zero=>rfl
     |succ n=>rw[List.replicate_succ,Ec,Eu,t];rfl
   rw[this,Dc]at h0;rw[show ZF x 0=1 from rfl,Y3]at h0;exact h0
  intro j
  cases j with
  |zero=>exact o
  |succ j=>exact l j
def gC(L i j:Nat):F:=gp (i*(L-1-j))
def Ti(L P:Nat)(at_:List Nat)(s:List F):List (List F):=(ax P).map fun i=>(at_.map fun j=>gC L i j)++[FX s i]
theorem RM(L P:Nat)(at_:List Nat)(s:List F):WX (Ti L P at_ s) P (at_.length+1):=by
 refine⟨by simp[Ti],fun i hi=>?_⟩;unfold Ti;rw[Ps (α:=F) _ _ _ hi];simp
theorem bO(L P:Nat)(at_:List Nat)(s:List F)(i:Nat)(h:i<P):Bb (Ti L P at_ s) i=(at_.map fun j=>gC L i j)++[FX s i]:=Ps (α:=F) _ _ _ h
structure mu (L:Nat) (at_:List Nat):Prop where
 nd:at_.Nodup
 lt:∀j,j∈at_->j<L
theorem ZU(L P:Nat)(at_:List Nat)(s v:List F)(c:F)(hv:v.length=at_.length)(i:Nat)(h:i<P):Gi (Bb (Ti L P at_ s) i) (v++[c])=fa (Gi (at_.map fun j=>gC L i j) v) (fm (FX s i) c):=by
 rw[bO _ _ _ _ _ h,Vn _ _ _ _ (by simp[hv])]
theorem b8{L P:Nat}(r:L<=15){at_:List Nat}(hp:mu L at_)(hm:at_.length<=P){s v:List F}(hv:v.length=at_.length)(h:Wg 0 (Ti L P at_ s) v):∀j,FX v j=0:=by
 have hx:(at_.map fun j=>gp (L-1-j)).Nodup:=by
  have h1:=hp.nd;have h2:=hp.lt;clear h hv hm
  induction at_ with
  |nil=>simp
  |cons a l ih =>
   rw[hU]at h1;rw[cw,hU];refine⟨fun m=>?_,ih ⟨h1.2,fun j o=>h2 j (by simp[o])⟩ h1.2 fun j o=>h2 j (by simp[o])⟩;obtain⟨b,hb,q⟩:=List.mem_map.1 m;have t:=h2 a (by simp);have p:=h2 b (by simp[hb]);have:=zG (by omega) (by omega) q;have:a=b:=by omega
   subst this;exact h1.1 hb
 refine AAE _ v (by simp[hv]) hx fun i hi=>?_
 have n:i<P:=by simp at hi;omega
 have:=h i (by rw[(RM L P at_ s).len];exact n);rw[ZU _ _ _ _ _ _ hv i n,Eu,Dc]at this;rw[List.map_map];have e:(at_.map ((fun x=>ZF x i) ∘ fun j=>gp (L-1-j)))=at_.map fun j=>gC L i j:=List.map_congr_left fun j _=>(zF _ _).symm
 rw[e];exact this
theorem tJ{c d:F}{M:List (List F)}{v w:List F}(hl:v.length=w.length)(h1:Wg c M v)(h2:Wg d M w):Wg (fa c d) M (WS v w):=by
 intro i hi
 have:WS v w++[fa c d]=WS (v++[c]) (w++[d]):=by
  unfold WS;rw[List.zipWith_append hl];rfl
 rw[this,dH _ _ _ (by simp[hl]),h1 i hi,h2 i hi,Dc]
theorem oC{L P:Nat}(i:L<=15){at_:List Nat}(hp:mu L at_)(hm:at_.length<=P){s v w:List F}(hv:v.length=at_.length)(l:w.length=at_.length)(h1:Wg 1 (Ti L P at_ s) v)(h2:Wg 1 (Ti L P at_ s) w):v=w:=by
 have h:=tJ (by omega) h1 h2;rw[Gx]at h;have:=b8 i hp hm (by rw[r9 _ _ (by omega)];exact hv) h;refine qd (by omega) fun j _=>?_
 have e:=this j;rw[rh _ _ _ (by omega)]at e;exact JA _ _ e
open Classical in
noncomputable def Ou(L P:Nat)(at_:List Nat)(s:List F):Option (List F) :=
 if h:∃v:List F,v.length=at_.length/\Wg 1 (Ti L P at_ s) v then some h.choose else none
theorem XY{L P:Nat}(i:L<=15){at_:List Nat}(hp:mu L at_)(hm:at_.length<=P){s v:List F}(hv:v.length=at_.length)(h:Wg 1 (Ti L P at_ s) v):Ou L P at_ s=some v:=by
 have e:∃v:List F,v.length=at_.length/\Wg 1 (Ti L P at_ s) v:=⟨v,hv,h⟩
 unfold Ou;rw[dif_pos e];congr 1;exact oC i hp hm e.choose_spec.1 hv e.choose_spec.2 h
theorem jr{L P:Nat}{at_:List Nat}{s:List F}(h:∀v:List F,v.length=at_.length->¬Wg 1 (Ti L P at_ s) v):Ou L P at_ s=none:=by
 unfold Ou;rw[dif_neg fun⟨v,h1,h2⟩=>h v h1 h2]
theorem XX{L P:Nat}{at_:List Nat}{s v:List F}(h:Ou L P at_ s=some v):v.length=at_.length/\Wg 1 (Ti L P at_ s) v:=by
 unfold Ou at h;split at h
 ·rename_i e;simp only[Option.some.injEq]at h;rw[←h];exact e.choose_spec
 ·cases h
end Go.Pw
end
section
open Go Go.Pw Go.Proofs
namespace Go.Pw
set_option maxRecDepth 100000
set_option maxHeartbeats 3200000
theorem aO{A B:List F}(hl:A.length=B.length)(i:Nat)(h:i<A.length):(A.take i++B.drop i)[i]?.getD 0=B[i]?.getD 0:=by
 rw[hY (by simp;omega)];simp only[i5,c8];congr 2;omega
theorem aM{A B:List F}(hl:A.length=B.length)(i:Nat)(h:i<A.length):(A.take i++B.drop i).set i (A[i]?.getD 0)=A.take (i+1)++B.drop (i+1):=by
 have h1:(A.take i).length=i:=by simp;omega
 have h2:A.take (i+1)=A.take i++[A[i]]:=by rw[pv,aa h];rfl
 rw[q7 _ _ (by omega),h1,ra,i7 (by omega),rb,h2,aa h,j0];rfl
theorem aN{A B:List F}(hl:A.length=B.length)(i:Nat)(h:i<=A.length):(A.take i++B.drop i).length=A.length:=by simp;omega
theorem aP{A B:List F}(hl:A.length=B.length):A.take A.length++B.drop A.length=A:=by rw[j4,ro (by omega),rz]
theorem r_(r o:List F)(b:F)(i:Nat)(h:r.length=o.length):(H2 r o b)[i]?.getD 0=fa (r[i]?.getD 0) (fm (o[i]?.getD 0) b):=R8 r o b i h
theorem AAU{R:List (List F)}{a:Nat}{r:List F}(h:a<R.length):(R.set a r)[a]?.getD []=r:=by simp[h]
theorem yE{R:List (List F)}{a b:Nat}{r:List F}(h:a≠b):(R.set a r)[b]?.getD []=R[b]?.getD []:=by rw[az h]
theorem tA{R:List (List F)}{a:Nat}{r r':List F}:(R.set a r).set a r'=R.set a r':=List.set_set ..
theorem nc{R:List (List F)}{a:Nat}(h:a<R.length):R.set a (R[a]?.getD [])=R:=by
 rw[aa h];simp
theorem wr{ix:List Nat}{R:List (List F)}(h:∀j,j∈ix->j<R.length/\0<(R[j]?.getD []).length):Zo ix (EN R)=true:=by
 unfold Zo;rw[List.all_eq_true];intro j e;obtain⟨h1,h2⟩:=h j e
 have:(EN R)[j]?.getD (true,[])=(false,us (R[j]?.getD [])):=by
  unfold EN;rw[ea,aa h1];rfl
 rw[this];exact JR (by simpa[us]using h2)
attribute [local irreducible] IntKind.wrap Ah kk and or
theorem ww(e1 e2:Nat)(nl:Bool)(ix:List Nat)(R:List (List F))(a b:Nat)(s:F)(n:a≠b)(B:a<R.length)(hb:b<R.length)(hl:(R[a]?.getD []).length=(R[b]?.getD []).length)(hs:(R[b]?.getD []).length<=1000)(hp:0<(R[b]?.getD []).length) :
  Eg E0 G9 [(900000,0,.mat e1 e2 nl ix (EN R))] [.mref (.row a) 900000 0,.mref (.row b) 900000 0,.d (.int .u8 (s.val:Int))]
   [(900000,0,.mat e1 e2 nl ix (EN (R.set a (H2 (R[a]?.getD []) (R[b]?.getD []) s))))] (.tup []):=by
 obtain⟨j,o⟩:∃j,R[a]?.getD []=j:=⟨_,rfl⟩
 obtain⟨e,l⟩:∃e,R[b]?.getD []=e:=⟨_,rfl⟩
 rw[o,l]at hl ⊢;rw[l]at hs hp;have m:JS (false,us e)=true:=JR (by show 0<(us e).length;simpa[us]using hp);have p:=SA j e s hl;have y:R.set a j=R:=by rw[←o];exact nc B
 have G:(R.set a j).length=R.length:=by simp
 suffices hsu:Eg E0 G9 [(900000,0,.mat e1 e2 nl ix (EN (R.set a j)))] [.mref (.row a) 900000 0,.mref (.row b) 900000 0,.d (.int .u8 (s.val:Int))]
   [(900000,0,.mat e1 e2 nl ix (EN (R.set a (H2 j e s))))] (.tup []) by rwa [y]at hsu
 have u:(R.set a j)[b]?.getD []=e:=by rw[yE n];exact l
 refine BW O1 AR (by simp) (by simp[I_,CG,Cr,AY.isHist]) (by simp[Fh]) fun L J=>?_
 rw[Bh];unfold I0;refine' Ta u hb @ay.{0} m;refine BN (α:=Nat×(List F)) (l0:=?l1) (m0:=?m1) (fun x=>[(10,.d (.int .i64 (x.1:Int)))]) (fun x=>[(900000,.mat e1 e2 nl ix (EN (R.set a x.2)))]) (fun x=>x.1<=e.length/\x.2=(H2 j e s).take x.1++j.drop x.1) (fun x=>e.length-x.1) (0,j) ?h01 ?he1 ?he21 ?hI1 ?step1
 case h01=>(simp -implicitDefEqProofs only[go_sem,ay];rfl)
 case he1=>rfl
 case he21=>rfl
 case' step1=>(rintro⟨i,r⟩ A;try dsimp only at A)
 case' hI1=>try dsimp only
 ·exact⟨by omega,by simp⟩
 ·obtain⟨h1,h2⟩:=A;have hr:r.length=e.length:=by rw[h2,aN p i (by omega)];omega
  by_cases h:i<e.length
  ·have h':(i:Int)<(e.length:Int):=by omega
   have z:=HE (i:=i) (by omega);have c1:=ED (e[i]?.getD 0) s;have k1:r[i]?.getD 0=j[i]?.getD 0:=by rw[h2];exact aO p i (by omega)
   have k2:r.set i (fa (j[i]?.getD 0) (fm (e[i]?.getD 0) s))=(H2 j e s).take (i+1)++j.drop (i+1):=by
    rw[h2,←r_ j e s i hl];exact aM p i (by omega)
   have t:(R.set a r)[b]?.getD []=e:=by rw[yE n];exact l
   have q:∀r:List F,(R.set a r)[a]?.getD []=r:=fun r=>AAU B
   refine' EP h' z k1 q t @tA @ay.{0} m;repeat' first|(refine' BJ;(first|refine AF c1 ?_)<;>refine' EP h' z k1 q t @tA @ay.{0} m)|refine' BI|done
   all_goals try exact BL
   all_goals first|exact k2|skip
  ·have h':¬(i:Int)<(e.length:Int):=by omega
   have hk:i=e.length:=by omega
   have M:r=H2 j e s:=by
    rw[h2,hk];have:=aP p;rwa [p,hl]at this
   subst M;have t:(R.set a (H2 j e s))[b]?.getD []=e:=by rw[yE n];exact l
   refine' Ta h' t @ay.{0} m
   all_goals try exact BL
theorem Zc(nl p o:Bool)(M:List (List F))(at_:List Nat)(m:Nat)(hm:m=at_.length)(hl:M.length<=1000)(hs:∀i,i<M.length->m<(M[i]?.getD []).length) :
  BU E0 Cj [.list nl (M.map fun r=>.list p (us r)),.fn De [.ptr [.list o (Ad (ni at_))]]] (.list M.isEmpty (us (M.map fun r=>r[m]?.getD 0))):=by
 subst hm
 have t:∀r:List F,at_.length<r.length->BU E0 De [.list p (us r),.ptr [.list o (Ad (ni at_))]] (.int .u8 ((r[at_.length]?.getD 0).val:Int)):=by
  intro r hr;refine AL KL AR (by simp) fun e=>?_
  rw[AN];unfold GV;refine' FP
  all_goals try exact BL
 refine AL EL AR (by simp) fun e=>?_
 rw[AN];unfold CY;refine' FP;refine AZ (α:=Nat×Bool×(List F)) (fun x=>[(10,.d (.int .i64 (x.1:Int)))]) (fun x=>[(19,.row 180 1 x.2.1 (us x.2.2))]) (fun x=>x.1<=M.length/\x.2.2=(M.take x.1).map (fun r=>r[at_.length]?.getD 0)/\x.2.1=x.2.2.isEmpty) (fun x=>M.length-x.1) (0,true,[]) ?hI2 ?step2
 case' step2=>(rintro⟨i,b,l⟩ n;try dsimp only at n)
 case' hI2=>try dsimp only
 ·exact⟨by omega,rfl,rfl⟩
 ·obtain⟨h1,h2,y⟩:=n;subst y
  by_cases h:i<M.length
  ·have h':(i:Int)<(M.length:Int):=by omega
   have j:=HE (i:=i) (by omega);have c1:=t (M[i]?.getD default) (hs i h)
   have hk:l++[(M[i]?.getD default)[at_.length]?.getD 0]=(M.take (i+1)).map (fun r=>r[at_.length]?.getD 0):=by
    rw[h2,pv,aa h,List.map_append,eb];rfl
   have q:l.length<=1000:=by rw[h2];simp;omega
   refine' Gj h' j @R5 @GN;repeat' first|(refine' BJ;(first|refine AF c1 ?_)<;>refine' Gj h' j @R5 @GN)|refine' BI|done
   all_goals try exact BL
   all_goals first|exact hk|(exact(dD _ _).symm)|(simp at *;done)|(simp at *;omega)|skip
  ·have h':¬(i:Int)<(M.length:Int):=by omega
   have hk:i=M.length:=by omega
   subst hk;rw[j4]at h2;have u:l.isEmpty=M.isEmpty:=by rw[h2];cases M<;>rfl
   rw[←h2,←u];refine' HM h'
   all_goals try exact BL
   all_goals first|rfl|skip
end Go.Pw
end
section
namespace Go.Pw
def lm(ix:List Nat)(R:List (List F)):List (List F):=ix.map fun j=>R[j]?.getD []
structure PQ (n:Nat) (ix:List Nat) (R:List (List F)):Prop where
 li:ix.length=n
 lr:R.length=n
 nd:ix.Nodup
 lt:∀j,j∈ix->j<n
def Hj(ix:List Nat)(i:Nat):Nat:=ix[i]?.getD 0
theorem Nb{l:List Nat}{i:Nat}(h:i<l.length):Hj l i=l[i]:=by unfold Hj;rw[aa h];rfl
theorem uf{ix:List Nat}{i:Nat}(h:i<ix.length):Hj ix i∈ix:=by unfold Hj;rw[aa h];exact hX h
theorem PQ.ix_lt{n ix R}(h:PQ n ix R){i:Nat}(hi:i<n):Hj ix i<n:=h.lt _ (uf (by rw[h.li];exact hi))
theorem PQ.ix_inj{n ix R}(h:PQ n ix R){i j:Nat}(hi:i<n)(l:j<n)(e:Hj ix i=Hj ix j):i=j:=by
 have h1:=h.li;unfold Hj at e;rw[aa (by omega),aa (by omega)]at e;exact(List.getElem_inj h.nd).1 e
theorem KF(ix R):(lm ix R).length=ix.length:=by simp[lm]
theorem Hh{n ix R}(h:PQ n ix R){i:Nat}(hi:i<n):Bb (lm ix R) i=R[Hj ix i]?.getD []:=by
 have h1:=h.li;unfold Bb lm Hj;rw[ea,aa (by omega)];rfl
theorem PQ.set{n ix R}(h:PQ n ix R)(a:Nat)(r:List F):PQ n ix (R.set a r):=⟨h.li,by simpa using h.lr,h.nd,h.lt⟩
theorem pX{n ix R}(h:PQ n ix R){i:Nat}(hi:i<n)(r:List F):lm ix (R.set (Hj ix i) r)=(lm ix R).set i r:=by
 have h1:=h.li;apply List.ext_getElem?;intro j
 by_cases o:j<n
 ·have e1:(lm ix (R.set (Hj ix i) r))[j]?=some (Bb (lm ix (R.set (Hj ix i) r)) j):=by
   unfold Bb;rw[aa (by rw[KF];omega)];rfl
  rw[e1,Hh (h.set _ _) o]
  by_cases m:i=j
  ·subst m;rw[et (by rw[h.lr];exact h.ix_lt hi),et (by rw[KF];omega)];rfl
  ·rw[az (fun e=>m (h.ix_inj hi o e)),az m];unfold lm;rw[ea,aa (l:=ix) (by omega)];show some _=some _;unfold Hj;rw[aa (l:=ix) (by omega)];rfl
 ·rw[cp (by rw[KF];omega),cp (by simp[KF];omega)]
theorem ue{n ix R}(h:PQ n ix R){k p:Nat}(hk:k<n)(hp:p<n):PQ n ((ix.set k (Hj ix p)).set p (Hj ix k)) R/\lm ((ix.set k (Hj ix p)).set p (Hj ix k)) R=swp (lm ix R) k p/\Hj ((ix.set k (Hj ix p)).set p (Hj ix k)) k=Hj ix p:=by
 have h1:=h.li
 have m:∀j,j<n->Hj ((ix.set k (Hj ix p)).set p (Hj ix k)) j=if j=p then Hj ix k else if j=k then Hj ix p else Hj ix j:=fun j q=>by
  rw[show Hj ((ix.set k (Hj ix p)).set p (Hj ix k)) j=((ix.set k (Hj ix p)).set p (Hj ix k))[j]?.getD 0 from rfl]
  by_cases e1:j=p
  ·subst e1;rw[et (by simp;omega),if_pos rfl];rfl
  ·rw[az fun e=>e1 e.symm,if_neg e1]
   by_cases e2:j=k
   ·subst e2;rw[et (by omega),if_pos rfl];rfl
   ·rw[az fun e=>e2 e.symm,if_neg e2];rfl
 have r:((ix.set k (Hj ix p)).set p (Hj ix k)).length=n:=by simp[h1]
 have y:PQ n ((ix.set k (Hj ix p)).set p (Hj ix k)) R:=by
  refine⟨r,h.lr,?_,fun j q=>?_⟩
  ·refine List.pairwise_iff_getElem.2 fun i j hi q A B=>?_
   have e1:=m i (by omega);have e2:=m j (by omega)
   have l:Hj ((ix.set k (Hj ix p)).set p (Hj ix k)) i=Hj ((ix.set k (Hj ix p)).set p (Hj ix k)) j:=by
    rw[Nb hi,Nb q];exact B
   rw[e1,e2]at l;have inj:∀{a b},a<n->b<n->Hj ix a=Hj ix b->a=b:=fun z hb=>h.ix_inj z hb
   have:i=j:=by
    by_cases c1:i=p<;>by_cases c2:j=p
    ·omega
    ·rw[if_pos c1,if_neg c2]at l
     by_cases o:j=k
     ·rw[if_pos o]at l;have:=inj hk hp l;omega
     ·rw[if_neg o]at l;have:=inj hk (by omega) l;omega
    ·rw[if_neg c1,if_pos c2]at l
     by_cases o:i=k
     ·rw[if_pos o]at l;have:=inj hp hk l;omega
     ·rw[if_neg o]at l;have:=inj (by omega) hk l;omega
    ·rw[if_neg c1,if_neg c2]at l
     by_cases o:i=k<;>by_cases t:j=k
     ·omega
     ·rw[if_pos o,if_neg t]at l;have:=inj hp (by omega) l;omega
     ·rw[if_neg o,if_pos t]at l;have:=inj (by omega) hp l;omega
     ·rw[if_neg o,if_neg t]at l;exact inj (by omega) (by omega) l
   omega
  ·obtain⟨i,hi,rfl⟩:=r3 q;rw[←Nb hi,m i (by omega)];split
   ·exact h.ix_lt hk
   ·split
    ·exact h.ix_lt hp
    ·exact h.ix_lt (by omega)
 refine⟨y,?_,?_⟩
 ·apply f0
  ·simp[KF,swp,h1]
  ·intro j h2 G;have q:j<n:=by rw[KF,r]at h2;exact h2
   have e1:=Hh y q;have e2:=Fb (lm ix R) k p j (by rw[KF];omega) (by rw[KF];omega);unfold Bb at e1;rw[aa h2]at e1;rw[show Bb (swp (lm ix R) k p) j=(swp (lm ix R) k p)[j]?.getD [] from rfl,aa G]at e2;have u:(lm ((ix.set k (Hj ix p)).set p (Hj ix k)) R)[j]=R[Hj ((ix.set k (Hj ix p)).set p (Hj ix k)) j]?.getD []:=e1;have x:(swp (lm ix R) k p)[j]=if j=p then Bb (lm ix R) k else if j=k then Bb (lm ix R) p else Bb (lm ix R) j:=e2
   rw[u,x,m j q];split
   ·rw[Hh h hk]
   ·split
    ·rw[Hh h hp]
    ·rw[Hh h q]
 ·rw[m k hk];split
  ·rename_i e;subst e;rfl
  ·rw[if_pos rfl]
structure Z' (L P:Nat) (at_:List Nat) (s:List F) (ix:List Nat) (R:List (List F)) (k:Nat):Prop where
 pq:PQ P ix R
 shp:WX (lm ix R) P (at_.length+1)
 red:mg (lm ix R) k
 sat:∀c v,v.length=at_.length->(Wg c (lm ix R) v↔Wg c (Ti L P at_ s) v)
theorem pY(R:List (List F)):lm (ax R.length) R=R:=by
 apply f0
 ·simp[lm]
 ·intro i h1 h2;simp[lm,h2]
theorem Z'.start{L P:Nat}{at_:List Nat}{s:List F}:Z' L P at_ s (ax P) (Ti L P at_ s) 0:=by
 have hl:=(RM L P at_ s).len
 have e:lm (ax P) (Ti L P at_ s)=Ti L P at_ s:=by
  have:=pY (Ti L P at_ s);rwa [hl]at this
 refine⟨⟨by simp,hl,List.nodup_range,fun j h=>by simpa using h⟩,by rw[e];exact RM L P at_ s,⟨fun i j hi h=>by omega,fun j h=>by omega⟩,fun c v hv=>by rw[e]⟩
theorem Z'.rlen{L P at_ s ix R k}(h:Z' L P at_ s ix R k){i:Nat}(hi:i<P):(R[Hj ix i]?.getD []).length=at_.length+1:=by
 have:=h.shp.row i hi;rwa [Hh h.pq hi]at this
theorem Z'.fail{L P at_ s ix R k}(h:Z' L P at_ s ix R k)(e:L<=15)(hp:mu L at_)(hm:at_.length<=P)(hk:k<at_.length)(j:∀i,k<=i->i<P->ent (lm ix R) i k=0):False:=by
 obtain⟨v,h1,h2,l⟩:=oD h.shp h.red hk hm j;have:=b8 e hp hm h1 ((h.sat 0 v h1).1 h2) k;rw[l]at this;exact absurd this (by decide)
theorem Z'.step{L P at_ s ix R k}(h:Z' L P at_ s ix R k){p:Nat}(hk:k<P)(e:k<=p)(hp:p<P)(l:ent (lm ix R) p k≠0){f:F->F->F}(n:∀a,fm (ent (lm ix R) p k) (f a (ent (lm ix R) p k))=a)
  {ix':List Nat}{R':List (List F)}(i:PQ P ix' R') (hr:lm ix' R'=Bd f (swp (lm ix R) k p) k):Z' L P at_ s ix' R' (k+1)/\(∀j,j<k->ent (lm ix' R') j j=ent (lm ix R) j j):=by
 have s1:=h.shp.swp hk hp;have m:=h.red.swp h.shp hk e hp;have e1:=i4 h.shp hk hp k;refine⟨⟨i,by rw[hr];exact s1.red f hk,by rw[hr];exact m.red f s1 hk (by rw[e1];exact l) (by rw[e1];exact n),fun c v hv=>?_⟩,fun j o=>?_⟩
 ·rw[hr,jP f s1 hk,jO h.shp hk hp];exact h.sat c v hv
 ·rw[hr,Tj f s1 m hk j (by omega)];unfold ent;rw[Fb _ _ _ _ (by rw[h.shp.len];omega) (by rw[h.shp.len];omega),if_neg (by omega),if_neg (by omega)]
theorem Z'.stepS{L P at_ s ix R k}(h:Z' L P at_ s ix R k)(h1:∀j,j<k->ent (lm ix R) j j=1){p:Nat}(hk:k<P)(i:k<=p)(hp:p<P)(m:ent (lm ix R) p k≠0)
  {ix':List Nat}{R':List (List F)}(l:PQ P ix' R') (hr:lm ix' R'=Bd (fun a _=>a) ((swp (lm ix R) k p).set k (Jc (Bb (swp (lm ix R) k p) k) (fi (ent (lm ix R) p k)))) k) :
  Z' L P at_ s ix' R' (k+1)/\∀j,j<k+1->ent (lm ix' R') j j=1:=by
 have s1:=h.shp.swp hk hp;have o:=h.red.swp h.shp hk i hp;have e1:=i4 h.shp hk hp k;have s2:=s1.scl hk (fi (ent (lm ix R) p k));have n:=o.scl s1 hk (fi (ent (lm ix R) p k))
 have e2:ent ((swp (lm ix R) k p).set k (Jc (Bb (swp (lm ix R) k p) k) (fi (ent (lm ix R) p k)))) k k=1:=by
  rw[i8 s1 hk,if_pos rfl,e1,xU _ m]
 refine⟨⟨l,by rw[hr];exact s2.red _ hk,by rw[hr];exact n.red _ s2 hk (by rw[e2];decide) (by rw[e2];exact fun a=>Y3 a),fun c v hv=>?_⟩,fun j e=>?_⟩
 ·rw[hr,jP _ s2 hk,w7 s1 hk (AA6 _),jO h.shp hk hp];exact h.sat c v hv
 ·rw[hr,Tj _ s2 n hk j (by omega)];rcases la.1 e with e|rfl
  ·rw[i8 s1 hk,if_neg (by omega)]
   have:ent (swp (lm ix R) k p) j j=ent (lm ix R) j j:=by
    unfold ent;rw[Fb _ _ _ _ (by rw[h.shp.len];omega) (by rw[h.shp.len];omega),if_neg (by omega),if_neg (by omega)]
   rw[this];exact h1 j e
  ·exact e2
theorem Z'.ends{L P at_ s ix R}(h:Z' L P at_ s ix R at_.length)(e:L<=15)(hp:mu L at_)(hm:at_.length<=P)(v:List F)(hv:v.length=at_.length)
  (hd:∀i,i<at_.length->fm (ent (lm ix R) i i) (FX v i)=ent (lm ix R) i at_.length) (j:∀i,at_.length<=i->i<P->ent (lm ix R) i at_.length=0):Ou L P at_ s=some v :=
 XY e hp hm hv ((h.sat 1 v hv).1 ((iM h.shp h.red hm v hv).2 ⟨hd,j⟩))
theorem Z'.endsN{L P at_ s ix R}(h:Z' L P at_ s ix R at_.length)(hm:at_.length<=P){i:Nat}(h1:at_.length<=i)(h2:i<P)(e:ent (lm ix R) i at_.length≠0):Ou L P at_ s=none :=
 jr fun v hv hs=>e (((iM h.shp h.red hm v hv).1 ((h.sat 1 v hv).2 hs)).2 i h1 h2)
theorem oU{f:F->F->F}{M:List (List F)}{k i:Nat}(hi:i<M.length)(e:i≠k):((Bd f M k).take i++M.drop i).set i (H2 (Bb M i) (Bb M k) (f (ent M i k) (ent M k k)))=(Bd f M k).take (i+1)++M.drop (i+1):=by
 have hl:(Bd f M k).length=M.length:=by simp[Bd]
 have h1:((Bd f M k).take i).length=i:=by simp;omega
 have h2:(Bd f M k).take (i+1)=(Bd f M k).take i++[H2 (Bb M i) (Bb M k) (f (ent M i k) (ent M k k))]:=by
  rw[lb,aa (by omega)];have:=D8 f M k i hi;rw[show Bb (Bd f M k) i=(Bd f M k)[i]?.getD [] from rfl,aa (by omega),if_neg e]at this;rw[show(Bd f M k)[i]=H2 (Bb M i) (Bb M k) (f (ent M i k) (ent M k k)) from this];rfl
 rw[q7 _ _ (by omega),h1,ra,i7 hi,rb,h2,j0];rfl
theorem oS{f:F->F->F}{M:List (List F)}{k:Nat}(hk:k<M.length):(Bd f M k).take k++M.drop k=(Bd f M k).take (k+1)++M.drop (k+1):=by
 have hl:(Bd f M k).length=M.length:=by simp[Bd]
 have h2:(Bd f M k).take (k+1)=(Bd f M k).take k++[M[k]]:=by
  rw[lb,aa (by omega)];have:=D8 f M k k hk;rw[show Bb (Bd f M k) k=(Bd f M k)[k]?.getD [] from rfl,aa (by omega),if_pos rfl]at this;rw[show(Bd f M k)[k]=Bb M k from this];unfold Bb;rw[aa hk];rfl
 rw[i7 hk,h2,j0];rfl
theorem tR{f:F->F->F}{M:List (List F)}{k i:Nat}(hi:i<M.length):Bb ((Bd f M k).take i++M.drop i) i=Bb M i:=by
 have hl:(Bd f M k).length=M.length:=by simp[Bd]
 unfold Bb;rw[hY (by simp;omega)];simp only[i5,c8];congr 2;omega
theorem oT{f:F->F->F}{M:List (List F)}{k i:Nat}(hk:k<M.length)(hi:i<=M.length):Bb ((Bd f M k).take i++M.drop i) k=Bb M k:=by
 have hl:(Bd f M k).length=M.length:=by simp[Bd]
 by_cases h:k<i
 ·have:=D8 f M k k hk;rw[if_pos rfl]at this;rw[←this];unfold Bb;rw[List.getElem?_append_left (by simp;omega),na h]
 ·unfold Bb;rw[hY (by simp;omega)];simp only[i5,c8];congr 2;omega
theorem tS{f:F->F->F}{M:List (List F)}{k:Nat}:(Bd f M k).take M.length++M.drop M.length=Bd f M k:=by
 have hl:(Bd f M k).length=M.length:=by simp[Bd]
 rw[ne (by omega),ro (by omega),rz]
end Go.Pw
end
section
open Go Go.Pw Go.Proofs
namespace Go.Pw
set_option maxRecDepth 100000
set_option maxHeartbeats 6400000
def x8(o:Option (List F)):D:=match o with
 |some v=>.tup [.list v.isEmpty (us v),.bool true]
 |none=>.tup [.list true [],.bool false]
theorem SU(v:List F):x8 (some v)=.tup [.list v.isEmpty (us v),.bool true]:=rfl
theorem XW:x8 none=.tup [.list true [],.bool false]:=rfl
theorem Bu{α:Type}(w:List α)(d:α)(i:Nat)(h:i<w.length):w.take i++[w[i]?.getD d]=w.take (i+1):=by
 rw[lb,aa h];rfl
theorem iZ(l:List Nat)(i:Nat)(h:i<l.length):l[i]?.getD 0=l[i]:=by rw[aa h];rfl
attribute [local irreducible] IntKind.wrap Ah kk and or
theorem Rs(L P:Nat)(n1 n2:Bool)(s:List F)(at_:List Nat)(hL:L<=15)(hP:1<=P)(hP2:P<=15)(hs:s.length=P)(hp:mu L at_)(hm:at_.length<=P) :
    BU E0 H5 [Ze L P,.list n1 (us s),.list n2 (Ad (ni at_))] (x8 (Ou L P at_ s)):=by
  have el:(Ti L P at_ s).length=P:=(RM L P at_ s).len;refine AL Lt AR (by simp) fun hwf=>?_
  rw[AN];unfold HL;refine' HM @DC;refine AZ (α:=Nat×Bool×(List Nat)×(List (List F))) (fun x=>[(25,.d (.int .i64 (x.1:Int)))]) (fun x=>[(50,.mat 230 180 x.2.1 x.2.2.1 (EN x.2.2.2))]) (fun x=>x.1<=P/\x.2.2.2=(Ti L P at_ s).take x.1/\x.2.2.1=ax x.1/\x.2.1=decide (x.1=0)) (fun x=>P-x.1) (0,true,[],[]) ?hI1 ?step1
  case' step1=>(rintro⟨i,nl,ix,R⟩ hI;try dsimp only at hI)
  case' hI1=>try dsimp only
  · exact⟨by omega,by simp,rfl,rfl⟩
  · obtain⟨h1,h2,h3,h4⟩:=hI
    have hR:R.length=i:=by rw[h2];simp;omega
    by_cases h:i<P
    · have h':(i:Int)<(s.length:Int):=by omega
      have hw:=HE (i:=i) (by omega);refine' MX h' @DC
      all_goals try exact BL
      refine AZ (α:=Nat×Bool×(List F)) (fun x=>[(32,.d (.int .i64 (x.1:Int)))]) (fun x=>[(42,.row 180 1 x.2.1 (us x.2.2))]) (fun x=>x.1<=at_.length/\x.2.2=(at_.take x.1).map (fun q=>gC L i q)/\x.2.1=x.2.2.isEmpty) (fun x=>at_.length-x.1) (0,true,[]) ?hI2 ?step2
      case' step2=>(rintro⟨j,b,r⟩ hI2;try dsimp only at hI2)
      case' hI2=>try dsimp only
      · exact⟨by omega,rfl,rfl⟩
      · obtain⟨q1,T,q3⟩:=hI2
        have hrl:r.length=j:=by rw[T];simp;omega
        by_cases z:j<at_.length
        · have Y:(j:Int)<(at_.length:Int):=by omega
          have hwj:=HE (i:=j) (by omega);have hlt:=hp.lt (at_[j]?.getD 0) (by rw[iZ _ _ z];exact hX z);have c1:=JK L P i (at_[j]?.getD 0) (by omega) (by omega) hlt
          have hk:r++[gC L i (at_[j]?.getD 0)]=(at_.take (j+1)).map (fun q=>gC L i q):=by
            rw[T,←Bu at_ 0 j z];simp
          rw[DC]at c1;refine' FS Y hwj;repeat' first|(refine' BJ;(first|refine AF c1 ?_)<;>refine' FS Y hwj)|refine' BI|done
          all_goals try exact BL
          all_goals first|exact hk|(exact(dD _ _).symm)|(simp at *;done)|(simp at *;omega)|skip
        · have Y:¬(j:Int)<(at_.length:Int):=by omega
          have hjj:j=at_.length:=by omega
          have hrow:r++[s[i]?.getD 0]=Bb (Ti L P at_ s) i:=by
            rw[bO _ _ _ _ _ h,T,hjj,j4];rfl
          have M:R++[Bb (Ti L P at_ s) i]=(Ti L P at_ s).take (i+1):=by
            rw[h2];exact Bu _ _ _ (by omega)
          have hix:ix++[R.length]=ax (i+1):=by rw[h3,hR,r4]
          have hil:ix.length=i:=by rw[h3];simp
          refine' bq Y hw hrow M hix
          all_goals try exact BL
          all_goals first|rfl|exact r4.symm|(simp at *;done)|(simp at *;omega)|skip
    · have h':¬(i:Int)<(s.length:Int):=by omega
      have hi:i=P:=by omega
      subst hi;have e2:R=Ti L i at_ s:=by rw[h2,ne (by omega)]
      have e4:nl=false:=by rw[h4];simp;omega
      subst e4;clear h4;subst e2 h3;refine' MX h' @DC
      all_goals try exact BL
      refine AZ (α:=Nat×(List Nat)×(List (List F))) (fun x=>[(54,.d (.int .i64 (x.1:Int)))]) (fun x=>[(50,.mat 230 180 false x.2.1 (EN x.2.2))]) (fun x=>x.1<=at_.length/\Z' L i at_ s x.2.1 x.2.2 x.1/\(∀j,j<x.1->ent (lm x.2.1 x.2.2) j j=1)) (fun x=>at_.length-x.1) (0,(ax i),(Ti L i at_ s)) ?hI3 ?step3
      case' step3=>(rintro⟨k,ix,R⟩ hI3;try dsimp only at hI3)
      case' hI3=>try dsimp only
      · exact⟨by omega,Z'.start,fun j z=>absurd z (by omega)⟩
      · obtain⟨k1,k2,k3⟩:=hI3
        have li:=k2.pq.li;have lr:=k2.pq.lr
        by_cases hk:k<at_.length
        · have ι:(k:Int)<(at_.length:Int):=by omega
          have hwk:=HE (i:=k) (by omega);refine' HM ι
          all_goals try exact BL
          refine AZ (α:=Nat) (fun x=>[(15,.d (.int .i64 (x:Int)))]) (fun x=>[]) (fun x=>k<=x/\x<=i/\∀q,k<=q->q<x->ent (lm ix R) q k=0) (fun x=>i-x) k ?hI4 ?step4
          case' step4=>(rintro f hI4;try dsimp only at hI4)
          case' hI4=>try dsimp only
          · exact⟨by omega,by omega,fun q _ _=>by omega⟩
          · obtain⟨f1,f2,f3⟩:=hI4
            by_cases hf:f<i
            · have O:(f:Int)<(ix.length:Int):=by omega
              have hwf1:=HE (i:=f) (by omega);have a1:ix[f]?.getD 0<R.length:=by rw[lr];exact k2.pq.ix_lt hf
              have rl:(R[ix[f]?.getD 0]?.getD []).length=at_.length+1:=k2.rlen hf
              have ee:(R[ix[f]?.getD 0]?.getD [])[k]?.getD 0=ent (lm ix R) f k:=by
                show _=FX (Bb (lm ix R) f) k;rw[Hh k2.pq hf];rfl
              by_cases hz:ent (lm ix R) f k=0
              · refine' Ta O hwf1 ee hz
                all_goals try exact BL
                all_goals first
                  |(
                     rename_i q q1 T;rcases la.1 T with T|rfl
                     · exact f3 q q1 T
                     · exact hz)
                  |skip
              · have η:¬(f:Int)=(ix.length:Int):=by omega
                obtain⟨p1,p2,p3⟩:=ue k2.pq (show k<i by omega) hf;obtain⟨I,β⟩:∃I,(ix.set k (ix[f]?.getD 0)).set f (ix[k]?.getD 0)=I:=⟨_,rfl⟩
                rw[show Hj ix f=ix[f]?.getD 0 from rfl,show Hj ix k=ix[k]?.getD 0 from rfl,β]at p1 p2 p3;obtain⟨a,θ⟩:∃a,ix[f]?.getD 0=a:=⟨_,rfl⟩
                rw[θ]at a1 rl ee p3 β;have o:I[k]?.getD 0=a:=p3;have hIl:=p1.li;have a0:ix[k]?.getD 0<R.length:=by rw[lr];exact k2.pq.ix_lt (show k<i by omega)
                obtain⟨m,A⟩:∃m,R[a]?.getD []=m:=⟨_,rfl⟩
                rw[A]at rl ee;have hkr:k<m.length:=by omega
                obtain⟨p,hx⟩:∃p,ent (lm ix R) f k=p:=⟨_,rfl⟩
                have c1:=O7 p;have hz0:=hz;rw[hx]at hz ee;have ω:k<ix.length:=by omega
                have ζ:f<ix.length:=by omega
                have l:∀b:F,(Jc m b).length=m.length:=fun b=>bL m b
                have hRR:R.set a m=R:=by rw[←A];exact nc a1
                have hUR:EN R=EN (R.set a m):=by rw[hRR]
                have u:k<I.length:=by omega
                have hal:JS (false,us m)=true:=JR (by show 0<(us m).length;simp[us];omega);refine' EP O ee hz η θ A β (aI o (aI a0 (aI a1 (aI hkr (aI ω (aI ζ (aI u (aI rl (aI @ay.{0} hal)))))))));repeat' first|(refine' BJ;(first|refine AF c1 ?_)<;>refine' EP O ee hz η θ A β (aI o (aI a0 (aI a1 (aI hkr (aI ω (aI ζ (aI u (aI rl (aI @ay.{0} hal))))))))))|refine' BI|done
                all_goals try exact BL
                rw[hUR];refine AZ (α:=Nat×(List F)) (fun x=>[(105,.d (.int .i64 (x.1:Int)))]) (fun x=>[(50,.mat 230 180 false I (EN (R.set a x.2)))]) (fun x=>x.1<=at_.length+1/\x.2=(Jc m (fi p)).take x.1++m.drop x.1) (fun x=>at_.length+1-x.1) (0,m) ?hI5 ?step5
                case' step5=>(rintro⟨n,r⟩ hI5;try dsimp only at hI5)
                case' hI5=>try dsimp only
                · exact⟨by omega,by simp⟩
                · obtain⟨r1,r2⟩:=hI5
                  have hr:r.length=at_.length+1:=by rw[r2,aN (l _) n (by rw[l];omega),l];exact rl
                  by_cases h5:n<at_.length+1
                  · have X:(n:Int)<((at_.length+1:Nat):Int):=by omega
                    have hw5:=HE (i:=n) (by omega);have c5:=ED (m[n]?.getD 0) (fi p);have g1:r[n]?.getD 0=m[n]?.getD 0:=by rw[r2];exact aO (l _) n (by rw[l];omega)
                    have g2:r.set n (fm (m[n]?.getD 0) (fi p))=(Jc m (fi p)).take (n+1)++m.drop (n+1):=by
                      rw[r2,←show(Jc m (fi p))[n]?.getD 0=fm (m[n]?.getD 0) (fi p) from WJ m (fi p) n];exact aM (l _) n (by rw[l];omega)
                    have hsA:∀r:List F,(R.set a r)[a]?.getD []=r:=fun r=>AAU a1
                    refine' EP X hw5 g1 hsA @tA o u @ay.{0};repeat' first|(refine' BJ;(first|refine AF c5 ?_)<;>refine' EP X hw5 g1 hsA @tA o u @ay.{0})|refine' BI|done
                    all_goals try exact BL
                    all_goals first|exact g2|skip
                  · have X:¬(n:Int)<((at_.length+1:Nat):Int):=by omega
                    have hre:r=Jc m (fi p):=by
                      have:n=(Jc m (fi p)).length:=by rw[l];omega
                      rw[r2,this];exact aP (l _)
                    subst hre;clear r2;obtain⟨R2,μ⟩:∃R2,R.set a (Jc m (fi p))=R2:=⟨_,rfl⟩
                    rw[μ];have pq2:PQ i I R2:=by rw[←μ];exact p1.set _ _
                    have hM2:lm I R2=(swp (lm ix R) k f).set k (Jc (Bb (swp (lm ix R) k f) k) (fi (ent (lm ix R) f k))):=by
                      have e1:=pX p1 (show k<i by omega) (Jc m (fi p));rw[p3,μ,p2]at e1;rw[e1,hx]
                      have e2:Bb (swp (lm ix R) k f) k=m:=by
                        rw[←p2,Hh p1 (show k<i by omega),p3];exact A
                      rw[e2]
                    obtain⟨M2,Z⟩:∃M2,lm I R2=M2:=⟨_,rfl⟩
                    have hl2:M2.length=i:=by rw[←Z,KF];exact hIl
                    have hS2:WX M2 i (at_.length+1):=by rw[←Z,hM2];exact(k2.shp.swp (show k<i by omega) hf).scl (show k<i by omega) _
                    refine' HM X
                    all_goals try exact BL
                    refine AZ (α:=Nat×(List (List F))) (fun x=>[(122,.d (.int .i64 (x.1:Int)))]) (fun x=>[(50,.mat 230 180 false I (EN x.2))]) (fun x=>x.1<=i/\PQ i I x.2/\lm I x.2=(Bd (fun y _=>y) M2 k).take x.1++M2.drop x.1) (fun x=>i-x.1) (0,R2) ?hI6 ?step6
                    case' step6=>(rintro⟨i6,Q⟩ hI6;try dsimp only at hI6)
                    case' hI6=>try dsimp only
                    · exact⟨by omega,pq2,by rw[Z];simp⟩
                    · obtain⟨t1,t2,t3⟩:=hI6
                      by_cases h6:i6<i
                      · have G:(i6:Int)<(I.length:Int):=by omega
                        have κ:=HE (i:=i6) (by omega)
                        by_cases ρ:i6=k
                        · subst ρ
                          have M:lm I Q=(Bd (fun y _=>y) M2 i6).take (i6+1)++M2.drop (i6+1):=by rw[t3];exact oS (by omega)
                          refine' MX G κ
                          all_goals try exact BL
                          all_goals first|exact M|exact t2|skip
                        · have γ:¬(i6:Int)=(k:Int):=by omega
                          have b1:I[i6]?.getD 0<Q.length:=by rw[t2.lr];exact t2.ix_lt h6
                          have b2:a<Q.length:=by rw[t2.lr,←p3];exact t2.ix_lt (show k<i by omega)
                          have e6:Q[I[i6]?.getD 0]?.getD []=Bb M2 i6:=by
                            have:=Hh t2 h6;rw[t3,tR (by omega)]at this;exact this.symm
                          have ek:Q[a]?.getD []=Bb M2 k:=by
                            have:=Hh t2 (show k<i by omega);rw[t3,oT (by omega) (by omega),p3]at this;exact this.symm
                          have l6:=hS2.row i6 h6;have lk:=hS2.row k (by omega)
                          have hne:I[i6]?.getD 0≠a:=by
                            rw[←o];exact fun e=>ρ (t2.ix_inj h6 (show k<i by omega) e)
                          have φ:(Bb M2 i6)[k]?.getD 0=ent M2 i6 k:=rfl;have c6:=ww 230 180 false I Q (I[i6]?.getD 0) a (ent M2 i6 k) hne b1 b2 (by rw[e6,ek,l6,lk]) (by rw[ek,lk];omega) (by rw[ek,lk];omega);rw[e6,ek]at c6
                          have M:lm I (Q.set (I[i6]?.getD 0) (H2 (Bb M2 i6) (Bb M2 k) (ent M2 i6 k)))=(Bd (fun y _=>y) M2 k).take (i6+1)++M2.drop (i6+1):=by
                            have:=pX t2 h6 (H2 (Bb M2 i6) (Bb M2 k) (ent M2 i6 k));rw[show Hj I i6=I[i6]?.getD 0 from rfl]at this;rw[this,t3];exact oU (f:=fun y _=>y) (by omega) ρ
                          have hpq:=t2.set (I[i6]?.getD 0) (H2 (Bb M2 i6) (Bb M2 k) (ent M2 i6 k));have δ:i6<I.length:=by omega
                          refine' EP G κ γ o b1 e6 φ (aI l6 (aI u δ));repeat' first|(refine' BJ;(first|refine B_ ([((900000,0),(50,0))]) ([((900000,0),(50,0))]) (c6) ?_)<;>refine' EP G κ γ o b1 e6 φ (aI l6 (aI u δ)))|refine' BI|done
                          all_goals try exact BL
                          all_goals first|exact M|exact hpq|skip
                      · have G:¬(i6:Int)<(I.length:Int):=by omega
                        have h6e:i6=i:=by omega
                        have hfin:lm I Q=Bd (fun y _=>y) M2 k:=by
                          rw[t3,h6e,←hl2];exact tS
                        obtain⟨st,sd⟩:=k2.stepS k3 (show k<i by omega) f1 hf hz0 t2 (by rw[hfin,←Z,hM2]);refine' MX G hwk
                        all_goals try exact BL
                        all_goals first|exact st|(rename_i j z;exact sd j z)|skip
            · have O:¬(f:Int)<(ix.length:Int):=by omega
              have η:f=i:=by omega
              exact(k2.fail hL hp hm hk fun q q1 T=>f3 q q1 (by omega)).elim
        · have ι:¬(k:Int)<(at_.length:Int):=by omega
          have hke:k=at_.length:=by omega
          subst hke;obtain⟨N,hN⟩:∃N,lm ix R=N:=⟨_,rfl⟩
          have U:N.length=i:=by rw[←hN,KF];exact li
          have hmat:Mw ix (EN R)=N.map fun r=>.list false (us r):=by
            rw[fQ fun j z=>by rw[lr];exact k2.pq.lt j z,←hN];rfl
          have τ:Cc 1 (N.map fun r=>D.list false (us r))=True:=KU fun _=>rfl
          have σ:(at_.length:Int)<=(i:Int):=by omega
          have hsl:((N.map fun r=>D.list false (us r)).drop at_.length).take (i-at_.length)=(N.drop at_.length).map fun r=>D.list false (us r):=by
            rw[ne (by simp;omega),List.map_drop]
          have ε:(N.map fun r=>D.list false (us r)).take at_.length=(N.take at_.length).map fun r=>D.list false (us r):=by rw[List.map_take]
          have ν:(N.drop at_.length).length=i-at_.length:=by simp[U]
          have hS:=k2.shp
          have hAll:Zo ix (EN R)=true:=wr fun j z=>by
            obtain⟨q,t,e⟩:=r3 z;have h1:(R[ix[q]?.getD 0]?.getD []).length=at_.length+1:=k2.rlen (show q<i by omega);rw[aa t,eb,e]at h1;exact⟨by rw[lr];exact k2.pq.lt j z,by omega⟩
          rw[hN]at hS k3;refine' P4 ι hmat τ U hsl σ ν hAll
          all_goals try exact BL
          refine AZ (α:=Nat) (fun x=>[(147,.d (.int .i64 (x:Int)))]) (fun x=>[]) (fun x=>x<=i-at_.length/\∀q,q<x->ent N (at_.length+q) at_.length=0) (fun x=>i-at_.length-x) 0 ?hI7 ?step7
          case' step7=>(rintro B hI7;try dsimp only at hI7)
          case' hI7=>try dsimp only
          · exact⟨by omega,fun q t=>absurd t (by omega)⟩
          · obtain⟨u1,u2⟩:=hI7
            by_cases h7:B<i-at_.length
            · have J:(B:Int)<((i-at_.length:Nat):Int):=by omega
              have χ:=HE (i:=B) (by omega);have er:(N.drop at_.length)[B]?.getD default=Bb N (at_.length+B):=by rw[c8];rfl
              have ψ:=hS.row (at_.length+B) (by omega);have υ:(Bb N (at_.length+B))[at_.length]?.getD 0=ent N (at_.length+B) at_.length:=rfl
              by_cases S:ent N (at_.length+B) at_.length=0
              · refine' mA7 J χ ν er ψ υ S
                all_goals try exact BL
                all_goals first
                  |(
                     rename_i q t;rcases la.1 t with t|rfl
                     · exact u2 q t
                     · exact S)
                  |skip
              · have ξ:Ou L i at_ s=none:=k2.endsN hm (show at_.length<=at_.length+B by omega) (by omega) (by rw[hN];exact S)
                rw[ξ];refine' P4 J χ ν er ψ υ S @XW
                all_goals try exact BL
                all_goals first|rfl|skip
            · have J:¬(B:Int)<((i-at_.length:Nat):Int):=by omega
              obtain⟨v,hv⟩:∃v,(N.take at_.length).map (fun r=>r[at_.length]?.getD 0)=v:=⟨_,rfl⟩
              have hvl:v.length=at_.length:=by rw[←hv];simp;omega
              have hva:∀q,q<at_.length->FX v q=ent N q at_.length:=fun q t=>by
                have hqN:q<N.length:=by omega
                unfold FX;rw[←hv,ea,na t,aa hqN];simp only[r5,eb];unfold ent FX Bb;rw[aa hqN,eb]
              have ξ:Ou L i at_ s=some v:=k2.ends hL hp hm v hvl (fun q t=>by rw[hN,k3 q t,Y3];exact hva q t) (fun q q1 T=>by
                rw[hN];have:=u2 (q-at_.length) (by omega)
                rwa [show at_.length+(q-at_.length)=q by omega]at this)
              have c7:=Zc false false n2 (N.take at_.length) at_ at_.length rfl (by simp;omega) (fun q t=>by
                have hq2:q<at_.length:=by simp at t;omega
                rw[na hq2];have:=hS.row q (by omega);unfold Bb at this
                omega)
              rw[hv]at c7;have hte:(N.take at_.length).isEmpty=v.isEmpty:=by rw[←hv];cases N.take at_.length<;>rfl
              rw[hte]at c7;rw[ξ];refine' QX J τ U σ ε @SU;repeat' first|(refine' BJ;(first|refine AF c7 ?_)<;>refine' QX J τ U σ ε @SU)|refine' BI|done
              all_goals try exact BL
              all_goals first|rfl|skip
end Go.Pw
end
section
open Go Go.Pw Go.Proofs
namespace Go.Pw
set_option maxRecDepth 100000
set_option maxHeartbeats 6400000
def X_(L i:Nat):List F:=(ax L).map fun j=>gC L i j
def Mu(L P:Nat)(w:List F):List F:=(ax P).map fun i=>Gi w (X_ L i)
theorem aY(L P:Nat)(w:List F):(Mu L P w).length=P:=by simp[Mu]
theorem M6(L P:Nat)(w:List F)(i:Nat)(h:i<P):(Mu L P w)[i]?.getD 0=Gi w (X_ L i):=by simp[Mu,h]
theorem Um(L i:Nat):(X_ L i).length=L:=by simp[X_]
theorem Zd(L i j:Nat)(h:j<L):(X_ L i)[j]?.getD 0=gC L i j:=by simp[X_,h]
theorem qv(w c:List F)(j:Nat)(e:j<w.length)(hc:j<c.length):fa (Gi (w.take j) (c.take j)) (fm (w[j]?.getD 0) (c[j]?.getD 0))=Gi (w.take (j+1)) (c.take (j+1)):=by
 rw[←Bu w 0 j e,←Bu c 0 j hc,Vn];simp;omega
attribute [local irreducible] IntKind.wrap Ah kk and or
end Go.Pw
end
