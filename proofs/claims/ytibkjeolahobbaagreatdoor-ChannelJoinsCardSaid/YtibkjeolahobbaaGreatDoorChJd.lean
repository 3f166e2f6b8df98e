/- A part of the proof. -/
import Derived.Test.YtibkjeolahobbaaGreatDoorPgChJa
import Derived.Test.YtibkjeolahobbaaGreatDoorPgChrBt
set_option linter.all false
open Go Go.Pw
namespace Go.Pw
def HM (c:AX) (i s:Nat):Nat:=(jN (qO c.seed i) (s:Int)).toNat
theorem Y0 (c:AX) (i s:Nat):((HM c i s:Nat):Int)=jN (qO c.seed i) (s:Int):=by unfold HM;exact Int.toNat_of_nonneg (T7 _ _).1
theorem Hq (c:AX) (i s:Nat):HM c i s<16:=by have:=T7 (qO c.seed i) (s:Int);unfold HM;omega
theorem FB (c:AX) (i:Nat) {s:Nat}(h:s<16):HM c i (HM c i s)=s:=by
 have h1:=Y0 c i (HM c i s)
 rw[Y0 c i s,ZV _ (by omega)] at h1
 omega
def rY:List D:=[.int .i64 0,.int .i64 0,.int .i64 0,.int .i64 0,.int .i64 0,.int .i64 0,.int .i64 0,.int .i64 0,.int .i64 0,.int .i64 0,.int .i64 0,.int .i64 0,.int .i64 0,.int .i64 0,.int .i64 0,.int .i64 0]
def fX (n i:Nat):List Nat:=(List.range n).map fun j=>if j<i then n+j else j
def gR (n i:Nat):List (Bool×List D):=List.replicate n (true,[])++List.replicate i (false,rY)
def vR (n:Nat) (f:Nat->Nat->Nat):List (Bool×List D):=List.replicate n (true,[])++(List.range n).map fun i=>(false,Aa (Fe (f i)))
def vX (n:Nat):List Nat:=(List.range n).map fun j=>n+j
def vL (n:Nat) (f:Nat->Nat->Nat):List D:=(List.range n).map fun i=>.list false (Aa (Fe (f i)))
theorem UY (n i:Nat):(fX n i).length=n:=by simp[fX]
theorem r7 (n:Nat):List.range n=fX n 0:=by simp[fX]
theorem p0 {n i:Nat}(h:i<n):(fX n i).set i (n+i)=fX n (i+1):=by
 apply List.ext_getElem?
 intro j
 rw[List.getElem?_set,UY]
 by_cases e:i=j
 ·subst e;rw[if_pos rfl,if_pos h];simp[fX,h]
 ·rw[if_neg e]
  by_cases hj:j<n
  ·simp only[fX,List.getElem?_map,List.getElem?_range hj,Option.map_some]
   by_cases h1:j<i
   ·rw[if_pos h1,if_pos (by omega)]
   ·rw[if_neg h1,if_neg (by omega)]
  ·rw[List.getElem?_eq_none (by rw[UY];omega),List.getElem?_eq_none (by rw[UY];omega)]
theorem p4 (n:Nat):fX n n=vX n:=by
 unfold fX vX
 refine List.map_congr_left fun j hj=>?_
 rw[List.mem_range] at hj
 rw[if_pos hj]
theorem po (n i:Nat):(gR n i).length=n+i:=by simp[gR]
theorem rz (n:Nat):List.replicate n (true,([]:List D))=gR n 0:=by simp[gR]
theorem lN (n i:Nat):gR n i++[(false,rY)]=gR n (i+1):=by unfold gR;rw[List.append_assoc,←List.replicate_succ']
theorem pp (n:Nat):gR n n=vR n fun _ _=>0:=by
 unfold gR vR
 rw[show (fun i=>(false,Aa (Fe ((fun _ _=>0:Nat->Nat->Nat) i))))=fun _:Nat=>(false,rY) from rfl,List.map_const',List.length_range]
theorem nx (n:Nat):(vX n).length=n:=by simp[vX]
theorem ny {n i:Nat}(h:i<n):(vX n)[i]?=some (n+i):=by simp[vX,h]
theorem Xf (n:Nat) (f:Nat->Nat->Nat):(vR n f).length=n+n:=by simp[vR]
theorem Qe {n i:Nat}(f:Nat->Nat->Nat) (h:i<n):(vR n f)[n+i]?=some (false,Aa (Fe (f i))):=by
 unfold vR
 rw[List.getElem?_append_right (by simp)]
 simp[h]
theorem n9 (n:Nat) (f:Nat->Nat->Nat):(vL n f).length=n:=by simp[vL]
theorem n_ {n i:Nat}(f:Nat->Nat->Nat) (h:i<n):(vL n f)[i]?=some (.list false (Aa (Fe (f i)))):=by simp[vL,h]
theorem n8 (n:Nat) (f:Nat->Nat->Nat):Gw (vX n) (vR n f)=vL n f:=by
 unfold Gw vL vX
 rw[List.map_map]
 refine List.map_congr_left fun i hi=>?_
 rw[List.mem_range] at hi
 show D.list ((vR n f)[n+i]?.getD (false,[])).1 ((vR n f)[n+i]?.getD (false,[])).2=_
 rw[Qe f hi];rfl
theorem M7 {n:Nat}{f g:Nat->Nat->Nat}(h:∀i,i<n->∀s,s<16->f i s=g i s):vR n f=vR n g:=by
 unfold vR
 congr 1
 refine List.map_congr_left fun i hi=>?_
 rw[List.mem_range] at hi
 have:Fe (f i)=Fe (g i):=by
  unfold Fe
  refine List.map_congr_left fun s hs=>?_
  rw[List.mem_range] at hs
  rw[h i hi s hs]
 rw[this]
theorem nz {n:Nat}{f f':Nat->Nat->Nat}{i s:Nat}(hi:i<n) (hs:s<16) (h1:f' i s=f i s+1) (h2:∀j t,t<16->¬(j=i/\t=s)->f' j t=f j t) :
  (vR n f).set (n+i) (false,Aa ((Fe (f i)).set s (((f i s:Nat):Int)+1)))=vR n f':=by
 have hv:(Fe (f i)).set s (((f i s:Nat):Int)+1)=Fe (f' i):=by
  apply List.ext_getElem?
  intro t
  rw[List.getElem?_set,Fq]
  by_cases e:s=t
  ·subst e;rw[if_pos rfl,if_pos hs,Dk _ hs,h1];rfl
  ·rw[if_neg e]
   by_cases ht:t<16
   ·rw[Dk _ ht,Dk _ ht,h2 i t ht fun hh=>e hh.2.symm]
   ·rw[List.getElem?_eq_none (by rw[Fq];omega),List.getElem?_eq_none (by rw[Fq];omega)]
 rw[hv]
 apply List.ext_getElem?
 intro j
 rw[List.getElem?_set,Xf]
 by_cases e:n+i=j
 ·subst e
  rw[if_pos rfl,if_pos (by omega),Qe _ hi]
 ·rw[if_neg e]
  by_cases hj:j<n
  ·unfold vR
   rw[List.getElem?_append_left (by simpa using hj),List.getElem?_append_left (by simpa using hj)]
  ·obtain⟨m,rfl⟩:∃m,j=n+m:=⟨j-n,by omega⟩
   by_cases hm:m<n
   ·rw[Qe _ hm,Qe _ hm]
    have:Fe (f m)=Fe (f' m):=by
     unfold Fe
     refine List.map_congr_left fun t ht=>?_
     rw[List.mem_range] at ht
     rw[h2 m t ht (by omega)]
    rw[this]
   ·rw[List.getElem?_eq_none (by rw[Xf];omega),List.getElem?_eq_none (by rw[Xf];omega)]
def dT (c:AX) (rs:List (List Int)) (k:Nat):Nat->Nat->Nat:=fun i x=>Qc c rs k i (HM c i x)
def SX (c:AX) (rs:List (List Int)) (k j:Nat):Nat->Nat->Nat:=fun i x=>LM c rs k j i (HM c i x)
theorem qh (c:AX) (rs:List (List Int)) (n:Nat):vR n (fun _ _=>0)=vR n (dT c rs 0):=M7 fun i _ s _=>rfl
theorem nK (c:AX) (rs:List (List Int)) (k n:Nat):vR n (SX c rs k 0)=vR n (dT c rs k):=M7 fun i _ s _=>by unfold SX dT LM;rw[if_neg (by omega),Nat.add_zero]
theorem ZZ (c:AX) (rs:List (List Int)) (k n m:Nat) (h:∀i,m<=i->i<n->DQ c (rs[k]?.getD []) i=none):vR n (SX c rs k m)=vR n (dT c rs (k+1)):=M7 fun i hi s _=>by
 show LM c rs k m i (HM c i s)=Qc c rs k i (HM c i s)+if DQ c (rs[k]?.getD []) i=some (HM c i s) then 1 else 0
 unfold LM
 by_cases hm:i<m
 ·by_cases hs:DQ c (rs[k]?.getD []) i=some (HM c i s)
  ·rw[if_pos ⟨hm,hs⟩,if_pos hs]
  ·rw[if_neg fun hh=>hs hh.2,if_neg hs]
 ·rw[if_neg fun hh=>hm hh.1,if_neg (by rw[h i (by omega) hi];exact fun e=>by cases e)]
theorem eV {c:AX}{rs:List (List Int)}{k n:Nat}(h:∀i,i<n->DQ c (rs[k]?.getD []) i=none):vR n (dT c rs (k+1))=vR n (dT c rs k):=by
 rw[←ZZ c rs k n 0 fun i _ hi=>h i hi,nK]
theorem ou {c:AX}{rs:List (List Int)}{k j n:Nat}(h:DQ c (rs[k]?.getD []) j=none):vR n (SX c rs k (j+1))=vR n (SX c rs k j):=M7 fun i hi s _=>by
 unfold SX LM
 by_cases e:i=j
 ·subst e
  have n1:¬(i<i+1/\DQ c (rs[k]?.getD []) i=some (HM c i s)):=fun hh=>by rw[h] at hh;cases hh.2
  have n2:¬(i<i/\DQ c (rs[k]?.getD []) i=some (HM c i s)):=fun hh=>by omega
  rw[if_neg n1,if_neg n2]
 ·by_cases hs:i<j/\DQ c (rs[k]?.getD []) i=some (HM c i s)
  ·rw[if_pos ⟨by omega,hs.2⟩,if_pos hs]
  ·rw[if_neg fun hh=>hs ⟨by omega,hh.2⟩,if_neg hs]
theorem kF {c:AX}{rs:List (List Int)}{k j n x:Nat}(hj:j<n) (h:DQ c (rs[k]?.getD []) j=some x) :
  (vR n (SX c rs k j)).set (n+j) (false,Aa ((Fe (SX c rs k j j)).set (HM c j x) (((SX c rs k j j (HM c j x):Nat):Int)+1)))=vR n (SX c rs k (j+1)):=by
 have hx:=Tu h
 refine nz hj (Hq c j x) ?_ fun i t ht hne=>?_
 ·unfold SX
  rw[FB c j hx,M6]
  unfold LM;rw[if_pos ⟨by omega,h⟩]
 ·unfold SX LM
  by_cases e:i=j
  ·subst e
   have n1:¬(i<i+1/\DQ c (rs[k]?.getD []) i=some (HM c i t)):=fun hh=>by
    rw[h] at hh
    refine hne ⟨rfl,?_⟩
    rw[Option.some.inj hh.2,FB c i ht]
   rw[if_neg n1,if_neg fun hh=>by omega]
  ·by_cases hs:i<j/\DQ c (rs[k]?.getD []) i=some (HM c i t)
   ·rw[if_pos ⟨by omega,hs.2⟩,if_pos hs]
   ·rw[if_neg fun hh=>hs ⟨by omega,hh.2⟩,if_neg hs]
theorem ow (c:AX) (rs:List (List Int)) (k j x:Nat):SX c rs k j j x<=k:=by unfold SX;rw[M6];exact Xd ..
def TY (g:Nat->Nat):Nat->Nat
 |0=>0
 |s+1=>if g (TY g s)<g s then s else TY g s
def SW (g:Nat->Nat) (b:Nat):Nat->Nat
 |0=>0
 |s+1=>SW g b s+if g s=g b then 1 else 0
theorem io (g:Nat->Nat):∀n,TY g (n+1)<n+1
 |0=>by unfold TY;split<;>simp[TY]
 |n+1=>by
  have:=io g n
  rw[TY];split<;>omega
theorem ZA (g:Nat->Nat) {n:Nat}(h:n<=16):TY g n<16:=by
 cases n with
 |zero=>simp[TY]
 |succ n=>have:=io g n;omega
theorem Y' (g:Nat->Nat):∀n t,t<n->g t<=g (TY g n)
 |0,t,h=>by omega
 |n+1,t,h=>by
  have ih:=Y' g n
  rw[TY]
  by_cases e:t=n
  ·subst e;split<;>omega
  ·have:=ih t (by omega)
   split<;>omega
theorem dt (g:Nat->Nat) (b:Nat):∀n,SW g b n<=n
 |0=>Nat.le_refl _
 |n+1=>by have:=dt g b n;unfold SW;split<;>omega
theorem Qm (g:Nat->Nat) (b:Nat):∀n m,n<=m->SW g b n<=SW g b m
 |n,0,h=>by
    have:n=0:=by omega
    subst this;exact Nat.le_refl _
 |n,m+1,h=>by
  by_cases e:n=m+1
  ·subst e;exact Nat.le_refl _
  ·have:=Qm g b n m (by omega)
   show _<=SW g b m+_;omega
theorem ZM {g:Nat->Nat}{b s t n:Nat}(h:s<t) (ht:t<n) (hs:g s=g b) (hgt:g t=g b):1<SW g b n:=by
 have h1:1<=SW g b (s+1):=by show 1<=SW g b s+_;rw[if_pos hs];omega
 have h2:=Qm g b (s+1) t (by omega)
 have h3:SW g b (t+1)=SW g b t+1:=by show SW g b t+_=_;rw[if_pos hgt]
 have h4:=Qm g b (t+1) n (by omega)
 omega
theorem dr {g:Nat->Nat}{b:Nat}:∀n,b<n->1<SW g b n->∃t,t<n/\t≠b/\g t=g b:=by
 intro n hb h
 refine Classical.byContradiction fun hno=>?_
 have hall:∀t,t<n->t≠b->g t≠g b:=fun t ht hne he=>hno ⟨t,ht,hne,he⟩
 have key:∀m,m<=n->SW g b m<=if b<m then 1 else 0:=by
  intro m
  induction m with
  |zero=>intro _;simp[SW]
  |succ m ih =>
   intro hm
   have i1:=ih (by omega)
   show SW g b m+(if g m=g b then 1 else 0)<=_
   by_cases e:m=b
   ·subst e;rw[if_neg (by omega)] at i1;rw[if_pos rfl,if_pos (by omega)];omega
   ·rw[if_neg (hall m (by omega) e)]
    by_cases hl:b<m
    ·rw[if_pos hl] at i1;rw[if_pos (by omega)];omega
    ·rw[if_neg hl] at i1;omega
 have:=key n (Nat.le_refl _)
 rw[if_pos hb] at this
 omega
theorem jR {c:AX}{i:Nat}{g:Nat->Nat}(h:1<SW (fun x=>g (HM c i x)) (TY (fun x=>g (HM c i x)) 16) 16):MS g=none:=by
 obtain⟨f,hf⟩:∃f,(fun x=>g (HM c i x))=f:=⟨_,rfl⟩
 rw[hf] at h
 have hb:=ZA f (Nat.le_refl 16)
 obtain⟨t,t1,t2,t3⟩:=dr 16 hb h
 have hge:=fun t (ht:t<16)=>Y' f 16 t ht
 obtain⟨b,hbe⟩:∃b,TY f 16=b:=⟨_,rfl⟩
 rw[hbe] at hb t2 t3 hge
 have hfx:∀s,s<16->g s=f (HM c i s):=fun s hs=>by rw[←hf];show _=g (HM c i (HM c i s));rw[FB c i hs]
 refine Xa fun s hs h0=>?_
 have h1:=hge (HM c i s) (Hq ..)
 by_cases e:HM c i s=b
 ·refine⟨HM c i t,Hq ..,fun e2=>t2 ?_,?_⟩
  ·rw[←e,←e2,FB c i t1]
  ·rw[hfx s hs,e,hfx _ (Hq ..),FB c i t1,t3];exact Nat.le_refl _
 ·refine⟨HM c i b,Hq ..,fun e2=>e ?_,?_⟩
  ·rw[←e2,FB c i hb]
  ·rw[hfx s hs,hfx _ (Hq ..),FB c i hb];exact h1
theorem jS {c:AX}{i:Nat}{g:Nat->Nat}(h:¬1<SW (fun x=>g (HM c i x)) (TY (fun x=>g (HM c i x)) 16) 16):MS g=some (HM c i (TY (fun x=>g (HM c i x)) 16)):=by
 obtain⟨f,hf⟩:∃f,(fun x=>g (HM c i x))=f:=⟨_,rfl⟩
 rw[hf] at h ⊢
 have hb:=ZA f (Nat.le_refl 16)
 have hge:=fun t (ht:t<16)=>Y' f 16 t ht
 obtain⟨b,hbe⟩:∃b,TY f 16=b:=⟨_,rfl⟩
 rw[hbe] at hb h hge ⊢
 have hfx:∀s,s<16->g s=f (HM c i s):=fun s hs=>by rw[←hf];show _=g (HM c i (HM c i s));rw[FB c i hs]
 have hlt:∀t,t<16->t≠b->f t<f b:=fun t ht hne=>by
  have h1:=hge t ht
  rcases Nat.lt_or_ge (f t) (f b) with h2|h2
  ·exact h2
  ·exfalso
   have e:f t=f b:=by omega
   rcases Nat.lt_or_gt_of_ne hne with h3|h3
   ·exact h (ZM h3 hb e rfl)
   ·exact h (ZM h3 ht rfl e)
 have hgb:g (HM c i b)=f b:=by rw[hfx _ (Hq ..),FB c i hb]
 refine df (Hq ..) ?_ fun t ht=>?_
 ·rw[hgb]
  by_cases e:b=0
  ·have:=hlt 1 (by omega) (by omega);omega
  ·have:=hlt 0 (by omega) (by omega);omega
 ·by_cases e:HM c i t=b
  ·left;rw[←e,FB c i ht]
  ·right;rw[hgb,hfx t ht];exact hlt _ (Hq ..) e
theorem qC (ms:List Nat) {i:Nat}:∀X:List Int,i∈ms->i<X.length->(SY X ms)[i]?=some 0:=by
 induction ms with
 |nil=>intro X h;cases h
 |cons m ms ih =>
  intro X h hi
  show (SY (X.set m 0) ms)[i]?=_
  by_cases h1:i∈ms
  ·exact ih _ h1 (by rw[List.length_set];exact hi)
  ·rw[Ui ms h1]
   rcases List.mem_cons.1 h with h2|h2
   ·subst h2;rw[List.getElem?_set_self hi]
   ·exact absurd h2 h1
theorem QN {sy:List (Option Nat)}{i:Nat}(h:i<sy.length):i∈J_ sy↔sy[i]?.getD none=none:=by
 unfold J_
 rw[List.mem_filter,List.mem_range]
 constructor
 ·rintro⟨_,h2⟩
  cases he:sy[i]?.getD none with
  |none=>rfl
  |some s=>rw[he] at h2;cases h2
 ·intro h2;exact⟨h,by rw[h2];rfl⟩
def VD (c:AX) (sy:List (Option Nat)):List Int:=SY (Bd c.seed (GV sy)) (J_ sy)
theorem U1 (c:AX) (sy:List (Option Nat)):(VD c sy).length=sy.length:=by unfold VD;rw[Uj,Bm,Cw]
theorem iw {c:AX}{sy:List (Option Nat)}{i:Nat}(h:i<sy.length) (hn:sy[i]?.getD none=none):(VD c sy)[i]?.getD 0=0:=by
 unfold VD
 rw[qC _ _ ((QN h).2 hn) (by rw[Bm,Cw];exact h),Option.getD_some]
theorem XD {c:AX}{sy:List (Option Nat)}{i s:Nat}(h:i<sy.length) (hs:sy[i]?.getD none=some s):(VD c sy)[i]?.getD 0=((HM c i s:Nat):Int):=by
 unfold VD
 rw[Ui _ (fun hh=>by rw[(QN h).1 hh] at hs;cases hs),NG _ _ _ (by rw[Cw];exact h),Y0]
 have:(GV sy)[i]?.getD 0=(s:Int):=by
  rw[List.getElem?_eq_getElem h,Option.getD_some] at hs
  simp[GV,h,hs]
 rw[this]
theorem pQ {ms:List Nat}{i:Nat}:decide (((i:Nat):Int)∈ni ms)=decide (i∈ms):=by
 congr 1
 unfold ni
 rw[eq_iff_iff,List.mem_map]
 constructor
 ·rintro⟨j,hj,he⟩
  have:j=i:=by omega
  subst this;exact hj
 ·intro h;exact⟨i,h,rfl⟩
theorem iu {c:AX}{sy:List (Option Nat)}{i:Nat}(h:i<sy.length):(VD c sy).take i++[(VD c sy)[i]?.getD 0]=(VD c sy).take (i+1):=by
 rw[List.take_add_one,List.getElem?_eq_getElem (by rw[U1];exact h)]
 simp
theorem pd (c:AX) (rs:List (List Int)) {i:Nat}(h:i<c.syms):(VB c rs)[i]?.getD none=MS (Qc c rs rs.length i):=by simp[VB,h]
end Go.Pw
