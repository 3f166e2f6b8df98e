/- A part of the proof. -/
import Derived.Test.YtibkjeolahobbaaGreatDoorPgChrF
set_option linter.all false
open Go Go.Pw Go.Proofs
namespace Go.Pw
set_option maxRecDepth 100000
set_option maxHeartbeats 3200000
section
theorem Ut {A B:List F}(hl:A.length=B.length) (i:Nat) (h:i<A.length):(A.take i++B.drop i)[i]?.getD 0=B[i]?.getD 0:=by
 rw[List.getElem?_append_right (by simp;omega)]
 simp only[List.length_take,List.getElem?_drop]
 congr 2;omega
theorem Ur {A B:List F}(hl:A.length=B.length) (i:Nat) (h:i<A.length):(A.take i++B.drop i).set i (A[i]?.getD 0)=A.take (i+1)++B.drop (i+1):=by
 have h1:(A.take i).length=i:=by simp;omega
 have h2:A.take (i+1)=A.take i++[A[i]]:=by rw[List.take_succ,List.getElem?_eq_getElem h];rfl
 rw[List.set_append_right _ _ (by omega),h1,Nat.sub_self,List.drop_eq_getElem_cons (by omega),List.set_cons_zero,h2,List.getElem?_eq_getElem h,List.append_assoc]
 rfl
theorem Us {A B:List F}(hl:A.length=B.length) (i:Nat) (h:i<=A.length):(A.take i++B.drop i).length=A.length:=by simp;omega
theorem Uu {A B:List F}(hl:A.length=B.length):A.take A.length++B.drop A.length=A:=by rw[List.take_length,List.drop_eq_nil_of_le (by omega),List.append_nil]
theorem g0 (r o:List F) (b:F) (i:Nat) (h:r.length=o.length):(Gj r o b)[i]?.getD 0=fa (r[i]?.getD 0) (fm (o[i]?.getD 0) b):=OB r o b i h
theorem iu {R:List (List F)}{a:Nat}{r:List F}(h:a<R.length):(R.set a r)[a]?.getD []=r:=by simp[h]
theorem mO {R:List (List F)}{a b:Nat}{r:List F}(h:a≠b):(R.set a r)[b]?.getD []=R[b]?.getD []:=by rw[List.getElem?_set_ne h]
theorem iq {R:List (List F)}{a:Nat}{r r':List F}:(R.set a r).set a r'=R.set a r':=List.set_set ..
theorem dL {R:List (List F)}{a:Nat}(h:a<R.length):R.set a (R[a]?.getD [])=R:=by
 rw[List.getElem?_eq_getElem h];simp
attribute [local congr] Bf A9 A_ Aq Bg Ax Az Ay Ap Aj Ad AZ Au Ae Av BK BO BM BN BL BP BE Ah Aw Ai BC BW Ag BI BJ BD BF BH BG BA BB A8 Bj A' Ar Af
attribute [local irreducible] IntKind.wrap A4 Option.getD and or
theorem lJ (e1 e2:Nat) (nl:Bool) (ix:List Nat) (R:List (List F)) (a b:Nat) (s:F) (hab:a≠b) (ha:a<R.length) (hb:b<R.length) (hl:(R[a]?.getD []).length=(R[b]?.getD []).length) (hs:(R[b]?.getD []).length<=1000) :
  IJ E0 F4 [(900000,0,.mat e1 e2 nl ix (EY R))] [.mref (.row a) 900000 0,.mref (.row b) 900000 0,.d (.int .u8 (s.val:Int))]
   [(900000,0,.mat e1 e2 nl ix (EY (R.set a (Gj (R[a]?.getD []) (R[b]?.getD []) s))))] (.tup []):=by
 obtain⟨ra,hra⟩:∃ra,R[a]?.getD []=ra:=⟨_,rfl⟩
 obtain⟨rb,hrb⟩:∃rb,R[b]?.getD []=rb:=⟨_,rfl⟩
 rw[hra,hrb] at hl ⊢
 rw[hrb] at hs
 have hA:=OE ra rb s hl
 have hRR:R.set a ra=R:=by rw[←hra];exact dL ha
 have hl2:(R.set a ra).length=R.length:=by simp
 suffices hsu:IJ E0 F4 [(900000,0,.mat e1 e2 nl ix (EY (R.set a ra)))] [.mref (.row a) 900000 0,.mref (.row b) 900000 0,.d (.int .u8 (s.val:Int))]
   [(900000,0,.mat e1 e2 nl ix (EY (R.set a (Gj ra rb s))))] (.tup []) by rwa [hRR] at hsu
 have hB0:(R.set a ra)[b]?.getD []=rb:=by rw[mO hab];exact hrb
 refine Dg Lt An (by simp) (by simp[Pz,CS,EW,Ak.isHist]) (by simp[E_]) fun hwf hwo=>?_
 rw[ER];unfold HN
 (try (simp -implicitDefEqProofs only[go_sem,hB0,hb,List.length_set]));repeat' first|(with_reducible first|exact tI|refine aI ?_ ?_|intro _)|((first|with_reducible refine AN ?_ ?_<;>intro _)<;>try (simp -implicitDefEqProofs only[go_sem,hB0,hb,List.length_set]))|simp (disch:=omega) only[Al]|((with_reducible refine Ab ?_);refine⟨(_,_),rfl,?_,?_⟩)
 refine AY (α:=Nat×(List F)) (l0:=?l1) (m0:=?m1) (fun x=>[(10,.d (.int .i64 (x.1:Int)))]) (fun x=>[(900000,.mat e1 e2 nl ix (EY (R.set a x.2)))]) (fun x=>x.1<=rb.length/\x.2=(Gj ra rb s).take x.1++ra.drop x.1) (fun x=>rb.length-x.1) (0,ra) ?h01 ?he1 ?he21 ?hI1 ?step1
 case h01=>(simp -implicitDefEqProofs only[go_sem,List.length_set];rfl)
 case he1=>rfl
 case he21=>rfl
 case' step1=>(rintro⟨i,r⟩ hI;try dsimp only at hI)
 case' hI1=>try dsimp only
 ·exact⟨by omega,by simp⟩
 ·obtain⟨h1,h2⟩:=hI
  have hr:r.length=rb.length:=by rw[h2,Us hA i (by omega)];omega
  by_cases h:i<rb.length
  ·have h':(i:Int)<(rb.length:Int):=by omega
   have hw:IntKind.i64.wrap ((i:Int)+1)=((i+1:Nat):Int):=by rw[Aa _ (by omega)];omega
   have c1:=Dd (rb[i]?.getD 0) s
   have k1:r[i]?.getD 0=ra[i]?.getD 0:=by rw[h2];exact Ut hA i (by omega)
   have k2:r.set i (fa (ra[i]?.getD 0) (fm (rb[i]?.getD 0) s))=(Gj ra rb s).take (i+1)++ra.drop (i+1):=by
    rw[h2,←g0 ra rb s i hl];exact Ur hA i (by omega)
   have hB:(R.set a r)[b]?.getD []=rb:=by rw[mO hab];exact hrb
   (try (simp -implicitDefEqProofs only[go_sem,h',hw,k1,iu ha,hB,iq,List.length_set]));repeat' first|(with_reducible first|exact tI|refine aI ?_ ?_|intro _)|((first|with_reducible refine AN ?_ ?_<;>intro _|(with_reducible refine isCall ?_);first|refine AE c1 ?_)<;>try (simp -implicitDefEqProofs only[go_sem,h',hw,k1,iu ha,hB,iq,List.length_set]))|simp (disch:=omega) only[Al]|((with_reducible refine Ab ?_);refine⟨(_,_),rfl,?_,?_⟩)
   all_goals first|omega|(simp;done)|(simp;omega)|skip
   all_goals first|exact k2|skip
  ·have h':¬(i:Int)<(rb.length:Int):=by omega
   have hk:i=rb.length:=by omega
   have hf:r=Gj ra rb s:=by
    rw[h2,hk]
    have:=Uu hA
    rwa [hA,hl] at this
   subst hf
   have hB:(R.set a (Gj ra rb s))[b]?.getD []=rb:=by rw[mO hab];exact hrb
   (try (simp -implicitDefEqProofs only[go_sem,h',hB,List.length_set]));repeat' first|(with_reducible first|exact tI|refine aI ?_ ?_|intro _)|((first|with_reducible refine AN ?_ ?_<;>intro _)<;>try (simp -implicitDefEqProofs only[go_sem,h',hB,List.length_set]))|simp (disch:=omega) only[Al]|((with_reducible refine Ab ?_);refine⟨(_,_),rfl,?_,?_⟩)
   all_goals first|omega|(simp;done)|(simp;omega)|skip
theorem UR (nl nb na:Bool) (M:List (List F)) (at_:List Nat) (m:Nat) (hm:m=at_.length) (hl:M.length<=1000) (hs:∀i,i<M.length->m<(M[i]?.getD []).length) :
  B' E0 CO [.list nl (M.map fun r=>.list nb (us r)),.fn DD [.ptr [.list na (Am (ni at_))]]] (.list M.isEmpty (us (M.map fun r=>r[m]?.getD 0))):=by
 subst hm
 have c0:∀r:List F,at_.length<r.length->B' E0 DD [.list nb (us r),.ptr [.list na (Am (ni at_))]] (.int .u8 ((r[at_.length]?.getD 0).val:Int)):=by
  intro r hr
  refine AO IW An (by simp) fun hwf=>?_
  rw[AW];unfold FX
  (try (simp -implicitDefEqProofs only[go_sem]));repeat' first|(with_reducible first|exact tI|refine aI ?_ ?_|intro _)|((first|with_reducible refine AN ?_ ?_<;>intro _)<;>try (simp -implicitDefEqProofs only[go_sem]))|simp (disch:=omega) only[Al]|((with_reducible refine BS ?_);refine⟨(_,_,_),rfl,?_,?_⟩)
  all_goals first|omega|(simp;done)|(simp;omega)|skip
 refine AO Dk An (by simp) fun hwf=>?_
 rw[AW];unfold CD
 (try (simp -implicitDefEqProofs only[go_sem]));repeat' first|(with_reducible first|exact tI|refine aI ?_ ?_|intro _)|((first|with_reducible refine AN ?_ ?_<;>intro _)<;>try (simp -implicitDefEqProofs only[go_sem]))|simp (disch:=omega) only[Al]|((with_reducible refine BS ?_);refine⟨(_,_,_),rfl,?_,?_⟩)
 refine AY (α:=Nat×Bool×(List F)) (l0:=?l2) (m0:=?m2) (fun x=>[(10,.d (.int .i64 (x.1:Int)))]) (fun x=>[(19,.row 135 1 x.2.1 (us x.2.2))]) (fun x=>x.1<=M.length/\x.2.2=(M.take x.1).map (fun r=>r[at_.length]?.getD 0)/\x.2.1=x.2.2.isEmpty) (fun x=>M.length-x.1) (0,true,[]) ?h02 ?he2 ?he22 ?hI2 ?step2
 case h02=>(simp -implicitDefEqProofs only[go_sem];rfl)
 case he2=>rfl
 case he22=>rfl
 case' step2=>(rintro⟨i,b,l⟩ hI;try dsimp only at hI)
 case' hI2=>try dsimp only
 ·exact⟨by omega,rfl,rfl⟩
 ·obtain⟨h1,h2,h3⟩:=hI
  subst h3
  by_cases h:i<M.length
  ·have h':(i:Int)<(M.length:Int):=by omega
   have hw:IntKind.i64.wrap ((i:Int)+1)=((i+1:Nat):Int):=by rw[Aa _ (by omega)];omega
   have c1:=c0 (M[i]?.getD default) (hs i h)
   have hk:l++[(M[i]?.getD default)[at_.length]?.getD 0]=(M.take (i+1)).map (fun r=>r[at_.length]?.getD 0):=by
    rw[h2,List.take_succ,List.getElem?_eq_getElem h,List.map_append,Option.getD_some];rfl
   have hl3:l.length<=1000:=by rw[h2];simp;omega
   (try (simp -implicitDefEqProofs only[go_sem,h',hw,OA,Mf]));repeat' first|(with_reducible first|exact tI|refine aI ?_ ?_|intro _)|((first|with_reducible refine AN ?_ ?_<;>intro _|(with_reducible refine isCall ?_);first|refine AE c1 ?_)<;>try (simp -implicitDefEqProofs only[go_sem,h',hw,OA,Mf]))|simp (disch:=omega) only[Al]|((with_reducible refine BS ?_);refine⟨(_,_,_),rfl,?_,?_⟩)
   all_goals first|omega|(simp;done)|(simp;omega)|skip
   all_goals first|exact hk|(exact(WI _ _).symm)|(simp at *;done)|(simp at *;omega)|skip
  ·have h':¬(i:Int)<(M.length:Int):=by omega
   have hk:i=M.length:=by omega
   subst hk
   rw[List.take_length] at h2
   have he:l.isEmpty=M.isEmpty:=by rw[h2];cases M<;>rfl
   rw[←h2,←he]
   (try (simp -implicitDefEqProofs only[go_sem,h']));repeat' first|(with_reducible first|exact tI|refine aI ?_ ?_|intro _)|((first|with_reducible refine AN ?_ ?_<;>intro _)<;>try (simp -implicitDefEqProofs only[go_sem,h']))|simp (disch:=omega) only[Al]|((with_reducible refine BS ?_);refine⟨(_,_,_),rfl,?_,?_⟩)
   all_goals first|omega|(simp;done)|(simp;omega)|skip
   all_goals first|rfl|skip
end
def lm (ix:List Nat) (R:List (List F)):List (List F):=ix.map fun j=>R[j]?.getD []
structure PQ (n:Nat) (ix:List Nat) (R:List (List F)):Prop where
 li:ix.length=n
 lr:R.length=n
 nd:ix.Nodup
 lt:∀j,j∈ix->j<n
def GT (ix:List Nat) (i:Nat):Nat:=ix[i]?.getD 0
theorem K0 {l:List Nat}{i:Nat}(h:i<l.length):GT l i=l[i]:=by unfold GT;rw[List.getElem?_eq_getElem h];rfl
theorem j_ {ix:List Nat}{i:Nat}(h:i<ix.length):GT ix i∈ix:=by unfold GT;rw[List.getElem?_eq_getElem h];exact List.getElem_mem h
theorem PQ.ix_lt {n ix R} (h:PQ n ix R) {i:Nat}(hi:i<n):GT ix i<n:=h.lt _ (j_ (by rw[h.li];exact hi))
theorem PQ.ix_inj {n ix R} (h:PQ n ix R) {i j:Nat}(hi:i<n) (hj:j<n) (he:GT ix i=GT ix j):i=j:=by
 have h1:=h.li
 unfold GT at he
 rw[List.getElem?_eq_getElem (by omega),List.getElem?_eq_getElem (by omega)] at he
 exact(List.getElem_inj h.nd).1 he
theorem IM (ix R):(lm ix R).length=ix.length:=by simp[lm]
theorem GR {n ix R} (h:PQ n ix R) {i:Nat}(hi:i<n):Bk (lm ix R) i=R[GT ix i]?.getD []:=by
 have h1:=h.li
 unfold Bk lm GT
 rw[List.getElem?_map,List.getElem?_eq_getElem (by omega)];rfl
theorem PQ.set {n ix R} (h:PQ n ix R) (a:Nat) (r:List F):PQ n ix (R.set a r):=⟨h.li,by simpa using h.lr,h.nd,h.lt⟩
theorem en {n ix R} (h:PQ n ix R) {i:Nat}(hi:i<n) (r:List F):lm ix (R.set (GT ix i) r)=(lm ix R).set i r:=by
 have h1:=h.li
 apply List.ext_getElem?
 intro j
 by_cases hj:j<n
 ·have e1:(lm ix (R.set (GT ix i) r))[j]?=some (Bk (lm ix (R.set (GT ix i) r)) j):=by
   unfold Bk;rw[List.getElem?_eq_getElem (by rw[IM];omega)];rfl
  rw[e1,GR (h.set _ _) hj]
  by_cases hij:i=j
  ·subst hij
   rw[List.getElem?_set_self (by rw[h.lr];exact h.ix_lt hi),List.getElem?_set_self (by rw[IM];omega)];rfl
  ·rw[List.getElem?_set_ne (fun e=>hij (h.ix_inj hi hj e)),List.getElem?_set_ne hij]
   unfold lm
   rw[List.getElem?_map,List.getElem?_eq_getElem (l:=ix) (by omega)]
   show some _=some _
   unfold GT
   rw[List.getElem?_eq_getElem (l:=ix) (by omega)];rfl
 ·rw[List.getElem?_eq_none (by rw[IM];omega),List.getElem?_eq_none (by simp[IM];omega)]
theorem j9 {n ix R} (h:PQ n ix R) {k p:Nat}(hk:k<n) (hp:p<n):PQ n ((ix.set k (GT ix p)).set p (GT ix k)) R/\lm ((ix.set k (GT ix p)).set p (GT ix k)) R=swp (lm ix R) k p/\GT ((ix.set k (GT ix p)).set p (GT ix k)) k=GT ix p:=by
 have h1:=h.li
 have hget:∀j,j<n->GT ((ix.set k (GT ix p)).set p (GT ix k)) j=if j=p then GT ix k else if j=k then GT ix p else GT ix j:=fun j hj=>by
  rw[show GT ((ix.set k (GT ix p)).set p (GT ix k)) j=((ix.set k (GT ix p)).set p (GT ix k))[j]?.getD 0 from rfl]
  by_cases e1:j=p
  ·subst e1;rw[List.getElem?_set_self (by simp;omega),if_pos rfl];rfl
  ·rw[List.getElem?_set_ne fun e=>e1 e.symm,if_neg e1]
   by_cases e2:j=k
   ·subst e2;rw[List.getElem?_set_self (by omega),if_pos rfl];rfl
   ·rw[List.getElem?_set_ne fun e=>e2 e.symm,if_neg e2];rfl
 have hlen:((ix.set k (GT ix p)).set p (GT ix k)).length=n:=by simp[h1]
 have hP:PQ n ((ix.set k (GT ix p)).set p (GT ix k)) R:=by
  refine⟨hlen,h.lr,?_,fun j hj=>?_⟩
  ·refine List.pairwise_iff_getElem.2 fun i j hi hj hij he=>?_
   have e1:=hget i (by omega)
   have e2:=hget j (by omega)
   have he':GT ((ix.set k (GT ix p)).set p (GT ix k)) i=GT ((ix.set k (GT ix p)).set p (GT ix k)) j:=by
    rw[K0 hi,K0 hj];exact he
   rw[e1,e2] at he'
   have inj:∀{a b},a<n->b<n->GT ix a=GT ix b->a=b:=fun ha hb=>h.ix_inj ha hb
   have:i=j:=by
    by_cases c1:i=p<;>by_cases c2:j=p
    ·omega
    ·rw[if_pos c1,if_neg c2] at he'
     by_cases c3:j=k
     ·rw[if_pos c3] at he';have:=inj hk hp he';omega
     ·rw[if_neg c3] at he';have:=inj hk (by omega) he';omega
    ·rw[if_neg c1,if_pos c2] at he'
     by_cases c3:i=k
     ·rw[if_pos c3] at he';have:=inj hp hk he';omega
     ·rw[if_neg c3] at he';have:=inj (by omega) hk he';omega
    ·rw[if_neg c1,if_neg c2] at he'
     by_cases c3:i=k<;>by_cases c4:j=k
     ·omega
     ·rw[if_pos c3,if_neg c4] at he';have:=inj hp (by omega) he';omega
     ·rw[if_neg c3,if_pos c4] at he';have:=inj (by omega) hp he';omega
     ·rw[if_neg c3,if_neg c4] at he';exact inj (by omega) (by omega) he'
   omega
  ·obtain⟨i,hi,rfl⟩:=List.getElem_of_mem hj
   rw[←K0 hi,hget i (by omega)]
   split
   ·exact h.ix_lt hk
   ·split
    ·exact h.ix_lt hp
    ·exact h.ix_lt (by omega)
 refine⟨hP,?_,?_⟩
 ·apply List.ext_getElem
  ·simp[IM,swp,h1]
  ·intro j h2 h3
   have hj:j<n:=by rw[IM,hlen] at h2;exact h2
   have e1:=GR hP hj
   have e2:=Ej (lm ix R) k p j (by rw[IM];omega) (by rw[IM];omega)
   unfold Bk at e1
   rw[List.getElem?_eq_getElem h2] at e1
   rw[show Bk (swp (lm ix R) k p) j=(swp (lm ix R) k p)[j]?.getD [] from rfl,List.getElem?_eq_getElem h3] at e2
   have e1':(lm ((ix.set k (GT ix p)).set p (GT ix k)) R)[j]=R[GT ((ix.set k (GT ix p)).set p (GT ix k)) j]?.getD []:=e1
   have e2':(swp (lm ix R) k p)[j]=if j=p then Bk (lm ix R) k else if j=k then Bk (lm ix R) p else Bk (lm ix R) j:=e2
   rw[e1',e2',hget j hj]
   split
   ·rw[GR h hk]
   ·split
    ·rw[GR h hp]
    ·rw[GR h hj]
 ·rw[hget k hk]
  split
  ·rename_i e;subst e;rfl
  ·rw[if_pos rfl]
structure Ui (L P:Nat) (at_:List Nat) (s:List F) (ix:List Nat) (R:List (List F)) (k:Nat):Prop where
 pq:PQ P ix R
 shp:R3 (lm ix R) P (at_.length+1)
 red:bz (lm ix R) k
 sat:∀c v,v.length=at_.length->(R7 c (lm ix R) v↔R7 c (Ph L P at_ s) v)
theorem eo (R:List (List F)):lm (List.range R.length) R=R:=by
 apply List.ext_getElem
 ·simp[lm]
 ·intro i h1 h2
  simp[lm,h2]
theorem Ui.start {L P:Nat}{at_:List Nat}{s:List F}:Ui L P at_ s (List.range P) (Ph L P at_ s) 0:=by
 have hl:=(Nj L P at_ s).len
 have e:lm (List.range P) (Ph L P at_ s)=Ph L P at_ s:=by
  have:=eo (Ph L P at_ s)
  rwa [hl] at this
 refine⟨⟨by simp,hl,List.nodup_range,fun j hj=>by simpa using hj⟩,by rw[e];exact Nj L P at_ s,⟨fun i j hi hj=>by omega,fun j hj=>by omega⟩,fun c v hv=>by rw[e]⟩
theorem Ui.rlen {L P at_ s ix R k} (h:Ui L P at_ s ix R k) {i:Nat}(hi:i<P):(R[GT ix i]?.getD []).length=at_.length+1:=by
 have:=h.shp.row i hi
 rwa [GR h.pq hi] at this
theorem Ui.fail {L P at_ s ix R k} (h:Ui L P at_ s ix R k) (hL:L<=15) (hp:cF L at_) (hm:at_.length<=P) (hk:k<at_.length) (hz:∀i,k<=i->i<P->Di (lm ix R) i k=0):False:=by
 obtain⟨v,h1,h2,h3⟩:=da h.shp h.red hk hm hz
 have:=Vr hL hp hm h1 ((h.sat 0 v h1).1 h2) k
 rw[h3] at this
 exact absurd this (by decide)
theorem Ui.step {L P at_ s ix R k} (h:Ui L P at_ s ix R k) {p:Nat}(hk:k<P) (hkp:k<=p) (hp:p<P) (hnz:Di (lm ix R) p k≠0) {f:F->F->F}(hf:∀a,fm (Di (lm ix R) p k) (f a (Di (lm ix R) p k))=a)
  {ix':List Nat}{R':List (List F)}(hpq:PQ P ix' R') (hr:lm ix' R'=Bm f (swp (lm ix R) k p) k):Ui L P at_ s ix' R' (k+1)/\(∀j,j<k->Di (lm ix' R') j j=Di (lm ix R) j j):=by
 have s1:=h.shp.swp hk hp
 have r1:=h.red.swp h.shp hk hkp hp
 have e1:=ZS h.shp hk hp k
 refine⟨⟨hpq,by rw[hr];exact s1.red f hk,by rw[hr];exact r1.red f s1 hk (by rw[e1];exact hnz) (by rw[e1];exact hf),fun c v hv=>?_⟩,fun j hj=>?_⟩
 ·rw[hr,Zb f s1 hk,Za h.shp hk hp];exact h.sat c v hv
 ·rw[hr,Pi f s1 r1 hk j (by omega)]
  unfold Di
  rw[Ej _ _ _ _ (by rw[h.shp.len];omega) (by rw[h.shp.len];omega),if_neg (by omega),if_neg (by omega)]
theorem Ui.stepS {L P at_ s ix R k} (h:Ui L P at_ s ix R k) (h1:∀j,j<k->Di (lm ix R) j j=1) {p:Nat}(hk:k<P) (hkp:k<=p) (hp:p<P) (hnz:Di (lm ix R) p k≠0)
  {ix':List Nat}{R':List (List F)}(hpq:PQ P ix' R') (hr:lm ix' R'=Bm (fun a _=>a) ((swp (lm ix R) k p).set k (Hp (Bk (swp (lm ix R) k p) k) (fi (Di (lm ix R) p k)))) k) :
  Ui L P at_ s ix' R' (k+1)/\∀j,j<k+1->Di (lm ix' R') j j=1:=by
 have s1:=h.shp.swp hk hp
 have r1:=h.red.swp h.shp hk hkp hp
 have e1:=ZS h.shp hk hp k
 have s2:=s1.scl hk (fi (Di (lm ix R) p k))
 have r2:=r1.scl s1 hk (fi (Di (lm ix R) p k))
 have e2:Di ((swp (lm ix R) k p).set k (Hp (Bk (swp (lm ix R) k p) k) (fi (Di (lm ix R) p k)))) k k=1:=by
  rw[ZT s1 hk,if_pos rfl,e1,lX _ hnz]
 refine⟨⟨hpq,by rw[hr];exact s2.red _ hk,by rw[hr];exact r2.red _ s2 hk (by rw[e2];decide) (by rw[e2];exact fun a=>Tv a),fun c v hv=>?_⟩,fun j hj=>?_⟩
 ·rw[hr,Zb _ s2 hk,lM s1 hk (pB _),Za h.shp hk hp];exact h.sat c v hv
 ·rw[hr,Pi _ s2 r2 hk j (by omega)]
  rcases Nat.lt_succ_iff_lt_or_eq.1 hj with hj|rfl
  ·rw[ZT s1 hk,if_neg (by omega)]
   have:Di (swp (lm ix R) k p) j j=Di (lm ix R) j j:=by
    unfold Di
    rw[Ej _ _ _ _ (by rw[h.shp.len];omega) (by rw[h.shp.len];omega),if_neg (by omega),if_neg (by omega)]
   rw[this];exact h1 j hj
  ·exact e2
theorem Ui.ends {L P at_ s ix R} (h:Ui L P at_ s ix R at_.length) (hL:L<=15) (hp:cF L at_) (hm:at_.length<=P) (v:List F) (hv:v.length=at_.length)
  (hd:∀i,i<at_.length->fm (Di (lm ix R) i i) (Ed v i)=Di (lm ix R) i at_.length) (hz:∀i,at_.length<=i->i<P->Di (lm ix R) i at_.length=0):Lq L P at_ s=some v :=
 Sk hL hp hm hv ((h.sat 1 v hv).1 ((Y2 h.shp h.red hm v hv).2 ⟨hd,hz⟩))
theorem Ui.endsN {L P at_ s ix R} (h:Ui L P at_ s ix R at_.length) (hm:at_.length<=P) {i:Nat}(h1:at_.length<=i) (h2:i<P) (hz:Di (lm ix R) i at_.length≠0):Lq L P at_ s=none :=
 Zx fun v hv hs=>hz (((Y2 h.shp h.red hm v hv).1 ((h.sat 1 v hv).2 hs)).2 i h1 h2)
theorem du {f:F->F->F}{M:List (List F)}{k i:Nat}(hi:i<M.length) (hik:i≠k):((Bm f M k).take i++M.drop i).set i (Gj (Bk M i) (Bk M k) (f (Di M i k) (Di M k k)))=(Bm f M k).take (i+1)++M.drop (i+1):=by
 have hl:(Bm f M k).length=M.length:=by simp[Bm]
 have h1:((Bm f M k).take i).length=i:=by simp;omega
 have h2:(Bm f M k).take (i+1)=(Bm f M k).take i++[Gj (Bk M i) (Bk M k) (f (Di M i k) (Di M k k))]:=by
  rw[List.take_add_one,List.getElem?_eq_getElem (by omega)]
  have:=DY f M k i hi
  rw[show Bk (Bm f M k) i=(Bm f M k)[i]?.getD [] from rfl,List.getElem?_eq_getElem (by omega),if_neg hik] at this
  rw[show (Bm f M k)[i]=Gj (Bk M i) (Bk M k) (f (Di M i k) (Di M k k)) from this];rfl
 rw[List.set_append_right _ _ (by omega),h1,Nat.sub_self,List.drop_eq_getElem_cons hi,List.set_cons_zero,h2,List.append_assoc]
 rfl
theorem dr {f:F->F->F}{M:List (List F)}{k:Nat}(hk:k<M.length):(Bm f M k).take k++M.drop k=(Bm f M k).take (k+1)++M.drop (k+1):=by
 have hl:(Bm f M k).length=M.length:=by simp[Bm]
 have h2:(Bm f M k).take (k+1)=(Bm f M k).take k++[M[k]]:=by
  rw[List.take_add_one,List.getElem?_eq_getElem (by omega)]
  have:=DY f M k k hk
  rw[show Bk (Bm f M k) k=(Bm f M k)[k]?.getD [] from rfl,List.getElem?_eq_getElem (by omega),if_pos rfl] at this
  rw[show (Bm f M k)[k]=Bk M k from this]
  unfold Bk
  rw[List.getElem?_eq_getElem hk];rfl
 rw[List.drop_eq_getElem_cons hk,h2,List.append_assoc];rfl
theorem jE {f:F->F->F}{M:List (List F)}{k i:Nat}(hi:i<M.length):Bk ((Bm f M k).take i++M.drop i) i=Bk M i:=by
 have hl:(Bm f M k).length=M.length:=by simp[Bm]
 unfold Bk
 rw[List.getElem?_append_right (by simp;omega)]
 simp only[List.length_take,List.getElem?_drop]
 congr 2;omega
theorem dt {f:F->F->F}{M:List (List F)}{k i:Nat}(hk:k<M.length) (hi:i<=M.length):Bk ((Bm f M k).take i++M.drop i) k=Bk M k:=by
 have hl:(Bm f M k).length=M.length:=by simp[Bm]
 by_cases h:k<i
 ·have:=DY f M k k hk
  rw[if_pos rfl] at this
  rw[←this]
  unfold Bk
  rw[List.getElem?_append_left (by simp;omega),List.getElem?_take_of_lt h]
 ·unfold Bk
  rw[List.getElem?_append_right (by simp;omega)]
  simp only[List.length_take,List.getElem?_drop]
  congr 2;omega
theorem jF {f:F->F->F}{M:List (List F)}{k:Nat}:(Bm f M k).take M.length++M.drop M.length=Bm f M k:=by
 have hl:(Bm f M k).length=M.length:=by simp[Bm]
 rw[List.take_of_length_le (by omega),List.drop_eq_nil_of_le (by omega),List.append_nil]
end Go.Pw
