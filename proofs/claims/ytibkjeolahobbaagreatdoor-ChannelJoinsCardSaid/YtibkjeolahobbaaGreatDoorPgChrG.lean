/- A part of the proof. -/
import Derived.Test.YtibkjeolahobbaaGreatDoorPgChrF
set_option linter.all false
open Go Go.Pw Go.Proofs
namespace Go.Pw
set_option maxRecDepth 100000
set_option maxHeartbeats 6400000
section
theorem M_ {A B:List F}(hl:A.length=B.length) (i:Nat) (h:i<A.length):(A.take i++B.drop i)[i]?.getD 0=B[i]?.getD 0:=by
 rw[List.getElem?_append_right (by simp;omega)]
 simp only[List.length_take,List.getElem?_drop]
 congr 2;omega
theorem M8 {A B:List F}(hl:A.length=B.length) (i:Nat) (h:i<A.length):(A.take i++B.drop i).set i (A[i]?.getD 0)=A.take (i+1)++B.drop (i+1):=by
 have h1:(A.take i).length=i:=by simp;omega
 have h2:A.take (i+1)=A.take i++[A[i]]:=by rw[List.take_succ,List.getElem?_eq_getElem h];rfl
 rw[List.set_append_right _ _ (by omega),h1,Nat.sub_self,List.drop_eq_getElem_cons (by omega),List.set_cons_zero,h2,List.getElem?_eq_getElem h,List.append_assoc]
 rfl
theorem M9 {A B:List F}(hl:A.length=B.length) (i:Nat) (h:i<=A.length):(A.take i++B.drop i).length=A.length:=by simp;omega
theorem NA {A B:List F}(hl:A.length=B.length):A.take A.length++B.drop A.length=A:=by rw[List.take_length,List.drop_eq_nil_of_le (by omega),List.append_nil]
theorem SM (r o:List F) (b:F) (i:Nat) (h:r.length=o.length):(C7 r o b)[i]?.getD 0=fa (r[i]?.getD 0) (fm (o[i]?.getD 0) b):=K0 r o b i h
theorem Vo {R:List (List F)}{a:Nat}{r:List F}(h:a<R.length):(R.set a r)[a]?.getD []=r:=by simp[h]
theorem eJ {R:List (List F)}{a b:Nat}{r:List F}(h:a≠b):(R.set a r)[b]?.getD []=R[b]?.getD []:=by rw[List.getElem?_set_ne h]
theorem Vn {R:List (List F)}{a:Nat}{r r':List F}:(R.set a r).set a r'=R.set a r':=List.set_set ..
theorem OX {R:List (List F)}{a:Nat}(h:a<R.length):R.set a (R[a]?.getD [])=R:=by
 rw[List.getElem?_eq_getElem h];simp
attribute [local irreducible] IntKind.wrap Ai Option.getD and or
theorem nA (e1 e2:Nat) (nl:Bool) (ix:List Nat) (R:List (List F)) (a b:Nat) (s:F) (hab:a≠b) (ha:a<R.length) (hb:b<R.length) (hl:(R[a]?.getD []).length=(R[b]?.getD []).length) (hs:(R[b]?.getD []).length<=1000) :
  Hk E0 FJ [(900000,0,.mat e1 e2 nl ix (Dl R))] [.mref (.row a) 900000 0,.mref (.row b) 900000 0,.d (.int .u8 (s.val:Int))]
   [(900000,0,.mat e1 e2 nl ix (Dl (R.set a (C7 (R[a]?.getD []) (R[b]?.getD []) s))))] (.tup []):=by
 obtain⟨ra,hra⟩:∃ra,R[a]?.getD []=ra:=⟨_,rfl⟩
 obtain⟨rb,hrb⟩:∃rb,R[b]?.getD []=rb:=⟨_,rfl⟩
 rw[hra,hrb] at hl ⊢
 rw[hrb] at hs
 have hA:=HA ra rb s hl
 have hRR:R.set a ra=R:=by rw[←hra];exact OX ha
 have hl2:(R.set a ra).length=R.length:=by simp
 suffices hsu:Hk E0 FJ [(900000,0,.mat e1 e2 nl ix (Dl (R.set a ra)))] [.mref (.row a) 900000 0,.mref (.row b) 900000 0,.d (.int .u8 (s.val:Int))]
   [(900000,0,.mat e1 e2 nl ix (Dl (R.set a (C7 ra rb s))))] (.tup []) by rwa [hRR] at hsu
 have hB0:(R.set a ra)[b]?.getD []=rb:=by rw[eJ hab];exact hrb
 refine C3 Lj Af (by simp) (by simp[Pu,E9,D7,Ah.isHist]) (by simp[J4]) fun hwf hwo=>?_
 rw[De];unfold Gr
 (try (simp -implicitDefEqProofs only[go_sem,hB0,hb,List.length_set]));repeat' first|(with_reducible first|exact tI|refine aI ?_ ?_|intro _|refine AJ ?_ ?_<;>intro _<;>try simp -implicitDefEqProofs only[go_sem,hB0,hb,List.length_set])|simp (disch:=omega) only[Ad]|((with_reducible apply Ae);exact rfl)
 refine AU (α:=Nat×(List F)) (l0:=?l1) (m0:=?m1) (fun x=>[(10,.d (.int .i64 (x.1:Int)))]) (fun x=>[(900000,.mat e1 e2 nl ix (Dl (R.set a x.2)))]) (fun x=>x.1<=rb.length/\x.2=(C7 ra rb s).take x.1++ra.drop x.1) (fun x=>rb.length-x.1) (0,ra) ?h01 ?he1 ?he21 ?hI1 ?step1
 case h01=>(simp -implicitDefEqProofs only[go_sem,List.length_set];rfl)
 case he1=>rfl
 case he21=>rfl
 case' step1=>(rintro⟨i,r⟩ hI;try dsimp only at hI)
 case' hI1=>try dsimp only
 ·exact⟨by omega,by simp⟩
 ·obtain⟨h1,h2⟩:=hI
  have hr:r.length=rb.length:=by rw[h2,M9 hA i (by omega)];omega
  by_cases h:i<rb.length
  ·have h':(i:Int)<(rb.length:Int):=by omega
   have hw:IntKind.i64.wrap ((i:Int)+1)=((i+1:Nat):Int):=by rw[AZ _ (by omega)];omega
   have c1:=C2 (rb[i]?.getD 0) s
   have k1:r[i]?.getD 0=ra[i]?.getD 0:=by rw[h2];exact M_ hA i (by omega)
   have k2:r.set i (fa (ra[i]?.getD 0) (fm (rb[i]?.getD 0) s))=(C7 ra rb s).take (i+1)++ra.drop (i+1):=by
    rw[h2,←SM ra rb s i hl];exact M8 hA i (by omega)
   have hB:(R.set a r)[b]?.getD []=rb:=by rw[eJ hab];exact hrb
   (try (simp -implicitDefEqProofs only[go_sem,h',hw,k1,Vo ha,hB,Vn,List.length_set]));repeat' first|(with_reducible first|exact tI|refine aI ?_ ?_|intro _)|((first|with_reducible refine AJ ?_ ?_<;>intro _|(with_reducible refine isCall ?_);first|refine AE c1 ?_)<;>try (simp -implicitDefEqProofs only[go_sem,h',hw,k1,Vo ha,hB,Vn,List.length_set]))|simp (disch:=omega) only[Ad]|((with_reducible apply Ae);exact rfl)
   all_goals first|omega|(simp<;>omega)|skip
   all_goals first|exact k2|skip
  ·have h':¬(i:Int)<(rb.length:Int):=by omega
   have hk:i=rb.length:=by omega
   have hf:r=C7 ra rb s:=by
    rw[h2,hk]
    have:=NA hA
    rwa [hA,hl] at this
   subst hf
   have hB:(R.set a (C7 ra rb s))[b]?.getD []=rb:=by rw[eJ hab];exact hrb
   (try (simp -implicitDefEqProofs only[go_sem,h',hB,List.length_set]));repeat' first|(with_reducible first|exact tI|refine aI ?_ ?_|intro _|refine AJ ?_ ?_<;>intro _<;>try simp -implicitDefEqProofs only[go_sem,h',hB,List.length_set])|simp (disch:=omega) only[Ad]|((with_reducible apply Ae);exact rfl)
   all_goals first|omega|(simp<;>omega)|skip
theorem Uy (nl nb na:Bool) (M:List (List F)) (at_:List Nat) (m:Nat) (hm:m=at_.length) (hl:M.length<=1000) (hs:∀i,i<M.length->m<(M[i]?.getD []).length) :
  BR E0 Bp [.list nl (M.map fun r=>.list nb (us r)),.fn CW [.ptr [.list na (Aa (ni at_))]]] (.list M.isEmpty (us (M.map fun r=>r[m]?.getD 0))):=by
 subst hm
 have c0:∀r:List F,at_.length<r.length->BR E0 CW [.list nb (us r),.ptr [.list na (Aa (ni at_))]] (.int .u8 ((r[at_.length]?.getD 0).val:Int)):=by
  intro r hr
  refine AM Hv Af (by simp) fun hwf=>?_
  rw[AQ];unfold Ej
  (try (simp -implicitDefEqProofs only[go_sem]));repeat' first|(with_reducible first|exact tI|refine aI ?_ ?_|intro _|refine AJ ?_ ?_<;>intro _<;>try simp -implicitDefEqProofs only[go_sem])|simp (disch:=omega) only[Ad]|((with_reducible apply Ag);exact rfl)
  all_goals first|omega|(simp<;>omega)|skip
 refine AM C6 Af (by simp) fun hwf=>?_
 rw[AQ];unfold Bf
 (try (simp -implicitDefEqProofs only[go_sem]));repeat' first|(with_reducible first|exact tI|refine aI ?_ ?_|intro _|refine AJ ?_ ?_<;>intro _<;>try simp -implicitDefEqProofs only[go_sem])|simp (disch:=omega) only[Ad]|((with_reducible refine Ca ?_);refine⟨(_,_,_),rfl,?_,?_⟩)
 refine AU (α:=Nat×Bool×(List F)) (l0:=?l2) (m0:=?m2) (fun x=>[(10,.d (.int .i64 (x.1:Int)))]) (fun x=>[(19,.row 135 1 x.2.1 (us x.2.2))]) (fun x=>x.1<=M.length/\x.2.2=(M.take x.1).map (fun r=>r[at_.length]?.getD 0)/\x.2.1=x.2.2.isEmpty) (fun x=>M.length-x.1) (0,true,[]) ?h02 ?he2 ?he22 ?hI2 ?step2
 case h02=>(simp -implicitDefEqProofs only[go_sem];rfl)
 case he2=>rfl
 case he22=>rfl
 case' step2=>(rintro⟨i,b,l⟩ hI;try dsimp only at hI)
 case' hI2=>try dsimp only
 ·exact⟨by omega,rfl,rfl⟩
 ·obtain⟨h1,h2,h3⟩:=hI
  subst h3
  by_cases h:i<M.length
  ·have h':(i:Int)<(M.length:Int):=by omega
   have hw:IntKind.i64.wrap ((i:Int)+1)=((i+1:Nat):Int):=by rw[AZ _ (by omega)];omega
   have c1:=c0 (M[i]?.getD default) (hs i h)
   have hk:l++[(M[i]?.getD default)[at_.length]?.getD 0]=(M.take (i+1)).map (fun r=>r[at_.length]?.getD 0):=by
    rw[h2,List.take_succ,List.getElem?_eq_getElem h,List.map_append,Option.getD_some];rfl
   have hl3:l.length<=1000:=by rw[h2];simp;omega
   (try (simp -implicitDefEqProofs only[go_sem,h',hw,N7,Ma]));repeat' first|(with_reducible first|exact tI|refine aI ?_ ?_|intro _)|((first|with_reducible refine AJ ?_ ?_<;>intro _|(with_reducible refine isCall ?_);first|refine AE c1 ?_)<;>try (simp -implicitDefEqProofs only[go_sem,h',hw,N7,Ma]))|simp (disch:=omega) only[Ad]|((with_reducible apply Ag);exact rfl)
   all_goals first|omega|(simp<;>omega)|skip
   all_goals first|exact hk|(exact(Kl _ _).symm)|(simp at *;done)|(simp at *;omega)|skip
  ·have h':¬(i:Int)<(M.length:Int):=by omega
   have hk:i=M.length:=by omega
   subst hk
   rw[List.take_length] at h2
   have he:l.isEmpty=M.isEmpty:=by rw[h2];cases M<;>rfl
   rw[←h2,←he]
   (try (simp -implicitDefEqProofs only[go_sem,h']));repeat' first|(with_reducible first|exact tI|refine aI ?_ ?_|intro _|refine AJ ?_ ?_<;>intro _<;>try simp -implicitDefEqProofs only[go_sem,h'])|simp (disch:=omega) only[Ad]|((with_reducible apply Ag);exact rfl)
   all_goals first|omega|(simp<;>omega)|skip
   all_goals first|rfl|skip
end
def lm (ix:List Nat) (R:List (List F)):List (List F):=ix.map fun j=>R[j]?.getD []
structure PQ (n:Nat) (ix:List Nat) (R:List (List F)):Prop where
 li:ix.length=n
 lr:R.length=n
 nd:ix.Nodup
 lt:∀j,j∈ix->j<n
def FQ (ix:List Nat) (i:Nat):Nat:=ix[i]?.getD 0
theorem Kd {l:List Nat}{i:Nat}(h:i<l.length):FQ l i=l[i]:=by unfold FQ;rw[List.getElem?_eq_getElem h];rfl
theorem lC {ix:List Nat}{i:Nat}(h:i<ix.length):FQ ix i∈ix:=by unfold FQ;rw[List.getElem?_eq_getElem h];exact List.getElem_mem h
theorem PQ.ix_lt {n ix R} (h:PQ n ix R) {i:Nat}(hi:i<n):FQ ix i<n:=h.lt _ (lC (by rw[h.li];exact hi))
theorem PQ.ix_inj {n ix R} (h:PQ n ix R) {i j:Nat}(hi:i<n) (hj:j<n) (he:FQ ix i=FQ ix j):i=j:=by
 have h1:=h.li
 unfold FQ at he
 rw[List.getElem?_eq_getElem (by omega),List.getElem?_eq_getElem (by omega)] at he
 exact(List.getElem_inj h.nd).1 he
theorem GH (ix R):(lm ix R).length=ix.length:=by simp[lm]
theorem DK {n ix R} (h:PQ n ix R) {i:Nat}(hi:i<n):Ak (lm ix R) i=R[FQ ix i]?.getD []:=by
 have h1:=h.li
 unfold Ak lm FQ
 rw[List.getElem?_map,List.getElem?_eq_getElem (by omega)];rfl
theorem PQ.set {n ix R} (h:PQ n ix R) (a:Nat) (r:List F):PQ n ix (R.set a r):=⟨h.li,by simpa using h.lr,h.nd,h.lt⟩
theorem UO {n ix R} (h:PQ n ix R) {i:Nat}(hi:i<n) (r:List F):lm ix (R.set (FQ ix i) r)=(lm ix R).set i r:=by
 have h1:=h.li
 apply List.ext_getElem?
 intro j
 by_cases hj:j<n
 ·have e1:(lm ix (R.set (FQ ix i) r))[j]?=some (Ak (lm ix (R.set (FQ ix i) r)) j):=by
   unfold Ak;rw[List.getElem?_eq_getElem (by rw[GH];omega)];rfl
  rw[e1,DK (h.set _ _) hj]
  by_cases hij:i=j
  ·subst hij
   rw[List.getElem?_set_self (by rw[h.lr];exact h.ix_lt hi),List.getElem?_set_self (by rw[GH];omega)];rfl
  ·rw[List.getElem?_set_ne (fun e=>hij (h.ix_inj hi hj e)),List.getElem?_set_ne hij]
   unfold lm
   rw[List.getElem?_map,List.getElem?_eq_getElem (l:=ix) (by omega)]
   show some _=some _
   unfold FQ
   rw[List.getElem?_eq_getElem (l:=ix) (by omega)];rfl
 ·rw[List.getElem?_eq_none (by rw[GH];omega),List.getElem?_eq_none (by simp[GH];omega)]
theorem Zv {n ix R} (h:PQ n ix R) {k p:Nat}(hk:k<n) (hp:p<n):PQ n ((ix.set k (FQ ix p)).set p (FQ ix k)) R/\lm ((ix.set k (FQ ix p)).set p (FQ ix k)) R=swp (lm ix R) k p/\FQ ((ix.set k (FQ ix p)).set p (FQ ix k)) k=FQ ix p:=by
 have h1:=h.li
 have hget:∀j,j<n->FQ ((ix.set k (FQ ix p)).set p (FQ ix k)) j=if j=p then FQ ix k else if j=k then FQ ix p else FQ ix j:=fun j hj=>by
  rw[show FQ ((ix.set k (FQ ix p)).set p (FQ ix k)) j=((ix.set k (FQ ix p)).set p (FQ ix k))[j]?.getD 0 from rfl]
  by_cases e1:j=p
  ·subst e1;rw[List.getElem?_set_self (by simp;omega),if_pos rfl];rfl
  ·rw[List.getElem?_set_ne fun e=>e1 e.symm,if_neg e1]
   by_cases e2:j=k
   ·subst e2;rw[List.getElem?_set_self (by omega),if_pos rfl];rfl
   ·rw[List.getElem?_set_ne fun e=>e2 e.symm,if_neg e2];rfl
 have hlen:((ix.set k (FQ ix p)).set p (FQ ix k)).length=n:=by simp[h1]
 have hP:PQ n ((ix.set k (FQ ix p)).set p (FQ ix k)) R:=by
  refine⟨hlen,h.lr,?_,fun j hj=>?_⟩
  ·refine List.pairwise_iff_getElem.2 fun i j hi hj hij he=>?_
   have e1:=hget i (by omega)
   have e2:=hget j (by omega)
   have he':FQ ((ix.set k (FQ ix p)).set p (FQ ix k)) i=FQ ((ix.set k (FQ ix p)).set p (FQ ix k)) j:=by
    rw[Kd hi,Kd hj];exact he
   rw[e1,e2] at he'
   have inj:∀{a b},a<n->b<n->FQ ix a=FQ ix b->a=b:=fun ha hb=>h.ix_inj ha hb
   have:i=j:=by
    by_cases c1:i=p<;>by_cases c2:j=p
    ·omega
    ·rw[if_pos c1,if_neg c2] at he'
     by_cases c3:j=k
     ·rw[if_pos c3] at he';have:=inj hk hp he';omega
     ·rw[if_neg c3] at he';have:=inj hk (by omega) he';omega
    ·rw[if_neg c1,if_pos c2] at he'
     by_cases c3:i=k
     ·rw[if_pos c3] at he';have:=inj hp hk he';omega
     ·rw[if_neg c3] at he';have:=inj (by omega) hk he';omega
    ·rw[if_neg c1,if_neg c2] at he'
     by_cases c3:i=k<;>by_cases c4:j=k
     ·omega
     ·rw[if_pos c3,if_neg c4] at he';have:=inj hp (by omega) he';omega
     ·rw[if_neg c3,if_pos c4] at he';have:=inj (by omega) hp he';omega
     ·rw[if_neg c3,if_neg c4] at he';exact inj (by omega) (by omega) he'
   omega
  ·obtain⟨i,hi,rfl⟩:=List.getElem_of_mem hj
   rw[←Kd hi,hget i (by omega)]
   split
   ·exact h.ix_lt hk
   ·split
    ·exact h.ix_lt hp
    ·exact h.ix_lt (by omega)
 refine⟨hP,?_,?_⟩
 ·apply List.ext_getElem
  ·simp[GH,swp,h1]
  ·intro j h2 h3
   have hj:j<n:=by rw[GH,hlen] at h2;exact h2
   have e1:=DK hP hj
   have e2:=Dx (lm ix R) k p j (by rw[GH];omega) (by rw[GH];omega)
   unfold Ak at e1
   rw[List.getElem?_eq_getElem h2] at e1
   rw[show Ak (swp (lm ix R) k p) j=(swp (lm ix R) k p)[j]?.getD [] from rfl,List.getElem?_eq_getElem h3] at e2
   have e1':(lm ((ix.set k (FQ ix p)).set p (FQ ix k)) R)[j]=R[FQ ((ix.set k (FQ ix p)).set p (FQ ix k)) j]?.getD []:=e1
   have e2':(swp (lm ix R) k p)[j]=if j=p then Ak (lm ix R) k else if j=k then Ak (lm ix R) p else Ak (lm ix R) j:=e2
   rw[e1',e2',hget j hj]
   split
   ·rw[DK h hk]
   ·split
    ·rw[DK h hp]
    ·rw[DK h hj]
 ·rw[hget k hk]
  split
  ·rename_i e;subst e;rfl
  ·rw[if_pos rfl]
structure Tg (L P:Nat) (at_:List Nat) (s:List F) (ix:List Nat) (R:List (List F)) (k:Nat):Prop where
 pq:PQ P ix R
 shp:QZ (lm ix R) P (at_.length+1)
 red:dS (lm ix R) k
 sat:∀c v,v.length=at_.length->(QD c (lm ix R) v↔QD c (J' L P at_ s) v)
theorem fZ (R:List (List F)):lm (List.range R.length) R=R:=by
 apply List.ext_getElem
 ·simp[lm]
 ·intro i h1 h2
  simp[lm,h2]
theorem Tg.start {L P:Nat}{at_:List Nat}{s:List F}:Tg L P at_ s (List.range P) (J' L P at_ s) 0:=by
 have hl:=(LX L P at_ s).len
 have e:lm (List.range P) (J' L P at_ s)=J' L P at_ s:=by
  have:=fZ (J' L P at_ s)
  rwa [hl] at this
 refine⟨⟨by simp,hl,List.nodup_range,fun j hj=>by simpa using hj⟩,by rw[e];exact LX L P at_ s,⟨fun i j hi hj=>by omega,fun j hj=>by omega⟩,fun c v hv=>by rw[e]⟩
theorem Tg.rlen {L P at_ s ix R k} (h:Tg L P at_ s ix R k) {i:Nat}(hi:i<P):(R[FQ ix i]?.getD []).length=at_.length+1:=by
 have:=h.shp.row i hi
 rwa [DK h.pq hi] at this
theorem Tg.fail {L P at_ s ix R k} (h:Tg L P at_ s ix R k) (hL:L<=15) (hp:ZG L at_) (hm:at_.length<=P) (hk:k<at_.length) (hz:∀i,k<=i->i<P->Bk (lm ix R) i k=0):False:=by
 obtain⟨v,h1,h2,h3⟩:=eT h.shp h.red hk hm hz
 have:=WM hL hp hm h1 ((h.sat 0 v h1).1 h2) k
 rw[h3] at this
 exact absurd this (by decide)
theorem Tg.step {L P at_ s ix R k} (h:Tg L P at_ s ix R k) {p:Nat}(hk:k<P) (hkp:k<=p) (hp:p<P) (hnz:Bk (lm ix R) p k≠0) {f:F->F->F}(hf:∀a,fm (Bk (lm ix R) p k) (f a (Bk (lm ix R) p k))=a)
  {ix':List Nat}{R':List (List F)}(hpq:PQ P ix' R') (hr:lm ix' R'=A5 f (swp (lm ix R) k p) k):Tg L P at_ s ix' R' (k+1)/\(∀j,j<k->Bk (lm ix' R') j j=Bk (lm ix R) j j):=by
 have s1:=h.shp.swp hk hp
 have r1:=h.red.swp h.shp hk hkp hp
 have e1:=Uk h.shp hk hp k
 refine⟨⟨hpq,by rw[hr];exact s1.red f hk,by rw[hr];exact r1.red f s1 hk (by rw[e1];exact hnz) (by rw[e1];exact hf),fun c v hv=>?_⟩,fun j hj=>?_⟩
 ·rw[hr,Z_ f s1 hk,Z9 h.shp hk hp];exact h.sat c v hv
 ·rw[hr,Pf f s1 r1 hk j (by omega)]
  unfold Bk
  rw[Dx _ _ _ _ (by rw[h.shp.len];omega) (by rw[h.shp.len];omega),if_neg (by omega),if_neg (by omega)]
theorem Tg.stepS {L P at_ s ix R k} (h:Tg L P at_ s ix R k) (h1:∀j,j<k->Bk (lm ix R) j j=1) {p:Nat}(hk:k<P) (hkp:k<=p) (hp:p<P) (hnz:Bk (lm ix R) p k≠0)
  {ix':List Nat}{R':List (List F)}(hpq:PQ P ix' R') (hr:lm ix' R'=A5 (fun a _=>a) ((swp (lm ix R) k p).set k (HK (Ak (swp (lm ix R) k p) k) (fi (Bk (lm ix R) p k)))) k) :
  Tg L P at_ s ix' R' (k+1)/\∀j,j<k+1->Bk (lm ix' R') j j=1:=by
 have s1:=h.shp.swp hk hp
 have r1:=h.red.swp h.shp hk hkp hp
 have e1:=Uk h.shp hk hp k
 have s2:=s1.scl hk (fi (Bk (lm ix R) p k))
 have r2:=r1.scl s1 hk (fi (Bk (lm ix R) p k))
 have e2:Bk ((swp (lm ix R) k p).set k (HK (Ak (swp (lm ix R) k p) k) (fi (Bk (lm ix R) p k)))) k k=1:=by
  rw[Z4 s1 hk,if_pos rfl,e1,nU _ hnz]
 refine⟨⟨hpq,by rw[hr];exact s2.red _ hk,by rw[hr];exact r2.red _ s2 hk (by rw[e2];decide) (by rw[e2];exact fun a=>UF a),fun c v hv=>?_⟩,fun j hj=>?_⟩
 ·rw[hr,Z_ _ s2 hk,nD s1 hk (q9 _),Z9 h.shp hk hp];exact h.sat c v hv
 ·rw[hr,Pf _ s2 r2 hk j (by omega)]
  rcases Nat.lt_succ_iff_lt_or_eq.1 hj with hj|rfl
  ·rw[Z4 s1 hk,if_neg (by omega)]
   have:Bk (swp (lm ix R) k p) j j=Bk (lm ix R) j j:=by
    unfold Bk
    rw[Dx _ _ _ _ (by rw[h.shp.len];omega) (by rw[h.shp.len];omega),if_neg (by omega),if_neg (by omega)]
   rw[this];exact h1 j hj
  ·exact e2
theorem Tg.ends {L P at_ s ix R} (h:Tg L P at_ s ix R at_.length) (hL:L<=15) (hp:ZG L at_) (hm:at_.length<=P) (v:List F) (hv:v.length=at_.length)
  (hd:∀i,i<at_.length->fm (Bk (lm ix R) i i) (Di v i)=Bk (lm ix R) i at_.length) (hz:∀i,at_.length<=i->i<P->Bk (lm ix R) i at_.length=0):Gl L P at_ s=some v :=
 LP hL hp hm hv ((h.sat 1 v hv).1 ((ZX h.shp h.red hm v hv).2 ⟨hd,hz⟩))
theorem Tg.endsN {L P at_ s ix R} (h:Tg L P at_ s ix R at_.length) (hm:at_.length<=P) {i:Nat}(h1:at_.length<=i) (h2:i<P) (hz:Bk (lm ix R) i at_.length≠0):Gl L P at_ s=none :=
 ab fun v hv hs=>hz (((ZX h.shp h.red hm v hv).1 ((h.sat 1 v hv).2 hs)).2 i h1 h2)
theorem RJ {f:F->F->F}{M:List (List F)}{k i:Nat}(hi:i<M.length) (hik:i≠k):((A5 f M k).take i++M.drop i).set i (C7 (Ak M i) (Ak M k) (f (Bk M i k) (Bk M k k)))=(A5 f M k).take (i+1)++M.drop (i+1):=by
 have hl:(A5 f M k).length=M.length:=by simp[A5]
 have h1:((A5 f M k).take i).length=i:=by simp;omega
 have h2:(A5 f M k).take (i+1)=(A5 f M k).take i++[C7 (Ak M i) (Ak M k) (f (Bk M i k) (Bk M k k))]:=by
  rw[List.take_add_one,List.getElem?_eq_getElem (by omega)]
  have:=Ct f M k i hi
  rw[show Ak (A5 f M k) i=(A5 f M k)[i]?.getD [] from rfl,List.getElem?_eq_getElem (by omega),if_neg hik] at this
  rw[show (A5 f M k)[i]=C7 (Ak M i) (Ak M k) (f (Bk M i k) (Bk M k k)) from this];rfl
 rw[List.set_append_right _ _ (by omega),h1,Nat.sub_self,List.drop_eq_getElem_cons hi,List.set_cons_zero,h2,List.append_assoc]
 rfl
theorem RH {f:F->F->F}{M:List (List F)}{k:Nat}(hk:k<M.length):(A5 f M k).take k++M.drop k=(A5 f M k).take (k+1)++M.drop (k+1):=by
 have hl:(A5 f M k).length=M.length:=by simp[A5]
 have h2:(A5 f M k).take (k+1)=(A5 f M k).take k++[M[k]]:=by
  rw[List.take_add_one,List.getElem?_eq_getElem (by omega)]
  have:=Ct f M k k hk
  rw[show Ak (A5 f M k) k=(A5 f M k)[k]?.getD [] from rfl,List.getElem?_eq_getElem (by omega),if_pos rfl] at this
  rw[show (A5 f M k)[k]=Ak M k from this]
  unfold Ak
  rw[List.getElem?_eq_getElem hk];rfl
 rw[List.drop_eq_getElem_cons hk,h2,List.append_assoc];rfl
theorem UA {f:F->F->F}{M:List (List F)}{k i:Nat}(hi:i<M.length):Ak ((A5 f M k).take i++M.drop i) i=Ak M i:=by
 have hl:(A5 f M k).length=M.length:=by simp[A5]
 unfold Ak
 rw[List.getElem?_append_right (by simp;omega)]
 simp only[List.length_take,List.getElem?_drop]
 congr 2;omega
theorem RI {f:F->F->F}{M:List (List F)}{k i:Nat}(hk:k<M.length) (hi:i<=M.length):Ak ((A5 f M k).take i++M.drop i) k=Ak M k:=by
 have hl:(A5 f M k).length=M.length:=by simp[A5]
 by_cases h:k<i
 ·have:=Ct f M k k hk
  rw[if_pos rfl] at this
  rw[←this]
  unfold Ak
  rw[List.getElem?_append_left (by simp;omega),List.getElem?_take_of_lt h]
 ·unfold Ak
  rw[List.getElem?_append_right (by simp;omega)]
  simp only[List.length_take,List.getElem?_drop]
  congr 2;omega
theorem UB {f:F->F->F}{M:List (List F)}{k:Nat}:(A5 f M k).take M.length++M.drop M.length=A5 f M k:=by
 have hl:(A5 f M k).length=M.length:=by simp[A5]
 rw[List.take_of_length_le (by omega),List.drop_eq_nil_of_le (by omega),List.append_nil]
section
def oY (o:Option (List F)):D:=match o with
 |some v=>.tup [.list v.isEmpty (us v),.bool true]
 |none=>.tup [.list true [],.bool false]
theorem OS (v:List F):oY (some v)=.tup [.list v.isEmpty (us v),.bool true]:=rfl
theorem OT:oY none=.tup [.list true [],.bool false]:=rfl
theorem Az {α:Type}(w:List α) (d:α) (i:Nat) (h:i<w.length):w.take i++[w[i]?.getD d]=w.take (i+1):=by
 rw[List.take_add_one,List.getElem?_eq_getElem h];rfl
theorem RV (l:List Nat) (i:Nat) (h:i<l.length):l[i]?.getD 0=l[i]:=by rw[List.getElem?_eq_getElem h];rfl
attribute [local irreducible] IntKind.wrap Ai Option.getD and or
theorem Nx (L P:Nat) (n1 n2:Bool) (s:List F) (at_:List Nat) (hL:L<=15) (hP:1<=P) (hP2:P<=15) (hs:s.length=P) (hp:ZG L at_) (hm:at_.length<=P) :
    BR E0 GD [QC L P,.list n1 (us s),.list n2 (Aa (ni at_))] (oY (Gl L P at_ s)):=by
  have el:(J' L P at_ s).length=P:=(LX L P at_ s).len
  refine AM JM Af (by simp) fun hwf=>?_
  rw[AQ];unfold FX
  (try (simp -implicitDefEqProofs only[go_sem,A4]));repeat' first|(with_reducible first|exact tI|refine aI ?_ ?_|intro _|refine AJ ?_ ?_<;>intro _<;>try simp -implicitDefEqProofs only[go_sem,A4])|simp (disch:=omega) only[Ad]|((with_reducible first|apply A8|apply Ag|apply Ae|apply Ab);exact rfl)
  refine AU (α:=Nat×Bool×(List Nat)×(List (List F))) (l0:=?l1) (m0:=?m1) (fun x=>[(25,.d (.int .i64 (x.1:Int)))]) (fun x=>[(50,.mat 152 135 x.2.1 x.2.2.1 (Dl x.2.2.2))]) (fun x=>x.1<=P/\x.2.2.2=(J' L P at_ s).take x.1/\x.2.2.1=List.range x.1/\x.2.1=decide (x.1=0)) (fun x=>P-x.1) (0,true,[],[]) ?h01 ?he1 ?he21 ?hI1 ?step1
  case h01=>(simp -implicitDefEqProofs only[go_sem];rfl)
  case he1=>rfl
  case he21=>rfl
  case' step1=>(rintro⟨i,nl,ix,R⟩ hI;try dsimp only at hI)
  case' hI1=>try dsimp only
  · exact⟨by omega,by simp,rfl,rfl⟩
  · obtain⟨h1,h2,h3,h4⟩:=hI
    have hR:R.length=i:=by rw[h2];simp;omega
    by_cases h:i<P
    · have h':(i:Int)<(s.length:Int):=by omega
      have hw:IntKind.i64.wrap ((i:Int)+1)=((i+1:Nat):Int):=by rw[AZ _ (by omega)];omega
      (try (simp -implicitDefEqProofs only[go_sem,h',A4]));repeat' first|(with_reducible first|exact tI|refine aI ?_ ?_|intro _|refine AJ ?_ ?_<;>intro _<;>try simp -implicitDefEqProofs only[go_sem,h',A4])|simp (disch:=omega) only[Ad]|((with_reducible refine Ca ?_);refine⟨(_,_,_,_),rfl,?_,?_⟩)|((with_reducible refine Ca ?_);refine⟨(_,_,_),rfl,?_,?_⟩)|((with_reducible refine Ca ?_);refine⟨(_,_),rfl,?_,?_⟩)|((with_reducible refine Ca ?_);refine⟨_,rfl,?_,?_⟩)
      all_goals first|omega|(simp<;>omega)|skip
      refine AU (α:=Nat×Bool×(List F)) (l0:=?l2) (m0:=?m2) (fun x=>[(32,.d (.int .i64 (x.1:Int)))]) (fun x=>[(42,.row 135 1 x.2.1 (us x.2.2))]) (fun x=>x.1<=at_.length/\x.2.2=(at_.take x.1).map (fun q=>VC L i q)/\x.2.1=x.2.2.isEmpty) (fun x=>at_.length-x.1) (0,true,[]) ?h02 ?he2 ?he22 ?hI2 ?step2
      case h02=>(simp -implicitDefEqProofs only[go_sem];rfl)
      case he2=>rfl
      case he22=>rfl
      case' step2=>(rintro⟨j,b,r⟩ hI2;try dsimp only at hI2)
      case' hI2=>try dsimp only
      · exact⟨by omega,rfl,rfl⟩
      · obtain⟨q1,q2,q3⟩:=hI2
        have hrl:r.length=j:=by rw[q2];simp;omega
        by_cases hj:j<at_.length
        · have hj':(j:Int)<(at_.length:Int):=by omega
          have hwj:IntKind.i64.wrap ((j:Int)+1)=((j+1:Nat):Int):=by rw[AZ _ (by omega)];omega
          have hlt:=hp.lt (at_[j]?.getD 0) (by rw[RV _ _ hj];exact List.getElem_mem hj)
          have c1:=G6 L P i (at_[j]?.getD 0) (by omega) (by omega) hlt
          have hk:r++[VC L i (at_[j]?.getD 0)]=(at_.take (j+1)).map (fun q=>VC L i q):=by
            rw[q2,←Az at_ 0 j hj];simp
          rw[A4] at c1
          (try (simp -implicitDefEqProofs only[go_sem,hj',hwj]));repeat' first|(with_reducible first|exact tI|refine aI ?_ ?_|intro _)|((first|with_reducible refine AJ ?_ ?_<;>intro _|(with_reducible refine isCall ?_);first|refine AE c1 ?_)<;>try (simp -implicitDefEqProofs only[go_sem,hj',hwj]))|simp (disch:=omega) only[Ad]|((with_reducible first|apply A8|apply Ag|apply Ae|apply Ab);exact rfl)
          all_goals first|omega|(simp<;>omega)|skip
          all_goals first|exact hk|(exact(Kl _ _).symm)|(simp at *;done)|(simp at *;omega)|skip
        · have hj':¬(j:Int)<(at_.length:Int):=by omega
          have hjj:j=at_.length:=by omega
          have hrow:r++[s[i]?.getD 0]=Ak (J' L P at_ s) i:=by
            rw[RA _ _ _ _ _ h,q2,hjj,List.take_length];rfl
          have hnx:R++[Ak (J' L P at_ s) i]=(J' L P at_ s).take (i+1):=by
            rw[h2];exact Az _ _ _ (by omega)
          have hix:ix++[R.length]=List.range (i+1):=by rw[h3,hR,List.range_succ]
          have hil:ix.length=i:=by rw[h3];simp
          (try (simp -implicitDefEqProofs only[go_sem,hj',hw,hrow,hnx,hix]));repeat' first|(with_reducible first|exact tI|refine aI ?_ ?_|intro _|refine AJ ?_ ?_<;>intro _<;>try simp -implicitDefEqProofs only[go_sem,hj',hw,hrow,hnx,hix])|simp (disch:=omega) only[Ad]|((with_reducible first|apply A8|apply Ag|apply Ae|apply Ab);exact rfl)
          all_goals first|omega|(simp<;>omega)|skip
          all_goals first|rfl|exact List.range_succ.symm|(simp at *;done)|(simp at *;omega)|skip
    · have h':¬(i:Int)<(s.length:Int):=by omega
      have hi:i=P:=by omega
      subst hi
      have e2:R=J' L i at_ s:=by rw[h2,List.take_of_length_le (by omega)]
      have e4:nl=false:=by rw[h4];simp;omega
      subst e4
      clear h4
      subst e2 h3
      (try (simp -implicitDefEqProofs only[go_sem,h',A4]));repeat' first|(with_reducible first|exact tI|refine aI ?_ ?_|intro _|refine AJ ?_ ?_<;>intro _<;>try simp -implicitDefEqProofs only[go_sem,h',A4])|simp (disch:=omega) only[Ad]|((with_reducible first|apply A8|apply Ag|apply Ae|apply Ab);exact rfl)
      all_goals first|omega|(simp<;>omega)|skip
      refine AU (α:=Nat×(List Nat)×(List (List F))) (l0:=?l3) (m0:=?m3) (fun x=>[(54,.d (.int .i64 (x.1:Int)))]) (fun x=>[(50,.mat 152 135 false x.2.1 (Dl x.2.2))]) (fun x=>x.1<=at_.length/\Tg L i at_ s x.2.1 x.2.2 x.1/\(∀j,j<x.1->Bk (lm x.2.1 x.2.2) j j=1)) (fun x=>at_.length-x.1) (0,(List.range i),(J' L i at_ s)) ?h03 ?he3 ?he23 ?hI3 ?step3
      case h03=>(simp -implicitDefEqProofs only[go_sem];rfl)
      case he3=>rfl
      case he23=>rfl
      case' step3=>(rintro⟨k,ix,R⟩ hI3;try dsimp only at hI3)
      case' hI3=>try dsimp only
      · exact⟨by omega,Tg.start,fun j hj=>absurd hj (by omega)⟩
      · obtain⟨k1,k2,k3⟩:=hI3
        have li:=k2.pq.li
        have lr:=k2.pq.lr
        by_cases hk:k<at_.length
        · have hk':(k:Int)<(at_.length:Int):=by omega
          have hwk:IntKind.i64.wrap ((k:Int)+1)=((k+1:Nat):Int):=by rw[AZ _ (by omega)];omega
          (try (simp -implicitDefEqProofs only[go_sem,hk']));repeat' first|(with_reducible first|exact tI|refine aI ?_ ?_|intro _|refine AJ ?_ ?_<;>intro _<;>try simp -implicitDefEqProofs only[go_sem,hk'])|simp (disch:=omega) only[Ad]|((with_reducible first|apply A8|apply Ag|apply Ae|apply Ab);exact rfl)
          all_goals first|omega|(simp<;>omega)|skip
          refine AU (α:=Nat) (l0:=?l4) (m0:=?m4) (fun x=>[(15,.d (.int .i64 (x:Int)))]) (fun x=>[]) (fun x=>k<=x/\x<=i/\∀q,k<=q->q<x->Bk (lm ix R) q k=0) (fun x=>i-x) k ?h04 ?he4 ?he24 ?hI4 ?step4
          case h04=>(simp -implicitDefEqProofs only[go_sem];rfl)
          case he4=>rfl
          case he24=>rfl
          case' step4=>(rintro f hI4;try dsimp only at hI4)
          case' hI4=>try dsimp only
          · exact⟨by omega,by omega,fun q _ _=>by omega⟩
          · obtain⟨f1,f2,f3⟩:=hI4
            by_cases hf:f<i
            · have hf':(f:Int)<(ix.length:Int):=by omega
              have hwf1:IntKind.i64.wrap ((f:Int)+1)=((f+1:Nat):Int):=by rw[AZ _ (by omega)];omega
              have a1:ix[f]?.getD 0<R.length:=by rw[lr];exact k2.pq.ix_lt hf
              have rl:(R[ix[f]?.getD 0]?.getD []).length=at_.length+1:=k2.rlen hf
              have ee:(R[ix[f]?.getD 0]?.getD [])[k]?.getD 0=Bk (lm ix R) f k:=by
                show _=Di (Ak (lm ix R) f) k
                rw[DK k2.pq hf];rfl
              by_cases hz:Bk (lm ix R) f k=0
              · (try (simp -implicitDefEqProofs only[go_sem,hf',hwf1,ee,hz]));repeat' first|(with_reducible first|exact tI|refine aI ?_ ?_|intro _|refine AJ ?_ ?_<;>intro _<;>try simp -implicitDefEqProofs only[go_sem,hf',hwf1,ee,hz])|simp (disch:=omega) only[Ad]|((with_reducible first|apply A8|apply Ag|apply Ae|apply Ab);exact rfl)
                all_goals first|omega|(simp<;>omega)|skip
                all_goals first
                  |(
                     rename_i q q1 q2
                     rcases Nat.lt_succ_iff_lt_or_eq.1 q2 with q2|rfl
                     · exact f3 q q1 q2
                     · exact hz)
                  |skip
              · have hfe:¬(f:Int)=(ix.length:Int):=by omega
                obtain⟨p1,p2,p3⟩:=Zv k2.pq (show k<i by omega) hf
                obtain⟨I,hIe⟩:∃I,(ix.set k (ix[f]?.getD 0)).set f (ix[k]?.getD 0)=I:=⟨_,rfl⟩
                rw[show FQ ix f=ix[f]?.getD 0 from rfl,show FQ ix k=ix[k]?.getD 0 from rfl,hIe] at p1 p2 p3
                obtain⟨a,hae⟩:∃a,ix[f]?.getD 0=a:=⟨_,rfl⟩
                rw[hae] at a1 rl ee p3 hIe
                have hIk:I[k]?.getD 0=a:=p3
                have hIl:=p1.li
                have a0:ix[k]?.getD 0<R.length:=by rw[lr];exact k2.pq.ix_lt (show k<i by omega)
                obtain⟨ra,hra⟩:∃ra,R[a]?.getD []=ra:=⟨_,rfl⟩
                rw[hra] at rl ee
                have hkr:k<ra.length:=by omega
                obtain⟨pv,hx⟩:∃pv,Bk (lm ix R) f k=pv:=⟨_,rfl⟩
                have c1:=Lo pv
                have hz0:=hz
                rw[hx] at hz ee
                have hif:k<ix.length:=by omega
                have hif2:f<ix.length:=by omega
                have hraf:∀b:F,(HK ra b).length=ra.length:=fun b=>Vs ra b
                have hRR:R.set a ra=R:=by rw[←hra];exact OX a1
                have hUR:Dl R=Dl (R.set a ra):=by rw[hRR]
                have hkI:k<I.length:=by omega
                (try (simp -implicitDefEqProofs only[go_sem,hf',ee,hz,hfe,hae,hra,hIe,hIk,a0,a1,hkr,hif,hif2,hkI,rl,List.length_set]));repeat' first|(with_reducible first|exact tI|refine aI ?_ ?_|intro _)|((first|with_reducible refine AJ ?_ ?_<;>intro _|(with_reducible refine isCall ?_);first|refine AE c1 ?_)<;>try (simp -implicitDefEqProofs only[go_sem,hf',ee,hz,hfe,hae,hra,hIe,hIk,a0,a1,hkr,hif,hif2,hkI,rl,List.length_set]))|simp (disch:=omega) only[Ad]|((with_reducible first|apply A8|apply Ag|apply Ae|apply Ab);exact rfl)
                all_goals first|omega|(simp<;>omega)|skip
                rw[hUR]
                refine AU (α:=Nat×(List F)) (l0:=?l5) (m0:=?m5) (fun x=>[(105,.d (.int .i64 (x.1:Int)))]) (fun x=>[(50,.mat 152 135 false I (Dl (R.set a x.2)))]) (fun x=>x.1<=at_.length+1/\x.2=(HK ra (fi pv)).take x.1++ra.drop x.1) (fun x=>at_.length+1-x.1) (0,ra) ?h05 ?he5 ?he25 ?hI5 ?step5
                case h05=>(simp -implicitDefEqProofs only[go_sem];rfl)
                case he5=>rfl
                case he25=>rfl
                case' step5=>(rintro⟨i5,r⟩ hI5;try dsimp only at hI5)
                case' hI5=>try dsimp only
                · exact⟨by omega,by simp⟩
                · obtain⟨r1,r2⟩:=hI5
                  have hr:r.length=at_.length+1:=by rw[r2,M9 (hraf _) i5 (by rw[hraf];omega),hraf];exact rl
                  by_cases h5:i5<at_.length+1
                  · have h5':(i5:Int)<((at_.length+1:Nat):Int):=by omega
                    have hw5:IntKind.i64.wrap ((i5:Int)+1)=((i5+1:Nat):Int):=by rw[AZ _ (by omega)];omega
                    have c5:=C2 (ra[i5]?.getD 0) (fi pv)
                    have g1:r[i5]?.getD 0=ra[i5]?.getD 0:=by rw[r2];exact M_ (hraf _) i5 (by rw[hraf];omega)
                    have g2:r.set i5 (fm (ra[i5]?.getD 0) (fi pv))=(HK ra (fi pv)).take (i5+1)++ra.drop (i5+1):=by
                      rw[r2,←show (HK ra (fi pv))[i5]?.getD 0=fm (ra[i5]?.getD 0) (fi pv) from SG ra (fi pv) i5]
                      exact M8 (hraf _) i5 (by rw[hraf];omega)
                    (try (simp -implicitDefEqProofs only[go_sem,h5',hw5,g1,Vo a1,Vn,hIk,hkI,List.length_set]));repeat' first|(with_reducible first|exact tI|refine aI ?_ ?_|intro _)|((first|with_reducible refine AJ ?_ ?_<;>intro _|(with_reducible refine isCall ?_);first|refine AE c5 ?_)<;>try (simp -implicitDefEqProofs only[go_sem,h5',hw5,g1,Vo a1,Vn,hIk,hkI,List.length_set]))|simp (disch:=omega) only[Ad]|((with_reducible first|apply A8|apply Ag|apply Ae|apply Ab);exact rfl)
                    all_goals first|omega|(simp<;>omega)|skip
                    all_goals first|exact g2|skip
                  · have h5':¬(i5:Int)<((at_.length+1:Nat):Int):=by omega
                    have hre:r=HK ra (fi pv):=by
                      have:i5=(HK ra (fi pv)).length:=by rw[hraf];omega
                      rw[r2,this];exact NA (hraf _)
                    subst hre
                    clear r2
                    obtain⟨R2,hR2⟩:∃R2,R.set a (HK ra (fi pv))=R2:=⟨_,rfl⟩
                    rw[hR2]
                    have pq2:PQ i I R2:=by rw[←hR2];exact p1.set _ _
                    have hM2:lm I R2=(swp (lm ix R) k f).set k (HK (Ak (swp (lm ix R) k f) k) (fi (Bk (lm ix R) f k))):=by
                      have e1:=UO p1 (show k<i by omega) (HK ra (fi pv))
                      rw[p3,hR2,p2] at e1
                      rw[e1,hx]
                      have e2:Ak (swp (lm ix R) k f) k=ra:=by
                        rw[←p2,DK p1 (show k<i by omega),p3];exact hra
                      rw[e2]
                    obtain⟨M2,hMe⟩:∃M2,lm I R2=M2:=⟨_,rfl⟩
                    have hl2:M2.length=i:=by rw[←hMe,GH];exact hIl
                    have hS2:QZ M2 i (at_.length+1):=by rw[←hMe,hM2];exact(k2.shp.swp (show k<i by omega) hf).scl (show k<i by omega) _
                    (try (simp -implicitDefEqProofs only[go_sem,h5']));repeat' first|(with_reducible first|exact tI|refine aI ?_ ?_|intro _|refine AJ ?_ ?_<;>intro _<;>try simp -implicitDefEqProofs only[go_sem,h5'])|simp (disch:=omega) only[Ad]|((with_reducible first|apply A8|apply Ag|apply Ae|apply Ab);exact rfl)
                    all_goals first|omega|(simp<;>omega)|skip
                    refine AU (α:=Nat×(List (List F))) (l0:=?l6) (m0:=?m6) (fun x=>[(122,.d (.int .i64 (x.1:Int)))]) (fun x=>[(50,.mat 152 135 false I (Dl x.2))]) (fun x=>x.1<=i/\PQ i I x.2/\lm I x.2=(A5 (fun y _=>y) M2 k).take x.1++M2.drop x.1) (fun x=>i-x.1) (0,R2) ?h06 ?he6 ?he26 ?hI6 ?step6
                    case h06=>(simp -implicitDefEqProofs only[go_sem];rfl)
                    case he6=>rfl
                    case he26=>rfl
                    case' step6=>(rintro⟨i6,Q⟩ hI6;try dsimp only at hI6)
                    case' hI6=>try dsimp only
                    · exact⟨by omega,pq2,by rw[hMe];simp⟩
                    · obtain⟨t1,t2,t3⟩:=hI6
                      by_cases h6:i6<i
                      · have h6':(i6:Int)<(I.length:Int):=by omega
                        have hw6:IntKind.i64.wrap ((i6:Int)+1)=((i6+1:Nat):Int):=by rw[AZ _ (by omega)];omega
                        by_cases hik:i6=k
                        · subst hik
                          have hnx:lm I Q=(A5 (fun y _=>y) M2 i6).take (i6+1)++M2.drop (i6+1):=by rw[t3];exact RH (by omega)
                          (try (simp -implicitDefEqProofs only[go_sem,h6',hw6]));repeat' first|(with_reducible first|exact tI|refine aI ?_ ?_|intro _|refine AJ ?_ ?_<;>intro _<;>try simp -implicitDefEqProofs only[go_sem,h6',hw6])|simp (disch:=omega) only[Ad]|((with_reducible first|apply A8|apply Ag|apply Ae|apply Ab);exact rfl)
                          all_goals first|omega|(simp<;>omega)|skip
                          all_goals first|exact hnx|exact t2|skip
                        · have hik':¬(i6:Int)=(k:Int):=by omega
                          have b1:I[i6]?.getD 0<Q.length:=by rw[t2.lr];exact t2.ix_lt h6
                          have b2:a<Q.length:=by rw[t2.lr,←p3];exact t2.ix_lt (show k<i by omega)
                          have e6:Q[I[i6]?.getD 0]?.getD []=Ak M2 i6:=by
                            have:=DK t2 h6
                            rw[t3,UA (by omega)] at this
                            exact this.symm
                          have ek:Q[a]?.getD []=Ak M2 k:=by
                            have:=DK t2 (show k<i by omega)
                            rw[t3,RI (by omega) (by omega),p3] at this
                            exact this.symm
                          have l6:=hS2.row i6 h6
                          have lk:=hS2.row k (by omega)
                          have hne:I[i6]?.getD 0≠a:=by
                            rw[←hIk]
                            exact fun e=>hik (t2.ix_inj h6 (show k<i by omega) e)
                          have ek2:(Ak M2 i6)[k]?.getD 0=Bk M2 i6 k:=rfl
                          have c6:=nA 152 135 false I Q (I[i6]?.getD 0) a (Bk M2 i6 k) hne b1 b2 (by rw[e6,ek,l6,lk]) (by rw[ek,lk];omega)
                          rw[e6,ek] at c6
                          have hnx:lm I (Q.set (I[i6]?.getD 0) (C7 (Ak M2 i6) (Ak M2 k) (Bk M2 i6 k)))=(A5 (fun y _=>y) M2 k).take (i6+1)++M2.drop (i6+1):=by
                            have:=UO t2 h6 (C7 (Ak M2 i6) (Ak M2 k) (Bk M2 i6 k))
                            rw[show FQ I i6=I[i6]?.getD 0 from rfl] at this
                            rw[this,t3]
                            exact RJ (f:=fun y _=>y) (by omega) hik
                          have hpq:=t2.set (I[i6]?.getD 0) (C7 (Ak M2 i6) (Ak M2 k) (Bk M2 i6 k))
                          have hI6l:i6<I.length:=by omega
                          (try (simp -implicitDefEqProofs only[go_sem,h6',hw6,hik',hIk,b1,e6,ek2,l6,hkI,hI6l]));repeat' first|(with_reducible first|exact tI|refine aI ?_ ?_|intro _)|((first|with_reducible refine AJ ?_ ?_<;>intro _|(with_reducible refine isCall ?_);first|(refine EM ([((900000,0),(50,0))]) ([((900000,0),(50,0))]) (c6) ?_))<;>try (simp -implicitDefEqProofs only[go_sem,h6',hw6,hik',hIk,b1,e6,ek2,l6,hkI,hI6l]))|simp (disch:=omega) only[Ad]|((with_reducible first|apply A8|apply Ag|apply Ae|apply Ab);exact rfl)
                          all_goals first|omega|(simp<;>omega)|skip
                          all_goals first|exact hnx|exact hpq|skip
                      · have h6':¬(i6:Int)<(I.length:Int):=by omega
                        have h6e:i6=i:=by omega
                        have hfin:lm I Q=A5 (fun y _=>y) M2 k:=by
                          rw[t3,h6e,←hl2];exact UB
                        obtain⟨st,sd⟩:=k2.stepS k3 (show k<i by omega) f1 hf hz0 t2 (by rw[hfin,←hMe,hM2])
                        (try (simp -implicitDefEqProofs only[go_sem,h6',hwk]));repeat' first|(with_reducible first|exact tI|refine aI ?_ ?_|intro _|refine AJ ?_ ?_<;>intro _<;>try simp -implicitDefEqProofs only[go_sem,h6',hwk])|simp (disch:=omega) only[Ad]|((with_reducible first|apply A8|apply Ag|apply Ae|apply Ab);exact rfl)
                        all_goals first|omega|(simp<;>omega)|skip
                        all_goals first|exact st|(rename_i j hj;exact sd j hj)|skip
            · have hf':¬(f:Int)<(ix.length:Int):=by omega
              have hfe:f=i:=by omega
              exact(k2.fail hL hp hm hk fun q q1 q2=>f3 q q1 (by omega)).elim
        · have hk':¬(k:Int)<(at_.length:Int):=by omega
          have hke:k=at_.length:=by omega
          subst hke
          obtain⟨N,hN⟩:∃N,lm ix R=N:=⟨_,rfl⟩
          have hNl:N.length=i:=by rw[←hN,GH];exact li
          have hmat:Gw ix (Dl R)=N.map fun r=>.list false (us r):=by
            rw[YG fun j hj=>by rw[lr];exact k2.pq.lt j hj,←hN];rfl
          have hun:CJ 1 (N.map fun r=>D.list false (us r))=True:=VL fun _=>rfl
          have hmi:(at_.length:Int)<=(i:Int):=by omega
          have hsl:((N.map fun r=>D.list false (us r)).drop at_.length).take (i-at_.length)=(N.drop at_.length).map fun r=>D.list false (us r):=by
            rw[List.take_of_length_le (by simp;omega),List.map_drop]
          have hsl3:(N.map fun r=>D.list false (us r)).take at_.length=(N.take at_.length).map fun r=>D.list false (us r):=by rw[List.map_take]
          have hdl:(N.drop at_.length).length=i-at_.length:=by simp[hNl]
          have hS:=k2.shp
          rw[hN] at hS k3
          (try (simp -implicitDefEqProofs only[go_sem,hk',hmat,hun,hNl,hsl,hmi,hdl]));repeat' first|(with_reducible first|exact tI|refine aI ?_ ?_|intro _|refine AJ ?_ ?_<;>intro _<;>try simp -implicitDefEqProofs only[go_sem,hk',hmat,hun,hNl,hsl,hmi,hdl])|simp (disch:=omega) only[Ad]|((with_reducible first|apply A8|apply Ag|apply Ae|apply Ab);exact rfl)
          all_goals first|omega|(simp<;>omega)|skip
          refine AU (α:=Nat) (l0:=?l7) (m0:=?m7) (fun x=>[(147,.d (.int .i64 (x:Int)))]) (fun x=>[]) (fun x=>x<=i-at_.length/\∀q,q<x->Bk N (at_.length+q) at_.length=0) (fun x=>i-at_.length-x) 0 ?h07 ?he7 ?he27 ?hI7 ?step7
          case h07=>(simp -implicitDefEqProofs only[go_sem];rfl)
          case he7=>rfl
          case he27=>rfl
          case' step7=>(rintro i7 hI7;try dsimp only at hI7)
          case' hI7=>try dsimp only
          · exact⟨by omega,fun q hq=>absurd hq (by omega)⟩
          · obtain⟨u1,u2⟩:=hI7
            by_cases h7:i7<i-at_.length
            · have h7':(i7:Int)<((i-at_.length:Nat):Int):=by omega
              have hw7:IntKind.i64.wrap ((i7:Int)+1)=((i7+1:Nat):Int):=by rw[AZ _ (by omega)];omega
              have er:(N.drop at_.length)[i7]?.getD default=Ak N (at_.length+i7):=by rw[List.getElem?_drop];rfl
              have lr7:=hS.row (at_.length+i7) (by omega)
              have ee7:(Ak N (at_.length+i7))[at_.length]?.getD 0=Bk N (at_.length+i7) at_.length:=rfl
              by_cases hz7:Bk N (at_.length+i7) at_.length=0
              · (try (simp -implicitDefEqProofs only[go_sem,h7',hw7,hdl,er,lr7,ee7,hz7]));repeat' first|(with_reducible first|exact tI|refine aI ?_ ?_|intro _|refine AJ ?_ ?_<;>intro _<;>try simp -implicitDefEqProofs only[go_sem,h7',hw7,hdl,er,lr7,ee7,hz7])|simp (disch:=omega) only[Ad]|((with_reducible first|apply A8|apply Ag|apply Ae|apply Ab);exact rfl)
                all_goals first|omega|(simp<;>omega)|skip
                all_goals first
                  |(
                     rename_i q hq
                     rcases Nat.lt_succ_iff_lt_or_eq.1 hq with hq|rfl
                     · exact u2 q hq
                     · exact hz7)
                  |skip
              · have hso:Gl L i at_ s=none:=k2.endsN hm (show at_.length<=at_.length+i7 by omega) (by omega) (by rw[hN];exact hz7)
                rw[hso]
                (try (simp -implicitDefEqProofs only[go_sem,h7',hw7,hdl,er,lr7,ee7,hz7,OT]));repeat' first|(with_reducible first|exact tI|refine aI ?_ ?_|intro _|refine AJ ?_ ?_<;>intro _<;>try simp -implicitDefEqProofs only[go_sem,h7',hw7,hdl,er,lr7,ee7,hz7,OT])|simp (disch:=omega) only[Ad]|((with_reducible first|apply A8|apply Ag|apply Ae|apply Ab);exact rfl)
                all_goals first|omega|(simp<;>omega)|skip
                all_goals first|rfl|skip
            · have h7':¬(i7:Int)<((i-at_.length:Nat):Int):=by omega
              obtain⟨v,hv⟩:∃v,(N.take at_.length).map (fun r=>r[at_.length]?.getD 0)=v:=⟨_,rfl⟩
              have hvl:v.length=at_.length:=by rw[←hv];simp;omega
              have hva:∀q,q<at_.length->Di v q=Bk N q at_.length:=fun q hq=>by
                have hqN:q<N.length:=by omega
                unfold Di
                rw[←hv,List.getElem?_map,List.getElem?_take_of_lt hq,List.getElem?_eq_getElem hqN]
                simp only[Option.map_some,Option.getD_some]
                unfold Bk Di Ak
                rw[List.getElem?_eq_getElem hqN,Option.getD_some]
              have hso:Gl L i at_ s=some v:=k2.ends hL hp hm v hvl (fun q hq=>by rw[hN,k3 q hq,UF];exact hva q hq) (fun q q1 q2=>by
                rw[hN]
                have:=u2 (q-at_.length) (by omega)
                rwa [show at_.length+(q-at_.length)=q by omega] at this)
              have c7:=Uy false false n2 (N.take at_.length) at_ at_.length rfl (by simp;omega) (fun q hq=>by
                have hq2:q<at_.length:=by simp at hq;omega
                rw[List.getElem?_take_of_lt hq2]
                have:=hS.row q (by omega)
                unfold Ak at this
                omega)
              rw[hv] at c7
              have hte:(N.take at_.length).isEmpty=v.isEmpty:=by rw[←hv];cases N.take at_.length<;>rfl
              rw[hte] at c7
              rw[hso]
              (try (simp -implicitDefEqProofs only[go_sem,h7',hun,hNl,hmi,hsl3,OS]));repeat' first|(with_reducible first|exact tI|refine aI ?_ ?_|intro _)|((first|with_reducible refine AJ ?_ ?_<;>intro _|(with_reducible refine isCall ?_);first|refine AE c7 ?_)<;>try (simp -implicitDefEqProofs only[go_sem,h7',hun,hNl,hmi,hsl3,OS]))|simp (disch:=omega) only[Ad]|((with_reducible first|apply A8|apply Ag|apply Ae|apply Ab);exact rfl)
              all_goals first|omega|(simp<;>omega)|skip
              all_goals first|rfl|skip
end
end Go.Pw
