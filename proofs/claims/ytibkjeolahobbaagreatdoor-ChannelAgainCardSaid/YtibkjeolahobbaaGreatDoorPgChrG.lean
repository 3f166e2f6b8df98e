/- A part of the proof. -/
import Derived.Test.YtibkjeolahobbaaGreatDoorPgChrF
set_option linter.all false
open Go Go.Pw Go.Proofs
namespace Go.Pw
set_option maxRecDepth 100000
set_option maxHeartbeats 3200000
section
theorem T7 {A B:List F}(hl:A.length=B.length) (i:Nat) (h:i<A.length):(A.take i++B.drop i)[i]?.getD 0=B[i]?.getD 0:=by
 rw[List.getElem?_append_right (by simp;omega)]
 simp only[List.length_take,List.getElem?_drop]
 congr 2;omega
theorem T5 {A B:List F}(hl:A.length=B.length) (i:Nat) (h:i<A.length):(A.take i++B.drop i).set i (A[i]?.getD 0)=A.take (i+1)++B.drop (i+1):=by
 have h1:(A.take i).length=i:=by simp;omega
 have h2:A.take (i+1)=A.take i++[A[i]]:=by rw[List.take_succ,List.getElem?_eq_getElem h];rfl
 rw[List.set_append_right _ _ (by omega),h1,Nat.sub_self,List.drop_eq_getElem_cons (by omega),List.set_cons_zero,h2,List.getElem?_eq_getElem h,List.append_assoc]
 rfl
theorem T6 {A B:List F}(hl:A.length=B.length) (i:Nat) (h:i<=A.length):(A.take i++B.drop i).length=A.length:=by simp;omega
theorem T8 {A B:List F}(hl:A.length=B.length):A.take A.length++B.drop A.length=A:=by rw[List.take_length,List.drop_eq_nil_of_le (by omega),List.append_nil]
theorem fJ (r o:List F) (b:F) (i:Nat) (h:r.length=o.length):(GZ r o b)[i]?.getD 0=fa (r[i]?.getD 0) (fm (o[i]?.getD 0) b):=Nr r o b i h
theorem gF {R:List (List F)}{a:Nat}{r:List F}(h:a<R.length):(R.set a r)[a]?.getD []=r:=by simp[h]
theorem kL {R:List (List F)}{a b:Nat}{r:List F}(h:a≠b):(R.set a r)[b]?.getD []=R[b]?.getD []:=by rw[List.getElem?_set_ne h]
theorem gD {R:List (List F)}{a:Nat}{r r':List F}:(R.set a r).set a r'=R.set a r':=List.set_set ..
theorem bX {R:List (List F)}{a:Nat}(h:a<R.length):R.set a (R[a]?.getD [])=R:=by
 rw[List.getElem?_eq_getElem h];simp
attribute [local congr] Bh A7 A8 Au Bi Az A1 A0 Ar Ai Ab AZ Aw Ad Ax BF BJ BH BI BG BK BC Ag Ay Ah BA BS Af BD BE BB A_ A' A6 Bj A9 Av Ae
attribute [local irreducible] IntKind.wrap A5 Option.getD and or
theorem jW (e1 e2:Nat) (nl:Bool) (ix:List Nat) (R:List (List F)) (a b:Nat) (s:F) (hab:a≠b) (ha:a<R.length) (hb:b<R.length) (hl:(R[a]?.getD []).length=(R[b]?.getD []).length) (hs:(R[b]?.getD []).length<=1000) :
  H9 E0 Fq [(900000,0,.mat e1 e2 nl ix (EO R))] [.mref (.row a) 900000 0,.mref (.row b) 900000 0,.d (.int .u8 (s.val:Int))]
   [(900000,0,.mat e1 e2 nl ix (EO (R.set a (GZ (R[a]?.getD []) (R[b]?.getD []) s))))] (.tup []):=by
 obtain⟨ra,hra⟩:∃ra,R[a]?.getD []=ra:=⟨_,rfl⟩
 obtain⟨rb,hrb⟩:∃rb,R[b]?.getD []=rb:=⟨_,rfl⟩
 rw[hra,hrb] at hl ⊢
 rw[hrb] at hs
 have hA:=Nu ra rb s hl
 have hRR:R.set a ra=R:=by rw[←hra];exact bX ha
 have hl2:(R.set a ra).length=R.length:=by simp
 suffices hsu:H9 E0 Fq [(900000,0,.mat e1 e2 nl ix (EO (R.set a ra)))] [.mref (.row a) 900000 0,.mref (.row b) 900000 0,.d (.int .u8 (s.val:Int))]
   [(900000,0,.mat e1 e2 nl ix (EO (R.set a (GZ ra rb s))))] (.tup []) by rwa [hRR] at hsu
 have hB0:(R.set a ra)[b]?.getD []=rb:=by rw[kL hab];exact hrb
 refine Da Lg Aq (by simp) (by simp[PM,CO,EL,Aa.isHist]) (by simp[Eu]) fun hwf hwo=>?_
 rw[ED];unfold HD
 (try (simp -implicitDefEqProofs only[go_sem,hB0,hb,List.length_set]));repeat' first|(with_reducible first|exact tI|refine aI ?_ ?_|intro _)|((first|with_reducible refine AM ?_ ?_<;>intro _)<;>try (simp -implicitDefEqProofs only[go_sem,hB0,hb,List.length_set]))|simp (disch:=omega) only[An]|((with_reducible refine Am ?_);refine⟨(_,_),rfl,?_,?_⟩)
 refine AY (α:=Nat×(List F)) (l0:=?l1) (m0:=?m1) (fun x=>[(10,.d (.int .i64 (x.1:Int)))]) (fun x=>[(900000,.mat e1 e2 nl ix (EO (R.set a x.2)))]) (fun x=>x.1<=rb.length/\x.2=(GZ ra rb s).take x.1++ra.drop x.1) (fun x=>rb.length-x.1) (0,ra) ?h01 ?he1 ?he21 ?hI1 ?step1
 case h01=>(simp -implicitDefEqProofs only[go_sem,List.length_set];rfl)
 case he1=>rfl
 case he21=>rfl
 case' step1=>(rintro⟨i,r⟩ hI;try dsimp only at hI)
 case' hI1=>try dsimp only
 ·exact⟨by omega,by simp⟩
 ·obtain⟨h1,h2⟩:=hI
  have hr:r.length=rb.length:=by rw[h2,T6 hA i (by omega)];omega
  by_cases h:i<rb.length
  ·have h':(i:Int)<(rb.length:Int):=by omega
   have hw:IntKind.i64.wrap ((i:Int)+1)=((i+1:Nat):Int):=by rw[Ak _ (by omega)];omega
   have c1:=DZ (rb[i]?.getD 0) s
   have k1:r[i]?.getD 0=ra[i]?.getD 0:=by rw[h2];exact T7 hA i (by omega)
   have k2:r.set i (fa (ra[i]?.getD 0) (fm (rb[i]?.getD 0) s))=(GZ ra rb s).take (i+1)++ra.drop (i+1):=by
    rw[h2,←fJ ra rb s i hl];exact T5 hA i (by omega)
   have hB:(R.set a r)[b]?.getD []=rb:=by rw[kL hab];exact hrb
   (try (simp -implicitDefEqProofs only[go_sem,h',hw,k1,gF ha,hB,gD,List.length_set]));repeat' first|(with_reducible first|exact tI|refine aI ?_ ?_|intro _)|((first|with_reducible refine AM ?_ ?_<;>intro _|(with_reducible refine isCall ?_);first|refine AE c1 ?_)<;>try (simp -implicitDefEqProofs only[go_sem,h',hw,k1,gF ha,hB,gD,List.length_set]))|simp (disch:=omega) only[An]|((with_reducible refine Am ?_);refine⟨(_,_),rfl,?_,?_⟩)
   all_goals first|omega|(simp;done)|(simp;omega)|skip
   all_goals first|exact k2|skip
  ·have h':¬(i:Int)<(rb.length:Int):=by omega
   have hk:i=rb.length:=by omega
   have hf:r=GZ ra rb s:=by
    rw[h2,hk]
    have:=T8 hA
    rwa [hA,hl] at this
   subst hf
   have hB:(R.set a (GZ ra rb s))[b]?.getD []=rb:=by rw[kL hab];exact hrb
   (try (simp -implicitDefEqProofs only[go_sem,h',hB,List.length_set]));repeat' first|(with_reducible first|exact tI|refine aI ?_ ?_|intro _)|((first|with_reducible refine AM ?_ ?_<;>intro _)<;>try (simp -implicitDefEqProofs only[go_sem,h',hB,List.length_set]))|simp (disch:=omega) only[An]|((with_reducible refine Am ?_);refine⟨(_,_),rfl,?_,?_⟩)
   all_goals first|omega|(simp;done)|(simp;omega)|skip
theorem Tb (nl nb na:Bool) (M:List (List F)) (at_:List Nat) (m:Nat) (hm:m=at_.length) (hl:M.length<=1000) (hs:∀i,i<M.length->m<(M[i]?.getD []).length) :
  CI E0 CK [.list nl (M.map fun r=>.list nb (us r)),.fn C5 [.ptr [.list na (Aj (ni at_))]]] (.list M.isEmpty (us (M.map fun r=>r[m]?.getD 0))):=by
 subst hm
 have c0:∀r:List F,at_.length<r.length->CI E0 C5 [.list nb (us r),.ptr [.list na (Aj (ni at_))]] (.int .u8 ((r[at_.length]?.getD 0).val:Int)):=by
  intro r hr
  refine AK II Aq (by simp) fun hwf=>?_
  rw[AW];unfold FK
  (try (simp -implicitDefEqProofs only[go_sem]));repeat' first|(with_reducible first|exact tI|refine aI ?_ ?_|intro _)|((first|with_reducible refine AM ?_ ?_<;>intro _)<;>try (simp -implicitDefEqProofs only[go_sem]))|simp (disch:=omega) only[An]|((with_reducible refine BZ ?_);refine⟨(_,_,_),rfl,?_,?_⟩)
  all_goals first|omega|(simp;done)|(simp;omega)|skip
 refine AK De Aq (by simp) fun hwf=>?_
 rw[AW];unfold CC
 (try (simp -implicitDefEqProofs only[go_sem]));repeat' first|(with_reducible first|exact tI|refine aI ?_ ?_|intro _)|((first|with_reducible refine AM ?_ ?_<;>intro _)<;>try (simp -implicitDefEqProofs only[go_sem]))|simp (disch:=omega) only[An]|((with_reducible refine BZ ?_);refine⟨(_,_,_),rfl,?_,?_⟩)
 refine AY (α:=Nat×Bool×(List F)) (l0:=?l2) (m0:=?m2) (fun x=>[(10,.d (.int .i64 (x.1:Int)))]) (fun x=>[(19,.row 135 1 x.2.1 (us x.2.2))]) (fun x=>x.1<=M.length/\x.2.2=(M.take x.1).map (fun r=>r[at_.length]?.getD 0)/\x.2.1=x.2.2.isEmpty) (fun x=>M.length-x.1) (0,true,[]) ?h02 ?he2 ?he22 ?hI2 ?step2
 case h02=>(simp -implicitDefEqProofs only[go_sem];rfl)
 case he2=>rfl
 case he22=>rfl
 case' step2=>(rintro⟨i,b,l⟩ hI;try dsimp only at hI)
 case' hI2=>try dsimp only
 ·exact⟨by omega,rfl,rfl⟩
 ·obtain⟨h1,h2,h3⟩:=hI
  subst h3
  by_cases h:i<M.length
  ·have h':(i:Int)<(M.length:Int):=by omega
   have hw:IntKind.i64.wrap ((i:Int)+1)=((i+1:Nat):Int):=by rw[Ak _ (by omega)];omega
   have c1:=c0 (M[i]?.getD default) (hs i h)
   have hk:l++[(M[i]?.getD default)[at_.length]?.getD 0]=(M.take (i+1)).map (fun r=>r[at_.length]?.getD 0):=by
    rw[h2,List.take_succ,List.getElem?_eq_getElem h,List.map_append,Option.getD_some];rfl
   have hl3:l.length<=1000:=by rw[h2];simp;omega
   (try (simp -implicitDefEqProofs only[go_sem,h',hw,Nq,MN]));repeat' first|(with_reducible first|exact tI|refine aI ?_ ?_|intro _)|((first|with_reducible refine AM ?_ ?_<;>intro _|(with_reducible refine isCall ?_);first|refine AE c1 ?_)<;>try (simp -implicitDefEqProofs only[go_sem,h',hw,Nq,MN]))|simp (disch:=omega) only[An]|((with_reducible refine BZ ?_);refine⟨(_,_,_),rfl,?_,?_⟩)
   all_goals first|omega|(simp;done)|(simp;omega)|skip
   all_goals first|exact hk|(exact(VU _ _).symm)|(simp at *;done)|(simp at *;omega)|skip
  ·have h':¬(i:Int)<(M.length:Int):=by omega
   have hk:i=M.length:=by omega
   subst hk
   rw[List.take_length] at h2
   have he:l.isEmpty=M.isEmpty:=by rw[h2];cases M<;>rfl
   rw[←h2,←he]
   (try (simp -implicitDefEqProofs only[go_sem,h']));repeat' first|(with_reducible first|exact tI|refine aI ?_ ?_|intro _)|((first|with_reducible refine AM ?_ ?_<;>intro _)<;>try (simp -implicitDefEqProofs only[go_sem,h']))|simp (disch:=omega) only[An]|((with_reducible refine BZ ?_);refine⟨(_,_,_),rfl,?_,?_⟩)
   all_goals first|omega|(simp;done)|(simp;omega)|skip
   all_goals first|rfl|skip
end
def lm (ix:List Nat) (R:List (List F)):List (List F):=ix.map fun j=>R[j]?.getD []
structure PQ (n:Nat) (ix:List Nat) (R:List (List F)):Prop where
 li:ix.length=n
 lr:R.length=n
 nd:ix.Nodup
 lt:∀j,j∈ix->j<n
def GJ (ix:List Nat) (i:Nat):Nat:=ix[i]?.getD 0
theorem Ko {l:List Nat}{i:Nat}(h:i<l.length):GJ l i=l[i]:=by unfold GJ;rw[List.getElem?_eq_getElem h];rfl
theorem iL {ix:List Nat}{i:Nat}(h:i<ix.length):GJ ix i∈ix:=by unfold GJ;rw[List.getElem?_eq_getElem h];exact List.getElem_mem h
theorem PQ.ix_lt {n ix R} (h:PQ n ix R) {i:Nat}(hi:i<n):GJ ix i<n:=h.lt _ (iL (by rw[h.li];exact hi))
theorem PQ.ix_inj {n ix R} (h:PQ n ix R) {i j:Nat}(hi:i<n) (hj:j<n) (he:GJ ix i=GJ ix j):i=j:=by
 have h1:=h.li
 unfold GJ at he
 rw[List.getElem?_eq_getElem (by omega),List.getElem?_eq_getElem (by omega)] at he
 exact(List.getElem_inj h.nd).1 he
theorem IA (ix R):(lm ix R).length=ix.length:=by simp[lm]
theorem GH {n ix R} (h:PQ n ix R) {i:Nat}(hi:i<n):Be (lm ix R) i=R[GJ ix i]?.getD []:=by
 have h1:=h.li
 unfold Be lm GJ
 rw[List.getElem?_map,List.getElem?_eq_getElem (by omega)];rfl
theorem PQ.set {n ix R} (h:PQ n ix R) (a:Nat) (r:List F):PQ n ix (R.set a r):=⟨h.li,by simpa using h.lr,h.nd,h.lt⟩
theorem dJ {n ix R} (h:PQ n ix R) {i:Nat}(hi:i<n) (r:List F):lm ix (R.set (GJ ix i) r)=(lm ix R).set i r:=by
 have h1:=h.li
 apply List.ext_getElem?
 intro j
 by_cases hj:j<n
 ·have e1:(lm ix (R.set (GJ ix i) r))[j]?=some (Be (lm ix (R.set (GJ ix i) r)) j):=by
   unfold Be;rw[List.getElem?_eq_getElem (by rw[IA];omega)];rfl
  rw[e1,GH (h.set _ _) hj]
  by_cases hij:i=j
  ·subst hij
   rw[List.getElem?_set_self (by rw[h.lr];exact h.ix_lt hi),List.getElem?_set_self (by rw[IA];omega)];rfl
  ·rw[List.getElem?_set_ne (fun e=>hij (h.ix_inj hi hj e)),List.getElem?_set_ne hij]
   unfold lm
   rw[List.getElem?_map,List.getElem?_eq_getElem (l:=ix) (by omega)]
   show some _=some _
   unfold GJ
   rw[List.getElem?_eq_getElem (l:=ix) (by omega)];rfl
 ·rw[List.getElem?_eq_none (by rw[IA];omega),List.getElem?_eq_none (by simp[IA];omega)]
theorem iK {n ix R} (h:PQ n ix R) {k p:Nat}(hk:k<n) (hp:p<n):PQ n ((ix.set k (GJ ix p)).set p (GJ ix k)) R/\lm ((ix.set k (GJ ix p)).set p (GJ ix k)) R=swp (lm ix R) k p/\GJ ((ix.set k (GJ ix p)).set p (GJ ix k)) k=GJ ix p:=by
 have h1:=h.li
 have hget:∀j,j<n->GJ ((ix.set k (GJ ix p)).set p (GJ ix k)) j=if j=p then GJ ix k else if j=k then GJ ix p else GJ ix j:=fun j hj=>by
  rw[show GJ ((ix.set k (GJ ix p)).set p (GJ ix k)) j=((ix.set k (GJ ix p)).set p (GJ ix k))[j]?.getD 0 from rfl]
  by_cases e1:j=p
  ·subst e1;rw[List.getElem?_set_self (by simp;omega),if_pos rfl];rfl
  ·rw[List.getElem?_set_ne fun e=>e1 e.symm,if_neg e1]
   by_cases e2:j=k
   ·subst e2;rw[List.getElem?_set_self (by omega),if_pos rfl];rfl
   ·rw[List.getElem?_set_ne fun e=>e2 e.symm,if_neg e2];rfl
 have hlen:((ix.set k (GJ ix p)).set p (GJ ix k)).length=n:=by simp[h1]
 have hP:PQ n ((ix.set k (GJ ix p)).set p (GJ ix k)) R:=by
  refine⟨hlen,h.lr,?_,fun j hj=>?_⟩
  ·refine List.pairwise_iff_getElem.2 fun i j hi hj hij he=>?_
   have e1:=hget i (by omega)
   have e2:=hget j (by omega)
   have he':GJ ((ix.set k (GJ ix p)).set p (GJ ix k)) i=GJ ((ix.set k (GJ ix p)).set p (GJ ix k)) j:=by
    rw[Ko hi,Ko hj];exact he
   rw[e1,e2] at he'
   have inj:∀{a b},a<n->b<n->GJ ix a=GJ ix b->a=b:=fun ha hb=>h.ix_inj ha hb
   have:i=j:=by
    by_cases c1:i=p<;>by_cases c2:j=p
    ·omega
    ·rw[if_pos c1,if_neg c2] at he'
     by_cases c3:j=k
     ·rw[if_pos c3] at he';have:=inj hk hp he';omega
     ·rw[if_neg c3] at he';have:=inj hk (by omega) he';omega
    ·rw[if_neg c1,if_pos c2] at he'
     by_cases c3:i=k
     ·rw[if_pos c3] at he';have:=inj hp hk he';omega
     ·rw[if_neg c3] at he';have:=inj (by omega) hk he';omega
    ·rw[if_neg c1,if_neg c2] at he'
     by_cases c3:i=k<;>by_cases c4:j=k
     ·omega
     ·rw[if_pos c3,if_neg c4] at he';have:=inj hp (by omega) he';omega
     ·rw[if_neg c3,if_pos c4] at he';have:=inj (by omega) hp he';omega
     ·rw[if_neg c3,if_neg c4] at he';exact inj (by omega) (by omega) he'
   omega
  ·obtain⟨i,hi,rfl⟩:=List.getElem_of_mem hj
   rw[←Ko hi,hget i (by omega)]
   split
   ·exact h.ix_lt hk
   ·split
    ·exact h.ix_lt hp
    ·exact h.ix_lt (by omega)
 refine⟨hP,?_,?_⟩
 ·apply List.ext_getElem
  ·simp[IA,swp,h1]
  ·intro j h2 h3
   have hj:j<n:=by rw[IA,hlen] at h2;exact h2
   have e1:=GH hP hj
   have e2:=EY (lm ix R) k p j (by rw[IA];omega) (by rw[IA];omega)
   unfold Be at e1
   rw[List.getElem?_eq_getElem h2] at e1
   rw[show Be (swp (lm ix R) k p) j=(swp (lm ix R) k p)[j]?.getD [] from rfl,List.getElem?_eq_getElem h3] at e2
   have e1':(lm ((ix.set k (GJ ix p)).set p (GJ ix k)) R)[j]=R[GJ ((ix.set k (GJ ix p)).set p (GJ ix k)) j]?.getD []:=e1
   have e2':(swp (lm ix R) k p)[j]=if j=p then Be (lm ix R) k else if j=k then Be (lm ix R) p else Be (lm ix R) j:=e2
   rw[e1',e2',hget j hj]
   split
   ·rw[GH h hk]
   ·split
    ·rw[GH h hp]
    ·rw[GH h hj]
 ·rw[hget k hk]
  split
  ·rename_i e;subst e;rfl
  ·rw[if_pos rfl]
structure Tv (L P:Nat) (at_:List Nat) (s:List F) (ix:List Nat) (R:List (List F)) (k:Nat):Prop where
 pq:PQ P ix R
 shp:RG (lm ix R) P (at_.length+1)
 red:ae (lm ix R) k
 sat:∀c v,v.length=at_.length->(RK c (lm ix R) v↔RK c (O' L P at_ s) v)
theorem dK (R:List (List F)):lm (List.range R.length) R=R:=by
 apply List.ext_getElem
 ·simp[lm]
 ·intro i h1 h2
  simp[lm,h2]
theorem Tv.start {L P:Nat}{at_:List Nat}{s:List F}:Tv L P at_ s (List.range P) (O' L P at_ s) 0:=by
 have hl:=(NN L P at_ s).len
 have e:lm (List.range P) (O' L P at_ s)=O' L P at_ s:=by
  have:=dK (O' L P at_ s)
  rwa [hl] at this
 refine⟨⟨by simp,hl,List.nodup_range,fun j hj=>by simpa using hj⟩,by rw[e];exact NN L P at_ s,⟨fun i j hi hj=>by omega,fun j hj=>by omega⟩,fun c v hv=>by rw[e]⟩
theorem Tv.rlen {L P at_ s ix R k} (h:Tv L P at_ s ix R k) {i:Nat}(hi:i<P):(R[GJ ix i]?.getD []).length=at_.length+1:=by
 have:=h.shp.row i hi
 rwa [GH h.pq hi] at this
theorem Tv.fail {L P at_ s ix R k} (h:Tv L P at_ s ix R k) (hL:L<=15) (hp:aj L at_) (hm:at_.length<=P) (hk:k<at_.length) (hz:∀i,k<=i->i<P->Dc (lm ix R) i k=0):False:=by
 obtain⟨v,h1,h2,h3⟩:=bm h.shp h.red hk hm hz
 have:=U8 hL hp hm h1 ((h.sat 0 v h1).1 h2) k
 rw[h3] at this
 exact absurd this (by decide)
theorem Tv.step {L P at_ s ix R k} (h:Tv L P at_ s ix R k) {p:Nat}(hk:k<P) (hkp:k<=p) (hp:p<P) (hnz:Dc (lm ix R) p k≠0) {f:F->F->F}(hf:∀a,fm (Dc (lm ix R) p k) (f a (Dc (lm ix R) p k))=a)
  {ix':List Nat}{R':List (List F)}(hpq:PQ P ix' R') (hr:lm ix' R'=Bf f (swp (lm ix R) k p) k):Tv L P at_ s ix' R' (k+1)/\(∀j,j<k->Dc (lm ix' R') j j=Dc (lm ix R) j j):=by
 have s1:=h.shp.swp hk hp
 have r1:=h.red.swp h.shp hk hkp hp
 have e1:=YR h.shp hk hp k
 refine⟨⟨hpq,by rw[hr];exact s1.red f hk,by rw[hr];exact r1.red f s1 hk (by rw[e1];exact hnz) (by rw[e1];exact hf),fun c v hv=>?_⟩,fun j hj=>?_⟩
 ·rw[hr,YY f s1 hk,YX h.shp hk hp];exact h.sat c v hv
 ·rw[hr,PA f s1 r1 hk j (by omega)]
  unfold Dc
  rw[EY _ _ _ _ (by rw[h.shp.len];omega) (by rw[h.shp.len];omega),if_neg (by omega),if_neg (by omega)]
theorem Tv.stepS {L P at_ s ix R k} (h:Tv L P at_ s ix R k) (h1:∀j,j<k->Dc (lm ix R) j j=1) {p:Nat}(hk:k<P) (hkp:k<=p) (hp:p<P) (hnz:Dc (lm ix R) p k≠0)
  {ix':List Nat}{R':List (List F)}(hpq:PQ P ix' R') (hr:lm ix' R'=Bf (fun a _=>a) ((swp (lm ix R) k p).set k (Hf (Be (swp (lm ix R) k p) k) (fi (Dc (lm ix R) p k)))) k) :
  Tv L P at_ s ix' R' (k+1)/\∀j,j<k+1->Dc (lm ix' R') j j=1:=by
 have s1:=h.shp.swp hk hp
 have r1:=h.red.swp h.shp hk hkp hp
 have e1:=YR h.shp hk hp k
 have s2:=s1.scl hk (fi (Dc (lm ix R) p k))
 have r2:=r1.scl s1 hk (fi (Dc (lm ix R) p k))
 have e2:Dc ((swp (lm ix R) k p).set k (Hf (Be (swp (lm ix R) k p) k) (fi (Dc (lm ix R) p k)))) k k=1:=by
  rw[YS s1 hk,if_pos rfl,e1,jj _ hnz]
 refine⟨⟨hpq,by rw[hr];exact s2.red _ hk,by rw[hr];exact r2.red _ s2 hk (by rw[e2];decide) (by rw[e2];exact fun a=>S_ a),fun c v hv=>?_⟩,fun j hj=>?_⟩
 ·rw[hr,YY _ s2 hk,jZ s1 hk (mn _),YX h.shp hk hp];exact h.sat c v hv
 ·rw[hr,PA _ s2 r2 hk j (by omega)]
  rcases Nat.lt_succ_iff_lt_or_eq.1 hj with hj|rfl
  ·rw[YS s1 hk,if_neg (by omega)]
   have:Dc (swp (lm ix R) k p) j j=Dc (lm ix R) j j:=by
    unfold Dc
    rw[EY _ _ _ _ (by rw[h.shp.len];omega) (by rw[h.shp.len];omega),if_neg (by omega),if_neg (by omega)]
   rw[this];exact h1 j hj
  ·exact e2
theorem Tv.ends {L P at_ s ix R} (h:Tv L P at_ s ix R at_.length) (hL:L<=15) (hp:aj L at_) (hm:at_.length<=P) (v:List F) (hv:v.length=at_.length)
  (hd:∀i,i<at_.length->fm (Dc (lm ix R) i i) (EV v i)=Dc (lm ix R) i at_.length) (hz:∀i,at_.length<=i->i<P->Dc (lm ix R) i at_.length=0):Ld L P at_ s=some v :=
 R3 hL hp hm hv ((h.sat 1 v hv).1 ((X3 h.shp h.red hm v hv).2 ⟨hd,hz⟩))
theorem Tv.endsN {L P at_ s ix R} (h:Tv L P at_ s ix R at_.length) (hm:at_.length<=P) {i:Nat}(h1:at_.length<=i) (h2:i<P) (hz:Dc (lm ix R) i at_.length≠0):Ld L P at_ s=none :=
 Yu fun v hv hs=>hz (((X3 h.shp h.red hm v hv).1 ((h.sat 1 v hv).2 hs)).2 i h1 h2)
theorem b9 {f:F->F->F}{M:List (List F)}{k i:Nat}(hi:i<M.length) (hik:i≠k):((Bf f M k).take i++M.drop i).set i (GZ (Be M i) (Be M k) (f (Dc M i k) (Dc M k k)))=(Bf f M k).take (i+1)++M.drop (i+1):=by
 have hl:(Bf f M k).length=M.length:=by simp[Bf]
 have h1:((Bf f M k).take i).length=i:=by simp;omega
 have h2:(Bf f M k).take (i+1)=(Bf f M k).take i++[GZ (Be M i) (Be M k) (f (Dc M i k) (Dc M k k))]:=by
  rw[List.take_add_one,List.getElem?_eq_getElem (by omega)]
  have:=DU f M k i hi
  rw[show Be (Bf f M k) i=(Bf f M k)[i]?.getD [] from rfl,List.getElem?_eq_getElem (by omega),if_neg hik] at this
  rw[show (Bf f M k)[i]=GZ (Be M i) (Be M k) (f (Dc M i k) (Dc M k k)) from this];rfl
 rw[List.set_append_right _ _ (by omega),h1,Nat.sub_self,List.drop_eq_getElem_cons hi,List.set_cons_zero,h2,List.append_assoc]
 rfl
theorem bz {f:F->F->F}{M:List (List F)}{k:Nat}(hk:k<M.length):(Bf f M k).take k++M.drop k=(Bf f M k).take (k+1)++M.drop (k+1):=by
 have hl:(Bf f M k).length=M.length:=by simp[Bf]
 have h2:(Bf f M k).take (k+1)=(Bf f M k).take k++[M[k]]:=by
  rw[List.take_add_one,List.getElem?_eq_getElem (by omega)]
  have:=DU f M k k hk
  rw[show Be (Bf f M k) k=(Bf f M k)[k]?.getD [] from rfl,List.getElem?_eq_getElem (by omega),if_pos rfl] at this
  rw[show (Bf f M k)[k]=Be M k from this]
  unfold Be
  rw[List.getElem?_eq_getElem hk];rfl
 rw[List.drop_eq_getElem_cons hk,h2,List.append_assoc];rfl
theorem gQ {f:F->F->F}{M:List (List F)}{k i:Nat}(hi:i<M.length):Be ((Bf f M k).take i++M.drop i) i=Be M i:=by
 have hl:(Bf f M k).length=M.length:=by simp[Bf]
 unfold Be
 rw[List.getElem?_append_right (by simp;omega)]
 simp only[List.length_take,List.getElem?_drop]
 congr 2;omega
theorem b8 {f:F->F->F}{M:List (List F)}{k i:Nat}(hk:k<M.length) (hi:i<=M.length):Be ((Bf f M k).take i++M.drop i) k=Be M k:=by
 have hl:(Bf f M k).length=M.length:=by simp[Bf]
 by_cases h:k<i
 ·have:=DU f M k k hk
  rw[if_pos rfl] at this
  rw[←this]
  unfold Be
  rw[List.getElem?_append_left (by simp;omega),List.getElem?_take_of_lt h]
 ·unfold Be
  rw[List.getElem?_append_right (by simp;omega)]
  simp only[List.length_take,List.getElem?_drop]
  congr 2;omega
theorem gR {f:F->F->F}{M:List (List F)}{k:Nat}:(Bf f M k).take M.length++M.drop M.length=Bf f M k:=by
 have hl:(Bf f M k).length=M.length:=by simp[Bf]
 rw[List.take_of_length_le (by omega),List.drop_eq_nil_of_le (by omega),List.append_nil]
end Go.Pw
