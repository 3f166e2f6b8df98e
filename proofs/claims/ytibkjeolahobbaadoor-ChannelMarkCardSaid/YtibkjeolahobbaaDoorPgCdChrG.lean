/- A part of the proof. -/
import Derived.Test.YtibkjeolahobbaaDoorPgCdChrF
set_option linter.all false
section
open Go Go.Pw Go.Proofs
namespace Go.Pw
set_option maxRecDepth 100000
set_option maxHeartbeats 3200000
theorem UC {A B:List F}(hl:A.length=B.length) (i:Nat) (h:i<A.length):(A.take i++B.drop i)[i]?.getD 0=B[i]?.getD 0:=by
 rw[List.getElem?_append_right (by simp;omega)]
 simp only[List.length_take,List.getElem?_drop]
 congr 2;omega
theorem UA {A B:List F}(hl:A.length=B.length) (i:Nat) (h:i<A.length):(A.take i++B.drop i).set i (A[i]?.getD 0)=A.take (i+1)++B.drop (i+1):=by
 have h1:(A.take i).length=i:=by simp;omega
 have h2:A.take (i+1)=A.take i++[A[i]]:=by rw[List.take_succ,List.getElem?_eq_getElem h];rfl
 rw[List.set_append_right _ _ (by omega),h1,Nat.sub_self,List.drop_eq_getElem_cons (by omega),List.set_cons_zero,h2,List.getElem?_eq_getElem h,List.append_assoc]
 rfl
theorem UB {A B:List F}(hl:A.length=B.length) (i:Nat) (h:i<=A.length):(A.take i++B.drop i).length=A.length:=by simp;omega
theorem UD {A B:List F}(hl:A.length=B.length):A.take A.length++B.drop A.length=A:=by rw[List.take_length,List.drop_eq_nil_of_le (by omega),List.append_nil]
theorem ez (r o:List F) (b:F) (i:Nat) (h:r.length=o.length):(Ge r o b)[i]?.getD 0=fa (r[i]?.getD 0) (fm (o[i]?.getD 0) b):=Nz r o b i h
theorem fu {R:List (List F)}{a:Nat}{r:List F}(h:a<R.length):(R.set a r)[a]?.getD []=r:=by simp[h]
theorem j8 {R:List (List F)}{a b:Nat}{r:List F}(h:a≠b):(R.set a r)[b]?.getD []=R[b]?.getD []:=by rw[List.getElem?_set_ne h]
theorem fq {R:List (List F)}{a:Nat}{r r':List F}:(R.set a r).set a r'=R.set a r':=List.set_set ..
theorem bc {R:List (List F)}{a:Nat}(h:a<R.length):R.set a (R[a]?.getD [])=R:=by
 rw[List.getElem?_eq_getElem h];simp
attribute [local congr] Bi A9 A_ Aq Bj Ax Az Ay Ap Aj Ad AY Au Ae Av BH BL BJ BK BI BM BE Ah Aw Ai BC BS Ag BF BG BD BA BB A8 Bl A' Ar Af
attribute [local irreducible] IntKind.wrap A3 Option.getD and or
theorem jI (e1 e2:Nat) (nl:Bool) (ix:List Nat) (R:List (List F)) (a b:Nat) (s:F) (hab:a≠b) (ha:a<R.length) (hb:b<R.length) (hl:(R[a]?.getD []).length=(R[b]?.getD []).length) (hs:(R[b]?.getD []).length<=1000) :
  H_ E0 Fw [(900000,0,.mat e1 e2 nl ix (ES R))] [.mref (.row a) 900000 0,.mref (.row b) 900000 0,.d (.int .u8 (s.val:Int))]
   [(900000,0,.mat e1 e2 nl ix (ES (R.set a (Ge (R[a]?.getD []) (R[b]?.getD []) s))))] (.tup []):=by
 obtain⟨ra,hra⟩:∃ra,R[a]?.getD []=ra:=⟨_,rfl⟩
 obtain⟨rb,hrb⟩:∃rb,R[b]?.getD []=rb:=⟨_,rfl⟩
 rw[hra,hrb] at hl ⊢
 rw[hrb] at hs
 have hA:=N2 ra rb s hl
 have hRR:R.set a ra=R:=by rw[←hra];exact bc ha
 have hl2:(R.set a ra).length=R.length:=by simp
 suffices hsu:H_ E0 Fw [(900000,0,.mat e1 e2 nl ix (ES (R.set a ra)))] [.mref (.row a) 900000 0,.mref (.row b) 900000 0,.d (.int .u8 (s.val:Int))]
   [(900000,0,.mat e1 e2 nl ix (ES (R.set a (Ge ra rb s))))] (.tup []) by rwa [hRR] at hsu
 have hB0:(R.set a ra)[b]?.getD []=rb:=by rw[j8 hab];exact hrb
 refine De Lh A0 (by simp) (by simp[PR,CT,D6,Aa.isHist]) (by simp[E5]) fun hwf hwo=>?_
 rw[EJ];unfold HC
 (try (simp -implicitDefEqProofs only[go_sem,hB0,hb,List.length_set]));repeat' first|(with_reducible first|exact tI|refine aI ?_ ?_|intro _)|((first|with_reducible refine AO ?_ ?_<;>intro _)<;>try (simp -implicitDefEqProofs only[go_sem,hB0,hb,List.length_set]))|simp (disch:=omega) only[An]|((with_reducible refine Ao ?_);refine⟨(_,_),rfl,?_,?_⟩)
 refine AZ (α:=Nat×(List F)) (l0:=?l1) (m0:=?m1) (fun x=>[(10,.d (.int .i64 (x.1:Int)))]) (fun x=>[(900000,.mat e1 e2 nl ix (ES (R.set a x.2)))]) (fun x=>x.1<=rb.length/\x.2=(Ge ra rb s).take x.1++ra.drop x.1) (fun x=>rb.length-x.1) (0,ra) ?h01 ?he1 ?he21 ?hI1 ?step1
 case h01=>(simp -implicitDefEqProofs only[go_sem,List.length_set];rfl)
 case he1=>rfl
 case he21=>rfl
 case' step1=>(rintro⟨i,r⟩ hI;try dsimp only at hI)
 case' hI1=>try dsimp only
 ·exact⟨by omega,by simp⟩
 ·obtain⟨h1,h2⟩:=hI
  have hr:r.length=rb.length:=by rw[h2,UB hA i (by omega)];omega
  by_cases h:i<rb.length
  ·have h':(i:Int)<(rb.length:Int):=by omega
   have hw:IntKind.i64.wrap ((i:Int)+1)=((i+1:Nat):Int):=by rw[Ak _ (by omega)];omega
   have c1:=Dc (rb[i]?.getD 0) s
   have k1:r[i]?.getD 0=ra[i]?.getD 0:=by rw[h2];exact UC hA i (by omega)
   have k2:r.set i (fa (ra[i]?.getD 0) (fm (rb[i]?.getD 0) s))=(Ge ra rb s).take (i+1)++ra.drop (i+1):=by
    rw[h2,←ez ra rb s i hl];exact UA hA i (by omega)
   have hB:(R.set a r)[b]?.getD []=rb:=by rw[j8 hab];exact hrb
   (try (simp -implicitDefEqProofs only[go_sem,h',hw,k1,fu ha,hB,fq,List.length_set]));repeat' first|(with_reducible first|exact tI|refine aI ?_ ?_|intro _)|((first|with_reducible refine AO ?_ ?_<;>intro _|(with_reducible refine isCall ?_);first|refine AE c1 ?_)<;>try (simp -implicitDefEqProofs only[go_sem,h',hw,k1,fu ha,hB,fq,List.length_set]))|simp (disch:=omega) only[An]|((with_reducible refine Ao ?_);refine⟨(_,_),rfl,?_,?_⟩)
   all_goals first|omega|(simp;done)|(simp;omega)|skip
   all_goals first|exact k2|skip
  ·have h':¬(i:Int)<(rb.length:Int):=by omega
   have hk:i=rb.length:=by omega
   have hf:r=Ge ra rb s:=by
    rw[h2,hk]
    have:=UD hA
    rwa [hA,hl] at this
   subst hf
   have hB:(R.set a (Ge ra rb s))[b]?.getD []=rb:=by rw[j8 hab];exact hrb
   (try (simp -implicitDefEqProofs only[go_sem,h',hB,List.length_set]));repeat' first|(with_reducible first|exact tI|refine aI ?_ ?_|intro _)|((first|with_reducible refine AO ?_ ?_<;>intro _)<;>try (simp -implicitDefEqProofs only[go_sem,h',hB,List.length_set]))|simp (disch:=omega) only[An]|((with_reducible refine Ao ?_);refine⟨(_,_),rfl,?_,?_⟩)
   all_goals first|omega|(simp;done)|(simp;omega)|skip
theorem Ti (nl nb na:Bool) (M:List (List F)) (at_:List Nat) (m:Nat) (hm:m=at_.length) (hl:M.length<=1000) (hs:∀i,i<M.length->m<(M[i]?.getD []).length) :
  CK E0 CM [.list nl (M.map fun r=>.list nb (us r)),.fn C8 [.ptr [.list na (Al (ni at_))]]] (.list M.isEmpty (us (M.map fun r=>r[m]?.getD 0))):=by
 subst hm
 have c0:∀r:List F,at_.length<r.length->CK E0 C8 [.list nb (us r),.ptr [.list na (Al (ni at_))]] (.int .u8 ((r[at_.length]?.getD 0).val:Int)):=by
  intro r hr
  refine AM IJ A0 (by simp) fun hwf=>?_
  rw[AU];unfold FV
  (try (simp -implicitDefEqProofs only[go_sem]));repeat' first|(with_reducible first|exact tI|refine aI ?_ ?_|intro _)|((first|with_reducible refine AO ?_ ?_<;>intro _)<;>try (simp -implicitDefEqProofs only[go_sem]))|simp (disch:=omega) only[An]|((with_reducible refine BU ?_);refine⟨(_,_,_),rfl,?_,?_⟩)
  all_goals first|omega|(simp;done)|(simp;omega)|skip
 refine AM Dl A0 (by simp) fun hwf=>?_
 rw[AU];unfold CD
 (try (simp -implicitDefEqProofs only[go_sem]));repeat' first|(with_reducible first|exact tI|refine aI ?_ ?_|intro _)|((first|with_reducible refine AO ?_ ?_<;>intro _)<;>try (simp -implicitDefEqProofs only[go_sem]))|simp (disch:=omega) only[An]|((with_reducible refine BU ?_);refine⟨(_,_,_),rfl,?_,?_⟩)
 refine AZ (α:=Nat×Bool×(List F)) (l0:=?l2) (m0:=?m2) (fun x=>[(10,.d (.int .i64 (x.1:Int)))]) (fun x=>[(19,.row 111 1 x.2.1 (us x.2.2))]) (fun x=>x.1<=M.length/\x.2.2=(M.take x.1).map (fun r=>r[at_.length]?.getD 0)/\x.2.1=x.2.2.isEmpty) (fun x=>M.length-x.1) (0,true,[]) ?h02 ?he2 ?he22 ?hI2 ?step2
 case h02=>(simp -implicitDefEqProofs only[go_sem];rfl)
 case he2=>rfl
 case he22=>rfl
 case' step2=>(rintro⟨i,b,l⟩ hI;try dsimp only at hI)
 case' hI2=>try dsimp only
 ·exact⟨by omega,rfl,rfl⟩
 ·obtain⟨h1,h2,h3⟩:=hI
  subst h3
  by_cases h:i<M.length
  ·have h':(i:Int)<(M.length:Int):=by omega
   have hw:IntKind.i64.wrap ((i:Int)+1)=((i+1:Nat):Int):=by rw[Ak _ (by omega)];omega
   have c1:=c0 (M[i]?.getD default) (hs i h)
   have hk:l++[(M[i]?.getD default)[at_.length]?.getD 0]=(M.take (i+1)).map (fun r=>r[at_.length]?.getD 0):=by
    rw[h2,List.take_succ,List.getElem?_eq_getElem h,List.map_append,Option.getD_some];rfl
   have hl3:l.length<=1000:=by rw[h2];simp;omega
   (try (simp -implicitDefEqProofs only[go_sem,h',hw,Nw,MJ]));repeat' first|(with_reducible first|exact tI|refine aI ?_ ?_|intro _)|((first|with_reducible refine AO ?_ ?_<;>intro _|(with_reducible refine isCall ?_);first|refine AE c1 ?_)<;>try (simp -implicitDefEqProofs only[go_sem,h',hw,Nw,MJ]))|simp (disch:=omega) only[An]|((with_reducible refine BU ?_);refine⟨(_,_,_),rfl,?_,?_⟩)
   all_goals first|omega|(simp;done)|(simp;omega)|skip
   all_goals first|exact hk|(exact(Vc _ _).symm)|(simp at *;done)|(simp at *;omega)|skip
  ·have h':¬(i:Int)<(M.length:Int):=by omega
   have hk:i=M.length:=by omega
   subst hk
   rw[List.take_length] at h2
   have he:l.isEmpty=M.isEmpty:=by rw[h2];cases M<;>rfl
   rw[←h2,←he]
   (try (simp -implicitDefEqProofs only[go_sem,h']));repeat' first|(with_reducible first|exact tI|refine aI ?_ ?_|intro _)|((first|with_reducible refine AO ?_ ?_<;>intro _)<;>try (simp -implicitDefEqProofs only[go_sem,h']))|simp (disch:=omega) only[An]|((with_reducible refine BU ?_);refine⟨(_,_,_),rfl,?_,?_⟩)
   all_goals first|omega|(simp;done)|(simp;omega)|skip
   all_goals first|rfl|skip
end Go.Pw
end
section
namespace Go.Pw
def lm (ix:List Nat) (R:List (List F)):List (List F):=ix.map fun j=>R[j]?.getD []
structure PQ (n:Nat) (ix:List Nat) (R:List (List F)):Prop where
 li:ix.length=n
 lr:R.length=n
 nd:ix.Nodup
 lt:∀j,j∈ix->j<n
def GJ (ix:List Nat) (i:Nat):Nat:=ix[i]?.getD 0
theorem Kp {l:List Nat}{i:Nat}(h:i<l.length):GJ l i=l[i]:=by unfold GJ;rw[List.getElem?_eq_getElem h];rfl
theorem g7 {ix:List Nat}{i:Nat}(h:i<ix.length):GJ ix i∈ix:=by unfold GJ;rw[List.getElem?_eq_getElem h];exact List.getElem_mem h
theorem PQ.ix_lt {n ix R} (h:PQ n ix R) {i:Nat}(hi:i<n):GJ ix i<n:=h.lt _ (g7 (by rw[h.li];exact hi))
theorem PQ.ix_inj {n ix R} (h:PQ n ix R) {i j:Nat}(hi:i<n) (hj:j<n) (he:GJ ix i=GJ ix j):i=j:=by
 have h1:=h.li
 unfold GJ at he
 rw[List.getElem?_eq_getElem (by omega),List.getElem?_eq_getElem (by omega)] at he
 exact(List.getElem_inj h.nd).1 he
theorem IB (ix R):(lm ix R).length=ix.length:=by simp[lm]
theorem GH {n ix R} (h:PQ n ix R) {i:Nat}(hi:i<n):Bf (lm ix R) i=R[GJ ix i]?.getD []:=by
 have h1:=h.li
 unfold Bf lm GJ
 rw[List.getElem?_map,List.getElem?_eq_getElem (by omega)];rfl
theorem PQ.set {n ix R} (h:PQ n ix R) (a:Nat) (r:List F):PQ n ix (R.set a r):=⟨h.li,by simpa using h.lr,h.nd,h.lt⟩
theorem dD {n ix R} (h:PQ n ix R) {i:Nat}(hi:i<n) (r:List F):lm ix (R.set (GJ ix i) r)=(lm ix R).set i r:=by
 have h1:=h.li
 apply List.ext_getElem?
 intro j
 by_cases hj:j<n
 ·have e1:(lm ix (R.set (GJ ix i) r))[j]?=some (Bf (lm ix (R.set (GJ ix i) r)) j):=by
   unfold Bf;rw[List.getElem?_eq_getElem (by rw[IB];omega)];rfl
  rw[e1,GH (h.set _ _) hj]
  by_cases hij:i=j
  ·subst hij
   rw[List.getElem?_set_self (by rw[h.lr];exact h.ix_lt hi),List.getElem?_set_self (by rw[IB];omega)];rfl
  ·rw[List.getElem?_set_ne (fun e=>hij (h.ix_inj hi hj e)),List.getElem?_set_ne hij]
   unfold lm
   rw[List.getElem?_map,List.getElem?_eq_getElem (l:=ix) (by omega)]
   show some _=some _
   unfold GJ
   rw[List.getElem?_eq_getElem (l:=ix) (by omega)];rfl
 ·rw[List.getElem?_eq_none (by rw[IB];omega),List.getElem?_eq_none (by simp[IB];omega)]
theorem g6 {n ix R} (h:PQ n ix R) {k p:Nat}(hk:k<n) (hp:p<n):PQ n ((ix.set k (GJ ix p)).set p (GJ ix k)) R/\lm ((ix.set k (GJ ix p)).set p (GJ ix k)) R=swp (lm ix R) k p/\GJ ((ix.set k (GJ ix p)).set p (GJ ix k)) k=GJ ix p:=by
 have h1:=h.li
 have hget:∀j,j<n->GJ ((ix.set k (GJ ix p)).set p (GJ ix k)) j=if j=p then GJ ix k else if j=k then GJ ix p else GJ ix j:=fun j hj=>by
  rw[show GJ ((ix.set k (GJ ix p)).set p (GJ ix k)) j=((ix.set k (GJ ix p)).set p (GJ ix k))[j]?.getD 0 from rfl]
  by_cases e1:j=p
  ·subst e1;rw[List.getElem?_set_self (by simp;omega),if_pos rfl];rfl
  ·rw[List.getElem?_set_ne fun e=>e1 e.symm,if_neg e1]
   by_cases e2:j=k
   ·subst e2;rw[List.getElem?_set_self (by omega),if_pos rfl];rfl
   ·rw[List.getElem?_set_ne fun e=>e2 e.symm,if_neg e2];rfl
 have hlen:((ix.set k (GJ ix p)).set p (GJ ix k)).length=n:=by simp[h1]
 have hP:PQ n ((ix.set k (GJ ix p)).set p (GJ ix k)) R:=by
  refine⟨hlen,h.lr,?_,fun j hj=>?_⟩
  ·refine List.pairwise_iff_getElem.2 fun i j hi hj hij he=>?_
   have e1:=hget i (by omega)
   have e2:=hget j (by omega)
   have he':GJ ((ix.set k (GJ ix p)).set p (GJ ix k)) i=GJ ((ix.set k (GJ ix p)).set p (GJ ix k)) j:=by
    rw[Kp hi,Kp hj];exact he
   rw[e1,e2] at he'
   have inj:∀{a b},a<n->b<n->GJ ix a=GJ ix b->a=b:=fun ha hb=>h.ix_inj ha hb
   have:i=j:=by
    by_cases c1:i=p<;>by_cases c2:j=p
    ·omega
    ·rw[if_pos c1,if_neg c2] at he'
     by_cases c3:j=k
     ·rw[if_pos c3] at he';have:=inj hk hp he';omega
     ·rw[if_neg c3] at he';have:=inj hk (by omega) he';omega
    ·rw[if_neg c1,if_pos c2] at he'
     by_cases c3:i=k
     ·rw[if_pos c3] at he';have:=inj hp hk he';omega
     ·rw[if_neg c3] at he';have:=inj (by omega) hk he';omega
    ·rw[if_neg c1,if_neg c2] at he'
     by_cases c3:i=k<;>by_cases c4:j=k
     ·omega
     ·rw[if_pos c3,if_neg c4] at he';have:=inj hp (by omega) he';omega
     ·rw[if_neg c3,if_pos c4] at he';have:=inj (by omega) hp he';omega
     ·rw[if_neg c3,if_neg c4] at he';exact inj (by omega) (by omega) he'
   omega
  ·obtain⟨i,hi,rfl⟩:=List.getElem_of_mem hj
   rw[←Kp hi,hget i (by omega)]
   split
   ·exact h.ix_lt hk
   ·split
    ·exact h.ix_lt hp
    ·exact h.ix_lt (by omega)
 refine⟨hP,?_,?_⟩
 ·apply List.ext_getElem
  ·simp[IB,swp,h1]
  ·intro j h2 h3
   have hj:j<n:=by rw[IB,hlen] at h2;exact h2
   have e1:=GH hP hj
   have e2:=Ef (lm ix R) k p j (by rw[IB];omega) (by rw[IB];omega)
   unfold Bf at e1
   rw[List.getElem?_eq_getElem h2] at e1
   rw[show Bf (swp (lm ix R) k p) j=(swp (lm ix R) k p)[j]?.getD [] from rfl,List.getElem?_eq_getElem h3] at e2
   have e1':(lm ((ix.set k (GJ ix p)).set p (GJ ix k)) R)[j]=R[GJ ((ix.set k (GJ ix p)).set p (GJ ix k)) j]?.getD []:=e1
   have e2':(swp (lm ix R) k p)[j]=if j=p then Bf (lm ix R) k else if j=k then Bf (lm ix R) p else Bf (lm ix R) j:=e2
   rw[e1',e2',hget j hj]
   split
   ·rw[GH h hk]
   ·split
    ·rw[GH h hp]
    ·rw[GH h hj]
 ·rw[hget k hk]
  split
  ·rename_i e;subst e;rfl
  ·rw[if_pos rfl]
structure T2 (L P:Nat) (at_:List Nat) (s:List F) (ix:List Nat) (R:List (List F)) (k:Nat):Prop where
 pq:PQ P ix R
 shp:RB (lm ix R) P (at_.length+1)
 red:am (lm ix R) k
 sat:∀c v,v.length=at_.length->(RF c (lm ix R) v↔RF c (PB L P at_ s) v)
theorem dE (R:List (List F)):lm (List.range R.length) R=R:=by
 apply List.ext_getElem
 ·simp[lm]
 ·intro i h1 h2
  simp[lm,h2]
theorem T2.start {L P:Nat}{at_:List Nat}{s:List F}:T2 L P at_ s (List.range P) (PB L P at_ s) 0:=by
 have hl:=(NN L P at_ s).len
 have e:lm (List.range P) (PB L P at_ s)=PB L P at_ s:=by
  have:=dE (PB L P at_ s)
  rwa [hl] at this
 refine⟨⟨by simp,hl,List.nodup_range,fun j hj=>by simpa using hj⟩,by rw[e];exact NN L P at_ s,⟨fun i j hi hj=>by omega,fun j hj=>by omega⟩,fun c v hv=>by rw[e]⟩
theorem T2.rlen {L P at_ s ix R k} (h:T2 L P at_ s ix R k) {i:Nat}(hi:i<P):(R[GJ ix i]?.getD []).length=at_.length+1:=by
 have:=h.shp.row i hi
 rwa [GH h.pq hi] at this
theorem T2.fail {L P at_ s ix R k} (h:T2 L P at_ s ix R k) (hL:L<=15) (hp:aw L at_) (hm:at_.length<=P) (hk:k<at_.length) (hz:∀i,k<=i->i<P->Dj (lm ix R) i k=0):False:=by
 obtain⟨v,h1,h2,h3⟩:=bq h.shp h.red hk hm hz
 have:=VF hL hp hm h1 ((h.sat 0 v h1).1 h2) k
 rw[h3] at this
 exact absurd this (by decide)
theorem T2.step {L P at_ s ix R k} (h:T2 L P at_ s ix R k) {p:Nat}(hk:k<P) (hkp:k<=p) (hp:p<P) (hnz:Dj (lm ix R) p k≠0) {f:F->F->F}(hf:∀a,fm (Dj (lm ix R) p k) (f a (Dj (lm ix R) p k))=a)
  {ix':List Nat}{R':List (List F)}(hpq:PQ P ix' R') (hr:lm ix' R'=Bg f (swp (lm ix R) k p) k):T2 L P at_ s ix' R' (k+1)/\(∀j,j<k->Dj (lm ix' R') j j=Dj (lm ix R) j j):=by
 have s1:=h.shp.swp hk hp
 have r1:=h.red.swp h.shp hk hkp hp
 have e1:=YV h.shp hk hp k
 refine⟨⟨hpq,by rw[hr];exact s1.red f hk,by rw[hr];exact r1.red f s1 hk (by rw[e1];exact hnz) (by rw[e1];exact hf),fun c v hv=>?_⟩,fun j hj=>?_⟩
 ·rw[hr,Yi f s1 hk,Yh h.shp hk hp];exact h.sat c v hv
 ·rw[hr,PD f s1 r1 hk j (by omega)]
  unfold Dj
  rw[Ef _ _ _ _ (by rw[h.shp.len];omega) (by rw[h.shp.len];omega),if_neg (by omega),if_neg (by omega)]
theorem T2.stepS {L P at_ s ix R k} (h:T2 L P at_ s ix R k) (h1:∀j,j<k->Dj (lm ix R) j j=1) {p:Nat}(hk:k<P) (hkp:k<=p) (hp:p<P) (hnz:Dj (lm ix R) p k≠0)
  {ix':List Nat}{R':List (List F)}(hpq:PQ P ix' R') (hr:lm ix' R'=Bg (fun a _=>a) ((swp (lm ix R) k p).set k (Hg (Bf (swp (lm ix R) k p) k) (fi (Dj (lm ix R) p k)))) k) :
  T2 L P at_ s ix' R' (k+1)/\∀j,j<k+1->Dj (lm ix' R') j j=1:=by
 have s1:=h.shp.swp hk hp
 have r1:=h.red.swp h.shp hk hkp hp
 have e1:=YV h.shp hk hp k
 have s2:=s1.scl hk (fi (Dj (lm ix R) p k))
 have r2:=r1.scl s1 hk (fi (Dj (lm ix R) p k))
 have e2:Dj ((swp (lm ix R) k p).set k (Hg (Bf (swp (lm ix R) k p) k) (fi (Dj (lm ix R) p k)))) k k=1:=by
  rw[YW s1 hk,if_pos rfl,e1,jW _ hnz]
 refine⟨⟨hpq,by rw[hr];exact s2.red _ hk,by rw[hr];exact r2.red _ s2 hk (by rw[e2];decide) (by rw[e2];exact fun a=>TE a),fun c v hv=>?_⟩,fun j hj=>?_⟩
 ·rw[hr,Yi _ s2 hk,jL s1 hk (mQ _),Yh h.shp hk hp];exact h.sat c v hv
 ·rw[hr,PD _ s2 r2 hk j (by omega)]
  rcases Nat.lt_succ_iff_lt_or_eq.1 hj with hj|rfl
  ·rw[YW s1 hk,if_neg (by omega)]
   have:Dj (swp (lm ix R) k p) j j=Dj (lm ix R) j j:=by
    unfold Dj
    rw[Ef _ _ _ _ (by rw[h.shp.len];omega) (by rw[h.shp.len];omega),if_neg (by omega),if_neg (by omega)]
   rw[this];exact h1 j hj
  ·exact e2
theorem T2.ends {L P at_ s ix R} (h:T2 L P at_ s ix R at_.length) (hL:L<=15) (hp:aw L at_) (hm:at_.length<=P) (v:List F) (hv:v.length=at_.length)
  (hd:∀i,i<at_.length->fm (Dj (lm ix R) i i) (Ea v i)=Dj (lm ix R) i at_.length) (hz:∀i,at_.length<=i->i<P->Dj (lm ix R) i at_.length=0):Le L P at_ s=some v :=
 Rz hL hp hm hv ((h.sat 1 v hv).1 ((X_ h.shp h.red hm v hv).2 ⟨hd,hz⟩))
theorem T2.endsN {L P at_ s ix R} (h:T2 L P at_ s ix R at_.length) (hm:at_.length<=P) {i:Nat}(h1:at_.length<=i) (h2:i<P) (hz:Dj (lm ix R) i at_.length≠0):Le L P at_ s=none :=
 Y3 fun v hv hs=>hz (((X_ h.shp h.red hm v hv).1 ((h.sat 1 v hv).2 hs)).2 i h1 h2)
theorem b9 {f:F->F->F}{M:List (List F)}{k i:Nat}(hi:i<M.length) (hik:i≠k):((Bg f M k).take i++M.drop i).set i (Ge (Bf M i) (Bf M k) (f (Dj M i k) (Dj M k k)))=(Bg f M k).take (i+1)++M.drop (i+1):=by
 have hl:(Bg f M k).length=M.length:=by simp[Bg]
 have h1:((Bg f M k).take i).length=i:=by simp;omega
 have h2:(Bg f M k).take (i+1)=(Bg f M k).take i++[Ge (Bf M i) (Bf M k) (f (Dj M i k) (Dj M k k))]:=by
  rw[List.take_add_one,List.getElem?_eq_getElem (by omega)]
  have:=DW f M k i hi
  rw[show Bf (Bg f M k) i=(Bg f M k)[i]?.getD [] from rfl,List.getElem?_eq_getElem (by omega),if_neg hik] at this
  rw[show (Bg f M k)[i]=Ge (Bf M i) (Bf M k) (f (Dj M i k) (Dj M k k)) from this];rfl
 rw[List.set_append_right _ _ (by omega),h1,Nat.sub_self,List.drop_eq_getElem_cons hi,List.set_cons_zero,h2,List.append_assoc]
 rfl
theorem bz {f:F->F->F}{M:List (List F)}{k:Nat}(hk:k<M.length):(Bg f M k).take k++M.drop k=(Bg f M k).take (k+1)++M.drop (k+1):=by
 have hl:(Bg f M k).length=M.length:=by simp[Bg]
 have h2:(Bg f M k).take (k+1)=(Bg f M k).take k++[M[k]]:=by
  rw[List.take_add_one,List.getElem?_eq_getElem (by omega)]
  have:=DW f M k k hk
  rw[show Bf (Bg f M k) k=(Bg f M k)[k]?.getD [] from rfl,List.getElem?_eq_getElem (by omega),if_pos rfl] at this
  rw[show (Bg f M k)[k]=Bf M k from this]
  unfold Bf
  rw[List.getElem?_eq_getElem hk];rfl
 rw[List.drop_eq_getElem_cons hk,h2,List.append_assoc];rfl
theorem f_ {f:F->F->F}{M:List (List F)}{k i:Nat}(hi:i<M.length):Bf ((Bg f M k).take i++M.drop i) i=Bf M i:=by
 have hl:(Bg f M k).length=M.length:=by simp[Bg]
 unfold Bf
 rw[List.getElem?_append_right (by simp;omega)]
 simp only[List.length_take,List.getElem?_drop]
 congr 2;omega
theorem b8 {f:F->F->F}{M:List (List F)}{k i:Nat}(hk:k<M.length) (hi:i<=M.length):Bf ((Bg f M k).take i++M.drop i) k=Bf M k:=by
 have hl:(Bg f M k).length=M.length:=by simp[Bg]
 by_cases h:k<i
 ·have:=DW f M k k hk
  rw[if_pos rfl] at this
  rw[←this]
  unfold Bf
  rw[List.getElem?_append_left (by simp;omega),List.getElem?_take_of_lt h]
 ·unfold Bf
  rw[List.getElem?_append_right (by simp;omega)]
  simp only[List.length_take,List.getElem?_drop]
  congr 2;omega
theorem gA {f:F->F->F}{M:List (List F)}{k:Nat}:(Bg f M k).take M.length++M.drop M.length=Bg f M k:=by
 have hl:(Bg f M k).length=M.length:=by simp[Bg]
 rw[List.take_of_length_le (by omega),List.drop_eq_nil_of_le (by omega),List.append_nil]
end Go.Pw
end
