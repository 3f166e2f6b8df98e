/- A part of the proof. -/
import Derived.Test.YtpcpcjbbdgmohaaDoorPgCorrectLin
set_option linter.all false
namespace Go.Pw
def lm (ix:List Nat) (R:List (List F)):List (List F):=ix.map fun j=>R[j]?.getD []
structure PQ (n:Nat) (ix:List Nat) (R:List (List F)):Prop where
 li:ix.length=n
 lr:R.length=n
 nd:ix.Nodup
 lt:∀j,j∈ix->j<n
def Fi (ix:List Nat) (i:Nat):Nat:=ix[i]?.getD 0
theorem JX {l:List Nat}{i:Nat}(h:i<l.length):Fi l i=l[i]:=by unfold Fi;rw[List.getElem?_eq_getElem h];rfl
theorem bH {ix:List Nat}{i:Nat}(h:i<ix.length):Fi ix i∈ix:=by unfold Fi;rw[List.getElem?_eq_getElem h];exact List.getElem_mem h
theorem PQ.ix_lt {n ix R} (h:PQ n ix R) {i:Nat}(hi:i<n):Fi ix i<n:=h.lt _ (bH (by rw[h.li];exact hi))
theorem PQ.ix_inj {n ix R} (h:PQ n ix R) {i j:Nat}(hi:i<n) (hj:j<n) (he:Fi ix i=Fi ix j):i=j:=by
 have h1:=h.li
 unfold Fi at he
 rw[List.getElem?_eq_getElem (by omega),List.getElem?_eq_getElem (by omega)] at he
 exact(List.getElem_inj h.nd).1 he
theorem HL (ix R):(lm ix R).length=ix.length:=by simp[lm]
theorem Fh {n ix R} (h:PQ n ix R) {i:Nat}(hi:i<n):BV (lm ix R) i=R[Fi ix i]?.getD []:=by
 have h1:=h.li
 unfold BV lm Fi
 rw[List.getElem?_map,List.getElem?_eq_getElem (by omega)];rfl
theorem PQ.set {n ix R} (h:PQ n ix R) (a:Nat) (r:List F):PQ n ix (R.set a r):=⟨h.li,by simpa using h.lr,h.nd,h.lt⟩
theorem YR {n ix R} (h:PQ n ix R) {i:Nat}(hi:i<n) (r:List F):lm ix (R.set (Fi ix i) r)=(lm ix R).set i r:=by
 have h1:=h.li
 apply List.ext_getElem?
 intro j
 by_cases hj:j<n
 ·have e1:(lm ix (R.set (Fi ix i) r))[j]?=some (BV (lm ix (R.set (Fi ix i) r)) j):=by
   unfold BV;rw[List.getElem?_eq_getElem (by rw[HL];omega)];rfl
  rw[e1,Fh (h.set _ _) hj]
  by_cases hij:i=j
  ·subst hij
   rw[List.getElem?_set_self (by rw[h.lr];exact h.ix_lt hi),List.getElem?_set_self (by rw[HL];omega)];rfl
  ·rw[List.getElem?_set_ne (fun e=>hij (h.ix_inj hi hj e)),List.getElem?_set_ne hij]
   unfold lm
   rw[List.getElem?_map,List.getElem?_eq_getElem (l:=ix) (by omega)]
   show some _=some _
   unfold Fi
   rw[List.getElem?_eq_getElem (l:=ix) (by omega)];rfl
 ·rw[List.getElem?_eq_none (by rw[HL];omega),List.getElem?_eq_none (by simp[HL];omega)]
theorem bG {n ix R} (h:PQ n ix R) {k p:Nat}(hk:k<n) (hp:p<n):PQ n ((ix.set k (Fi ix p)).set p (Fi ix k)) R/\lm ((ix.set k (Fi ix p)).set p (Fi ix k)) R=swp (lm ix R) k p/\Fi ((ix.set k (Fi ix p)).set p (Fi ix k)) k=Fi ix p:=by
 have h1:=h.li
 have hget:∀j,j<n->Fi ((ix.set k (Fi ix p)).set p (Fi ix k)) j=if j=p then Fi ix k else if j=k then Fi ix p else Fi ix j:=fun j hj=>by
  rw[show Fi ((ix.set k (Fi ix p)).set p (Fi ix k)) j=((ix.set k (Fi ix p)).set p (Fi ix k))[j]?.getD 0 from rfl]
  by_cases e1:j=p
  ·subst e1;rw[List.getElem?_set_self (by simp;omega),if_pos rfl];rfl
  ·rw[List.getElem?_set_ne fun e=>e1 e.symm,if_neg e1]
   by_cases e2:j=k
   ·subst e2;rw[List.getElem?_set_self (by omega),if_pos rfl];rfl
   ·rw[List.getElem?_set_ne fun e=>e2 e.symm,if_neg e2];rfl
 have hlen:((ix.set k (Fi ix p)).set p (Fi ix k)).length=n:=by simp[h1]
 have hP:PQ n ((ix.set k (Fi ix p)).set p (Fi ix k)) R:=by
  refine⟨hlen,h.lr,?_,fun j hj=>?_⟩
  ·refine List.pairwise_iff_getElem.2 fun i j hi hj hij he=>?_
   have e1:=hget i (by omega)
   have e2:=hget j (by omega)
   have he':Fi ((ix.set k (Fi ix p)).set p (Fi ix k)) i=Fi ((ix.set k (Fi ix p)).set p (Fi ix k)) j:=by
    rw[JX hi,JX hj];exact he
   rw[e1,e2] at he'
   have inj:∀{a b},a<n->b<n->Fi ix a=Fi ix b->a=b:=fun ha hb=>h.ix_inj ha hb
   have:i=j:=by
    by_cases c1:i=p<;>by_cases c2:j=p
    ·omega
    ·rw[if_pos c1,if_neg c2] at he'
     by_cases c3:j=k
     ·rw[if_pos c3] at he';have:=inj hk hp he';omega
     ·rw[if_neg c3] at he';have:=inj hk (by omega) he';omega
    ·rw[if_neg c1,if_pos c2] at he'
     by_cases c3:i=k
     ·rw[if_pos c3] at he';have:=inj hp hk he';omega
     ·rw[if_neg c3] at he';have:=inj (by omega) hk he';omega
    ·rw[if_neg c1,if_neg c2] at he'
     by_cases c3:i=k<;>by_cases c4:j=k
     ·omega
     ·rw[if_pos c3,if_neg c4] at he';have:=inj hp (by omega) he';omega
     ·rw[if_neg c3,if_pos c4] at he';have:=inj (by omega) hp he';omega
     ·rw[if_neg c3,if_neg c4] at he';exact inj (by omega) (by omega) he'
   omega
  ·obtain⟨i,hi,rfl⟩:=List.getElem_of_mem hj
   rw[←JX hi,hget i (by omega)]
   split
   ·exact h.ix_lt hk
   ·split
    ·exact h.ix_lt hp
    ·exact h.ix_lt (by omega)
 refine⟨hP,?_,?_⟩
 ·apply List.ext_getElem
  ·simp[HL,swp,h1]
  ·intro j h2 h3
   have hj:j<n:=by rw[HL,hlen] at h2;exact h2
   have e1:=Fh hP hj
   have e2:=EM (lm ix R) k p j (by rw[HL];omega) (by rw[HL];omega)
   unfold BV at e1
   rw[List.getElem?_eq_getElem h2] at e1
   rw[show BV (swp (lm ix R) k p) j=(swp (lm ix R) k p)[j]?.getD [] from rfl,List.getElem?_eq_getElem h3] at e2
   have e1':(lm ((ix.set k (Fi ix p)).set p (Fi ix k)) R)[j]=R[Fi ((ix.set k (Fi ix p)).set p (Fi ix k)) j]?.getD []:=e1
   have e2':(swp (lm ix R) k p)[j]=if j=p then BV (lm ix R) k else if j=k then BV (lm ix R) p else BV (lm ix R) j:=e2
   rw[e1',e2',hget j hj]
   split
   ·rw[Fh h hk]
   ·split
    ·rw[Fh h hp]
    ·rw[Fh h hj]
 ·rw[hget k hk]
  split
  ·rename_i e;subst e;rfl
  ·rw[if_pos rfl]
structure RF (L P:Nat) (at_:List Nat) (s:List F) (ix:List Nat) (R:List (List F)) (k:Nat):Prop where
 pq:PQ P ix R
 shp:Ot (lm ix R) P (at_.length+1)
 red:Wx (lm ix R) k
 sat:∀c v,v.length=at_.length->(Ox c (lm ix R) v↔Ox c (Mu L P at_ s) v)
theorem YS (R:List (List F)):lm (List.range R.length) R=R:=by
 apply List.ext_getElem
 ·simp[lm]
 ·intro i h1 h2
  simp[lm,h2]
theorem RF.start {L P:Nat}{at_:List Nat}{s:List F}:RF L P at_ s (List.range P) (Mu L P at_ s) 0:=by
 have hl:=(Li L P at_ s).len
 have e:lm (List.range P) (Mu L P at_ s)=Mu L P at_ s:=by
  have:=YS (Mu L P at_ s)
  rwa [hl] at this
 refine⟨⟨by simp,hl,List.nodup_range,fun j hj=>by simpa using hj⟩,by rw[e];exact Li L P at_ s,⟨fun i j hi hj=>by omega,fun j hj=>by omega⟩,fun c v hv=>by rw[e]⟩
theorem RF.rlen {L P at_ s ix R k} (h:RF L P at_ s ix R k) {i:Nat}(hi:i<P):(R[Fi ix i]?.getD []).length=at_.length+1:=by
 have:=h.shp.row i hi
 rwa [Fh h.pq hi] at this
theorem RF.fail {L P at_ s ix R k} (h:RF L P at_ s ix R k) (hL:L<=15) (hp:Wz L at_) (hm:at_.length<=P) (hk:k<at_.length) (hz:∀i,k<=i->i<P->DW (lm ix R) i k=0):False:=by
 obtain⟨v,h1,h2,h3⟩:=Xj h.shp h.red hk hm hz
 have:=SB hL hp hm h1 ((h.sat 0 v h1).1 h2) k
 rw[h3] at this
 exact absurd this (by decide)
theorem RF.step {L P at_ s ix R k} (h:RF L P at_ s ix R k) {p:Nat}(hk:k<P) (hkp:k<=p) (hp:p<P) (hnz:DW (lm ix R) p k≠0) {f:F->F->F}(hf:∀a,fm (DW (lm ix R) p k) (f a (DW (lm ix R) p k))=a)
  {ix':List Nat}{R':List (List F)}(hpq:PQ P ix' R') (hr:lm ix' R'=BX f (swp (lm ix R) k p) k):RF L P at_ s ix' R' (k+1)/\(∀j,j<k->DW (lm ix' R') j j=DW (lm ix R) j j):=by
 have s1:=h.shp.swp hk hp
 have r1:=h.red.swp h.shp hk hkp hp
 have e1:=U5 h.shp hk hp k
 refine⟨⟨hpq,by rw[hr];exact s1.red f hk,by rw[hr];exact r1.red f s1 hk (by rw[e1];exact hnz) (by rw[e1];exact hf),fun c v hv=>?_⟩,fun j hj=>?_⟩
 ·rw[hr,VD f s1 hk,VC h.shp hk hp];exact h.sat c v hv
 ·rw[hr,Mv f s1 r1 hk j (by omega)]
  unfold DW
  rw[EM _ _ _ _ (by rw[h.shp.len];omega) (by rw[h.shp.len];omega),if_neg (by omega),if_neg (by omega)]
theorem RF.stepS {L P at_ s ix R k} (h:RF L P at_ s ix R k) (h1:∀j,j<k->DW (lm ix R) j j=1) {p:Nat}(hk:k<P) (hkp:k<=p) (hp:p<P) (hnz:DW (lm ix R) p k≠0)
  {ix':List Nat}{R':List (List F)}(hpq:PQ P ix' R') (hr:lm ix' R'=BX (fun a _=>a) ((swp (lm ix R) k p).set k (Gv (BV (swp (lm ix R) k p) k) (fi (DW (lm ix R) p k)))) k) :
  RF L P at_ s ix' R' (k+1)/\∀j,j<k+1->DW (lm ix' R') j j=1:=by
 have s1:=h.shp.swp hk hp
 have r1:=h.red.swp h.shp hk hkp hp
 have e1:=U5 h.shp hk hp k
 have s2:=s1.scl hk (fi (DW (lm ix R) p k))
 have r2:=r1.scl s1 hk (fi (DW (lm ix R) p k))
 have e2:DW ((swp (lm ix R) k p).set k (Gv (BV (swp (lm ix R) k p) k) (fi (DW (lm ix R) p k)))) k k=1:=by
  rw[U6 s1 hk,if_pos rfl,e1,cZ _ hnz]
 refine⟨⟨hpq,by rw[hr];exact s2.red _ hk,by rw[hr];exact r2.red _ s2 hk (by rw[e2];decide) (by rw[e2];exact fun a=>QV a),fun c v hv=>?_⟩,fun j hj=>?_⟩
 ·rw[hr,VD _ s2 hk,cT s1 hk (fL _),VC h.shp hk hp];exact h.sat c v hv
 ·rw[hr,Mv _ s2 r2 hk j (by omega)]
  rcases Nat.lt_succ_iff_lt_or_eq.1 hj with hj|rfl
  ·rw[U6 s1 hk,if_neg (by omega)]
   have:DW (swp (lm ix R) k p) j j=DW (lm ix R) j j:=by
    unfold DW
    rw[EM _ _ _ _ (by rw[h.shp.len];omega) (by rw[h.shp.len];omega),if_neg (by omega),if_neg (by omega)]
   rw[this];exact h1 j hj
  ·exact e2
theorem RF.ends {L P at_ s ix R} (h:RF L P at_ s ix R at_.length) (hL:L<=15) (hp:Wz L at_) (hm:at_.length<=P) (v:List F) (hv:v.length=at_.length)
  (hd:∀i,i<at_.length->fm (DW (lm ix R) i i) (EG v i)=DW (lm ix R) i at_.length) (hz:∀i,at_.length<=i->i<P->DW (lm ix R) i at_.length=0):J_ L P at_ s=some v :=
 PV hL hp hm hv ((h.sat 1 v hv).1 ((Ul h.shp h.red hm v hv).2 ⟨hd,hz⟩))
theorem RF.endsN {L P at_ s ix R} (h:RF L P at_ s ix R at_.length) (hm:at_.length<=P) {i:Nat}(h1:at_.length<=i) (h2:i<P) (hz:DW (lm ix R) i at_.length≠0):J_ L P at_ s=none :=
 VU fun v hv hs=>hz (((Ul h.shp h.red hm v hv).1 ((h.sat 1 v hv).2 hs)).2 i h1 h2)
theorem Xr {f:F->F->F}{M:List (List F)}{k i:Nat}(hi:i<M.length) (hik:i≠k):((BX f M k).take i++M.drop i).set i (Fz (BV M i) (BV M k) (f (DW M i k) (DW M k k)))=(BX f M k).take (i+1)++M.drop (i+1):=by
 have hl:(BX f M k).length=M.length:=by simp[BX]
 have h1:((BX f M k).take i).length=i:=by simp;omega
 have h2:(BX f M k).take (i+1)=(BX f M k).take i++[Fz (BV M i) (BV M k) (f (DW M i k) (DW M k k))]:=by
  rw[List.take_add_one,List.getElem?_eq_getElem (by omega)]
  have:=DP f M k i hi
  rw[show BV (BX f M k) i=(BX f M k)[i]?.getD [] from rfl,List.getElem?_eq_getElem (by omega),if_neg hik] at this
  rw[show (BX f M k)[i]=Fz (BV M i) (BV M k) (f (DW M i k) (DW M k k)) from this];rfl
 rw[List.set_append_right _ _ (by omega),h1,Nat.sub_self,List.drop_eq_getElem_cons hi,List.set_cons_zero,h2,List.append_assoc]
 rfl
theorem Xp {f:F->F->F}{M:List (List F)}{k:Nat}(hk:k<M.length):(BX f M k).take k++M.drop k=(BX f M k).take (k+1)++M.drop (k+1):=by
 have hl:(BX f M k).length=M.length:=by simp[BX]
 have h2:(BX f M k).take (k+1)=(BX f M k).take k++[M[k]]:=by
  rw[List.take_add_one,List.getElem?_eq_getElem (by omega)]
  have:=DP f M k k hk
  rw[show BV (BX f M k) k=(BX f M k)[k]?.getD [] from rfl,List.getElem?_eq_getElem (by omega),if_pos rfl] at this
  rw[show (BX f M k)[k]=BV M k from this]
  unfold BV
  rw[List.getElem?_eq_getElem hk];rfl
 rw[List.drop_eq_getElem_cons hk,h2,List.append_assoc];rfl
theorem aO {f:F->F->F}{M:List (List F)}{k i:Nat}(hi:i<M.length):BV ((BX f M k).take i++M.drop i) i=BV M i:=by
 have hl:(BX f M k).length=M.length:=by simp[BX]
 unfold BV
 rw[List.getElem?_append_right (by simp;omega)]
 simp only[List.length_take,List.getElem?_drop]
 congr 2;omega
theorem Xq {f:F->F->F}{M:List (List F)}{k i:Nat}(hk:k<M.length) (hi:i<=M.length):BV ((BX f M k).take i++M.drop i) k=BV M k:=by
 have hl:(BX f M k).length=M.length:=by simp[BX]
 by_cases h:k<i
 ·have:=DP f M k k hk
  rw[if_pos rfl] at this
  rw[←this]
  unfold BV
  rw[List.getElem?_append_left (by simp;omega),List.getElem?_take_of_lt h]
 ·unfold BV
  rw[List.getElem?_append_right (by simp;omega)]
  simp only[List.length_take,List.getElem?_drop]
  congr 2;omega
theorem aP {f:F->F->F}{M:List (List F)}{k:Nat}:(BX f M k).take M.length++M.drop M.length=BX f M k:=by
 have hl:(BX f M k).length=M.length:=by simp[BX]
 rw[List.take_of_length_le (by omega),List.drop_eq_nil_of_le (by omega),List.append_nil]
end Go.Pw
