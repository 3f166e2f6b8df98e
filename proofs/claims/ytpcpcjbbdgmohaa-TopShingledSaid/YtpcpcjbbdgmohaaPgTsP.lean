/- A part of the proof. -/
import Derived.Test.YtpcpcjbbdgmohaaLgA
import Derived.Test.YtpcpcjbbdgmohaaPgTsA
import Derived.Test.YtpcpcjbbdgmohaaPsPC
set_option linter.all false
section
open Go Go.Pw
namespace Go.Pw
def E1 (P:List (List Int)):List (List Int):=P.filter fun r=>decide (r≠DI)
theorem Jy (P Q:List (List Int)):E1 (P++Q)=E1 P++E1 Q:=by unfold E1;rw[List.filter_append]
theorem Uu (P:List (List Int)):E1 (E1 P)=E1 P:=by unfold E1;rw[List.filter_filter];simp
theorem MB (n:Nat):E1 (List.replicate n DI)=[]:=by
 unfold E1
 rw[List.filter_eq_nil_iff]
 intro r hr
 rw[(List.mem_replicate.1 hr).2];decide
def N5 (s t:Ap):Prop:=∃P Q L,s.med=t.med/\s.eps=P++[L]/\t.eps=Q++[L]/\E1 P=E1 Q
def Nr (s:Ap):Prop:=∀r,r∈s.eps->r.length=6
theorem Ed {s:Ap}{P:List (List Int)}{L:List Int}(h:s.eps=P++[L]):s.last=P.length/\s.eps[s.last]?.getD []=L/\s.eps.take s.last=P:=by
 have:s.last=P.length:=by unfold Ap.last;rw[h];simp
 rw[this,h];simp
theorem Ld (P:List (List Int)) (L r:List Int):(P++[L]).set P.length r=P++[r]:=by rw[List.set_append_right _ _ (Nat.le_refl _)];simp
theorem YS {s:Ap}(h:1<=s.eps.length):N5 s s:=by
 refine⟨s.eps.dropLast,s.eps.dropLast,s.eps.getLast (by intro he;rw[he] at h;simp at h),rfl,?_,?_,rfl⟩<;>rw[List.dropLast_concat_getLast]
theorem SJ {s t:Ap}(h:N5 s t):N5 s t.tidy:=by
 obtain⟨P,Q,L,h1,h2,h3,h4⟩:=h
 obtain⟨a1,a2,a3⟩:=Ed h3
 refine⟨P,E1 Q,L,h1,h2,?_,by rw[Uu];exact h4⟩
 unfold Ap.tidy
 dsimp only
 rw[a2,a3];rfl
theorem SK {s t:Ap}(h:N5 s t) (b:Nat) (n:Int):N5 (s.setL b n) (t.setL b n):=by
 obtain⟨P,Q,L,h1,h2,h3,h4⟩:=h
 obtain⟨a1,a2,a3⟩:=Ed h3
 obtain⟨b1,b2,b3⟩:=Ed h2
 refine⟨P,Q,L.set b n,h1,?_,?_,h4⟩
 ·unfold Ap.setL;dsimp only;rw[b2,b1,h2,Ld]
 ·unfold Ap.setL;dsimp only;rw[a2,a1,h3,Ld]
theorem OQ {s t:Ap}(h:N5 s t) (b:Nat):N5 (s.write s.last b) (t.write t.last b):=by
 have h':=h
 obtain⟨P,Q,L,h1,h2,h3,h4⟩:=h
 obtain⟨a1,a2,a3⟩:=Ed h3
 obtain⟨b1,b2,b3⟩:=Ed h2
 unfold Ap.write Ap.ent
 rw[a2,b2]
 split
 ·exact h'
 ·refine⟨P,Q,L.set b (-3),by dsimp only;rw[h1],?_,?_,h4⟩
  ·dsimp only;rw[b1,h2,Ld]
  ·dsimp only;rw[a1,h3,Ld]
theorem a_ {s t:Ap}(h:N5 s t):N5 { s with eps:=s.eps++[DI] } { t with eps:=t.eps++[DI] }:=by
 obtain⟨P,Q,L,h1,h2,h3,h4⟩:=h
 exact⟨P++[L],Q++[L],DI,h1,by dsimp only;rw[h2],by dsimp only;rw[h3],by rw[Jy,Jy,h4]⟩
def Km:Nat->List Int->List Int->List Int
 |0,m,_=>m
 |b+1,m,r=>if r[b]?.getD 0=-3 then Km b m r else (Km b m r).set b (r[b]?.getD 0)
def Rg:Nat->List Int->List Int
 |0,r=>r
 |b+1,r=>(Rg b r).set b (-3)
theorem Rf:∀(k:Nat) (r:List Int) {i:Nat},k<=i->(Rg k r)[i]?=r[i]?
 |0,r,i,_=>rfl
 |k+1,r,i,h=>by
  rw[Rg,List.getElem?_set_ne (by omega),Rf k r (by omega)]
theorem TS:∀(k:Nat) (r:List Int),(Rg k r).length=r.length
 |0,r=>rfl
 |k+1,r=>by rw[Rg,List.length_set,TS k r]
theorem SL {r:List Int}{b:Nat}{v:Int}(hb:b<r.length) (h:r[b]?.getD 0=v):r.set b v=r:=by
 refine List.ext_getElem? fun i=>?_
 by_cases hi:b=i
 ·subst hi
  rw[List.getElem?_set_self hb,←h,List.getElem?_eq_getElem hb];rfl
 ·rw[List.getElem?_set_ne hi]
theorem Rq {s:Ap}{e:Nat}{r:List Int}(he:s.eps[e]?=some r) (h6:r.length=6):∀k,k<=6->(s.wrB e k).med=Km k s.med r/\(s.wrB e k).eps=s.eps.set e (Rg k r)
 |0,_=>by
  refine⟨rfl,?_⟩
  show s.eps=s.eps.set e r
  obtain⟨hl,hr⟩:=List.getElem?_eq_some_iff.1 he
  rw[←hr,List.set_getElem_self]
 |k+1,hk=>by
  obtain⟨i1,i2⟩:=Rq he h6 k (by omega)
  obtain⟨hl,hr⟩:=List.getElem?_eq_some_iff.1 he
  have hrow:(s.wrB e k).eps[e]?.getD []=Rg k r:=by rw[i2,List.getElem?_set_self hl];rfl
  have hent:(s.wrB e k).ent e k=r[k]?.getD 0:=by unfold Ap.ent;rw[hrow,Rf k r (Nat.le_refl _)]
  show ((s.wrB e k).write e k).med=_/\((s.wrB e k).write e k).eps=_
  rw[Km,Rg]
  unfold Ap.write
  rw[hent]
  by_cases h3:r[k]?.getD 0=-3
  ·rw[if_pos h3,if_pos h3]
   refine⟨i1,?_⟩
   rw[i2,SL (by rw[TS];omega) (by rw[Rf k r (Nat.le_refl _)];exact h3)]
  ·rw[if_neg h3,if_neg h3]
   refine⟨by dsimp only;rw[i1],?_⟩
   dsimp only
   rw[hrow,i2,List.set_set]
theorem gp {r:List Int}(h:r.length=6):Rg 6 r=DI:=by
 match r,h with
 |[a,b,c,d,e,f],_=>rfl
theorem JV {s:Ap}(h6:Nr s):∀n,n<=s.eps.length->(s.wrE n).med=(s.eps.take n).foldl (Km 6) s.med/\(s.wrE n).eps=List.replicate n DI++s.eps.drop n
 |0,_=>⟨rfl,rfl⟩
 |n+1,hn=>by
  obtain⟨i1,i2⟩:=JV h6 n (by omega)
  have hlt:n<s.eps.length:=hn
  have hget:(s.wrE n).eps[n]?=some (s.eps[n]):=by
   rw[i2,List.getElem?_append_right (by simp),List.length_replicate,Nat.sub_self,List.getElem?_drop,Nat.add_zero,List.getElem?_eq_getElem hlt]
  obtain⟨j1,j2⟩:=Rq hget (h6 _ (List.getElem_mem hlt)) 6 (Nat.le_refl _)
  show ((s.wrE n).wrB n 6).med=_/\((s.wrE n).wrB n 6).eps=_
  rw[j1,j2,i1,i2,gp (h6 _ (List.getElem_mem hlt))]
  refine⟨?_,?_⟩
  ·rw[List.take_succ,List.getElem?_eq_getElem hlt,List.foldl_append];rfl
  ·rw[List.set_append_right _ _ (by simp),List.length_replicate,Nat.sub_self,List.drop_eq_getElem_cons hlt,List.set_cons_zero,List.replicate_succ',List.append_assoc];rfl
theorem WY (m:List Int):Km 6 m DI=m:=rfl
theorem MA:∀(P:List (List Int)) (m:List Int),(E1 P).foldl (Km 6) m=P.foldl (Km 6) m
 |[],m=>rfl
 |r::P,m=>by
  unfold E1
  rw[List.filter_cons]
  by_cases h:r=DI
  ·rw[if_neg (by simp[h])]
   show (E1 P).foldl _ _=_
   rw[MA P m,List.foldl_cons,h,WY]
  ·rw[if_pos (by simpa using h)]
   exact MA P _
theorem QU {P Q:List (List Int)}(h:E1 P=E1 Q) (m:List Int):P.foldl (Km 6) m=Q.foldl (Km 6) m:=by rw[←MA P,←MA Q,h]
theorem WN {s t:Ap}(h:N5 s t) (hs:Nr s) (ht:Nr t):N5 (s.wrE s.eps.length) (t.wrE t.eps.length):=by
 obtain⟨P,Q,L,h1,h2,h3,h4⟩:=h
 obtain⟨a1,a2⟩:=JV hs _ (Nat.le_refl _)
 obtain⟨b1,b2⟩:=JV ht _ (Nat.le_refl _)
 rw[List.drop_length,List.append_nil] at a2 b2
 rw[List.take_length] at a1 b1
 refine⟨List.replicate P.length DI,List.replicate Q.length DI,DI,?_,?_,?_,by rw[MB,MB]⟩
 ·rw[a1,b1,h1,h2,h3,List.foldl_append,List.foldl_append,QU h4]
 ·rw[a2,h2,List.length_append,List.length_singleton,List.replicate_succ']
 ·rw[b2,h3,List.length_append,List.length_singleton,List.replicate_succ']
theorem a9 {s t:Ap}(h:N5 s t) (hs:Nr s) (ht:Nr t):N5 (s.wrE s.last) (t.wrE t.last):=by
 obtain⟨P,Q,L,h1,h2,h3,h4⟩:=h
 obtain⟨l1,l2,l3⟩:=Ed h2
 obtain⟨k1,k2,k3⟩:=Ed h3
 obtain⟨a1,a2⟩:=JV hs s.last (by rw[l1,h2];simp)
 obtain⟨b1,b2⟩:=JV ht t.last (by rw[k1,h3];simp)
 refine⟨List.replicate P.length DI,List.replicate Q.length DI,L,?_,?_,?_,by rw[MB,MB]⟩
 ·rw[a1,b1,l3,k3,h1,QU h4]
 ·rw[a2,l1,h2];simp
 ·rw[b2,k1,h3];simp
theorem KG {s:Ap}(h:Nr s) (e b:Nat):Nr (s.write e b):=by
 unfold Ap.write
 split
 ·exact h
 ·intro r hr
  dsimp only at hr
  by_cases he:e<s.eps.length
  ·rcases List.mem_or_eq_of_mem_set hr with hr|rfl
   ·exact h r hr
   ·rw[List.length_set];exact h _ (BL he)
  ·rw[List.set_eq_of_length_le (by omega)] at hr;exact h r hr
theorem VY {s:Ap}(h:Nr s) (e:Nat):∀k,Nr (s.wrB e k)
 |0=>h
 |k+1=>KG (VY h e k) e k
theorem Q7 {s:Ap}(h:Nr s):∀n,Nr (s.wrE n)
 |0=>h
 |n+1=>VY (Q7 h n) n 6
theorem Ja {s:Ap}(h:Nr s) (b:Nat) (n:Int):Nr (s.setL b n):=by
 intro r hr
 unfold Ap.setL at hr
 dsimp only at hr
 by_cases he:s.last<s.eps.length
 ·rcases List.mem_or_eq_of_mem_set hr with hr|rfl
  ·exact h r hr
  ·rw[List.length_set];exact h _ (BL he)
 ·rw[List.set_eq_of_length_le (by omega)] at hr;exact h r hr
def Ap.ord0 (s:Ap) (n:Int) (o:Cx):Ap :=
 if o.kind=1 then s.setL o.blk.toNat n
  else if o.kind=2 then (let t:=s.setL o.blk.toNat n;(t.wrE t.last).write t.last o.blk.toNat)
  else if o.kind=3 then { s with eps:=s.eps++[DI] }
  else if o.kind=4 then s.wrE s.eps.length
  else s
theorem Ob (s:Ap) (n:Int) (o:Cx):s.order n o=(s.ord0 n o).tidy:=rfl
theorem Sp (s:Ap) (n:Nat):(s.wrE n).last=s.last:=by unfold Ap.last;rw[Cp]
theorem YT {s t:Ap}(h:N5 s t) (hs:Nr s) (ht:Nr t) (n:Int) (o:Cx):N5 (s.ord0 n o) (t.ord0 n o):=by
 unfold Ap.ord0
 split
 ·exact SK h _ _
 ·split
  ·dsimp only
   have h1:=a9 (SK h o.blk.toNat n) (Ja hs _ _) (Ja ht _ _)
   have h2:=OQ h1 o.blk.toNat
   rw[Sp,Sp] at h2
   exact h2
  ·split
   ·exact a_ h
   ·split
    ·exact WN h hs ht
    ·exact h
theorem WM {s t:Ap}(h:N5 s t) (hs:Nr s) (ht:Nr t) (n:Int) (o:Cx):N5 (s.ord0 n o) (t.order n o):=by
 rw[Ob];exact SJ (YT h hs ht n o)
theorem XP {P F:List (List Int)}{r:List Int}(h:E1 P=r::F):∃P1 P2,P=P1++r::P2/\(∀x,x∈P1->x=DI)/\r≠DI/\E1 P2=F:=by
 unfold E1 at h
 rw[List.filter_eq_cons_iff] at h
 obtain⟨P1,P2,h1,h2,h3,h4⟩:=h
 exact⟨P1,P2,h1,fun x hx=>by have:=h2 x hx;simpa using this,by simpa using h3,h4⟩
theorem Zw {P:List (List Int)}(h:E1 P=[]):∀x,x∈P->x=DI:=by
 unfold E1 at h
 rw[List.filter_eq_nil_iff] at h
 exact fun x hx=>by have:=h x hx;simpa using this
theorem S7 {P1 P2:List (List Int)}{r:List Int}(h1:∀x,x∈P1->x=DI) (hr:r≠DI):(P1++r::P2).findIdx? (fun r=>decide (r≠DI))=some P1.length:=by
 induction P1 with
 |nil=>rw[List.nil_append,List.findIdx?_cons,decide_eq_true hr];rfl
 |cons y P1 ih =>
  rw[List.cons_append,List.findIdx?_cons,h1 y List.mem_cons_self]
  simp only[ne_eq,not_true_eq_false,decide_false,Bool.false_eq_true,if_false]
  rw[ih fun x hx=>h1 x (List.mem_cons_of_mem _ hx)];rfl
theorem Zv {P:List (List Int)}(h1:∀x,x∈P->x=DI):P.findIdx? (fun r=>decide (r≠DI))=none:=by
 rw[List.findIdx?_eq_none_iff]
 intro x hx
 rw[h1 x hx];simp
theorem Hi {s:Ap}{P:List (List Int)}{L:List Int}(h:s.eps=P++[L]) :
  (∀r F,E1 P=r::F->∃P1 P2,P=P1++r::P2/\(∀x,x∈P1->x=DI)/\E1 P2=F/\s.first=some P1.length/\s.eps[P1.length]?.getD []=r) /\
  (E1 P=[]->s.first=if L=DI then none else some s.last):=by
 refine⟨fun r F hf=>?_,fun hf=>?_⟩
 ·obtain⟨P1,P2,e1,e2,e3,e4⟩:=XP hf
  refine⟨P1,P2,e1,e2,e4,?_,?_⟩
  ·unfold Ap.first
   rw[h,e1,List.append_assoc,List.cons_append]
   exact S7 e2 e3
  ·rw[h,e1,List.append_assoc,List.cons_append,List.getElem?_append_right (Nat.le_refl _),Nat.sub_self];rfl
 ·have e1:=Zw hf
  obtain⟨l1,_,_⟩:=Ed h
  unfold Ap.first
  rw[h,l1]
  by_cases hL:L=DI
  ·rw[if_pos hL]
   exact Zv fun x hx=>by
    rcases List.mem_append.1 hx with hx|hx
    ·exact e1 x hx
    ·rw[List.mem_singleton] at hx;rw[hx,hL]
  ·rw[if_neg hL]
   exact S7 e1 hL
theorem VZ {s t:Ap}(h:N5 s t) (b:Nat):s.can b=t.can b:=by
 obtain⟨P,Q,L,h1,h2,h3,h4⟩:=h
 obtain⟨a1,a2⟩:=Hi h2
 obtain⟨b1,b2⟩:=Hi h3
 obtain⟨l1,l2,l3⟩:=Ed h2
 obtain⟨k1,k2,k3⟩:=Ed h3
 unfold Ap.can
 cases hf:E1 P with
 |nil =>
  rw[a2 hf,b2 (by rw[←h4];exact hf)]
  by_cases hL:L=DI
  ·rw[if_pos hL,if_pos hL]
  ·rw[if_neg hL,if_neg hL]
   dsimp only;unfold Ap.ent;rw[l2,k2]
 |cons r F =>
  obtain⟨P1,P2,_,_,_,c4,c5⟩:=a1 r F hf
  obtain⟨Q1,Q2,_,_,_,d4,d5⟩:=b1 r F (by rw[←h4];exact hf)
  rw[c4,d4]
  dsimp only;unfold Ap.ent;rw[c5,d5]
def Ap.drain0 (s:Ap) (b:Nat):Ap:=s.write (s.first.getD 0) b
theorem Oz (s:Ap) (b:Nat):s.drain b=(s.drain0 b).tidy:=rfl
theorem T6 {s t:Ap}(h:N5 s t) {b:Nat}(hc:s.can b=true):N5 (s.drain0 b) (t.drain0 b):=by
 have h':=h
 have hc2:=hc
 rw[VZ h b] at hc2
 obtain⟨P,Q,L,h1,h2,h3,h4⟩:=h
 obtain⟨a1,a2⟩:=Hi h2
 obtain⟨b1,b2⟩:=Hi h3
 unfold Ap.can at hc hc2
 unfold Ap.drain0
 cases hf:E1 P with
 |nil =>
  rw[a2 hf] at hc ⊢
  rw[b2 (by rw[←h4];exact hf)]
  by_cases hL:L=DI
  ·rw[if_pos hL] at hc;cases hc
  ·rw[if_neg hL,if_neg hL]
   exact OQ h' b
 |cons r F =>
  obtain⟨P1,P2,c1,c2,c3,c4,c5⟩:=a1 r F hf
  obtain⟨Q1,Q2,d1,d2,d3,d4,d5⟩:=b1 r F (by rw[←h4];exact hf)
  rw[c4] at hc ⊢
  rw[d4] at hc2 ⊢
  dsimp only[Option.getD_some] at hc hc2 ⊢
  have e1:s.ent P1.length b=r[b]?.getD 0:=by unfold Ap.ent;rw[c5]
  have e2:t.ent Q1.length b=r[b]?.getD 0:=by unfold Ap.ent;rw[d5]
  rw[decide_eq_true_eq] at hc hc2
  rw[e1] at hc
  unfold Ap.write
  rw[e1,e2,if_neg hc,if_neg hc]
  refine⟨P1++r.set b (-3)::P2,Q1++r.set b (-3)::Q2,L,by dsimp only;rw[h1],?_,?_,?_⟩
  ·dsimp only
   rw[c5,h2,c1,List.append_assoc,List.set_append_right _ _ (Nat.le_refl _),Nat.sub_self,List.append_assoc];rfl
  ·dsimp only
   rw[d5,h3,d1,List.append_assoc,List.set_append_right _ _ (Nat.le_refl _),Nat.sub_self,List.append_assoc];rfl
  ·rw[Jy,Jy]
   have f1:E1 P1=[]:=by unfold E1;rw[List.filter_eq_nil_iff];intro x hx;rw[c2 x hx];simp
   have f2:E1 Q1=[]:=by unfold E1;rw[List.filter_eq_nil_iff];intro x hx;rw[d2 x hx];simp
   rw[f1,f2]
   have g:∀(R:List (List Int)),E1 (r.set b (-3)::R)=E1 [r.set b (-3)]++E1 R:=fun R=>Jy [r.set b (-3)] R
   rw[g P2,g Q2,c3,d3]
theorem WO {s t:Ap}(h:N5 s t) {b:Nat}(hc:s.can b=true):N5 (s.drain0 b) (t.drain b):=by
 rw[Oz];exact SJ (T6 h hc)
theorem YQ {s:Ap}(h:Nr s) (n:Int) (o:Cx):Nr (s.ord0 n o):=by
 unfold Ap.ord0
 split
 ·exact Ja h _ _
 ·split
  ·exact KG (Q7 (Ja h _ _) _) _ _
  ·split
   ·intro r hr
    dsimp only at hr
    rcases List.mem_append.1 hr with hr|hr
    ·exact h r hr
    ·rw[List.mem_singleton] at hr;rw[hr];rfl
   ·split
    ·exact Q7 h _
    ·exact h
theorem T4 {s:Ap}(h:Nr s) (b:Nat):Nr (s.drain0 b):=KG h _ _
theorem SH {s:Ap}(h:Nr s) (hne:1<=s.eps.length):Nr s.tidy:=by
 intro r hr
 unfold Ap.tidy at hr
 dsimp only at hr
 rcases List.mem_append.1 hr with hr|hr
 ·exact h r (List.mem_of_mem_take (List.mem_filter.1 hr).1)
 ·rw[List.mem_singleton] at hr
  rw[hr];exact h _ (BL (by unfold Ap.last;omega))
end Go.Pw
end
section
open Go Go.Pw
namespace Go.Pw
theorem Ug {c:Au}{s:Ap}(h:s.Inv c) {b:Nat}(hb:b<6):(s.drain0 b).Inv c:=by
 unfold Ap.drain0
 refine IK h ?_ hb
 cases hf:s.first with
 |none=>have:=h.ne;simp;omega
 |some e =>
  unfold Ap.first at hf
  rw[List.findIdx?_eq_some_iff_getElem] at hf
  exact hf.1
theorem ZQ {c:Au}(hc:c.ok=true) {s:Ap}(h:s.Inv c) {n:Nat}(hn:n<c.ords.length):(s.ord0 (n:Int) (c.ords[n]?.getD default)).Inv c:=by
 have hb:=Cr hc
 have ho:=Fe hc hn
 obtain⟨o,hoe⟩:∃o,c.ords[n]?.getD default=o:=⟨_,rfl⟩
 have hold:o.puts=true->o.blk.toNat<6/\Ti c o.blk.toNat (n:Int):=fun hp=>by
  rw[hoe] at ho
  have:=RH ho hp
  refine⟨by omega,by omega,by omega,?_,?_⟩
  ·rw[Int.toNat_natCast,hoe];exact hp
  ·rw[Int.toNat_natCast,hoe];omega
 rw[hoe]
 unfold Ap.ord0
 have hlast:∀{t:Ap},t.Inv c->t.last<t.eps.length:=fun {t} ht=>by have:=ht.ne;unfold Ap.last;omega
 by_cases k1:o.kind=1
 ·obtain⟨h1,h2⟩:=hold (by simp[Cx.puts,k1])
  rw[if_pos k1];exact L6 h h1 h2
 rw[if_neg k1]
 by_cases k2:o.kind=2
 ·obtain⟨h1,h2⟩:=hold (by simp[Cx.puts,k2])
  have hs:=L6 h h1 h2
  rw[if_pos k2]
  have hl:=hlast hs
  exact IK (L5 hs _ (by omega)) (by rw[Cp];exact hl) h1
 rw[if_neg k2]
 by_cases k3:o.kind=3
 ·rw[if_pos k3]
  refine⟨h.ml,by simp,fun r hr=>?_,h.mh,fun r hr b hb=>?_⟩
  ·simp only[List.mem_append,List.mem_singleton] at hr
   rcases hr with hr|rfl
   ·exact h.el r hr
   ·rfl
  ·simp only[List.mem_append,List.mem_singleton] at hr
   rcases hr with hr|rfl
   ·exact h.eh r hr b hb
   ·exact .inl (Lu hb)
 rw[if_neg k3]
 by_cases k4:o.kind=4
 ·rw[if_pos k4];exact L5 h _ (Nat.le_refl _)
 ·rw[if_neg k4];exact h
theorem Yw (s:Ap) (n:Int) (o:Cx):(s.ord0 n o).eps.length<=s.eps.length+1:=by
 have hset:∀b v,(s.setL b v).eps.length=s.eps.length:=fun b v=>by simp[Ap.setL]
 unfold Ap.ord0
 split
 ·rw[hset];omega
 ·split
  ·dsimp only;rw[Bz,Cp,hset];omega
  ·split
   ·simp
   ·split
    ·rw[Cp];omega
    ·omega
theorem O0 (s:Ap) (b:Nat):(s.drain0 b).eps.length=s.eps.length:=Bz _ _ _
theorem LC (c:Au) (s:Ap) (a:Nat):∀k,s.ordN c a (k+1)=(s.order (a:Int) (c.ords[a]?.getD default)).ordN c (a+1) k
 |0=>rfl
 |k+1=>by
  rw[Ap.ordN,LC c s a k,Ap.ordN]
  have:a+(k+1)=a+1+k:=by omega
  rw[this]
def LJ (c:Au) (ds:List Ew) (s:Ap) (a:Nat):Option Ap:=(El c ds s a).map fun p=>p.1.ordN c p.2 (c.ords.length-p.2)
theorem e9 {c:Au}{d:Ew}{l:List Ew}{s f:Ap}{a:Nat}(h:LJ c (d::l) s a=some f):((a:Int)<=d.aft/\d.aft<=c.ords.length)/\(0<=d.blk/\d.blk<=c.blocks-1):=by
 unfold LJ El at h
 split at h
 ·rename_i hg
  simp only[Bool.and_eq_true,decide_eq_true_eq,HS] at hg
  exact hg
 ·cases h
theorem XM {c:Au}{d:Ew}{l:List Ew}{s f:Ap}{a:Nat}(h:LJ c (d::l) s a=some f) (ha:d.aft=(a:Int)):s.can d.blk.toNat=true/\LJ c l (s.drain d.blk.toNat) a=some f:=by
 unfold LJ El at h
 split at h
 ·dsimp only at h
  have h0:d.aft.toNat-a=0:=by omega
  have h1:d.aft.toNat=a:=by omega
  rw[h0,Ap.ordN,h1] at h
  split at h
  ·rename_i hc;exact⟨hc,h⟩
  ·cases h
 ·cases h
theorem XL {c:Au}{ds:List Ew}{s:Ap}{a:Nat}(ha:a<c.ords.length) (hd:∀d l,ds=d::l->(a:Int)+1<=d.aft):LJ c ds s a=LJ c ds (s.order (a:Int) (c.ords[a]?.getD default)) (a+1):=by
 cases ds with
 |nil =>
  unfold LJ El
  simp only[Option.map_some]
  have:c.ords.length-a=(c.ords.length-(a+1))+1:=by omega
  rw[this,LC]
 |cons d l =>
  have h1:=hd d l rfl
  have g1:decide ((a:Int)<=d.aft)=true:=decide_eq_true (by omega)
  have g2:decide (((a+1:Nat):Int)<=d.aft)=true:=decide_eq_true (by omega)
  have h2:d.aft.toNat-a=(d.aft.toNat-(a+1))+1:=by omega
  unfold LJ El
  rw[g1,g2,h2,LC]
theorem cZ {c:Au}{s:Ap}:LJ c [] s c.ords.length=some s:=by
 unfold LJ El
 simp only[Option.map_some,Nat.sub_self];rfl
theorem Ys {c:Au}{ds:List Ew}(h:Ek c ds false=0):∃f,LJ c ds Ap.begin 0=some f/\Fj c ds false=f.med.take c.blocks.toNat/\ds.length<=16:=by
 have hL:Fj c ds false=((RF c ds false).getD []).take c.blocks.toNat:=by unfold Fj;rw[if_pos h]
 unfold Ek at h
 split at h
 ·omega
 split at h
 ·omega
 rename_i hg
 split at h
 ·omega
 rename_i hp
 rw[hL]
 unfold LJ
 unfold RF at hp ⊢
 simp only[Bool.or_eq_true,decide_eq_true_eq,not_or] at hg
 cases hd:El c ds Ap.begin 0 with
 |none=>rw[hd] at hp;simp at hp
 |some p =>
  obtain⟨s,a⟩:=p
  exact⟨_,rfl,rfl,by omega⟩
def FP (l:List Ga) (m n:List Int):Nat->List Ga
 |0=>l
 |b+1=>if m[b]?.getD 0≠n[b]?.getD 0 then FP l m n b++[((b:Int),n[b]?.getD 0+1)] else FP l m n b
theorem Mo (l:List Ga) (m n:List Int) (i:Nat):∀k,L3 (FP l m n k) i=if i<k/\m[i]?.getD 0≠n[i]?.getD 0 then n[i]?.getD 0+1 else L3 l i
 |0=>by rw[FP,if_neg (by omega)]
 |k+1=>by
  rw[FP]
  split
  ·rename_i hk
   rw[Ue,Mo l m n i k]
   dsimp only
   by_cases hi:i=k
   ·subst hi;rw[if_pos rfl,if_pos ⟨Nat.lt_succ_self _,hk⟩]
   ·rw[if_neg (by omega)]
    by_cases h:i<k/\m[i]?.getD 0≠n[i]?.getD 0
    ·rw[if_pos h,if_pos ⟨by omega,h.2⟩]
    ·rw[if_neg h,if_neg (fun h'=>h ⟨by omega,h'.2⟩)]
  ·rename_i hk
   rw[Mo l m n i k]
   by_cases h:i<k/\m[i]?.getD 0≠n[i]?.getD 0
   ·rw[if_pos h,if_pos ⟨by omega,h.2⟩]
   ·rw[if_neg h,if_neg]
    rintro⟨h1,h2⟩
    rcases Nat.lt_succ_iff_lt_or_eq.1 h1 with h3|h3
    ·exact h ⟨h3,h2⟩
    ·rw[h3] at h2;exact hk h2
theorem OV (l:List Ga) (m n:List Int) (w:Ga):∀k,w∈FP l m n k->w∈l\/∃b:Nat,b<k/\w=((b:Int),n[b]?.getD 0+1)
 |0,h=>.inl h
 |k+1,h=>by
  rw[FP] at h
  split at h
  ·rcases List.mem_append.1 h with h|h
   ·exact(OV l m n w k h).imp id fun⟨b,h1,h2⟩=>⟨b,by omega,h2⟩
   ·rw[List.mem_singleton] at h;exact .inr ⟨k,by omega,h⟩
  ·exact(OV l m n w k h).imp id fun⟨b,h1,h2⟩=>⟨b,by omega,h2⟩
theorem OW (l:List Ga) (m n:List Int):∀k,(FP l m n k).length<=l.length+k/\l.length<=(FP l m n k).length
 |0=>⟨Nat.le_refl _,Nat.le_refl _⟩
 |k+1=>by
  have:=OW l m n k
  rw[FP]
  split
  ·rw[List.length_append,List.length_singleton];omega
  ·omega
theorem QB (l:List Ga) (m:List Int) (b:Nat) (v:Int):∀k,(FP l m (m.set b v) k).length<=l.length+if b<k then 1 else 0
 |0=>by rw[FP];omega
 |k+1=>by
  have:=QB l m b v k
  rw[FP]
  split
  ·rename_i hk
   have hb:b=k:=by
    by_cases hb:b=k
    ·exact hb
    ·rw[List.getElem?_set_ne hb] at hk;exact absurd rfl hk
   subst hb
   rw[if_neg (Nat.lt_irrefl _)] at this
   rw[if_pos (Nat.lt_succ_self _),List.length_append,List.length_singleton];omega
  ·split at this
   ·rw[if_pos (by omega)];omega
   ·split<;>omega
structure LW (c:Au) (b:GB) (m:List Int) (l:List Ga):Prop where
 last:∀i:Nat,i<c.blocks.toNat->L3 l i=m[i]?.getD 0+1
 mem:∀w,w∈l->(0<=w.1/\w.1<c.blocks)/\(0<=w.2/\w.2<=c.ords.length)
theorem ZD {c:Au}{b:GB}{m:List Int}{l:List Ga}(h:LW c b m l) {s:Ap}(hs:s.Inv c) (hb:c.blocks<=6):LW c b s.med (FP l m s.med c.blocks.toNat):=by
 refine⟨fun i hi=>?_,fun w hw=>?_⟩
 ·rw[Mo]
  by_cases h1:m[i]?.getD 0=s.med[i]?.getD 0
  ·rw[if_neg (fun h'=>h'.2 h1),h.last i hi,h1]
  ·rw[if_pos ⟨hi,h1⟩]
 ·rcases OV _ _ _ _ _ hw with hw|⟨k,hk,rfl⟩
  ·exact h.mem w hw
  ·refine⟨⟨by show 0<=((k:Nat):Int);omega,by show ((k:Nat):Int)<c.blocks;omega⟩,?_⟩
   show 0<=s.med[k]?.getD 0+1/\s.med[k]?.getD 0+1<=c.ords.length
   rcases hs.mh k (by omega) with h1|⟨h1,h2,_,_⟩
   ·rw[h1];omega
   ·omega
theorem ZE (c:Au) (b:GB) (hb:c.blocks<=6):LW c b Ap.begin.med []:=by
 refine⟨fun i hi=>?_,fun w hw=>by cases hw⟩
 have:i=0\/i=1\/i=2\/i=3\/i=4\/i=5:=by omega
 rcases this with rfl|rfl|rfl|rfl|rfl|rfl<;>rfl
theorem U8 (s:Ap) (b:Nat):(∃v,(s.drain0 b).med=s.med.set b v):=by
 unfold Ap.drain0 Ap.write
 split
 ·exact⟨s.med[b]?.getD 0,by
   by_cases hb:b<s.med.length
   ·rw[SL hb rfl]
   ·rw[List.set_eq_of_length_le (by omega)]⟩
 ·exact⟨_,rfl⟩
end Go.Pw
end
section
open Go Go.Pw Go.Proofs
namespace Go.Pw
set_option maxRecDepth 100000
set_option maxHeartbeats 3200000
def gw (r:List Int):D:=.list false (Bi r)
def Im (E:List (List Int)):List D:=E.map gw
theorem DZ (E:List (List Int)):(Im E).length=E.length:=by simp[Im]
theorem EY (E:List (List Int)):DY 1 (Im E)=True:=JW fun _=>rfl
theorem D3 {E:List (List Int)}{i:Nat}{A:D->Prop}:Ay (Im E)[i]? A=(i<E.length/\A (.list false (Bi (E[i]?.getD default)))):=FQ
def SP (E:List (List Int)):List (Bool×List D):=E.map fun r=>(false,Bi r)
theorem FN (E:List (List Int)):(SP E).length=E.length:=by simp[SP]
theorem Lf (E:List (List Int)) (r:List Int):SP E++[(false,Bi r)]=SP (E++[r]):=by simp[SP]
theorem Ex {E:List (List Int)}{i:Nat}{A:Bool×List D->Prop}:Ay (SP E)[i]? A=(i<E.length/\A (false,Bi (E[i]?.getD []))):=by
 unfold SP
 by_cases h:i<E.length
 ·rw[List.getElem?_map,List.getElem?_eq_getElem h]
  simp only[Option.map_some,Ay,Option.getD_some]
  exact(propext (and_iff_right h)).symm
 ·rw[List.getElem?_map,List.getElem?_eq_none (by omega)]
  simp only[Option.map_none,Ay]
  exact(eq_false fun h'=>h h'.1).symm
theorem KH (E:List (List Int)) (i:Nat) (r:List Int):(SP E).set i (false,Bi r)=SP (E.set i r):=by simp[SP,List.map_set]
def Vt (n:Nat):List Nat:=List.range n
theorem D_ (n:Nat):(Vt n).length=n:=by simp[Vt]
theorem L4 (n:Nat):Vt n++[n]=Vt (n+1):=by simp[Vt,List.range_succ]
theorem Ey {n i:Nat}{A:Nat->Prop}:Ay (Vt n)[i]? A=(i<n/\A i):=by
 unfold Vt
 by_cases h:i<n
 ·rw[List.getElem?_range h];simp only[Ay];exact(propext (and_iff_right h)).symm
 ·rw[List.getElem?_eq_none (by simp;omega)];simp only[Ay];exact(eq_false fun h'=>h h'.1).symm
theorem Ly (E:List (List Int)):HU (Vt E.length) (SP E)=Im E:=by
 unfold HU Vt SP Im gw
 refine List.ext_getElem? fun i=>?_
 by_cases h:i<E.length
 ·rw[List.getElem?_map,List.getElem?_range h,List.getElem?_map,List.getElem?_eq_getElem h]
  simp only[Option.map_some,List.getElem?_map,List.getElem?_eq_getElem h,Option.getD_some]
 ·rw[List.getElem?_eq_none (by simp;omega),List.getElem?_eq_none (by simp;omega)]
theorem V_ {E:List (List Int)}{i:Nat}(h:i<E.length):E.take i++[E[i]?.getD default]=E.take (i+1):=by
 rw[List.take_add_one,List.getElem?_eq_getElem h];rfl
def d8 (m:List Int) (E:List (List Int)) (w:Int):List D:=[.list false (Bi m),.list false (Im E),.int .i64 w]
theorem Q9 (m:List Int) (E:List (List Int)) (w:Int):d8 m E w=[.list false (Bi m),.list false (Im E),.int .i64 w]:=rfl
attribute [local congr] Dy CG CH Bn D0 Bu Bw Bv Bm BU BN BG Bp BO Br CT CU CS CV CW CX Bo CN CM Bq BS Bt BT CK C8 BR CQ CR CL CI CJ Dz BP BQ Bs CO CP
attribute [local irreducible] IntKind.wrap Cf Option.getD and or
theorem Jg (m:List Int) (E:List (List Int)) (w:Int) (hm:m≠[]) (hml:m.length<=1000) (hE:∀r,r∈E->r≠[]/\r.length<=1000) (hl:E.length<=1000) (hne:E≠[]) :
  D1 E0 J' [] [.d (.agg (d8 m E w))] [(8,0,.row 3 1 false (Bi m)),(29,0,.mat 24 3 false (Vt E.length) (SP E))] (.agg [.own 8 0,.mref .out 29 0,.d (.int .i64 w)]):=by
 refine Av M0 A3 (by simp) (by simp[D4,AK,A2,AE.isHist]) (by simp[Aq,A2]) fun hwf hwo=>?_
 rw[A5];unfold JA
 rw[Q9]
 (try (simp -implicitDefEqProofs only[go_sem,hm,Ft,IL]));repeat' first|(with_reducible first|exact tI|refine aI ?_ ?_|intro _)|((first|with_reducible refine Af ?_ ?_<;>intro _)<;>try (simp -implicitDefEqProofs only[go_sem,hm,Ft,IL]))|simp (disch:=omega) only[A8]|((with_reducible refine BF ?_);refine⟨_,rfl,?_,?_⟩)
 all_goals first|omega|(simp<;>omega)|skip
 refine BB (α:=Nat) (l0:=?l1) (m0:=?m1) (fun x=>[(4,.d (.int .i64 (x:Int)))]) (fun x=>[(8,.row 3 1 false (Bi m)),(29,.mat 24 3 (decide (x=0)) (Vt x) (SP (E.take x)))]) (fun x=>x<=E.length) (fun x=>E.length-x) 0 ?h01 ?he1 ?he21 ?hI1 ?step1
 case h01=>(simp -implicitDefEqProofs only[go_sem];rfl)
 case he1=>rfl
 case he21=>rfl
 case' step1=>(rintro i hI;try dsimp only at hI)
 case' hI1=>try dsimp only
 ·exact Nat.zero_le _
 ·by_cases hi:i<E.length
  ·have hi':(i:Int)<(E.length:Int):=by omega
   have wi:IntKind.i64.wrap ((i:Int)+1)=((i+1:Nat):Int):=by rw[BM _ (by omega)];omega
   have hr:=hE (E[i]?.getD default) (by rw[List.getElem?_eq_getElem hi,Option.getD_some];exact List.getElem_mem hi)
   have htn:=V_ hi
   have htl:(E.take i).length=i:=by rw[List.length_take];omega
   obtain⟨r,hr0⟩:∃r,E[i]?.getD default=r:=⟨_,rfl⟩
   rw[hr0] at hr htn
   (try (simp -implicitDefEqProofs only[go_sem,DZ,D3,EY,hr0,hr.1,Ft,IL,hi',hi,wi,Int.toNat_natCast,FN,Lf,D_,L4,htl,htn]));repeat' first|(with_reducible first|exact tI|refine aI ?_ ?_|intro _)|((first|with_reducible refine Af ?_ ?_<;>intro _)<;>try (simp -implicitDefEqProofs only[go_sem,DZ,D3,EY,hr0,hr.1,Ft,IL,hi',hi,wi,Int.toNat_natCast,FN,Lf,D_,L4,htl,htn]))|simp (disch:=omega) only[A8]|((with_reducible refine BF ?_);refine⟨_,rfl,?_,?_⟩)
   all_goals first|omega|rfl|trace_state
  ·have hie:i=E.length:=by omega
   subst hie
   have hi':¬(E.length:Int)<(E.length:Int):=by omega
   have h0:decide (E.length=0)=false:=decide_eq_false fun h=>hne (List.length_eq_zero_iff.1 h)
   rw[h0,List.take_length]
   (try (simp -implicitDefEqProofs only[go_sem,DZ,hi']));repeat' first|(with_reducible first|exact tI|refine aI ?_ ?_|intro _)|((first|with_reducible refine Af ?_ ?_<;>intro _)<;>try (simp -implicitDefEqProofs only[go_sem,DZ,hi']))|simp (disch:=omega) only[A8]|((with_reducible refine BF ?_);refine⟨_,rfl,?_,?_⟩)
   all_goals first|omega|rfl|trace_state
end Go.Pw
end
