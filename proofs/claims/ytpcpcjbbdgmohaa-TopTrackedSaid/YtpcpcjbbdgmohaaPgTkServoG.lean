/- A part of the proof. -/
import Derived.Test.YtpcpcjbbdgmohaaPgTkServoA
set_option linter.all false
section
open Go Go.Pw Go.Proofs
namespace Go.Pw
set_option maxRecDepth 100000
set_option maxHeartbeats 1600000
attribute [local congr] DH Bv Bw BW DJ Bd Bf Be BV BH A' A0 BZ BA Ba BF Bc BG B1 CX BE B4 B5 B2 Bz B0 Bu DI Bx BX BC BB BD Bb B3
attribute [local irreducible] IntKind.wrap BR Option.getD and or
theorem LE (s:AH) (h:s.ok=true) (w:Al) (hwo:BS w=true) (i p:Int) (hi:-1<=i/\i<=1000000) (hp:0<=p/\p<=1008) :
  C6 E0 Ig [Cl s,KU w,.int .i64 i,.int .i64 p] (.bool (s.agrees w i p)):=by
 refine AU LX A1 (by simp) fun hwf=>?_
 have hd:=AH.ok_head h
 obtain⟨cd,b⟩:=w
 have hcb:(-1<=cd/\cd<=127)/\-100<=b/\b<=100:=by simpa[BS,EU] using hwo
 rw[Ae];unfold HL
 by_cases hcd:cd=-1
 ·subst hcd
  have:s.agrees (-1,b) i p=true:=by simp[AH.agrees]
  rw[this]
  (try (simp -implicitDefEqProofs only[go_sem,AI,AG,Aj]));repeat' first|(with_reducible first|exact tI|refine aI ?_ ?_|intro _)|((first|with_reducible refine AW ?_ ?_<;>intro _)<;>try (simp -implicitDefEqProofs only[go_sem,AI,AG,Aj]))|simp (disch:=omega) only[Au]
  all_goals first|omega|(simp<;>omega)|skip
 ·have ht:=Kl (n:=cd) (by omega)
  have hcen:=K0 h (t:=B_ cd) ⟨ht.2.2.2.1,ht.2.2.2.2.1⟩ i
  have c1:=MF cd
  rw[show EU cd 0 127=true by simp[EU];omega] at c1
  simp only[if_true] at c1
  have c2:=LD s h (B_ cd) i ⟨ht.2.2.2.1,ht.2.2.2.2.1⟩ hi
  rw[Om _ _ _ _ _ hcd]
  generalize s.center (B_ cd) i=C at *
  generalize B_ cd=T at *
  have w1:IntKind.i64.wrap (p-C)=p-C:=Aw _ (by omega)
  have w3:IntKind.i64.wrap (2*max (p-C) (-(p-C)))=2*max (p-C) (-(p-C)):=Aw _ (by omega)
  have w4:IntKind.i64.wrap (b-(p-C))=b-(p-C):=Aw _ (by omega)
  have a1:=GI (p-C) (by omega)
  have a2:=GI (b-(p-C)) (by omega)
  have hn0:¬cd=-1:=hcd
  by_cases hA:T<s.tracks
  ·by_cases hB:2*max (p-C) (-(p-C))<=s.step
   ·by_cases hC:max (b-(p-C)) (-(b-(p-C)))<=s.noise
    ·(try (simp -implicitDefEqProofs only[go_sem,AI,AG,Aj,hn0,w1,w3,w4,hA,hB,hC]));repeat' first|(with_reducible first|exact tI|refine aI ?_ ?_|intro _)|((first|with_reducible refine AW ?_ ?_<;>intro _|(with_reducible refine isCall ?_);first|refine AD c1 ?_|refine AD c2 ?_|refine AD a1 ?_|refine AD a2 ?_)<;>try (simp -implicitDefEqProofs only[go_sem,AI,AG,Aj,hn0,w1,w3,w4,hA,hB,hC]))|simp (disch:=omega) only[Au]
     all_goals first|omega|(simp[hA,hB,hC];done)
    ·(try (simp -implicitDefEqProofs only[go_sem,AI,AG,Aj,hn0,w1,w3,w4,hA,hB,hC]));repeat' first|(with_reducible first|exact tI|refine aI ?_ ?_|intro _)|((first|with_reducible refine AW ?_ ?_<;>intro _|(with_reducible refine isCall ?_);first|refine AD c1 ?_|refine AD c2 ?_|refine AD a1 ?_|refine AD a2 ?_)<;>try (simp -implicitDefEqProofs only[go_sem,AI,AG,Aj,hn0,w1,w3,w4,hA,hB,hC]))|simp (disch:=omega) only[Au]
     all_goals first|omega|(simp[hA,hB,hC];done)
   ·(try (simp -implicitDefEqProofs only[go_sem,AI,AG,Aj,hn0,w1,w3,w4,hA,hB]));repeat' first|(with_reducible first|exact tI|refine aI ?_ ?_|intro _)|((first|with_reducible refine AW ?_ ?_<;>intro _|(with_reducible refine isCall ?_);first|refine AD c1 ?_|refine AD c2 ?_|refine AD a1 ?_|refine AD a2 ?_)<;>try (simp -implicitDefEqProofs only[go_sem,AI,AG,Aj,hn0,w1,w3,w4,hA,hB]))|simp (disch:=omega) only[Au]
    all_goals first|omega|(simp[hA,hB];done)
  ·(try (simp -implicitDefEqProofs only[go_sem,AI,AG,Aj,hn0,w1,w3,w4,hA]));repeat' first|(with_reducible first|exact tI|refine aI ?_ ?_|intro _)|((first|with_reducible refine AW ?_ ?_<;>intro _|(with_reducible refine isCall ?_);first|refine AD c1 ?_|refine AD c2 ?_|refine AD a1 ?_|refine AD a2 ?_)<;>try (simp -implicitDefEqProofs only[go_sem,AI,AG,Aj,hn0,w1,w3,w4,hA]))|simp (disch:=omega) only[Au]
   all_goals first|omega|(simp[hA];done)
def H7:List Int->Int
 |[]=>0
 |x::l=>l.foldl min x
theorem SE {l:List Int}{i:Nat}(x:Int) (h:i<l.length):(l.take (i+1)).foldl min x=min ((l.take i).foldl min x) (l[i]?.getD 0):=by
 rw[List.take_add_one,List.getElem?_eq_getElem h,Option.getD_some]
 simp only[Option.toList,List.foldl_append,List.foldl_cons,List.foldl_nil]
theorem T4 {l:List Int}{i:Nat}(h:i+1<l.length):H7 (l.take (i+2))=min (H7 (l.take (i+1))) (l[i+1]?.getD 0):=by
 cases l with
 |nil=>simp at h
 |cons x l =>
  simp only[List.take_succ_cons,H7,List.getElem?_cons_succ]
  exact SE x (by simpa using h)
theorem FO (nl:Bool) (l:List Int) (hl:1<=l.length):C6 E0 Du [.list nl (CT l)] (.int .i64 (H7 l)):=by
 refine AU E8 A1 (by simp) fun hwf=>?_
 simp only[EZ,D_,D9,Dw,E5,E4,HB,E3,CJ,Cf,Cg,EB,Cu,List.length_map,Cz,true_and,and_true] at hwf
 have hl1:¬(l.length:Int)<1:=by omega
 rw[Ae];unfold Df
 (try (simp -implicitDefEqProofs only[go_sem,hl1]));repeat' first|(with_reducible first|exact tI|refine aI ?_ ?_|intro _)|((first|with_reducible refine AW ?_ ?_<;>intro _)<;>try (simp -implicitDefEqProofs only[go_sem,hl1]))|simp (disch:=omega) only[Au]|((with_reducible refine BN ?_);refine⟨(_,_),rfl,?_,?_⟩)
 all_goals first|omega|(simp<;>omega)|skip
 refine A5 (α:=Int×Int) (l0:=?l1) (m0:=?m1) (fun x=>[(4,.d (.int .i64 x.1)),(3,.d (.int .i64 x.2))]) (fun x=>[]) (fun x=>1<=x.1/\x.1<=l.length/\x.2=H7 (l.take x.1.toNat)) (fun x=>(l.length-x.1).toNat) (?a1_0,?a1_1) ?h01 ?he1 ?he21 ?hI1 ?step1
 case h01=>(simp -implicitDefEqProofs only[go_sem];rfl)
 case he1=>rfl
 case he21=>rfl
 case' step1=>(rintro⟨i,m⟩ hI;try dsimp only at hI)
 case' hI1=>try dsimp only
 ·refine⟨by omega,by omega,?_⟩
  cases l with
  |nil=>simp at hl
  |cons x l=>simp[H7]
 ·obtain⟨h1,h2,h3⟩:=hI
  by_cases hi:i<l.length
  ·have hs:=T4 (l:=l) (i:=i.toNat-1) (by omega)
   rw[show i.toNat-1+2=(i+1).toNat by omega,show i.toNat-1+1=i.toNat by omega] at hs
   (try (simp -implicitDefEqProofs only[go_sem]));repeat' first|(with_reducible first|exact tI|refine aI ?_ ?_|intro _)|((first|with_reducible refine AW ?_ ?_<;>intro _)<;>try (simp -implicitDefEqProofs only[go_sem]))|simp (disch:=omega) only[Au]|((with_reducible refine BN ?_);refine⟨(_,_),rfl,?_,?_⟩)
   all_goals first|omega|(simp<;>omega)|skip
   all_goals (rw[hs,←h3])
  ·have hx:l.take i.toNat=l:=List.take_of_length_le (by omega)
   rw[hx] at h3
   (try (simp -implicitDefEqProofs only[go_sem]));repeat' first|(with_reducible first|exact tI|refine aI ?_ ?_|intro _)|((first|with_reducible refine AW ?_ ?_<;>intro _)<;>try (simp -implicitDefEqProofs only[go_sem]))|simp (disch:=omega) only[Au]|((with_reducible refine BN ?_);refine⟨(_,_),rfl,?_,?_⟩)
   all_goals first|omega|(simp<;>omega)|skip
end Go.Pw
end
section
open Go Go.Pw Go.Proofs
namespace Go.Pw
set_option maxRecDepth 100000
set_option maxHeartbeats 1600000
attribute [local congr] DH Bv Bw BW DJ Bd Bf Be BV BH A' A0 BZ BA Ba BF Bc BG B1 CX BE B4 B5 B2 Bz B0 Bu DI Bx BX BC BB BD Bb B3
attribute [local irreducible] IntKind.wrap BR Option.getD and or
theorem GT (l:List Int) (hl:1<=l.length) (h2:l.length<=2000) :
  NY E0 DU [] [.d (.list false (CT l))] [(7,1,.row S' 1 false (CT l))] (.own 7 1):=by
 refine IU Ei A1 (by simp) (by simp[Rt,DZ,C5]) (by simp[Ju]) fun hwf hwo=>?_
 rw[I7];unfold DF
 have hne:CT l≠[]:=by cases l with|nil=>simp at hl|cons x l=>simp[CT]
 have hne':l≠[]:=by cases l with|nil=>simp at hl|cons x l=>simp
 (try (simp -implicitDefEqProofs only[go_sem,hne,hne']));repeat' first|(with_reducible first|exact tI|refine aI ?_ ?_|intro _)|((first|with_reducible refine AW ?_ ?_<;>intro _)<;>try (simp -implicitDefEqProofs only[go_sem,hne,hne']))|simp (disch:=omega) only[Au]
 all_goals first|omega|(simp<;>omega)|skip
def Fb (m:Int) (r:List Int) (p:Nat):Int:=H7 ((r.drop (max 0 ((p:Int)-m)).toNat).take ((min (r.length:Int) ((p:Int)+m+1)).toNat-(max 0 ((p:Int)-m)).toNat))
def H5 (m:Int) (r:List Int):List Int:=(List.range r.length).map (Fb m r)
theorem LJ (m:Int) (r:List Int):(H5 m r).length=r.length:=by simp[H5]
theorem V9 {m:Int}{r acc:List Int}(h:acc.length=r.length) (ha:∀j:Nat,j<r.length->acc[j]?.getD 0=Fb m r j):acc=H5 m r:=by
 refine List.ext_getElem (by rw[h,LJ]) fun j h1 h2=>?_
 have:=ha j (by omega)
 rw[List.getElem?_eq_getElem h1,Option.getD_some] at this
 rw[this];simp[H5]
theorem Mo (s:AH) (h:s.ok=true) (nl:Bool) (l:List Al) (r:List Int) (hr:1<=r.length) (h2:r.length<=2000) :
  C6 E0 GA [.ptr (JT s nl l),.list false (CT r)] (.list false (CT (H5 s.move r))):=by
 refine AU JD A1 (by simp) fun hwf=>?_
 have hd:=AH.ok_head h
 rw[Ae];unfold FT
 (try (simp -implicitDefEqProofs only[go_sem]));repeat' first|(with_reducible first|exact tI|refine aI ?_ ?_|intro _)|((first|with_reducible refine AW ?_ ?_<;>intro _)<;>try (simp -implicitDefEqProofs only[go_sem]))|simp (disch:=omega) only[Au]|((with_reducible refine BN ?_);refine⟨(_,_),rfl,?_,?_⟩)
 all_goals first|omega|(simp<;>omega)|skip
 refine A5 (α:=Int×(List Int)) (l0:=?l1) (m0:=?m1) (fun x=>[(12,.d (.int .i64 x.1))]) (fun x=>[(9,.row S' 1 false (CT x.2))]) (fun x=>0<=x.1/\x.1<=r.length/\x.2.length=r.length/\∀j:Nat,(j:Int)<x.1->x.2[j]?.getD 0=Fb s.move r j) (fun x=>(r.length-x.1).toNat) (?a1_0,List.replicate r.length 0) ?h01 ?he1 ?he21 ?hI1 ?step1
 case h01=>(simp -implicitDefEqProofs only[go_sem];rfl)
 case he1=>rfl
 case he21=>rfl
 case' step1=>(rintro⟨i,acc⟩ hI;try dsimp only at hI)
 case' hI1=>try dsimp only
 ·exact⟨by omega,by omega,by simp,fun j hj=>by omega⟩
 ·obtain⟨h1,h3,h4,h5⟩:=hI
  by_cases hi:i<r.length
  ·have c1:=fun nl'=>FO nl' ((r.drop (max 0 (i-s.move)).toNat).take ((min (r.length:Int) (i+s.move+1)).toNat-(max 0 (i-s.move)).toNat)) (by simp;omega)
   have e1:H7 ((r.drop (max 0 (i-s.move)).toNat).take ((min (r.length:Int) (i+s.move+1)).toNat-(max 0 (i-s.move)).toNat))=Fb s.move r i.toNat:=by
    unfold Fb;rw[show ((i.toNat:Nat):Int)=i by omega]
   have hset:∀j:Nat,(j:Int)<i+1->(acc.set i.toNat (Fb s.move r i.toNat))[j]?.getD 0=Fb s.move r j:=fun j hj=>by
    rw[List.getElem?_set]
    by_cases hji:i.toNat=j
    ·subst hji;simp[show i.toNat<acc.length by omega]
    ·rw[if_neg hji];exact h5 j (by omega)
   have w1:IntKind.i64.wrap (i-s.move)=i-s.move:=Aw _ (by omega)
   have w2:IntKind.i64.wrap (i+s.move)=i+s.move:=Aw _ (by omega)
   have w3:IntKind.i64.wrap (i+s.move+1)=i+s.move+1:=Aw _ (by omega)
   rw[e1] at c1
   (try (simp -implicitDefEqProofs only[go_sem,Ad,w1,w2,w3,h4,List.length_replicate]));repeat' first|(with_reducible first|exact tI|refine aI ?_ ?_|intro _)|((first|with_reducible refine AW ?_ ?_<;>intro _|(with_reducible refine isCall ?_);first|refine AD (c1 _) ?_)<;>try (simp -implicitDefEqProofs only[go_sem,Ad,w1,w2,w3,h4,List.length_replicate]))|simp (disch:=omega) only[Au]|((with_reducible refine BN ?_);refine⟨(_,_),rfl,?_,?_⟩)
   all_goals first|omega|(apply hset;assumption)|(simp;done)|(simp;omega)|skip
  ·have hx:=V9 (m:=s.move) h4 fun j hj=>h5 j (by omega)
   rw[←hx]
   (try (simp -implicitDefEqProofs only[go_sem,List.length_replicate]));repeat' first|(with_reducible first|exact tI|refine aI ?_ ?_|intro _)|((first|with_reducible refine AW ?_ ?_<;>intro _)<;>try (simp -implicitDefEqProofs only[go_sem,List.length_replicate]))|simp (disch:=omega) only[Au]|((with_reducible refine BN ?_);refine⟨(_,_),rfl,?_,?_⟩)
   all_goals first|omega|(simp<;>omega)|skip
end Go.Pw
end
section
open Go Go.Pw Go.Proofs
namespace Go.Pw
set_option maxRecDepth 100000
set_option maxHeartbeats 1600000
attribute [local congr] DH Bv Bw BW DJ Bd Bf Be BV BH A' A0 BZ BA Ba BF Bc BG B1 CX BE B4 B5 B2 Bz B0 Bu DI Bx BX BC BB BD Bb B3
attribute [local irreducible] IntKind.wrap BR Option.getD and or
theorem DQ {α:Type}(l:List α) (x:α):(l++[x]).isEmpty=false:=by cases l<;>rfl
def bH (r:List Int):D:=.list false (CT r)
theorem VS (r:List Int):bH r=.list false (CT r):=rfl
def Nf (R:List (List Int)):List D:=R.map bH
theorem Ev (R:List (List Int)):(Nf R).length=R.length:=by simp[Nf]
theorem FK (R:List (List Int)):Ci 1 (Nf R)=True:=Mc fun _=>rfl
theorem Ec (R:List (List Int)):(Nf R).isEmpty=R.isEmpty:=by cases R<;>rfl
theorem Iw (R:List (List Int)) (r:List Int):Nf R++[.list false (CT r)]=Nf (R++[r]):=by simp[Nf,bH]
theorem M2 {R:List (List Int)}{i:Nat}{A:D->Prop}:An (Nf R)[i]? A=(i<R.length/\A (bH (R[i]?.getD default))):=Gz
def AH.cost (s:AH) (l:List Al) (i p:Int):Int:=if s.agrees (l[i.toNat]?.getD default) i p then 0 else 1
theorem AH.cost01 (s:AH) (l:List Al) (i p:Int):0<=s.cost l i p/\s.cost l i p<=1:=by unfold AH.cost;split<;>omega
def AH.addC (s:AH) (l:List Al) (i:Nat) (r:List Int):List Int:=(List.range r.length).map fun(p:Nat)=>r[p]?.getD 0+s.cost l i p
theorem NX (s:AH) (l:List Al) (i:Nat) (r:List Int):(s.addC l i r).length=r.length:=by simp[AH.addC]
theorem IY (s:AH) (l:List Al) (i:Nat) (r:List Int) {p:Nat}(h:p<r.length):(s.addC l i r)[p]?.getD 0=r[p]?.getD 0+s.cost l i p:=by
 simp[AH.addC,h]
theorem LK {m:Int}{r:List Int}{p:Nat}(h:p<r.length):(H5 m r)[p]?.getD 0=Fb m r p:=by simp[H5,h]
theorem aw {a b:List Int}(h:a.length=b.length) (hx:∀j:Nat,j<a.length->a[j]?.getD 0=b[j]?.getD 0):a=b:=by
 refine List.ext_getElem h fun j h1 h2=>?_
 have:=hx j h1
 rwa [List.getElem?_eq_getElem h1,List.getElem?_eq_getElem h2,Option.getD_some,Option.getD_some] at this
def AH.zero (s:AH):List Int:=List.replicate (s.last+1).toNat 0
def AH.pre (s:AH) (l:List Al):Nat->List Int
 |0=>s.zero
 |i+1=>if i=0 then s.addC l 0 s.zero else s.addC l i (H5 s.move (s.pre l i))
def AH.base (s:AH) (l:List Al) (i:Nat):List Int:=if i=0 then s.zero else H5 s.move (s.pre l i)
theorem Ht (s:AH) (l:List Al) (i:Nat):s.pre l (i+1)=s.addC l i (s.base l i):=by
 simp only[AH.pre,AH.base];split
 ·rename_i h;subst h;rfl
 ·rfl
def AH.forthL (s:AH) (l:List Al) (k:Nat):List (List Int):=(List.range k).map fun i=>s.pre l (i+1)
theorem Qg (s:AH) (l:List Al) (k:Nat):s.forthL l (k+1)=s.forthL l k++[s.pre l (k+1)]:=by simp[AH.forthL,List.range_succ]
theorem G2 (s:AH) (l:List Al) (k:Nat):(s.forthL l k).length=k:=by simp[AH.forthL]
theorem SD (s:AH) (l:List Al) {k i:Nat}(h:i<k):(s.forthL l k)[i]?.getD default=s.pre l (i+1):=by simp[AH.forthL,h]
theorem Cp {s:AH}(h:s.ok=true):0<=s.last/\s.last<=1008:=by
 have hd:=AH.ok_head h
 have h1:s.step*(s.tracks-1)<=16*(s.tracks-1):=Int.mul_le_mul_of_nonneg_right (by omega) (by omega)
 have h2:0<=s.step*(s.tracks-1):=Int.mul_nonneg (by omega) (by omega)
 unfold AH.last;omega
theorem GQ {s:AH}(h:s.ok=true):(s.zero.length:Int)=s.last+1:=by
 have:=Cp h;simp[AH.zero];omega
theorem Dy (s:AH) (l:List Al):∀i,(s.pre l i).length=s.zero.length
 |0=>rfl
 |i+1=>by
  rw[Ht,NX,AH.base];split
  ·rfl
  ·rw[LJ,Dy]
theorem K2 (s:AH) (l:List Al) (i:Nat):(s.base l i).length=s.zero.length:=by
 rw[AH.base];split
 ·rfl
 ·rw[LJ,Dy]
theorem PO (l:List Int) (x:Int):l.foldl min x<=x/\(∀y,y∈l->l.foldl min x<=y)/\(l.foldl min x=x\/l.foldl min x∈l):=by
 induction l generalizing x with
 |nil=>simp
 |cons y l ih =>
  obtain⟨h1,h2,h3⟩:=ih (min x y)
  simp only[List.foldl_cons]
  refine⟨by omega,fun z hz=>?_,?_⟩
  ·rcases List.mem_cons.1 hz with rfl|hz
   ·omega
   ·exact h2 z hz
  ·rcases h3 with h3|h3
   ·rcases (show min x y=x\/min x y=y by omega) with h|h
    ·exact .inl (by rw[h3,h])
    ·exact .inr (by rw[h3,h];simp)
   ·exact .inr (List.mem_cons_of_mem _ h3)
theorem OS {l:List Int}(h:1<=l.length):H7 l∈l/\∀y,y∈l->H7 l<=y:=by
 cases l with
 |nil=>simp at h
 |cons x l =>
  obtain⟨h1,h2,h3⟩:=PO l x
  simp only[H7]
  refine⟨?_,fun y hy=>?_⟩
  ·rcases h3 with h3|h3
   ·rw[h3];simp
   ·exact List.mem_cons_of_mem _ h3
  ·rcases List.mem_cons.1 hy with rfl|hy
   ·exact h1
   ·exact h2 y hy
theorem H6 {m:Int}{r:List Int}{p:Nat}(hm:0<=m) (hp:p<r.length) :
  (∃q:Nat,q<r.length/\(q:Int)-p<=m/\(p:Int)-q<=m/\Fb m r p=r[q]?.getD 0)/\∀q:Nat,q<r.length->(q:Int)-p<=m->(p:Int)-q<=m->Fb m r p<=r[q]?.getD 0:=by
 have hw:=OS (l:=(r.drop (max 0 ((p:Int)-m)).toNat).take ((min (r.length:Int) ((p:Int)+m+1)).toNat-(max 0 ((p:Int)-m)).toNat)) (by simp;omega)
 refine⟨?_,fun q hq h1 h2=>?_⟩
 ·obtain⟨j,hj,he⟩:=List.getElem_of_mem hw.1
  simp at hj
  refine⟨(max 0 ((p:Int)-m)).toNat+j,by omega,by omega,by omega,?_⟩
  unfold Fb
  rw[←he,List.getElem?_eq_getElem (by omega)]
  simp
 ·refine hw.2 _ ?_
  rw[List.mem_iff_getElem]
  refine⟨q-(max 0 ((p:Int)-m)).toNat,by simp;omega,?_⟩
  rw[List.getElem?_eq_getElem hq]
  simp[show (max 0 ((p:Int)-m)).toNat+(q-(max 0 ((p:Int)-m)).toNat)=q by omega]
theorem LG {s:AH}(h:s.ok=true) (l:List Al):∀(i j:Nat),j<s.zero.length->0<=(s.pre l i)[j]?.getD 0/\(s.pre l i)[j]?.getD 0<=i
 |0,j,hj=>by
  have:(s.pre l 0)[j]?.getD 0=0:=by simp only[AH.pre,AH.zero,List.length_replicate] at hj ⊢;simp[hj]
  omega
 |i+1,j,hj=>by
  rw[Ht,IY _ _ _ _ (by rw[K2];exact hj)]
  have hc:=AH.cost01 s l i j
  have:0<=(s.base l i)[j]?.getD 0/\(s.base l i)[j]?.getD 0<=i:=by
   rw[AH.base];split
   ·have:(s.zero)[j]?.getD 0=0:=by simp only[AH.zero,List.length_replicate] at hj ⊢;simp[hj]
    omega
   ·rw[LK (by rw[Dy];exact hj)]
    obtain⟨q,h1,_,_,h4⟩:=(H6 (m:=s.move) (r:=s.pre l i) (p:=j) (by have:=AH.ok_head h;omega) (by rw[Dy];exact hj)).1
    rw[h4]
    exact LG h l i q (by rw[Dy] at h1;exact h1)
  omega
theorem Sh {s:AH}(h:s.ok=true) (l:List Al) (i j:Nat) (hj:j<s.zero.length):0<=(s.base l i)[j]?.getD 0/\(s.base l i)[j]?.getD 0<=i:=by
 rw[AH.base];split
 ·have:(s.zero)[j]?.getD 0=0:=by simp only[AH.zero,List.length_replicate] at hj ⊢;simp[hj]
  omega
 ·rw[LK (by rw[Dy];exact hj)]
  obtain⟨q,h1,_,_,h4⟩:=(H6 (m:=s.move) (r:=s.pre l i) (p:=j) (by have:=AH.ok_head h;omega) (by rw[Dy];exact hj)).1
  rw[h4]
  exact LG h l i q (by rw[Dy] at h1;exact h1)
theorem MA (s:AH) (h:s.ok=true) (nl:Bool) (l:List Al) (hl:l.all BS=true) (h24:l.length<=24) :
  C6 E0 Fo [.ptr (JT s nl l)] (.list l.isEmpty (Nf (s.forthL l l.length))):=by
 refine AU IJ A1 (by simp) fun hwf=>?_
 have hd:=AH.ok_head h
 have hb:=Cp h
 have hz:=GQ h
 rw[Ae];unfold FB
 have w0:IntKind.i64.wrap (s.last+1)=s.last+1:=Aw _ (by omega)
 have hze:List.replicate (s.last+1).toNat 0=s.zero:=rfl
 (try (simp -implicitDefEqProofs only[go_sem,Ad,w0]));repeat' first|(with_reducible first|exact tI|refine aI ?_ ?_|intro _)|((first|with_reducible refine AW ?_ ?_<;>intro _)<;>try (simp -implicitDefEqProofs only[go_sem,Ad,w0]))|simp (disch:=omega) only[Au]|((with_reducible refine A6 ?_);refine⟨(_,_,_),rfl,?_,?_⟩)|((with_reducible refine BN ?_);refine⟨(_,_),rfl,?_,?_⟩)
 all_goals first|omega|(simp<;>omega)|skip
 refine A5 (α:=Int×(List Int)×(List (List Int))) (l0:=?l1) (m0:=?m1) (fun x=>[(18,.d (.int .i64 x.1)),(3,.d (.list false (CT x.2.1)))]) (fun x=>[(47,.row 186 1 x.2.2.isEmpty (Nf x.2.2))]) (fun x=>0<=x.1/\x.1<=l.length/\x.2.1=s.pre l x.1.toNat/\x.2.2=s.forthL l x.1.toNat) (fun x=>(l.length-x.1).toNat) (?a1_0,s.zero,[]) ?h01 ?he1 ?he21 ?hI1 ?step1
 case h01=>(simp -implicitDefEqProofs only[go_sem,Ad,w0,hze,AL];rfl)
 case he1=>rfl
 case he21=>rfl
 case' step1=>(rintro⟨i,now,R⟩ hI;try dsimp only at hI)
 case' hI1=>try dsimp only
 ·exact⟨by omega,by omega,rfl,rfl⟩
 ·obtain⟨h1,h2,h3,h4⟩:=hI
  subst h3 h4
  have hpl:=Dy s l i.toNat
  by_cases hi:i<l.length
  ·have cc:=fun p hp=>MB s h nl l hl h24 i p ⟨h1,hi⟩ hp
   have hbl:=K2 s l i.toNat
   have hbb:=Sh h l i.toNat
   have hfin:=Ht s l i.toNat
   have hstep:=Qg s l i.toNat
   have hsn:(i+1).toNat=i.toNat+1:=by omega
   have hi1:IntKind.i64.wrap (i+1)=i+1:=Aw _ (by omega)
   by_cases hi0:0<i
   ·have hbe:s.base l i.toNat=H5 s.move (s.pre l i.toNat):=by rw[AH.base,if_neg (by omega)]
    have c1:=Mo s h nl l (s.pre l i.toNat) (by omega) (by omega)
    rw[←hbe] at c1
    have c2:=GT (s.base l i.toNat) (by omega) (by omega)
    generalize s.base l i.toNat=B at *
    generalize s.pre l i.toNat=P0 at *
    (try (simp -implicitDefEqProofs only[go_sem,Ad,hi0]));repeat' first|(with_reducible first|exact tI|refine aI ?_ ?_|intro _)|((first|with_reducible refine AW ?_ ?_<;>intro _|(with_reducible refine isCall ?_);first|refine AD c1 ?_|(refine J3 ([]) ([((7,1),(27,1))]) (c2) (by repeat' first|exact True.intro|exact rfl|refine And.intro ?_ ?_) (by simp[D4,D7.get,AR.ren,AV.ren,AV.ren.renL,AK.get,Av,CH,Fs,AK.reach,AV.sites,AV.sites.sitesL,AK.osites]) (by simp[DN,Ju,DZ,D7.get,Fs,C5,CD,GN,Ep]) (by rfl) (by simp only[E2,D7.get,AR.ren,AV.ren,AV.ren.renL,and_self,and_true,true_and,if_true,reduceIte];rfl) ?_))<;>try (simp -implicitDefEqProofs only[go_sem,Ad,hi0]))|simp (disch:=omega) only[Au]|((with_reducible refine A6 ?_);refine⟨(_,_,_),rfl,?_,?_⟩)|((with_reducible refine BN ?_);refine⟨(_,_),rfl,?_,?_⟩)
    all_goals first|omega|(simp<;>omega)|skip
    refine A5 (α:=Int×(List Int)) (l0:=?l2) (m0:=?m2) (fun x=>[(30,.d (.int .i64 x.1))]) (fun x=>[(27,.row S' 1 false (CT x.2))]) (fun x=>0<=x.1/\x.1<=B.length/\x.2.length=B.length/\(∀j:Nat,(j:Int)<x.1->x.2[j]?.getD 0=(s.addC l i.toNat B)[j]?.getD 0)/\∀j:Nat,x.1<=(j:Int)->x.2[j]?.getD 0=B[j]?.getD 0) (fun x=>(B.length-x.1).toNat) (?a2_0,B) ?h02 ?he2 ?he22 ?hI2 ?step2
    case h02=>(simp -implicitDefEqProofs only[go_sem,Ad];rfl)
    case he2=>rfl
    case he22=>rfl
    case' step2=>(rintro⟨p,cur⟩ hI2;try dsimp only at hI2)
    case' hI2=>try dsimp only
    ·exact⟨by omega,by omega,rfl,fun j hj=>by omega,fun j hj=>rfl⟩
    ·obtain⟨p1,p2,p3,p4,p5⟩:=hI2
     by_cases hp:p<B.length
     ·have hpb:=hbb p.toNat (by omega)
      have hco:=s.cost01 l i p
      have ccp:=cc p (by omega)
      rw[show (if s.agrees (l[i.toNat]?.getD default) i p=true then (0:Int) else 1)=s.cost l i p from rfl] at ccp
      have e1:=p5 p.toNat (by omega)
      have hadd:(s.addC l i.toNat B)[p.toNat]?.getD 0=B[p.toNat]?.getD 0+s.cost l i p:=by
       rw[IY _ _ _ _ (by omega),show ((i.toNat:Nat):Int)=i by omega,show ((p.toNat:Nat):Int)=p by omega]
      have hset1:∀j:Nat,(j:Int)<p+1->(cur.set p.toNat (B[p.toNat]?.getD 0+s.cost l i p))[j]?.getD 0=(s.addC l i.toNat B)[j]?.getD 0:=fun j hj=>by
       rw[List.getElem?_set]
       by_cases hji:p.toNat=j
       ·subst hji;rw[if_pos rfl,if_pos (by omega),hadd,Option.getD_some]
       ·rw[if_neg hji];exact p4 j (by omega)
      have hset2:∀j:Nat,p+1<=(j:Int)->(cur.set p.toNat (B[p.toNat]?.getD 0+s.cost l i p))[j]?.getD 0=B[j]?.getD 0:=fun j hj=>by
       rw[List.getElem?_set,if_neg (by omega)];exact p5 j (by omega)
      generalize s.cost l i p=C at *
      have w1:IntKind.i64.wrap (B[p.toNat]?.getD 0+C)=B[p.toNat]?.getD 0+C:=Aw _ (by omega)
      (try (simp -implicitDefEqProofs only[go_sem,Ad,e1,w1,p3]));repeat' first|(with_reducible first|exact tI|refine aI ?_ ?_|intro _)|((first|with_reducible refine AW ?_ ?_<;>intro _|(with_reducible refine isCall ?_);first|refine AD ccp ?_)<;>try (simp -implicitDefEqProofs only[go_sem,Ad,e1,w1,p3]))|simp (disch:=omega) only[Au]|((with_reducible refine A6 ?_);refine⟨(_,_,_),rfl,?_,?_⟩)|((with_reducible refine BN ?_);refine⟨(_,_),rfl,?_,?_⟩)
      all_goals first|omega|(apply hset1;assumption)|(apply hset2;assumption)|(simp;done)|(simp;omega)|skip
     ·have hx:cur=s.addC l i.toNat B:=aw (by rw[NX];exact p3) fun j hj=>p4 j (by omega)
      have hlen:=G2 s l i.toNat
      (try (simp -implicitDefEqProofs only[go_sem,Ad,FK,Ev,Iw,Ec]));repeat' first|(with_reducible first|exact tI|refine aI ?_ ?_|intro _)|((first|with_reducible refine AW ?_ ?_<;>intro _)<;>try (simp -implicitDefEqProofs only[go_sem,Ad,FK,Ev,Iw,Ec]))|simp (disch:=omega) only[Au]|((with_reducible refine A6 ?_);refine⟨(_,_,_),rfl,?_,?_⟩)|((with_reducible refine BN ?_);refine⟨(_,_),rfl,?_,?_⟩)
      all_goals first|omega|(simp<;>omega)|skip
      refine⟨(i+1,cur,s.forthL l i.toNat++[cur]),by simp only[DQ],⟨by omega,by omega,?_,?_⟩,by simp only;omega⟩
      ·simp only;rw[hsn,hfin,hx]
      ·simp only;rw[hsn,hstep,hfin,hx]
   ·have hbe:s.base l i.toNat=s.pre l i.toNat:=by rw[show i.toNat=0 by omega];rfl
    rw[hbe] at hbl hbb hfin
    have c2:=GT (s.pre l i.toNat) (by omega) (by omega)
    generalize s.pre l i.toNat=B at *
    (try (simp -implicitDefEqProofs only[go_sem,Ad,hi0]));repeat' first|(with_reducible first|exact tI|refine aI ?_ ?_|intro _)|((first|with_reducible refine AW ?_ ?_<;>intro _|(with_reducible refine isCall ?_);first|(refine J3 ([]) ([((7,1),(27,1))]) (c2) (by repeat' first|exact True.intro|exact rfl|refine And.intro ?_ ?_) (by simp[D4,D7.get,AR.ren,AV.ren,AV.ren.renL,AK.get,Av,CH,Fs,AK.reach,AV.sites,AV.sites.sitesL,AK.osites]) (by simp[DN,Ju,DZ,D7.get,Fs,C5,CD,GN,Ep]) (by rfl) (by simp only[E2,D7.get,AR.ren,AV.ren,AV.ren.renL,and_self,and_true,true_and,if_true,reduceIte];rfl) ?_))<;>try (simp -implicitDefEqProofs only[go_sem,Ad,hi0]))|simp (disch:=omega) only[Au]|((with_reducible refine A6 ?_);refine⟨(_,_,_),rfl,?_,?_⟩)|((with_reducible refine BN ?_);refine⟨(_,_),rfl,?_,?_⟩)
    all_goals first|omega|(simp<;>omega)|skip
    refine A5 (α:=Int×(List Int)) (l0:=?l3) (m0:=?m3) (fun x=>[(30,.d (.int .i64 x.1))]) (fun x=>[(27,.row S' 1 false (CT x.2))]) (fun x=>0<=x.1/\x.1<=B.length/\x.2.length=B.length/\(∀j:Nat,(j:Int)<x.1->x.2[j]?.getD 0=(s.addC l i.toNat B)[j]?.getD 0)/\∀j:Nat,x.1<=(j:Int)->x.2[j]?.getD 0=B[j]?.getD 0) (fun x=>(B.length-x.1).toNat) (?a3_0,B) ?h03 ?he3 ?he23 ?hI3 ?step3
    case h03=>(simp -implicitDefEqProofs only[go_sem,Ad];rfl)
    case he3=>rfl
    case he23=>rfl
    case' step3=>(rintro⟨p,cur⟩ hI3;try dsimp only at hI3)
    case' hI3=>try dsimp only
    ·exact⟨by omega,by omega,rfl,fun j hj=>by omega,fun j hj=>rfl⟩
    ·obtain⟨p1,p2,p3,p4,p5⟩:=hI3
     by_cases hp:p<B.length
     ·have hpb:=hbb p.toNat (by omega)
      have hco:=s.cost01 l i p
      have ccp:=cc p (by omega)
      rw[show (if s.agrees (l[i.toNat]?.getD default) i p=true then (0:Int) else 1)=s.cost l i p from rfl] at ccp
      have e1:=p5 p.toNat (by omega)
      have hadd:(s.addC l i.toNat B)[p.toNat]?.getD 0=B[p.toNat]?.getD 0+s.cost l i p:=by
       rw[IY _ _ _ _ (by omega),show ((i.toNat:Nat):Int)=i by omega,show ((p.toNat:Nat):Int)=p by omega]
      have hset1:∀j:Nat,(j:Int)<p+1->(cur.set p.toNat (B[p.toNat]?.getD 0+s.cost l i p))[j]?.getD 0=(s.addC l i.toNat B)[j]?.getD 0:=fun j hj=>by
       rw[List.getElem?_set]
       by_cases hji:p.toNat=j
       ·subst hji;rw[if_pos rfl,if_pos (by omega),hadd,Option.getD_some]
       ·rw[if_neg hji];exact p4 j (by omega)
      have hset2:∀j:Nat,p+1<=(j:Int)->(cur.set p.toNat (B[p.toNat]?.getD 0+s.cost l i p))[j]?.getD 0=B[j]?.getD 0:=fun j hj=>by
       rw[List.getElem?_set,if_neg (by omega)];exact p5 j (by omega)
      generalize s.cost l i p=C at *
      have w1:IntKind.i64.wrap (B[p.toNat]?.getD 0+C)=B[p.toNat]?.getD 0+C:=Aw _ (by omega)
      (try (simp -implicitDefEqProofs only[go_sem,Ad,e1,w1,p3]));repeat' first|(with_reducible first|exact tI|refine aI ?_ ?_|intro _)|((first|with_reducible refine AW ?_ ?_<;>intro _|(with_reducible refine isCall ?_);first|refine AD ccp ?_)<;>try (simp -implicitDefEqProofs only[go_sem,Ad,e1,w1,p3]))|simp (disch:=omega) only[Au]|((with_reducible refine A6 ?_);refine⟨(_,_,_),rfl,?_,?_⟩)|((with_reducible refine BN ?_);refine⟨(_,_),rfl,?_,?_⟩)
      all_goals first|omega|(apply hset1;assumption)|(apply hset2;assumption)|(simp;done)|(simp;omega)|skip
     ·have hx:cur=s.addC l i.toNat B:=aw (by rw[NX];exact p3) fun j hj=>p4 j (by omega)
      have hlen:=G2 s l i.toNat
      (try (simp -implicitDefEqProofs only[go_sem,Ad,FK,Ev,Iw,Ec]));repeat' first|(with_reducible first|exact tI|refine aI ?_ ?_|intro _)|((first|with_reducible refine AW ?_ ?_<;>intro _)<;>try (simp -implicitDefEqProofs only[go_sem,Ad,FK,Ev,Iw,Ec]))|simp (disch:=omega) only[Au]|((with_reducible refine A6 ?_);refine⟨(_,_,_),rfl,?_,?_⟩)|((with_reducible refine BN ?_);refine⟨(_,_),rfl,?_,?_⟩)
      all_goals first|omega|(simp<;>omega)|skip
      refine⟨(i+1,cur,s.forthL l i.toNat++[cur]),by simp only[DQ],⟨by omega,by omega,?_,?_⟩,by simp only;omega⟩
      ·simp only;rw[hsn,hfin,hx]
      ·simp only;rw[hsn,hstep,hfin,hx]
  ·have hil:i=l.length:=by omega
   have hem:(s.forthL l i.toNat).isEmpty=l.isEmpty:=by
    have:=G2 s l i.toNat
    cases hh:s.forthL l i.toNat with
    |nil =>
         rw[hh] at this;have:l.length=0:=by simp at this;omega
         cases l with|nil=>rfl|cons _ _=>simp at this
    |cons x y=>rw[hh] at this;cases l with|nil=>simp at this;simp at hil;omega|cons _ _=>rfl
   (try (simp -implicitDefEqProofs only[go_sem,Ec]));repeat' first|(with_reducible first|exact tI|refine aI ?_ ?_|intro _)|((first|with_reducible refine AW ?_ ?_<;>intro _)<;>try (simp -implicitDefEqProofs only[go_sem,Ec]))|simp (disch:=omega) only[Au]|((with_reducible refine A6 ?_);refine⟨(_,_,_),rfl,?_,?_⟩)|((with_reducible refine BN ?_);refine⟨(_,_),rfl,?_,?_⟩)
   all_goals first|omega|(simp<;>omega)|skip
   all_goals (rw[hem,show i.toNat=l.length by omega])
end Go.Pw
end
section
open Go Go.Pw Go.Proofs
namespace Go.Pw
set_option maxRecDepth 100000
set_option maxHeartbeats 1600000
attribute [local congr] DH Bv Bw BW DJ Bd Bf Be BV BH A' A0 BZ BA Ba BF Bc BG B1 CX BE B4 B5 B2 Bz B0 Bu DI Bx BX BC BB BD Bb B3
attribute [local irreducible] IntKind.wrap BR Option.getD and or
def AH.endL (s:AH) (l:List Al):List Int:=s.pre l l.length
theorem Ff {s:AH}(h:s.ok=true) (l:List Al):((s.endL l).length:Int)=s.last+1:=by rw[AH.endL,Dy,GQ h]
theorem SV {s:AH}(h:s.ok=true) (l:List Al) (h24:l.length<=24) (j:Nat) (hj:(j:Int)<=s.last):0<=(s.endL l)[j]?.getD 0/\(s.endL l)[j]?.getD 0<=24:=by
 have:=LG h l l.length j (by have:=GQ h;omega)
 unfold AH.endL;omega
theorem Qh (s:AH) (l:List Al) (h:1<=l.length):(s.forthL l l.length)[((l.length:Int)-1).toNat]?.getD default=s.endL l:=by
 rw[SD _ _ (by omega),show ((l.length:Int)-1).toNat+1=l.length by omega];rfl
theorem GH (s:AH) (h:s.ok=true) (nl:Bool) (l:List Al) (hl:l.all BS=true) (h24:l.length<=24) :
  C6 E0 Gn [.ptr (JT s nl l)] (.list false (CT (s.endL l))):=by
 refine AU Jy A1 (by simp) fun hwf=>?_
 have hd:=AH.ok_head h
 have hb:=Cp h
 have hz:=GQ h
 rw[Ae];unfold F1
 have c1:=MA s h nl l hl h24
 have w0:IntKind.i64.wrap (s.last+1)=s.last+1:=Aw _ (by omega)
 by_cases h0:l.length=0
 ·have hlen:(s.forthL l 0).length=0:=rfl
  have he:s.endL l=List.replicate (s.last+1).toNat 0:=by rw[AH.endL,h0];rfl
  rw[he]
  (try (simp -implicitDefEqProofs only[go_sem,Ad,w0,Ev,hlen,h0]));repeat' first|(with_reducible first|exact tI|refine aI ?_ ?_|intro _)|((first|with_reducible refine AW ?_ ?_<;>intro _|(with_reducible refine isCall ?_);first|refine AD c1 ?_)<;>try (simp -implicitDefEqProofs only[go_sem,Ad,w0,Ev,hlen,h0]))|simp (disch:=omega) only[Au]
  all_goals first|omega|(simp<;>omega)|skip
 ·have hlen:=G2 s l l.length
  have hx:=Qh s l (by omega)
  have hp:0<(l.length:Int):=by omega
  (try (simp -implicitDefEqProofs only[go_sem,Ad,w0,Ev,hlen,hp,M2,FK,hx,VS]));repeat' first|(with_reducible first|exact tI|refine aI ?_ ?_|intro _)|((first|with_reducible refine AW ?_ ?_<;>intro _|(with_reducible refine isCall ?_);first|refine AD c1 ?_)<;>try (simp -implicitDefEqProofs only[go_sem,Ad,w0,Ev,hlen,hp,M2,FK,hx,VS]))|simp (disch:=omega) only[Au]
  all_goals first|omega|(simp<;>omega)|skip
  all_goals (rw[hx])
def Ez (out:List Al):Al:=out[out.length-1]?.getD default
def J5 (out:List Al) (p:Int):List Al :=
 if 0<out.length/\(Ez out).2=p-1 then out.set (out.length-1) ((Ez out).1,p) else out++[(p,p)]
def Bp (is:Nat->Bool):Nat->List Al
 |0=>[]
 |k+1=>if is k then J5 (Bp is k) k else Bp is k
def AH.endsL (s:AH) (l:List Al):List Al:=Bp (fun p=>decide ((s.endL l)[p]?.getD 0<=s.wrong)) (s.endL l).length
theorem Dl (l:List Al) (k:Nat) (a b:Int):(BO l).set k (.agg [.int .i64 a,.int .i64 b])=BO (l.set k (a,b)):=by
 simp[BO,List.map_set,KU]
theorem Sj (out:List Al) (p:Int):(J5 out p).length<=out.length+1:=by unfold J5;split<;>simp
theorem Fv (is:Nat->Bool):∀k,(Bp is k).length<=k
 |0=>by simp[Bp]
 |k+1=>by
  have:=Fv is k
  simp only[Bp];split
  ·have:=Sj (Bp is k) k;omega
  ·omega
theorem Jo (is:Nat->Bool):∀k j,j<(Bp is k).length->0<=((Bp is k)[j]?.getD default).1/\((Bp is k)[j]?.getD default).1<=((Bp is k)[j]?.getD default).2/\((Bp is k)[j]?.getD default).2<k
 |0,j,h=>by simp[Bp] at h
 |k+1,j,h=>by
  have ih:=Jo is k
  simp only[Bp] at h ⊢
  split at h
  ·rename_i hk
   rw[if_pos hk]
   unfold J5 at h ⊢
   split at h
   ·rename_i hc
    rw[if_pos hc]
    rw[List.getElem?_set]
    simp at h
    have hlast:=ih ((Bp is k).length-1) (by omega)
    split
    ·rw[if_pos (by omega),Option.getD_some]
     simp only[Ez];omega
    ·have:=ih j h;omega
   ·rename_i hc
    rw[if_neg hc]
    simp at h
    by_cases hj:j<(Bp is k).length
    ·rw[List.getElem?_append_left hj]
     have:=ih j hj;omega
    ·rw[List.getElem?_append_right (by omega),show j-(Bp is k).length=0 by omega]
     simp only[List.getElem?_cons_zero,Option.getD_some];omega
  ·rename_i hk
   rw[if_neg hk]
   have:=ih j h;omega
theorem IB {α:Type}(l:List α) (k:Nat) (x:α):(l.set k x).isEmpty=l.isEmpty:=by cases l<;>cases k<;>rfl
theorem Mr (s:AH) (h:s.ok=true) (nl:Bool) (l:List Al) (hl:l.all BS=true) (h24:l.length<=24) :
  C6 E0 GC [.ptr (JT s nl l)] (.list (s.endsL l).isEmpty (BO (s.endsL l))):=by
 refine AU JF A1 (by simp) fun hwf=>?_
 have hd:=AH.ok_head h
 have hb:=Cp h
 have hz:=Ff h l
 have hbb:=SV h l h24
 have c1:=GH s h nl l hl h24
 unfold AH.endsL
 generalize s.endL l=r at *
 obtain⟨is,his⟩:∃is:Nat->Bool,is=fun p=>decide (r[p]?.getD 0<=s.wrong):=⟨_,rfl⟩
 rw[←his]
 rw[Ae];unfold FV
 (try (simp -implicitDefEqProofs only[go_sem,Ad]));repeat' first|(with_reducible first|exact tI|refine aI ?_ ?_|intro _)|((first|with_reducible refine AW ?_ ?_<;>intro _|(with_reducible refine isCall ?_);first|refine AD c1 ?_)<;>try (simp -implicitDefEqProofs only[go_sem,Ad]))|simp (disch:=omega) only[Au]|((with_reducible refine A6 ?_);refine⟨(_,_,_),rfl,?_,?_⟩)
 all_goals first|omega|(simp<;>omega)|skip
 refine A5 (α:=Int×(List Al)×Bool) (l0:=?l1) (m0:=?m1) (fun x=>[(10,.d (.int .i64 x.1))]) (fun x=>[(47,.row 50 2 x.2.2 (BO x.2.1))]) (fun x=>0<=x.1/\x.1<=r.length/\x.2.1=Bp is x.1.toNat/\x.2.2=x.2.1.isEmpty) (fun x=>(r.length-x.1).toNat) (?a1_0,[],true) ?h01 ?he1 ?he21 ?hI1 ?step1
 case h01=>(simp -implicitDefEqProofs only[go_sem,Ad];rfl)
 case he1=>rfl
 case he21=>rfl
 case' step1=>(rintro⟨i,out,b⟩ hI;try dsimp only at hI)
 case' hI1=>try dsimp only
 ·exact⟨by omega,by omega,rfl,rfl⟩
 ·obtain⟨h1,h2,h3,hb0⟩:=hI
  by_cases hi:i<r.length
  ·have hle:=Fv is i.toNat
   have hhi:=Jo is i.toNat
   have hnx:Bp is (i+1).toNat=if is i.toNat then J5 (Bp is i.toNat) i else Bp is i.toNat:=by
    rw[show (i+1).toNat=i.toNat+1 by omega,Bp,show ((i.toNat:Nat):Int)=i by omega]
   have hi1:IntKind.i64.wrap (i+1)=i+1:=Aw _ (by omega)
   have hi2:IntKind.i64.wrap (i-1)=i-1:=Aw _ (by omega)
   have hlp:out[out.length-1]?.getD default=Ez out:=rfl
   rw[←h3] at hle hhi hnx
   by_cases hc:r[i.toNat]?.getD 0<=s.wrong
   ·have hc':¬s.wrong<r[i.toNat]?.getD 0:=by omega
    have hisi:is i.toNat=true:=by rw[his];simpa using hc
    rw[if_pos hisi,J5] at hnx
    have hk:IntKind.i64.wrap ((out.length:Int)-1)=(out.length:Int)-1:=Aw _ (by omega)
    have hk':((out.length:Int)-1).toNat=out.length-1:=by omega
    by_cases h0:0<out.length
    ·have hj:=hhi (out.length-1) (by omega)
     have hge:(0:Int)<=(out.length:Int)-1:=by omega
     change 0<=(Ez out).1/\(Ez out).1<=(Ez out).2/\(Ez out).2<i.toNat at hj
     by_cases he:(Ez out).2=i-1
     ·rw[if_pos ⟨h0,he⟩] at hnx
      have hne:out.isEmpty=false:=by cases out with|nil=>simp at h0|cons _ _=>rfl
      (try (simp -implicitDefEqProofs only[go_sem,Ad,hc',hk,hk',hge,hi2,AL,Ag,A3,Aj,hlp,he,Dl]));repeat' first|(with_reducible first|exact tI|refine aI ?_ ?_|intro _)|((first|with_reducible refine AW ?_ ?_<;>intro _)<;>try (simp -implicitDefEqProofs only[go_sem,Ad,hc',hk,hk',hge,hi2,AL,Ag,A3,Aj,hlp,he,Dl]))|simp (disch:=omega) only[Au]|((with_reducible refine A6 ?_);refine⟨(_,_,_),rfl,?_,?_⟩)
      all_goals first|omega|(simp<;>omega)|skip
      all_goals first|exact hnx.symm|exact(DQ _ _).symm|(rw[IB];exact hb0)
     ·rw[if_neg (by omega)] at hnx
      (try (simp -implicitDefEqProofs only[go_sem,Ad,hc',hk,hk',hge,hi2,AL,Ag,A3,Aj,hlp,he,Dl,DG,FG]));repeat' first|(with_reducible first|exact tI|refine aI ?_ ?_|intro _)|((first|with_reducible refine AW ?_ ?_<;>intro _)<;>try (simp -implicitDefEqProofs only[go_sem,Ad,hc',hk,hk',hge,hi2,AL,Ag,A3,Aj,hlp,he,Dl,DG,FG]))|simp (disch:=omega) only[Au]|((with_reducible refine A6 ?_);refine⟨(_,_,_),rfl,?_,?_⟩)
      all_goals first|omega|(simp<;>omega)|skip
      all_goals first|exact hnx.symm|exact(DQ _ _).symm|(rw[IB];exact hb0)
    ·rw[if_neg (by omega)] at hnx
     have hge:¬(0:Int)<=(out.length:Int)-1:=by omega
     (try (simp -implicitDefEqProofs only[go_sem,Ad,hc',hk,hk',hge,hi2,AL,Ag,A3,Aj,DG,FG]));repeat' first|(with_reducible first|exact tI|refine aI ?_ ?_|intro _)|((first|with_reducible refine AW ?_ ?_<;>intro _)<;>try (simp -implicitDefEqProofs only[go_sem,Ad,hc',hk,hk',hge,hi2,AL,Ag,A3,Aj,DG,FG]))|simp (disch:=omega) only[Au]|((with_reducible refine A6 ?_);refine⟨(_,_,_),rfl,?_,?_⟩)
     all_goals first|omega|(simp<;>omega)|skip
     all_goals first|exact hnx.symm|exact(DQ _ _).symm
   ·have hc':s.wrong<r[i.toNat]?.getD 0:=by omega
    have hisi:is i.toNat=false:=by rw[his];simpa using hc
    rw[hisi] at hnx
    simp only[Bool.false_eq_true,if_false] at hnx
    (try (simp -implicitDefEqProofs only[go_sem,Ad,hc']));repeat' first|(with_reducible first|exact tI|refine aI ?_ ?_|intro _)|((first|with_reducible refine AW ?_ ?_<;>intro _)<;>try (simp -implicitDefEqProofs only[go_sem,Ad,hc']))|simp (disch:=omega) only[Au]|((with_reducible refine A6 ?_);refine⟨(_,_,_),rfl,?_,?_⟩)
    all_goals first|omega|(simp<;>omega)|skip
    all_goals first|exact hnx.symm|skip
  ·have:i.toNat=r.length:=by omega
   rw[this] at h3
   rw[←h3,←hb0]
   (try (simp -implicitDefEqProofs only[go_sem]));repeat' first|(with_reducible first|exact tI|refine aI ?_ ?_|intro _)|((first|with_reducible refine AW ?_ ?_<;>intro _)<;>try (simp -implicitDefEqProofs only[go_sem]))|simp (disch:=omega) only[Au]|((with_reducible refine A6 ?_);refine⟨(_,_,_),rfl,?_,?_⟩)
   all_goals first|omega|(simp<;>omega)|skip
end Go.Pw
end
