/- A part of the proof. -/
import Derived.Test.YtibkjeolahobbaaGreatDoorPgChJa
set_option linter.all false
open Go Go.Pw Go.Proofs
namespace Go.Pw
set_option maxRecDepth 100000
set_option maxHeartbeats 3200000
def S3 (n:Nat) (f:Nat->Int):List Int:=(List.range n).map f
theorem Ph (n:Nat) (f:Nat->Int):(S3 n f).length=n:=by simp[S3]
theorem X6 {n:Nat}(f:Nat->Int) {i:Nat}(h:i<n):(S3 n f)[i]?.getD 0=f i:=by simp[S3,h]
theorem R9 {n:Nat}{f g:Nat->Int}(h:∀i,i<n->f i=g i):S3 n f=S3 n g:=List.map_congr_left fun i hi=>h i (by simpa using hi)
theorem bq (n:Nat):List.replicate n (0:Int)=S3 n fun _=>0:=by unfold S3;rw[List.map_const',List.length_range]
theorem gM {n:Nat}{f f':Nat->Int}{i:Nat}{v:Int}(hi:i<n) (h1:f' i=v) (h2:∀j,j≠i->f' j=f j):(S3 n f).set i v=S3 n f':=by
 apply List.ext_getElem?
 intro j
 rw[List.getElem?_set,Ph]
 unfold S3
 by_cases e:i=j
 ·subst e;rw[if_pos rfl,if_pos hi];simp[hi,h1]
 ·rw[if_neg e]
  by_cases hj:j<n
  ·simp[hj,h2 j (fun e'=>e e'.symm)]
  ·rw[List.getElem?_eq_none (by simpa using hj),List.getElem?_eq_none (by simpa using hj)]
def DA (S:List Int) (fls:Rows):List (List Int):=fls.map fun r=>Mx S r.2
theorem Uo (S:List Int) (fls:Rows):(DA S fls).length=fls.length:=by simp[DA]
theorem cF (S:List Int) (fls:Rows) {k:Nat}(h:k<fls.length):(DA S fls)[k]?.getD []=Mx S (fls[k]?.getD default).2:=by simp[DA,h]
theorem ZE (S:List Int) (fls:Rows) {k:Nat}(h:k<fls.length):(DA S fls).take k++[Mx S (fls[k]?.getD default).2]=(DA S fls).take (k+1):=by
 rw[List.take_add_one,List.getElem?_eq_getElem (l:=DA S fls) (by rw[Uo];exact h)]
 simp[DA,h]
theorem bo (rs:List (List Int)) (r:List Int):V4 rs++[.list false (Aj r)]=V4 (rs++[r]):=by simp[V4,nT]
def Mo (c:AX) (S:List Int) (rs:List (List Int)):Nat->Nat->Int
 |0,_=>0
 |k+1,i=>Mo c S rs k i+if c.part (rs[k]?.getD []) 0 i=c.part S 0 i then 1 else -1
theorem bp (c:AX) (S:List Int) (rs:List (List Int)):∀(k i:Nat),-(k:Int)<=Mo c S rs k i/\Mo c S rs k i<=k
 |0,_=>⟨Int.le_refl _,Int.le_refl _⟩
 |k+1,i=>by have:=bp c S rs k i;unfold Mo;split<;>omega
def Y_ (c:AX) (S:List Int) (rs:List (List Int)) (k j:Nat):Nat->Int:=fun i=>if i<j then Mo c S rs (k+1) i else Mo c S rs k i
theorem mK (c:AX) (S:List Int) (rs:List (List Int)) (k n:Nat):S3 n (Y_ c S rs k 0)=S3 n (Mo c S rs k):=R9 fun i _=>by unfold Y_;rw[if_neg (by omega)]
theorem gN (c:AX) (S:List Int) (rs:List (List Int)) (k n:Nat):S3 n (Y_ c S rs k n)=S3 n (Mo c S rs (k+1)):=R9 fun i h=>by unfold Y_;rw[if_pos h]
theorem kP (c:AX) (S:List Int) (rs:List (List Int)) (k j:Nat):Y_ c S rs k j j=Mo c S rs k j:=by unfold Y_;rw[if_neg (by omega)]
theorem br (c:AX) (S:List Int) (rs:List (List Int)) (k:Nat) {j n:Nat}(hj:j<n):(S3 n (Y_ c S rs k j)).set j (Mo c S rs (k+1) j)=S3 n (Y_ c S rs k (j+1)) :=
 gM hj (by unfold Y_;rw[if_pos (by omega)]) fun i h=>by
  unfold Y_
  by_cases h1:i<j
  ·rw[if_pos (by omega),if_pos h1]
  ·rw[if_neg (by omega),if_neg h1]
theorem j8 {c:AX}(hk:G6 c) {b:List Int}(hb:b.length=c.syms) {i:Nat}(hi:i<c.syms):∃x,x<16/\(c.syL (JL c b) 0)[i]?.getD none=some x/\c.part (JL c b) 0 i=c.code.stm x:=by
 have h1:=bf hk hb [] hi
 rw[List.append_nil] at h1
 refine⟨_,?_,h1,?_⟩
 ·rw[Sn hi] at h1;exact(G7 h1).1
 ·rw[Sn hi] at h1;exact(G7 h1).2.symm
theorem Ov {c:AX}(hk:G6 c) {S:List Int}{rs:List (List Int)}{i x:Nat}(hi:i<c.syms) (hx:x<16) (hS:c.part S 0 i=c.code.stm x) :
  ∀n,(∀k,k<n->c.find (rs[k]?.getD [])=some 0)->∃a b:Nat,Mo c S rs n i=(a:Int)-(b:Int)/\RJ c rs n i x=a/\∀t,t≠x->RJ c rs n i t<=b
 |0,_=>⟨0,0,rfl,rfl,fun _ _=>Nat.le_refl _⟩
 |n+1,h=>by
  obtain⟨a,b,h1,h2,h3⟩:=Ov hk hi hx hS n fun k hk'=>h k (by omega)
  have hf:=h n (by omega)
  have hv:Gg c (rs[n]?.getD []) i=RO c.code (c.part (rs[n]?.getD []) 0 i):=by
   unfold Gg;rw[hf];exact Sn hi
  by_cases hp:c.part (rs[n]?.getD []) 0 i=c.part S 0 i
  ·refine⟨a+1,b,?_,?_,fun t ht=>?_⟩
   ·show Mo c S rs n i+(if c.part (rs[n]?.getD []) 0 i=c.part S 0 i then 1 else -1)=_
    rw[if_pos hp,h1];push_cast;omega
   ·show RJ c rs n i x+(if Gg c (rs[n]?.getD []) i=some x then 1 else 0)=_
    rw[if_pos (by rw[hv,hp,hS];exact Mu hk.dst hx),h2]
   ·show RJ c rs n i t+(if Gg c (rs[n]?.getD []) i=some t then 1 else 0)<=_
    rw[if_neg (by rw[hv,hp,hS,Mu hk.dst hx];exact fun e=>ht (Option.some.inj e).symm)]
    exact h3 t ht
  ·refine⟨a,b+1,?_,?_,fun t ht=>?_⟩
   ·show Mo c S rs n i+(if c.part (rs[n]?.getD []) 0 i=c.part S 0 i then 1 else -1)=_
    rw[if_neg hp,h1];push_cast;omega
   ·show RJ c rs n i x+(if Gg c (rs[n]?.getD []) i=some x then 1 else 0)=_
    rw[if_neg (by rw[hv];exact fun e=>hp (by rw[hS];exact(G7 e).2.symm)),h2];rfl
   ·show RJ c rs n i t+(if Gg c (rs[n]?.getD []) i=some t then 1 else 0)<=_
    have:=h3 t ht
    split<;>omega
theorem lB {c:AX}(hk:G6 c) {d:List Int}(he:spE c.L c.P c.Q d=0) {rs:List (List Int)}(hf:∀k,k<rs.length->c.find (rs[k]?.getD [])=some 0)
  (hr:∀i,i<c.syms->0<Mo c (JL c (UL c.L c.P c.Q d)) rs rs.length i):Zg c (U9 c rs)=0/\af c (U9 c rs)=d:=by
 have hbl:=Pg hk.wev he
 have hj:U9 c rs=c.syL (JL c (UL c.L c.P c.Q d)) 0:=by
  apply List.ext_getElem
  ·rw[LZ,LT]
  ·intro i h1 h2
   rw[LZ] at h1
   obtain⟨x,x1,x2,x3⟩:=j8 hk hbl h1
   obtain⟨a,b,v1,v2,v3⟩:=Ov hk h1 x1 x3 rs.length hf
   have hp:=hr i h1
   have hw:Mq (RJ c rs rs.length i)=some x:=av x1 (by omega) fun t ht=>by
    by_cases e:t=x
    ·exact .inl e
    ·have:=v3 t e;right;omega
   have h4:(U9 c rs)[i]=Mq (RJ c rs rs.length i):=by simp[U9]
   rw[h4,hw]
   rw[List.getElem?_eq_getElem h2,Option.getD_some] at x2
   exact x2.symm
 rw[hj]
 have:=Un hk he []
 rw[List.append_nil] at this
 exact this.2
attribute [local congr] Bh A7 A8 Au Bi Az A1 A0 Ar Ai Ab AZ Aw Ad Ax BF BJ BH BI BG BK BC Ag Ay Ah BA BS Af BD BE BB A_ A' A6 Bj A9 Av Ae
attribute [local irreducible] IntKind.wrap A5 Option.getD and or
theorem Ot (c:AX) (n1 n2:Bool) (d:List Int) (fls:Rows):CI E0 Gb [Fj c,.list n1 (Aj d),.list n2 (E2 fls)] (.bool true):=by
 have c0:=PN
 have c1:=PO c n1 d
 have hrl:(E2 fls).length=fls.length:=by simp[BL]
 refine AK JT Aq (by simp) fun hwf=>?_
 rw[AW];unfold F1
 cases hr:cE c d with
 |false =>
  rw[hr] at c1
  (try (simp -implicitDefEqProofs only[go_sem,AO,AN]));repeat' first|(with_reducible first|exact tI|refine aI ?_ ?_|intro _)|((first|with_reducible refine AM ?_ ?_<;>intro _|(with_reducible refine isCall ?_);first|refine AE c0 ?_|refine AE c1 ?_)<;>try (simp -implicitDefEqProofs only[go_sem,AO,AN]))|simp (disch:=omega) only[An]|((with_reducible refine Am ?_);refine⟨(_,_),rfl,?_,?_⟩)|((with_reducible refine Ao ?_);refine⟨_,rfl,?_,?_⟩)
  all_goals first|rfl|omega|skip
 |true =>
 rw[hr] at c1
 have r:=kb hr
 have hk:=FD r.ok
 have hm:=hk.markl
 have ht:=r.tot
 have hs:=hk.syms
 have hz:=HB hk.code
 by_cases h1:(fls.length:Int)<1
 ·(try (simp -implicitDefEqProofs only[go_sem,AO,AN,hrl,h1]));repeat' first|(with_reducible first|exact tI|refine aI ?_ ?_|intro _)|((first|with_reducible refine AM ?_ ?_<;>intro _|(with_reducible refine isCall ?_);first|refine AE c0 ?_|refine AE c1 ?_)<;>try (simp -implicitDefEqProofs only[go_sem,AO,AN,hrl,h1]))|simp (disch:=omega) only[An]|((with_reducible refine Am ?_);refine⟨(_,_),rfl,?_,?_⟩)|((with_reducible refine Ao ?_);refine⟨_,rfl,?_,?_⟩)
  all_goals first|rfl|omega|skip
 by_cases h6:6<(fls.length:Int)
 ·(try (simp -implicitDefEqProofs only[go_sem,AO,AN,hrl,h1,h6]));repeat' first|(with_reducible first|exact tI|refine aI ?_ ?_|intro _)|((first|with_reducible refine AM ?_ ?_<;>intro _|(with_reducible refine isCall ?_);first|refine AE c0 ?_|refine AE c1 ?_)<;>try (simp -implicitDefEqProofs only[go_sem,AO,AN,hrl,h1,h6]))|simp (disch:=omega) only[An]|((with_reducible refine Am ?_);refine⟨(_,_),rfl,?_,?_⟩)|((with_reducible refine Ao ?_);refine⟨_,rfl,?_,?_⟩)
  all_goals first|rfl|omega|skip
 obtain⟨w1,w2,w3⟩:=r.wr
 have c2:=H4 c n1 d
 rw[w2] at c2
 have hsb:Ap (ap c d)=true:=by rw[w1];exact bh hk _
 have key:=fun rs hf=>@lB c hk d r.spE rs hf
 rw[←w1] at key
 obtain⟨S,hS⟩:∃S,ap c d=S:=⟨_,rfl⟩
 rw[hS] at c2 w3 hsb key
 have htt:c.tot=c.mark.length+c.syms*c.code.sz:=rfl
 have hne:¬S=[]:=fun e=>by rw[e] at w3;simp at w3;omega
 have hSe:S.isEmpty=false:=GA hne
 rw[hSe] at c2
 have c3:=Jg c hk.wev hk.code (by omega)
 have cS:=ER c hk.wev
 rw[hs.2.2] at cS
 have cZ:=KY c hk.code
 have hlen:(S.length:Int)=(c.tot:Int):=by omega
 have hsy:((c.syms:Nat):Int)<=1073741824:=by omega
 have hzr:=bq c.syms
 clear hS
 (try (simp -implicitDefEqProofs only[go_sem,AO,AN,hrl,h1,h6,hlen,hsy,hzr]));repeat' first|(with_reducible first|exact tI|refine aI ?_ ?_|intro _)|((first|with_reducible refine AM ?_ ?_<;>intro _|(with_reducible refine isCall ?_);first|refine AE c0 ?_|refine AE c1 ?_|refine AE c2 ?_|refine AE c3 ?_|refine AE cS ?_)<;>try (simp -implicitDefEqProofs only[go_sem,AO,AN,hrl,h1,h6,hlen,hsy,hzr]))|simp (disch:=omega) only[An]|((with_reducible refine Am ?_);refine⟨(_,_),rfl,?_,?_⟩)|((with_reducible refine Ao ?_);refine⟨_,rfl,?_,?_⟩)
 all_goals first|omega|(simp;done)|(simp;omega)|skip
 refine AY (α:=Nat×Bool) (l0:=?l1) (m0:=?m1) (fun x=>[(11,.d (.int .i64 (x.1:Int)))]) (fun x=>[(52,.row 3 1 false (Aj (S3 c.syms (Mo c S (DA S fls) x.1)))),(129,.row 29 1 x.2 (V4 ((DA S fls).take x.1)))]) (fun x=>x.1<=fls.length/\x.2=decide (x.1=0)/\∀j,j<x.1->c.find ((DA S fls)[j]?.getD [])=some 0) (fun x=>fls.length-x.1) (0,true) ?h01 ?he1 ?he21 ?hI1 ?step1
 case h01=>(simp -implicitDefEqProofs only[go_sem];rfl)
 case he1=>rfl
 case he21=>rfl
 case' step1=>(rintro⟨k,f⟩ hI;try dsimp only at hI)
 case' hI1=>try dsimp only
 ·exact⟨Nat.zero_le _,rfl,fun j hj=>by omega⟩
 ·obtain⟨k1,k2,k3⟩:=hI
  change f=decide (k=0) at k2
  by_cases hkf:k<fls.length
  ·have hk':(k:Int)<(fls.length:Int):=by omega
   have hwk:IntKind.i64.wrap ((k:Int)+1)=((k+1:Nat):Int):=by rw[Ak _ (by omega)];omega
   have hgk:=cF S fls hkf
   have hsn:=ZE S fls hkf
   obtain⟨fb,hfb⟩:∃fb,fls[k]?.getD default=fb:=⟨_,rfl⟩
   obtain⟨nf,fl⟩:=fb
   rw[hfb] at hgk hsn
   have hrow:(E2 fls)[k]?=some (.list nf (Aj fl)):=by
    rw[BL,List.getElem?_map,List.getElem?_eq_getElem hkf,Option.map_some]
    rw[List.getElem?_eq_getElem hkf,Option.getD_some] at hfb
    rw[hfb];rfl
   by_cases h60:60<(fl.length:Int)
   ·(try (simp -implicitDefEqProofs only[go_sem,AO,AN,hrl,hk',hrow,h60]));repeat' first|(with_reducible first|exact tI|refine aI ?_ ?_|intro _)|((first|with_reducible refine AM ?_ ?_<;>intro _|(with_reducible refine isCall ?_);first|refine AE c0 ?_)<;>try (simp -implicitDefEqProofs only[go_sem,AO,AN,hrl,hk',hrow,h60]))|simp (disch:=omega) only[An]|((with_reducible refine Am ?_);refine⟨(_,_),rfl,?_,?_⟩)|((with_reducible refine Ao ?_);refine⟨_,rfl,?_,?_⟩)
    all_goals first|rfl|omega|skip
   have c4:=NE false nf S fl hsb (by omega) hne
   have hRl:=Mw fl S
   have hRb:=N7 fl hsb
   simp only at hgk hsn
   obtain⟨R,hR⟩:∃R,Mx S fl=R:=⟨_,rfl⟩
   rw[hR] at c4 hRl hRb hgk hsn
   have c6:=QI c hk false R (by omega)
   unfold Zo at c6
   cases hf:c.find R with
   |none =>
    rw[hf] at c6
    simp only[Option.isSome_none] at c6
    (try (simp -implicitDefEqProofs only[go_sem,AO,AN,hrl,hk',hrow,h60]));repeat' first|(with_reducible first|exact tI|refine aI ?_ ?_|intro _)|((first|with_reducible refine AM ?_ ?_<;>intro _|(with_reducible refine isCall ?_);first|refine AE c0 ?_|refine AE c4 ?_|refine AE c6 ?_)<;>try (simp -implicitDefEqProofs only[go_sem,AO,AN,hrl,hk',hrow,h60]))|simp (disch:=omega) only[An]|((with_reducible refine Am ?_);refine⟨(_,_),rfl,?_,?_⟩)|((with_reducible refine Ao ?_);refine⟨_,rfl,?_,?_⟩)
    all_goals first|rfl|omega|skip
   |some a =>
   rw[hf] at c6
   simp only[Option.isSome_some] at c6
   by_cases ha:a=0
   ·subst ha
    have hV0:=mK c S (DA S fls) k c.syms
    have hVe:=gN c S (DA S fls) k c.syms
    have hf0:f=decide (k=0):=k2
    (try (simp -implicitDefEqProofs only[go_sem,AO,AN,hrl,hk',hrow,h60]));repeat' first|(with_reducible first|exact tI|refine aI ?_ ?_|intro _)|((first|with_reducible refine AM ?_ ?_<;>intro _|(with_reducible refine isCall ?_);first|refine AE c0 ?_|refine AE c4 ?_|refine AE c6 ?_)<;>try (simp -implicitDefEqProofs only[go_sem,AO,AN,hrl,hk',hrow,h60]))|simp (disch:=omega) only[An]|((with_reducible refine Am ?_);refine⟨(_,_),rfl,?_,?_⟩)|((with_reducible refine Ao ?_);refine⟨_,rfl,?_,?_⟩)
    all_goals first|omega|(simp;done)|(simp;omega)|skip
    rw[←hV0]
    refine AY (α:=Nat) (l0:=?l2) (m0:=?m2) (fun x=>[(15,.d (.int .i64 (x:Int)))]) (fun x=>[(52,.row 3 1 false (Aj (S3 c.syms (Y_ c S (DA S fls) k x))))]) (fun x=>x<=c.syms) (fun x=>c.syms-x) 0 ?h02 ?he2 ?he22 ?hI2 ?step2
    case h02=>(simp -implicitDefEqProofs only[go_sem];rfl)
    case he2=>rfl
    case he22=>rfl
    case' step2=>(rintro j hI2;try dsimp only at hI2)
    case' hI2=>try dsimp only
    ·exact Nat.zero_le _
    ·have hvl:=Ph c.syms (Y_ c S (DA S fls) k j)
     by_cases hj:j<c.syms
     ·have hj':(j:Int)<((c.syms:Nat):Int):=by omega
      have hwj:IntKind.i64.wrap ((j:Int)+1)=((j+1:Nat):Int):=by rw[Ak _ (by omega)];omega
      have h1:j*c.code.sz+c.code.sz<=c.syms*c.code.sz:=by have:=Nat.mul_le_mul_right c.code.sz (show j+1<=c.syms from hj);rw[Nat.add_mul,Nat.one_mul] at this;exact this
      have v1:IntKind.i64.wrap ((j:Int)*(c.code.sz:Int))=((j*c.code.sz:Nat):Int):=by rw[←Int.natCast_mul];exact Ak _ (by omega)
      have v2:IntKind.i64.wrap ((c.mark.length:Int)+((j*c.code.sz:Nat):Int))=((c.mark.length+j*c.code.sz:Nat):Int):=by rw[Ak _ (by omega)];omega
      have v3:IntKind.i64.wrap (((c.mark.length+j*c.code.sz:Nat):Int)+(c.code.sz:Int))=((c.mark.length+j*c.code.sz+c.code.sz:Nat):Int):=by rw[Ak _ (by omega)];omega
      obtain⟨g,hg⟩:∃g,c.mark.length+j*c.code.sz=g:=⟨_,rfl⟩
      have hpR:(R.drop g).take c.code.sz=c.part R 0 j:=by unfold AX.part;rw[←hg,Nat.zero_add]
      have hpS:(S.drop g).take c.code.sz=c.part S 0 j:=by unfold AX.part;rw[←hg,Nat.zero_add]
      rw[hg] at v2 v3
      have hsub:g+c.code.sz-g=c.code.sz:=by omega
      have g1:((g+c.code.sz:Nat):Int)<=(R.length:Int):=by omega
      have g2:((g+c.code.sz:Nat):Int)<=((c.tot:Nat):Int):=by omega
      have g3:(g:Int)<=((g+c.code.sz:Nat):Int):=by omega
      have c7:=FY false false (c.part R 0 j) (c.part S 0 j)
      have hst:=br c S (DA S fls) k hj
      have hge:=X6 (Y_ c S (DA S fls) k j) hj
      have hbd:=bp c S (DA S fls) k j
      rw[kP] at hge
      by_cases hp:c.part R 0 j=c.part S 0 j
      ·rw[decide_eq_true hp] at c7
       have hn:Mo c S (DA S fls) (k+1) j=Mo c S (DA S fls) k j+1:=by
        show Mo c S (DA S fls) k j+(if c.part ((DA S fls)[k]?.getD []) 0 j=c.part S 0 j then 1 else -1)=_
        rw[hgk,if_pos hp]
       rw[hn] at hst
       have hwv:IntKind.i64.wrap (Mo c S (DA S fls) k j+1)=Mo c S (DA S fls) k j+1:=Ak _ (by omega)
       (try (simp -implicitDefEqProofs only[go_sem,AO,AN,hlen,hvl,hj,hj',hwj,v1,v2,v3,hpR,hpS,hsub,g1,g2,g3,hge,hwv,hst]));repeat' first|(with_reducible first|exact tI|refine aI ?_ ?_|intro _)|((first|with_reducible refine AM ?_ ?_<;>intro _|(with_reducible refine isCall ?_);first|refine AE cZ ?_|refine AE c7 ?_)<;>try (simp -implicitDefEqProofs only[go_sem,AO,AN,hlen,hvl,hj,hj',hwj,v1,v2,v3,hpR,hpS,hsub,g1,g2,g3,hge,hwv,hst]))|simp (disch:=omega) only[An]|((with_reducible refine Am ?_);refine⟨(_,_),rfl,?_,?_⟩)|((with_reducible refine Ao ?_);refine⟨_,rfl,?_,?_⟩)
       all_goals first|omega|(simp;done)|(simp;omega)|skip
       all_goals exact⟨j+1,rfl,hj,by omega⟩
      ·rw[decide_eq_false hp] at c7
       have hn:Mo c S (DA S fls) (k+1) j=Mo c S (DA S fls) k j-1:=by
        show Mo c S (DA S fls) k j+(if c.part ((DA S fls)[k]?.getD []) 0 j=c.part S 0 j then 1 else -1)=_
        rw[hgk,if_neg hp];omega
       rw[hn] at hst
       have hwv:IntKind.i64.wrap (Mo c S (DA S fls) k j-1)=Mo c S (DA S fls) k j-1:=Ak _ (by omega)
       (try (simp -implicitDefEqProofs only[go_sem,AO,AN,hlen,hvl,hj,hj',hwj,v1,v2,v3,hpR,hpS,hsub,g1,g2,g3,hge,hwv,hst]));repeat' first|(with_reducible first|exact tI|refine aI ?_ ?_|intro _)|((first|with_reducible refine AM ?_ ?_<;>intro _|(with_reducible refine isCall ?_);first|refine AE cZ ?_|refine AE c7 ?_)<;>try (simp -implicitDefEqProofs only[go_sem,AO,AN,hlen,hvl,hj,hj',hwj,v1,v2,v3,hpR,hpS,hsub,g1,g2,g3,hge,hwv,hst]))|simp (disch:=omega) only[An]|((with_reducible refine Am ?_);refine⟨(_,_),rfl,?_,?_⟩)|((with_reducible refine Ao ?_);refine⟨_,rfl,?_,?_⟩)
       all_goals first|omega|(simp;done)|(simp;omega)|skip
       all_goals exact⟨j+1,rfl,hj,by omega⟩
     ·have hj':¬(j:Int)<((c.syms:Nat):Int):=by omega
      have hje:j=c.syms:=by omega
      subst hje
      have hsn2:=bo ((DA S fls).take k) R
      rw[hsn] at hsn2
      have hrl2:(V4 ((DA S fls).take k)).length<=6:=by rw[X4,List.length_take];omega
      have hfe:false=decide (k+1=0):=by simp
      have hvl3:=Ph c.syms (Mo c S (DA S fls) (k+1))
      rw[hVe]
      (try (simp -implicitDefEqProofs only[go_sem,hj',hvl3,hwk,hsn2]));repeat' first|(with_reducible first|exact tI|refine aI ?_ ?_|intro _)|((first|with_reducible refine AM ?_ ?_<;>intro _)<;>try (simp -implicitDefEqProofs only[go_sem,hj',hvl3,hwk,hsn2]))|simp (disch:=omega) only[An]|((with_reducible refine Am ?_);refine⟨(_,_),rfl,?_,?_⟩)|((with_reducible refine Ao ?_);refine⟨_,rfl,?_,?_⟩)
      all_goals first|omega|(simp;done)|(simp;omega)|skip
      have hnx:∀q,q<k+1->c.find ((DA S fls)[q]?.getD [])=some 0:=fun q hq=>by
       rcases Nat.lt_or_ge q k with h|h
       ·exact k3 q h
       ·have:q=k:=by omega
        subst this
        rw[hgk];exact hf
      all_goals first
       |exact hfe
       |(rename_i q hq;exact hnx q hq)
       |exact⟨(k+1,false),rfl,⟨by show k+1<=fls.length;omega,hfe,hnx⟩,by show fls.length-(k+1)<fls.length-k;omega⟩
   ·have ha':¬(a:Int)=0:=by omega
    (try (simp -implicitDefEqProofs only[go_sem,AO,AN,hrl,hk',hrow,h60,ha']));repeat' first|(with_reducible first|exact tI|refine aI ?_ ?_|intro _)|((first|with_reducible refine AM ?_ ?_<;>intro _|(with_reducible refine isCall ?_);first|refine AE c0 ?_|refine AE c4 ?_|refine AE c6 ?_)<;>try (simp -implicitDefEqProofs only[go_sem,AO,AN,hrl,hk',hrow,h60,ha']))|simp (disch:=omega) only[An]|((with_reducible refine Am ?_);refine⟨(_,_),rfl,?_,?_⟩)|((with_reducible refine Ao ?_);refine⟨_,rfl,?_,?_⟩)
    all_goals first|rfl|omega|skip
  ·have hk':¬(k:Int)<(fls.length:Int):=by omega
   have hke:k=fls.length:=by omega
   subst hke
   have hrdl:=Uo S fls
   have htk:(DA S fls).take fls.length=DA S fls:=List.take_of_length_le (by omega)
   have hf0:f=false:=by rw[k2];exact decide_eq_false (by omega)
   rw[htk,hf0]
   have key2:=key (DA S fls) (by rw[hrdl];exact k3)
   rw[hrdl] at key2
   have cJ:=Ok c (DA S fls)
   have hre:(DA S fls).isEmpty=false:=GA fun e=>by rw[e] at hrdl;simp at hrdl;omega
   have hall:(DA S fls).all Gh=true:=by
    rw[List.all_eq_true]
    intro x hx
    simp only[DA,List.mem_map] at hx
    obtain⟨y,_,rfl⟩:=hx
    unfold Gh
    rw[N7 y.2 hsb,decide_eq_true (by rw[Mw];omega)];simp only[Bool.and_self]
   have hc6:1<=(DA S fls).length/\(DA S fls).length<=6:=by omega
   have hvl:=Ph c.syms (Mo c S (DA S fls) fls.length)
   rw[hre] at cJ
   unfold lC nM ne at cJ
   rw[if_pos r.ok,if_pos r.ok,if_pos hc6,if_pos hc6,if_pos hall,if_pos hall] at cJ
   (try (simp -implicitDefEqProofs only[go_sem,hrl,hk',hvl]));repeat' first|(with_reducible first|exact tI|refine aI ?_ ?_|intro _)|((first|with_reducible refine AM ?_ ?_<;>intro _)<;>try (simp -implicitDefEqProofs only[go_sem,hrl,hk',hvl]))|simp (disch:=omega) only[An]|((with_reducible refine Am ?_);refine⟨(_,_),rfl,?_,?_⟩)|((with_reducible refine Ao ?_);refine⟨_,rfl,?_,?_⟩)
   all_goals first|omega|(simp;done)|(simp;omega)|skip
   refine AY (α:=Nat) (l0:=?l3) (m0:=?m3) (fun x=>[(17,.d (.int .i64 (x:Int)))]) (fun x=>[]) (fun x=>x<=c.syms/\∀j,j<x->0<Mo c S (DA S fls) fls.length j) (fun x=>c.syms-x) 0 ?h03 ?he3 ?he23 ?hI3 ?step3
   case h03=>(simp -implicitDefEqProofs only[go_sem];rfl)
   case he3=>rfl
   case he23=>rfl
   case' step3=>(rintro i hI3;try dsimp only at hI3)
   case' hI3=>try dsimp only
   ·exact⟨Nat.zero_le _,fun j hj=>by omega⟩
   ·obtain⟨i1,i2⟩:=hI3
    by_cases hi:i<c.syms
    ·have hi':(i:Int)<((c.syms:Nat):Int):=by omega
     have hwi:IntKind.i64.wrap ((i:Int)+1)=((i+1:Nat):Int):=by rw[Ak _ (by omega)];omega
     have hge:=X6 (Mo c S (DA S fls) fls.length) hi
     by_cases hv:Mo c S (DA S fls) fls.length i<=0
     ·(try (simp -implicitDefEqProofs only[go_sem,hi',hvl,hi,hge,hv]));repeat' first|(with_reducible first|exact tI|refine aI ?_ ?_|intro _)|((first|with_reducible refine AM ?_ ?_<;>intro _|(with_reducible refine isCall ?_);first|refine AE c0 ?_)<;>try (simp -implicitDefEqProofs only[go_sem,hi',hvl,hi,hge,hv]))|simp (disch:=omega) only[An]|((with_reducible refine Am ?_);refine⟨(_,_),rfl,?_,?_⟩)|((with_reducible refine Ao ?_);refine⟨_,rfl,?_,?_⟩)
      all_goals first|rfl|omega|skip
     ·(try (simp -implicitDefEqProofs only[go_sem,hi',hvl,hi,hge,hv,hwi]));repeat' first|(with_reducible first|exact tI|refine aI ?_ ?_|intro _)|((first|with_reducible refine AM ?_ ?_<;>intro _|(with_reducible refine isCall ?_);first|refine AE c0 ?_)<;>try (simp -implicitDefEqProofs only[go_sem,hi',hvl,hi,hge,hv,hwi]))|simp (disch:=omega) only[An]|((with_reducible refine Am ?_);refine⟨(_,_),rfl,?_,?_⟩)|((with_reducible refine Ao ?_);refine⟨_,rfl,?_,?_⟩)
      all_goals first|omega|(simp;done)|(simp;omega)|skip
      rename_i j hj
      have hj2:j<i+1:=hj
      rcases Nat.lt_or_ge j i with h|h
      ·exact i2 j h
      ·have:j=i:=by omega
       subst this;omega
    ·have hi':¬(i:Int)<((c.syms:Nat):Int):=by omega
     obtain⟨e1,e2⟩:=key2 fun j hj=>i2 j (by omega)
     rw[e1,e2] at cJ
     have c9:=FY d.isEmpty n1 d d
     rw[decide_eq_true rfl] at c9
     (try (simp -implicitDefEqProofs only[go_sem,AO,AN,hi',hvl]));repeat' first|(with_reducible first|exact tI|refine aI ?_ ?_|intro _)|((first|with_reducible refine AM ?_ ?_<;>intro _|(with_reducible refine isCall ?_);first|refine AE c0 ?_|refine AE cJ ?_|refine AE c9 ?_)<;>try (simp -implicitDefEqProofs only[go_sem,AO,AN,hi',hvl]))|simp (disch:=omega) only[An]|((with_reducible refine Am ?_);refine⟨(_,_),rfl,?_,?_⟩)|((with_reducible refine Ao ?_);refine⟨_,rfl,?_,?_⟩)
     all_goals first|rfl|omega|(exfalso;rename_i h;exact h rfl)|skip
end Go.Pw
