/- A part of the proof. -/
import Derived.Test.YtibkjeolahobbaaGreatDoorPgChG
set_option linter.all false
open Go Go.Pw Go.Proofs
namespace Go.Pw
set_option maxRecDepth 100000
set_option maxHeartbeats 3200000
section
theorem Fr (sy:List (Option Nat)):(Pe sy).length=sy.length:=by simp[Pe]
def S2 (sy:List (Option Nat)) (k:Nat):List Int:=(Pe sy).take k++(OS sy).drop k
theorem ZL (sy:List (Option Nat)) (k:Nat):(S2 sy k).length=sy.length:=by
 unfold S2;rw[List.length_append,List.length_take,List.length_drop,Fr,Fi];omega
theorem ou (sy:List (Option Nat)):S2 sy 0=OS sy:=rfl
theorem j5 (sy:List (Option Nat)):S2 sy sy.length=Pe sy:=by
 unfold S2
 rw[List.take_of_length_le (by rw[Fr];omega),List.drop_eq_nil_of_le (by rw[Fi];omega),List.append_nil]
theorem j0 (sy:List (Option Nat)) {k:Nat}(h:k<sy.length):(S2 sy k)[k]?.getD 0=SE sy[k]:=by
 unfold S2
 rw[List.getElem?_append_right (by rw[List.length_take,Fr];omega),List.length_take,Fr,Nat.min_eq_left (by omega),Nat.sub_self,List.getElem?_drop]
 simp[OS,h]
theorem Vo (sy:List (Option Nat)) {k:Nat}(h:k<sy.length):S2 sy (k+1)=(Pe sy).take k++(((sy[k].getD 0:Nat):Int)::(OS sy).drop (k+1)):=by
 unfold S2
 rw[List.take_add_one,List.append_assoc]
 congr 1
 simp[Pe,h]
theorem Vp (sy:List (Option Nat)) {k:Nat}(h:k<sy.length):S2 sy k=(Pe sy).take k++(SE sy[k]::(OS sy).drop (k+1)):=by
 unfold S2
 rw[List.drop_eq_getElem_cons (by rw[Fi];exact h)]
 simp[OS]
theorem eq (sy:List (Option Nat)) {k s:Nat}(h:k<sy.length) (hs:sy[k]=some s):S2 sy (k+1)=S2 sy k:=by
 rw[Vo sy h,Vp sy h,hs];rfl
theorem et (sy:List (Option Nat)) {k:Nat}(h:k<sy.length) (hs:sy[k]=none):(S2 sy k).set k 0=S2 sy (k+1):=by
 rw[Vo sy h,Vp sy h,hs]
 rw[List.set_append_right _ _ (by rw[List.length_take,Fr];omega),List.length_take,Fr,Nat.min_eq_left (by omega),Nat.sub_self];rfl
def Xl (sy:List (Option Nat)) (k:Nat):List Nat:=(List.range k).filter fun i=>(sy[i]?.getD none).isNone
theorem jn (sy:List (Option Nat)):Xl sy sy.length=g_ sy:=rfl
theorem ec (sy:List (Option Nat)) {k s:Nat}(h:k<sy.length) (hs:sy[k]=some s):Xl sy (k+1)=Xl sy k:=by
 unfold Xl;rw[List.range_succ,List.filter_append]
 simp[h,hs]
theorem ed (sy:List (Option Nat)) {k:Nat}(h:k<sy.length) (hs:sy[k]=none):Xl sy (k+1)=Xl sy k++[k]:=by
 unfold Xl;rw[List.range_succ,List.filter_append]
 simp[h,hs]
theorem nE (sy:List (Option Nat)) (k:Nat):(Xl sy k).length<=k:=by
 have:=List.length_filter_le (fun i=>(sy[i]?.getD none).isNone) (List.range k)
 rw[List.length_range] at this;exact this
theorem eQ (l:List Nat) (k:Nat):ni l++[(k:Int)]=ni (l++[k]):=by simp[ni]
theorem jg (l:List Nat):(ni l).length=l.length:=by simp[ni]
def _root_.Go.Pw.D.NOK1:D->Prop
 |.list nl xs=>nl=true->xs=[]
 |_=>True
def _root_.Go.Pw.D.NOK:D->Prop
 |.agg cs=>∀c,c∈cs->c.NOK1
 |d=>d.NOK1
theorem je {w:World}{fb:Nat->Prop}{d:D}{v:Value}(h:A2 w fb d v):d.NOK1:=by
 cases h with
 |nil=>exact fun _=>rfl
 |empty=>exact fun h=>by cases h
 |list=>exact fun h=>by cases h
 |_=>trivial
theorem mz {w:World}{fb:Nat->Prop}{d:D}{v:Value}(h:A2 w fb d v):d.NOK:=by
 cases h with
 |nil=>exact fun _=>rfl
 |empty=>exact fun h=>by cases h
 |list=>exact fun h=>by cases h
 |agg cs vs hl h1 hh =>
  intro c hc
  obtain⟨i,hi⟩:=List.getElem?_of_mem hc
  have hlt:i<vs.size:=by rw[hl];exact(List.getElem?_eq_some_iff.1 hi).1
  exact je (hh i c _ hi (Array.getElem?_eq_getElem hlt))
 |_=>trivial
theorem Y6 {E:Co}{f:FuncId}{ds:List D}{r:D}(h:(∀d,d∈ds->d.NOK)->B' E f ds r):B' E f ds r:=fun w fb vs hfb hg hl hd =>
 h (fun d hdm=>by
  obtain⟨i,hi⟩:=List.getElem?_of_mem hdm
  have hlt:i<vs.size:=by rw[hl];exact(List.getElem?_eq_some_iff.1 hi).1
  exact mz (hd i d _ hi (Array.getElem?_eq_getElem hlt))) w fb vs hfb hg hl hd
theorem kx {c:AX}(h:(Dn c).NOK) (hm:1<=c.mark.length):c.nm=false:=by
 have h1:=h (.list c.nm (Am c.mark)) (by simp[Wb])
 cases hn:c.nm with
 |false=>rfl
 |true =>
  have h2:Am c.mark=[]:=h1 hn
  have h3:=congrArg List.length h2
  rw[B4] at h3
  change c.mark.length=0 at h3
  omega
theorem jx {nl:Bool}{xs:List Int}(h:(D.list nl (Am xs)).NOK):nl=true->xs=[]:=fun hn=>by
 have h2:Am xs=[]:=h hn
 have h3:=congrArg List.length h2
 rw[B4] at h3
 exact List.length_eq_zero_iff.1 (by simpa using h3)
theorem QH {c:AX}(h:Cv c.L c.P c.Q=true) {d:List Int}(he:spE c.L c.P c.Q d=0):(U7 c.L c.P c.Q d).length=c.syms:=by
 unfold spE at he
 rw[if_pos h] at he
 have hs:CR d (c.Q*(c.L-c.P))=true:=by
  cases hs:CR d (c.Q*(c.L-c.P)) with
  |true=>rfl
  |false=>rw[hs] at he;simp at he
 unfold U7
 rw[if_pos h,if_pos hs,K1,Yw]
 have h2:=QX h
 have h3:=QF h
 have:((c.L.toNat * c.Q.toNat:Nat):Int)=c.Q*c.L:=by push_cast;rw[Int.toNat_of_nonneg (by omega),Int.toNat_of_nonneg (by omega),Int.mul_comm]
 omega
theorem Ya (c:AX) (X:List Int) {k:Nat}(h:k<X.length):c.flat (X.take k)++c.code.stm (X[k]?.getD 0).toNat=c.flat (X.take (k+1)):=by
 rw[List.take_add_one,List.getElem?_eq_getElem h]
 unfold AX.flat
 rw[List.flatMap_append]
 simp
attribute [local congr] Bf A9 A_ Aq Bg Ax Az Ay Ap Aj Ad AZ Au Ae Av BK BO BM BN BL BP BE Ah Aw Ai BC BW Ag BI BJ BD BF BH BG BA BB A8 Bj A' Ar Af
attribute [local irreducible] IntKind.wrap A4 Option.getD and or
theorem MW (nl:Bool) (xs:List Int) (hl:xs.length<=1000) (hne:0<xs.length) (hnl:nl=false):IJ E0 F1 [] [.d (.list nl (Am xs))] [(7,1,.row 3 1 false (Am xs))] (.own 7 1):=by
 subst hnl
 refine Dg IT An (by simp) (by simp[Pz,CS,EW]) (by simp[E_]) fun hwf hwo=>?_
 rw[ER];unfold FU
 have hn:¬xs=[]:=by intro h;rw[h] at hne;simp at hne
 (try (simp -implicitDefEqProofs only[go_sem,hn]));repeat' first|(with_reducible first|exact tI|refine aI ?_ ?_|intro _)|((first|with_reducible refine AN ?_ ?_<;>intro _)<;>try (simp -implicitDefEqProofs only[go_sem,hn]))|simp (disch:=omega) only[Al]
 all_goals first|omega|rfl
theorem He (c:AX) (hk:Gn c) (sy:List (Option Nat)) (hl:sy.length=c.syms) :
  B' E0 FM [.ptr (SU c (FP c.code)),.list false (Am (OS sy))] (.tup [.list (b9 c sy).isEmpty (Am (b9 c sy)),.int .i64 (aw c sy)]):=by
 have hs:=hk.syms
 have hsl:=Fi sy
 have cC:=MW false (OS sy) (by omega) (by omega) rfl
 have h0l:(S2 sy 0).length=sy.length:=ZL sy 0
 refine AO HD An (by simp) fun hwf=>?_
 rw[AW];unfold En
 (try (simp -implicitDefEqProofs only[go_sem]));repeat' first|(with_reducible first|exact tI|refine aI ?_ ?_|intro _)|((first|with_reducible refine AN ?_ ?_<;>intro _|(with_reducible refine isCall ?_);first|(refine E' ([]) ([((7,1),(11,0))]) (cC) (by repeat' first|exact True.intro|exact rfl|refine And.intro ?_ ?_) (by simp[Handed,Dl.get,Ak.ren,AV.ren,AV.ren.renL,AM.get,Bb,CF,D5,AM.reach,AV.sites,AV.sites.sitesL,AM.osites]) (by simp[CP,E_,CS,Dl.get,D5,EW,CJ]) (by rfl) (by simp only[D6,Dl.get,Ak.ren,AV.ren,AV.ren.renL,and_self,and_true,true_and,if_true,reduceIte];rfl) ?_))<;>try (simp -implicitDefEqProofs only[go_sem]))|simp (disch:=omega) only[Al]|((with_reducible refine Ab ?_);refine⟨(_,_),rfl,?_,?_⟩)
 all_goals first|omega|(simp;done)|(simp;omega)|skip
 rw[←ou]
 refine AY (α:=Nat×Bool) (l0:=?l1) (m0:=?m1) (fun x=>[(14,.d (.int .i64 (x.1:Int)))]) (fun x=>[(11,.row 3 1 false (Am (S2 sy x.1))),(24,.row 3 1 x.2 (Am (ni (Xl sy x.1))))]) (fun x=>x.1<=sy.length/\x.2=(Xl sy x.1).isEmpty) (fun x=>sy.length-x.1) (0,true) ?h01 ?he1 ?he21 ?hI1 ?step1
 case h01=>(simp -implicitDefEqProofs only[go_sem];rfl)
 case he1=>rfl
 case he21=>rfl
 case' step1=>(rintro⟨k,e⟩ hI;try dsimp only at hI)
 case' hI1=>try dsimp only
 ·exact⟨Nat.zero_le _,rfl⟩
 ·obtain⟨k1,k2⟩:=hI
  change e=(Xl sy k).isEmpty at k2
  have hkl:=ZL sy k
  by_cases hks:k<sy.length
  ·have hk':(k:Int)<(sy.length:Int):=by omega
   have hg:=j0 sy hks
   have hwk:IntKind.i64.wrap ((k:Int)+1)=((k+1:Nat):Int):=by rw[Aa _ (by omega)];omega
   have hmk:=nE sy k
   have hml:=jg (Xl sy k)
   cases hsy:sy[k] with
   |none =>
    rw[hsy] at hg
    change (S2 sy k)[k]?.getD 0=-1 at hg
    have h1:=et sy hks hsy
    have h2:=ed sy hks hsy
    have h3:=eQ (Xl sy k) k
    have h4:false=(Xl sy k++[k]).isEmpty:=by cases Xl sy k<;>rfl
    (try (simp -implicitDefEqProofs only[go_sem,hk',hks,hg,hwk,hkl,hml,h1,h3]));repeat' first|(with_reducible first|exact tI|refine aI ?_ ?_|intro _)|((first|with_reducible refine AN ?_ ?_<;>intro _)<;>try (simp -implicitDefEqProofs only[go_sem,hk',hks,hg,hwk,hkl,hml,h1,h3]))|simp (disch:=omega) only[Al]|((with_reducible refine Ab ?_);refine⟨(_,_),rfl,?_,?_⟩)
    all_goals first|omega|(simp;done)|(simp;omega)|skip
    rw[←h2] at h4 ⊢
    exact⟨(k+1,false),rfl,⟨by show k+1<=sy.length;omega,h4⟩,by show sy.length-(k+1)<sy.length-k;omega⟩
   |some s =>
    rw[hsy] at hg
    change (S2 sy k)[k]?.getD 0=(s:Int) at hg
    have hne:¬(s:Int)=-1:=by omega
    have h1:=eq sy hks hsy
    have h2:=ec sy hks hsy
    (try (simp -implicitDefEqProofs only[go_sem,hk',hks,hg,hwk,hkl,hml,hne]));repeat' first|(with_reducible first|exact tI|refine aI ?_ ?_|intro _)|((first|with_reducible refine AN ?_ ?_<;>intro _)<;>try (simp -implicitDefEqProofs only[go_sem,hk',hks,hg,hwk,hkl,hml,hne]))|simp (disch:=omega) only[Al]|((with_reducible refine Ab ?_);refine⟨(_,_),rfl,?_,?_⟩)
    all_goals first|omega|(simp;done)|(simp;omega)|skip
    rw[←h2] at k2 ⊢
    rw[←h1]
    exact⟨(k+1,e),rfl,⟨by show k+1<=sy.length;omega,k2⟩,by show sy.length-(k+1)<sy.length-k;omega⟩
  ·have hke:k=sy.length:=by omega
   subst hke
   have hk':¬(sy.length:Int)<((S2 sy 0).length:Int):=by omega
   have hkn:=Fr sy
   have c1:=Gi c (FP c.code) false (Pe sy) hk.seed (by omega) (by omega)
   have c2:=Mv c.L c.P c.Q false e (Dh c.seed (Pe sy)) (ni (g_ sy)) (by rw[Eg];omega)
   have h1:=j5 sy
   have h2:=jn sy
   unfold b9 aw
   (try (simp -implicitDefEqProofs only[go_sem,BU,hk',h1,h2]));repeat' first|(with_reducible first|exact tI|refine aI ?_ ?_|intro _)|((first|with_reducible refine AN ?_ ?_<;>intro _|(with_reducible refine isCall ?_);first|refine AE c1 ?_|refine AE c2 ?_)<;>try (simp -implicitDefEqProofs only[go_sem,BU,hk',h1,h2]))|simp (disch:=omega) only[Al]|((with_reducible refine Ab ?_);refine⟨(_,_),rfl,?_,?_⟩)
   all_goals first|rfl|skip
theorem IB (c:AX) (nl:Bool) (d:List Int):B' E0 KI [Dn c,.list nl (Am d)] (.tup [.list (cQ c d).isEmpty (Am (cQ c d)),.int .i64 (oG c d)]):=by
 refine Y6 fun hnok=>?_
 have c1:=DI c
 obtain⟨r,hr⟩:∃r,b8 c=r:=⟨_,rfl⟩
 rw[hr] at c1
 refine AO Nx An (by simp) fun hwf=>?_
 rw[AW];unfold I3
 unfold cQ oG
 rcases hok:c.ok with _|_
 ·have:=GK hok
  rw[hr] at this
  rw[this.1,this.2] at c1
  simp only[Bool.false_eq_true,if_false]
  (try (simp -implicitDefEqProofs only[go_sem,AH,AG]));repeat' first|(with_reducible first|exact tI|refine aI ?_ ?_|intro _)|((first|with_reducible refine AN ?_ ?_<;>intro _|(with_reducible refine isCall ?_);first|refine AE c1 ?_)<;>try (simp -implicitDefEqProofs only[go_sem,AH,AG]))|simp (disch:=omega) only[Al]|((with_reducible refine Ao ?_);refine⟨_,rfl,?_,?_⟩)
  all_goals first|rfl|skip
 ·have:=Gt hok
  have hk:=Df hok
  have hm:=hk.markl
  have hs:=hk.syms
  have hnm:=kx (hnok _ (by simp)) hm.1
  rw[hr] at this
  rw[this.1,this.2] at c1
  have c2:=Mu c.L c.P c.Q nl d
  simp only[if_true]
  by_cases hsp:spE c.L c.P c.Q d=0
  ·have hbl:=QH hk.wev hsp
   rw[hsp] at c2 ⊢
   simp only[if_true]
   unfold JY
   obtain⟨B,hB⟩:∃B,U7 c.L c.P c.Q d=B:=⟨_,rfl⟩
   rw[hB] at c2 hbl ⊢
   have hBe:B.isEmpty=false:=GL fun e=>by rw[e] at hbl;simp at hbl;omega
   rw[hBe] at c2
   have c3:=Gi c (FP c.code) false B hk.seed (by omega) (by omega)
   have hX:=Kh B c.seed
   have hXl:=Eg B c.seed
   obtain⟨X,hXe⟩:∃X,Dh c.seed B=X:=⟨_,rfl⟩
   rw[hXe] at c3 hX hXl ⊢
   have cM:=MW c.nm c.mark (by omega) (by omega) hnm
   have hne:(c.mark++c.flat X).isEmpty=false:=GL fun e=>by have:=congrArg List.length e;simp at this;rw[this.1] at hm;simp at hm
   rw[hne]
   (try (simp -implicitDefEqProofs only[go_sem,AH,AG,BU]));repeat' first|(with_reducible first|exact tI|refine aI ?_ ?_|intro _)|((first|with_reducible refine AN ?_ ?_<;>intro _|(with_reducible refine isCall ?_);first|refine AE c1 ?_|refine AE c2 ?_|refine AE c3 ?_|(refine E' ([]) ([((7,1),(37,0))]) (cM) (by repeat' first|exact True.intro|exact rfl|refine And.intro ?_ ?_) (by simp[Handed,Dl.get,Ak.ren,AV.ren,AV.ren.renL,AM.get,Bb,CF,D5,AM.reach,AV.sites,AV.sites.sitesL,AM.osites]) (by simp[CP,E_,CS,Dl.get,D5,EW,CJ]) (by rfl) (by simp only[D6,Dl.get,Ak.ren,AV.ren,AV.ren.renL,and_self,and_true,true_and,if_true,reduceIte];rfl) ?_))<;>try (simp -implicitDefEqProofs only[go_sem,AH,AG,BU]))|simp (disch:=omega) only[Al]|((with_reducible refine Ao ?_);refine⟨_,rfl,?_,?_⟩)
   all_goals first|omega|(simp;done)|(simp;omega)|skip
   have hf0:c.mark=c.mark++c.flat (X.take 0):=by simp[AX.flat]
   rw[show Am c.mark=Am (c.mark++c.flat (X.take 0)) from congrArg Am hf0]
   refine AY (α:=Nat) (l0:=?l2) (m0:=?m2) (fun x=>[(42,.d (.int .i64 (x:Int)))]) (fun x=>[(37,.row 3 1 false (Am (c.mark++c.flat (X.take x))))]) (fun x=>x<=X.length) (fun x=>X.length-x) 0 ?h02 ?he2 ?he22 ?hI2 ?step2
   case h02=>(simp -implicitDefEqProofs only[go_sem];rfl)
   case he2=>rfl
   case he22=>rfl
   case' step2=>(rintro k hI;try dsimp only at hI)
   case' hI2=>try dsimp only
   ·exact Nat.zero_le _
   ·by_cases hks:k<X.length
    ·have hk':(k:Int)<(X.length:Int):=by omega
     have hwk:IntKind.i64.wrap ((k:Int)+1)=((k+1:Nat):Int):=by rw[Aa _ (by omega)];omega
     have hxm:=hX _ (EQ hks)
     have hst:=Ya c X hks
     obtain⟨x,hx⟩:∃x,X[k]?.getD 0=x:=⟨_,rfl⟩
     rw[hx] at hxm hst
     have hg:=KZ c.code (s:=x.toNat) (by omega)
     have hx0:0<=x:=hxm.1
     have hx1:x<16:=by omega
     have hz:=Ef hk.code
     have hsl:=FN c.code x.toNat
     have hfl:(c.flat (X.take k)).length<=32*20:=by rw[PH,List.length_take];exact Nat.mul_le_mul (by omega) hz.2
     have hne0:=XB hk.code x.toNat
     (try (simp -implicitDefEqProofs only[go_sem,BU,hk',hks,hwk,hx,hx0,hx1,RC,hg,hsl]));repeat' first|(with_reducible first|exact tI|refine aI ?_ ?_|intro _)|((first|with_reducible refine AN ?_ ?_<;>intro _)<;>try (simp -implicitDefEqProofs only[go_sem,BU,hk',hks,hwk,hx,hx0,hx1,RC,hg,hsl]))|simp (disch:=omega) only[Al]|((with_reducible refine Ao ?_);refine⟨_,rfl,?_,?_⟩)
     all_goals first|omega|(simp;done)|(simp;omega)|skip
     rw[List.append_assoc c.mark,hst]
     exact⟨k+1,rfl,hks,by omega⟩
    ·have hk':¬(k:Int)<(X.length:Int):=by omega
     have htk:X.take k=X:=List.take_of_length_le (by omega)
     rw[htk]
     (try (simp -implicitDefEqProofs only[go_sem,hk']));repeat' first|(with_reducible first|exact tI|refine aI ?_ ?_|intro _)|((first|with_reducible refine AN ?_ ?_<;>intro _)<;>try (simp -implicitDefEqProofs only[go_sem,hk']))|simp (disch:=omega) only[Al]|((with_reducible refine Ao ?_);refine⟨_,rfl,?_,?_⟩)
     all_goals first|omega|(simp;done)|(simp;omega)|skip
     all_goals first|rfl|skip
  ·rw[if_neg hsp,if_neg hsp]
   obtain⟨B,hB⟩:∃B,U7 c.L c.P c.Q d=B:=⟨_,rfl⟩
   rw[hB] at c2
   (try (simp -implicitDefEqProofs only[go_sem,AH,AG,BU,hsp]));repeat' first|(with_reducible first|exact tI|refine aI ?_ ?_|intro _)|((first|with_reducible refine AN ?_ ?_<;>intro _|(with_reducible refine isCall ?_);first|refine AE c1 ?_|refine AE c2 ?_)<;>try (simp -implicitDefEqProofs only[go_sem,AH,AG,BU,hsp]))|simp (disch:=omega) only[Al]|((with_reducible refine Ao ?_);refine⟨_,rfl,?_,?_⟩)
   all_goals first|rfl|skip
noncomputable def jH (c:AX) (bits:List Int):D:=.tup [.list (Y8 c bits).isEmpty (Am (Y8 c bits)),.int .i64 (d4 c bits),.int .i64 (d0 c bits)]
theorem o6 {c:AX}{sy:List (Option Nat)}(h:¬aw c sy=0):b9 c sy=[]:=by
 unfold aw o7 at h
 unfold b9 oH
 split
 ·rename_i h1
  rw[if_pos h1] at h
  split
  ·rename_i h2
   rw[if_pos h2] at h
   split
   ·rename_i h3
    rw[if_pos h3] at h
    cases hg:fT c.L.toNat c.P.toNat c.Q.toNat (fs (Dh c.seed (Pe sy))) (nt (ni (g_ sy))) with
    |none=>rfl
    |some r=>rw[hg] at h;exact absurd rfl h
   ·rfl
  ·rfl
 ·rfl
theorem PE (c:AX) (nl:Bool) (bits:List Int):B' E0 LZ [Dn c,.list nl (Am bits)] (jH c bits):=by
 refine Y6 fun hnok=>?_
 have hnb:=jx (hnok (.list nl (Am bits)) (by simp))
 have c1:=DI c
 obtain⟨r,hr⟩:∃r,b8 c=r:=⟨_,rfl⟩
 rw[hr] at c1
 refine AO O_ An (by simp) fun hwf=>?_
 rw[AW];unfold J3 jH Y8 d4 d0
 rcases hok:c.ok with _|_
 ·have:=GK hok
  rw[hr] at this
  rw[this.1,this.2] at c1
  simp only[Bool.false_eq_true,if_false]
  (try (simp -implicitDefEqProofs only[go_sem,AH,AG]));repeat' first|(with_reducible first|exact tI|refine aI ?_ ?_|intro _)|((first|with_reducible refine AN ?_ ?_<;>intro _|(with_reducible refine isCall ?_);first|refine AE c1 ?_)<;>try (simp -implicitDefEqProofs only[go_sem,AH,AG]))|simp (disch:=omega) only[Al]
  all_goals first|rfl|skip
 ·have:=Gt hok
  have hk:=Df hok
  rw[hr] at this
  rw[this.1,this.2] at c1
  have c2:=G6 nl bits
  simp only[if_true]
  cases hb:Gr bits with
  |false =>
   rw[hb] at c2
   simp only[Bool.false_eq_true,if_false]
   (try (simp -implicitDefEqProofs only[go_sem,AH,AG]));repeat' first|(with_reducible first|exact tI|refine aI ?_ ?_|intro _)|((first|with_reducible refine AN ?_ ?_<;>intro _|(with_reducible refine isCall ?_);first|refine AE c1 ?_|refine AE c2 ?_)<;>try (simp -implicitDefEqProofs only[go_sem,AH,AG]))|simp (disch:=omega) only[Al]
   all_goals first|rfl|skip
  |true =>
   rw[hb] at c2
   simp only[if_true]
   have c3:=JE c hk nl bits hb hnb
   unfold IA at c3
   cases hf:c.find bits with
   |none =>
    rw[hf] at c3
    simp only at c3 ⊢
    (try (simp -implicitDefEqProofs only[go_sem,AH,AG]));repeat' first|(with_reducible first|exact tI|refine aI ?_ ?_|intro _)|((first|with_reducible refine AN ?_ ?_<;>intro _|(with_reducible refine isCall ?_);first|refine AE c1 ?_|refine AE c2 ?_|refine AE c3 ?_)<;>try (simp -implicitDefEqProofs only[go_sem,AH,AG]))|simp (disch:=omega) only[Al]
    all_goals first|rfl|skip
   |some a =>
    rw[hf] at c3
    simp only at c3 ⊢
    have c4:=He c hk (c.syL bits a) (Lf c bits a)
    by_cases he:aw c (c.syL bits a)=0
    ·rw[he] at c4 ⊢
     simp only[if_true]
     (try (simp -implicitDefEqProofs only[go_sem,AH,AG]));repeat' first|(with_reducible first|exact tI|refine aI ?_ ?_|intro _)|((first|with_reducible refine AN ?_ ?_<;>intro _|(with_reducible refine isCall ?_);first|refine AE c1 ?_|refine AE c2 ?_|refine AE c3 ?_|refine AE c4 ?_)<;>try (simp -implicitDefEqProofs only[go_sem,AH,AG]))|simp (disch:=omega) only[Al]
     all_goals first|rfl|skip
    ·rw[if_neg he]
     have hl:=o6 he
     rw[hl] at c4 ⊢
     (try (simp -implicitDefEqProofs only[go_sem,AH,AG,he]));repeat' first|(with_reducible first|exact tI|refine aI ?_ ?_|intro _)|((first|with_reducible refine AN ?_ ?_<;>intro _|(with_reducible refine isCall ?_);first|refine AE c1 ?_|refine AE c2 ?_|refine AE c3 ?_|refine AE c4 ?_)<;>try (simp -implicitDefEqProofs only[go_sem,AH,AG,he]))|simp (disch:=omega) only[Al]
     all_goals first|rfl|skip
end
section
def Wz (c:AU) (rest:List Int) (part q:Nat):Nat->Int
 |0=>(part:Int)
 |s+1=>min (Wz c rest part q s) (CM (rest.take part) ((c.stm s).drop q))
theorem ei (c:AU) (rest:List Int) (part q:Nat):∀m,0<=Wz c rest part q m/\Wz c rest part q m<=part
 |0=>⟨by simp[Wz],Int.le_refl _⟩
 |m+1=>by
  have ih:=ei c rest part q m
  have:=Jd (rest.take part) ((c.stm m).drop q)
  simp only[Wz];omega
def IK (c:AX) (at_:Nat) (rest:List Int):Nat:=if at_%c.tot<c.mark.length then min rest.length (c.mark.length-at_%c.tot) else min rest.length (c.code.sz-(at_%c.tot-c.mark.length)%c.code.sz)
def Pt (c:AX) (at_:Nat) (rest:List Int):Int:=if at_%c.tot<c.mark.length then CM (rest.take (IK c at_ rest)) (c.mark.drop (at_%c.tot)) else Wz c.code rest (IK c at_ rest) ((at_%c.tot-c.mark.length)%c.code.sz) 16
def apW (c:AX):Nat->Nat->List Int->Int
 |0,_,_=>0
 |n+1,at_,rest=>if rest=[] then 0 else Pt c at_ rest+apW c n (at_+IK c at_ rest) (rest.drop (IK c at_ rest))
def QD (c:AX) (at_:Nat):Int:=apW c (c.mark.length+1) at_ c.mark
theorem NH {c:AX}(hk:Gn c) (at_:Nat) {rest:List Int}(h:rest≠[]):1<=IK c at_ rest/\IK c at_ rest<=rest.length:=by
 have h1:0<rest.length:=List.length_pos_iff.2 h
 have hz:=Ef hk.code
 have:=Nat.mod_lt (at_%c.tot-c.mark.length) (show 0<c.code.sz by omega)
 unfold IK
 split<;>omega
theorem iw (c:AX) (at_:Nat) (rest:List Int):0<=Pt c at_ rest/\Pt c at_ rest<=IK c at_ rest:=by
 unfold Pt
 split
 ·have:=Jd (rest.take (IK c at_ rest)) (c.mark.drop (at_%c.tot))
  have h2:(rest.take (IK c at_ rest)).length<=IK c at_ rest:=by rw[List.length_take];omega
  omega
 ·exact ei ..
theorem Wp {c:AX}(hk:Gn c):∀(n m at_:Nat) (rest:List Int),rest.length<n->rest.length<m->apW c n at_ rest=apW c m at_ rest
 |0,_,_,_,h,_=>by omega
 |_,0,_,_,_,h=>by omega
 |n+1,m+1,at_,rest,h1,h2=>by
  unfold apW
  by_cases hr:rest=[]
  ·rw[if_pos hr,if_pos hr]
  ·rw[if_neg hr,if_neg hr]
   have:=NH hk at_ hr
   rw[Wp hk n m _ _ (by rw[List.length_drop];omega) (by rw[List.length_drop];omega)]
theorem gm {c:AX}(hk:Gn c) {a j:Nat}(h:j<c.mark.length) (hj:c.mark.drop j≠[]) :
  apW c (c.mark.length+1) (a+j) (c.mark.drop j)=Pt c (a+j) (c.mark.drop j)+apW c (c.mark.length+1) (a+(j+IK c (a+j) (c.mark.drop j))) (c.mark.drop (j+IK c (a+j) (c.mark.drop j))):=by
 rw[show apW c (c.mark.length+1) (a+j) (c.mark.drop j)=Pt c (a+j) (c.mark.drop j)+apW c c.mark.length (a+j+IK c (a+j) (c.mark.drop j)) ((c.mark.drop j).drop (IK c (a+j) (c.mark.drop j))) from by
  conv=>lhs;unfold apW
  rw[if_neg hj]]
 have hp:=NH hk (a+j) hj
 rw[List.drop_drop,Nat.add_assoc]
 congr 1
 exact Wp hk _ _ _ _ (by rw[List.length_drop];omega) (by rw[List.length_drop];omega)
theorem Yp (a b:Nat):((a:Int)).tmod (b:Int)=((a%b:Nat):Int):=by
 rw[Int.tmod_eq_emod_of_nonneg (by omega)];rfl
theorem jp (a b:Nat):min (a:Int) (b:Int)=((min a b:Nat):Int):=by omega
attribute [local congr] Bf A9 A_ Aq Bg Ax Az Ay Ap Aj Ad AZ Au Ae Av BK BO BM BN BL BP BE Ah Aw Ai BC BW Ag BI BJ BD BF BH BG BA BB A8 Bj A' Ar Af
attribute [local irreducible] IntKind.wrap A4 Option.getD and or
theorem N_ (c:AX) (hk:Gn c) (a:Nat) (ha:a<=2000):B' E0 Fe [.ptr (SU c (FP c.code)),.int .i64 (a:Int)] (.int .i64 (QD c a)):=by
 have hm:=hk.markl
 have hs:=hk.syms
 have ht:=hk.tot
 have hz:=Ef hk.code
 have cB:=Ex c hk.wev hk.code
 have cL:=D3 c
 have w0:IntKind.i64.wrap ((c.mark.length:Int)+((c.syms*c.code.sz:Nat):Int))=((c.tot:Nat):Int):=by rw[Aa _ (by omega)];unfold AX.tot;omega
 have ht1:c.mark.length<c.tot:=by
  have:2*2<=c.syms*c.code.sz:=Nat.mul_le_mul hs.1 hz.1
  unfold AX.tot;omega
 have hne0:¬((c.tot:Nat):Int)=0:=by omega
 have hnz0:¬((c.code.sz:Nat):Int)=0:=by omega
 refine AO Hv An (by simp) fun hwf=>?_
 rw[AW];unfold FF
 (try (simp -implicitDefEqProofs only[go_sem,BU,w0]));repeat' first|(with_reducible first|exact tI|refine aI ?_ ?_|intro _)|((first|with_reducible refine AN ?_ ?_<;>intro _|(with_reducible refine isCall ?_);first|refine AE cB ?_)<;>try (simp -implicitDefEqProofs only[go_sem,BU,w0]))|simp (disch:=omega) only[Al]|((with_reducible refine CY ?_);refine⟨(_,_,_,_),rfl,?_,?_⟩)|((with_reducible refine Ab ?_);refine⟨(_,_),rfl,?_,?_⟩)
 all_goals first|omega|(simp;done)|(simp;omega)|skip
 have hd0:c.mark=c.mark.drop 0:=rfl
 refine AY (α:=Nat×Int×Int×(List Int)) (l0:=?l1) (m0:=?m1) (fun x=>[(1,.d (.int .i64 x.2.1)),(4,.d (.int .i64 x.2.2.1)),(6,.d (.list c.nm (Am x.2.2.2)))]) (fun x=>[]) (fun x=>x.1<=c.mark.length/\x.2.1=((a+x.1:Nat):Int)/\x.2.2.2=c.mark.drop x.1/\0<=x.2.2.1/\x.2.2.1<=x.1/\x.2.2.1+apW c (c.mark.length+1) (a+x.1) (c.mark.drop x.1)=QD c a) (fun x=>c.mark.length-x.1) (0,(a:Int),0,c.mark) ?h01 ?he1 ?he21 ?hI1 ?step1
 case h01=>(simp -implicitDefEqProofs only[go_sem];rfl)
 case he1=>rfl
 case he21=>rfl
 case' step1=>(rintro⟨j,t,n,l⟩ hI;try dsimp only at hI)
 case' hI1=>try dsimp only
 ·exact⟨Nat.zero_le _,by simp,rfl,Int.le_refl _,by simp,by simp[QD]⟩
 ·obtain⟨j1,j2,j3,n0,n1,j4⟩:=hI
  change t=((a+j:Nat):Int) at j2
  change l=c.mark.drop j at j3
  subst j2
  have hll:l.length=c.mark.length-j:=by rw[j3,List.length_drop]
  by_cases hj:j<c.mark.length
  ·have hl0:(0:Int)<(l.length:Int):=by omega
   have hlne:l≠[]:=fun e=>by rw[e] at hll;simp at hll;omega
   have hst:=gm hk (a:=a) hj (by rw[←j3];exact hlne)
   have hsp:=NH hk (a+j) hlne
   have hsv:=iw c (a+j) l
   rw[←j3] at hst j4
   have hmod:=Yp (a+j) c.tot
   have hpt:=Nat.mod_lt (a+j) (show 0<c.tot by omega)
   have hlb:A1 l=true:=by rw[j3];exact Ez hm.2.2 j
   obtain⟨S,hS⟩:∃S,IK c (a+j) l=S:=⟨_,rfl⟩
   obtain⟨V,hV⟩:∃V,Pt c (a+j) l=V:=⟨_,rfl⟩
   have hS':=hS
   have hV':=hV
   unfold IK at hS'
   unfold Pt at hV'
   rw[hS] at hst hsp hsv hV'
   rw[hV] at hst hsv
   have wn:IntKind.i64.wrap (n+V)=n+V:=Aa _ (by omega)
   have wt:IntKind.i64.wrap (((a+j:Nat):Int)+(S:Int))=((a+(j+S):Nat):Int):=by rw[Aa _ (by omega)];omega
   have hlS:(S:Int)<=(l.length:Int):=by omega
   have hdl:l.drop S=c.mark.drop (j+S):=by rw[j3,List.drop_drop]
   have htk:(c.mark.drop (j+S)).take (l.length-S)=c.mark.drop (j+S):=List.take_of_length_le (by rw[List.length_drop];omega)
   by_cases hp:(a+j)%c.tot<c.mark.length
   ·rw[if_pos hp] at hS' hV'
    have hp':(((a+j)%c.tot:Nat):Int)<(c.mark.length:Int):=by omega
    have hmn:min (l.length:Int) (IntKind.i64.wrap ((c.mark.length:Int)-(((a+j)%c.tot:Nat):Int)))=(S:Int):=by rw[Aa _ (by omega)];omega
    have cD:=De c.nm c.nm (l.take S) (c.mark.drop ((a+j)%c.tot)) (Fz hlb S) (Ez hm.2.2 _) (by rw[List.length_take,List.length_drop];omega) (by rw[List.length_take];omega)
    rw[hV'] at cD
    (try (simp -implicitDefEqProofs only[go_sem,BU,w0,hl0,hmod,hne0,hp',hmn,hlS,wn,wt,hdl,htk]));repeat' first|(with_reducible first|exact tI|refine aI ?_ ?_|intro _)|((first|with_reducible refine AN ?_ ?_<;>intro _|(with_reducible refine isCall ?_);first|refine AE cB ?_|refine AE cD ?_)<;>try (simp -implicitDefEqProofs only[go_sem,BU,w0,hl0,hmod,hne0,hp',hmn,hlS,wn,wt,hdl,htk]))|simp (disch:=omega) only[Al]|((with_reducible refine CY ?_);refine⟨(_,_,_,_),rfl,?_,?_⟩)|((with_reducible refine Ab ?_);refine⟨(_,_),rfl,?_,?_⟩)
    all_goals first|omega|(simp;done)|(simp;omega)|skip
    exact⟨(j+S,_,_,_),rfl,⟨by show j+S<=_;omega,rfl,rfl,by show 0<=n+V;omega,by show n+V<=((j+S:Nat):Int);omega,by show n+V+apW c (c.mark.length+1) (a+(j+S)) (c.mark.drop (j+S))=QD c a;rw[←j4,hst];omega⟩,by show c.mark.length-(j+S)<_;omega⟩
   ·rw[if_neg hp] at hS' hV'
    have hp':¬(((a+j)%c.tot:Nat):Int)<(c.mark.length:Int):=by omega
    obtain⟨q,hq⟩:∃q,((a+j)%c.tot-c.mark.length)%c.code.sz=q:=⟨_,rfl⟩
    rw[hq] at hS' hV'
    have hql:q<c.code.sz:=by rw[←hq];exact Nat.mod_lt _ (by omega)
    have wq:IntKind.i64.wrap ((((a+j)%c.tot:Nat):Int)-(c.mark.length:Int))=(((a+j)%c.tot-c.mark.length:Nat):Int):=by rw[Aa _ (by omega)];omega
    have hmq:=Yp ((a+j)%c.tot-c.mark.length) c.code.sz
    rw[hq] at hmq
    have wz:IntKind.i64.wrap ((c.code.sz:Int)-(q:Int))=((c.code.sz-q:Nat):Int):=by rw[Aa _ (by omega)];omega
    have hmn:min (l.length:Int) ((c.code.sz-q:Nat):Int)=(S:Int):=by omega
    have hmn0:∃z,min (l.length:Int) (IntKind.i64.wrap ((c.mark.length:Int)-(((a+j)%c.tot:Nat):Int)))=z:=⟨_,rfl⟩
    obtain⟨z,hz0⟩:=hmn0
    have h28:=ND c.code
    have h16:=OY c.code
    (try (simp -implicitDefEqProofs only[go_sem,BU,w0,hl0,hmod,hne0,hnz0,hp',hz0,wq,hmq,wz,hmn,h28,h16]));repeat' first|(with_reducible first|exact tI|refine aI ?_ ?_|intro _)|((first|with_reducible refine AN ?_ ?_<;>intro _|(with_reducible refine isCall ?_);first|refine AE cB ?_|refine AE cL ?_)<;>try (simp -implicitDefEqProofs only[go_sem,BU,w0,hl0,hmod,hne0,hnz0,hp',hz0,wq,hmq,wz,hmn,h28,h16]))|simp (disch:=omega) only[Al]|((with_reducible refine CY ?_);refine⟨(_,_,_,_),rfl,?_,?_⟩)|((with_reducible refine Ab ?_);refine⟨(_,_),rfl,?_,?_⟩)
    all_goals first|omega|(simp;done)|(simp;omega)|skip
    refine AY (α:=Nat×Int) (l0:=?l2) (m0:=?m2) (fun x=>[(87,.d (.int .i64 (x.1:Int))),(9,.d (.int .i64 x.2))]) (fun x=>[]) (fun x=>x.1<=16/\x.2=Wz c.code l S q x.1) (fun x=>16-x.1) (0,(S:Int)) ?h02 ?he2 ?he22 ?hI2 ?step2
    case h02=>(simp -implicitDefEqProofs only[go_sem];rfl)
    case he2=>rfl
    case he22=>rfl
    case' step2=>(rintro⟨s,b⟩ hI2;try dsimp only at hI2)
    case' hI2=>try dsimp only
    ·exact⟨Nat.zero_le _,rfl⟩
    ·obtain⟨s1,s2⟩:=hI2
     change b=Wz c.code l S q s at s2
     by_cases hs16:s<16
     ·have hs':(s:Int)<16:=by omega
      have hg:=KZ c.code hs16
      have hsl:=FN c.code s
      have hws:IntKind.i64.wrap ((s:Int)+1)=((s+1:Nat):Int):=by rw[Aa _ (by omega)];omega
      have cD:=De c.nm false (l.take S) ((c.code.stm s).drop q) (Fz hlb S) (Ez (NG ..) _) (by rw[List.length_take,List.length_drop,hsl];omega) (by rw[List.length_take];omega)
      have hqs:(q:Int)<=((c.code.stm s).length:Int):=by omega
      obtain⟨dv,hdv⟩:∃dv,CM (l.take S) ((c.code.stm s).drop q)=dv:=⟨_,rfl⟩
      rw[hdv] at cD
      have hmm:min b dv=Wz c.code l S q (s+1):=by rw[s2,←hdv];rfl
      have htk2:((c.code.stm s).drop q).take (c.code.sz-q)=(c.code.stm s).drop q:=List.take_of_length_le (by rw[List.length_drop];omega)
      (try (simp -implicitDefEqProofs only[go_sem,hs',hg,hsl,hws,hlS,hqs,hql,hmm,htk2]));repeat' first|(with_reducible first|exact tI|refine aI ?_ ?_|intro _)|((first|with_reducible refine AN ?_ ?_<;>intro _|(with_reducible refine isCall ?_);first|refine AE cD ?_)<;>try (simp -implicitDefEqProofs only[go_sem,hs',hg,hsl,hws,hlS,hqs,hql,hmm,htk2]))|simp (disch:=omega) only[Al]|((with_reducible refine CY ?_);refine⟨(_,_,_,_),rfl,?_,?_⟩)|((with_reducible refine Ab ?_);refine⟨(_,_),rfl,?_,?_⟩)
      all_goals first|omega|(simp;done)|(simp;omega)|skip
      all_goals skip
     ·have hs':¬(s:Int)<16:=by omega
      have hse:s=16:=by omega
      rw[hse,hV'] at s2
      subst s2
      (try (simp -implicitDefEqProofs only[go_sem,hs',hlS,wn,wt,hdl,htk]));repeat' first|(with_reducible first|exact tI|refine aI ?_ ?_|intro _)|((first|with_reducible refine AN ?_ ?_<;>intro _)<;>try (simp -implicitDefEqProofs only[go_sem,hs',hlS,wn,wt,hdl,htk]))|simp (disch:=omega) only[Al]|((with_reducible refine CY ?_);refine⟨(_,_,_,_),rfl,?_,?_⟩)|((with_reducible refine Ab ?_);refine⟨(_,_),rfl,?_,?_⟩)
      all_goals first|omega|(simp;done)|(simp;omega)|skip
      exact⟨(j+S,_,_,_),rfl,⟨by show j+S<=_;omega,rfl,rfl,by show 0<=n+b;omega,by show n+b<=((j+S:Nat):Int);omega,by show n+b+apW c (c.mark.length+1) (a+(j+S)) (c.mark.drop (j+S))=QD c a;rw[←j4,hst];omega⟩,by show c.mark.length-(j+S)<_;omega⟩
  ·have hl0:¬(0:Int)<(l.length:Int):=by omega
   have hln:l=[]:=List.length_eq_zero_iff.1 (by omega)
   have hap:apW c (c.mark.length+1) (a+j) (c.mark.drop j)=0:=by rw[←j3,hln];simp[apW]
   have:n=QD c a:=by rw[←j4,hap];omega
   subst this
   (try (simp -implicitDefEqProofs only[go_sem,hl0]));repeat' first|(with_reducible first|exact tI|refine aI ?_ ?_|intro _)|((first|with_reducible refine AN ?_ ?_<;>intro _)<;>try (simp -implicitDefEqProofs only[go_sem,hl0]))|simp (disch:=omega) only[Al]|((with_reducible refine CY ?_);refine⟨(_,_,_,_),rfl,?_,?_⟩)|((with_reducible refine Ab ?_);refine⟨(_,_),rfl,?_,?_⟩)
   all_goals first|omega|(simp;done)|(simp;omega)|skip
   all_goals first|rfl|skip
end
end Go.Pw
