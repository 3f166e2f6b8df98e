/- A part of the proof. -/
import Derived.Test.YtibkjeolahobbaaGreatDoorPgChG
import Derived.Test.YtibkjeolahobbaaGreatDoorPgChrN
set_option linter.all false
open Go Go.Pw Go.Proofs
namespace Go.Pw
set_option maxRecDepth 100000
set_option maxHeartbeats 3200000
section
theorem Fd (sy:List (Option Nat)):(O8 sy).length=sy.length:=by simp[O8]
def SJ (sy:List (Option Nat)) (k:Nat):List Int:=(O8 sy).take k++(N1 sy).drop k
theorem YM (sy:List (Option Nat)) (k:Nat):(SJ sy k).length=sy.length:=by
 unfold SJ;rw[List.length_append,List.length_take,List.length_drop,Fd,FV];omega
theorem mX (sy:List (Option Nat)):SJ sy 0=N1 sy:=rfl
theorem iG (sy:List (Option Nat)):SJ sy sy.length=O8 sy:=by
 unfold SJ
 rw[List.take_of_length_le (by rw[Fd];omega),List.drop_eq_nil_of_le (by rw[FV];omega),List.append_nil]
theorem iE (sy:List (Option Nat)) {k:Nat}(h:k<sy.length):(SJ sy k)[k]?.getD 0=RS sy[k]:=by
 unfold SJ
 rw[List.getElem?_append_right (by rw[List.length_take,Fd];omega),List.length_take,Fd,Nat.min_eq_left (by omega),Nat.sub_self,List.getElem?_drop]
 simp[N1,h]
theorem U5 (sy:List (Option Nat)) {k:Nat}(h:k<sy.length):SJ sy (k+1)=(O8 sy).take k++(((sy[k].getD 0:Nat):Int)::(N1 sy).drop (k+1)):=by
 unfold SJ
 rw[List.take_add_one,List.append_assoc]
 congr 1
 simp[O8,h]
theorem U6 (sy:List (Option Nat)) {k:Nat}(h:k<sy.length):SJ sy k=(O8 sy).take k++(RS sy[k]::(N1 sy).drop (k+1)):=by
 unfold SJ
 rw[List.drop_eq_getElem_cons (by rw[FV];exact h)]
 simp[N1]
theorem dM (sy:List (Option Nat)) {k s:Nat}(h:k<sy.length) (hs:sy[k]=some s):SJ sy (k+1)=SJ sy k:=by
 rw[U5 sy h,U6 sy h,hs];rfl
theorem dN (sy:List (Option Nat)) {k:Nat}(h:k<sy.length) (hs:sy[k]=none):(SJ sy k).set k 0=SJ sy (k+1):=by
 rw[U5 sy h,U6 sy h,hs]
 rw[List.set_append_right _ _ (by rw[List.length_take,Fd];omega),List.length_take,Fd,Nat.min_eq_left (by omega),Nat.sub_self];rfl
def Wo (sy:List (Option Nat)) (k:Nat):List Nat:=(List.range k).filter fun i=>(sy[i]?.getD none).isNone
theorem g0 (sy:List (Option Nat)):Wo sy sy.length=fO sy:=rfl
theorem dC (sy:List (Option Nat)) {k s:Nat}(h:k<sy.length) (hs:sy[k]=some s):Wo sy (k+1)=Wo sy k:=by
 unfold Wo;rw[List.range_succ,List.filter_append]
 simp[h,hs]
theorem dD (sy:List (Option Nat)) {k:Nat}(h:k<sy.length) (hs:sy[k]=none):Wo sy (k+1)=Wo sy k++[k]:=by
 unfold Wo;rw[List.range_succ,List.filter_append]
 simp[h,hs]
theorem kz (sy:List (Option Nat)) (k:Nat):(Wo sy k).length<=k:=by
 have:=List.length_filter_le (fun i=>(sy[i]?.getD none).isNone) (List.range k)
 rw[List.length_range] at this;exact this
theorem cu (l:List Nat) (k:Nat):ni l++[(k:Int)]=ni (l++[k]):=by simp[ni]
theorem gt (l:List Nat):(ni l).length=l.length:=by simp[ni]
def _root_.Go.Pw.D.NOK1:D->Prop
 |.list nl xs=>nl=true->xs=[]
 |_=>True
def _root_.Go.Pw.D.NOK:D->Prop
 |.agg cs=>∀c,c∈cs->c.NOK1
 |d=>d.NOK1
theorem gq {w:World}{fb:Nat->Prop}{d:D}{v:Value}(h:A2 w fb d v):d.NOK1:=by
 cases h with
 |nil=>exact fun _=>rfl
 |empty=>exact fun h=>by cases h
 |list=>exact fun h=>by cases h
 |_=>trivial
theorem ko {w:World}{fb:Nat->Prop}{d:D}{v:Value}(h:A2 w fb d v):d.NOK:=by
 cases h with
 |nil=>exact fun _=>rfl
 |empty=>exact fun h=>by cases h
 |list=>exact fun h=>by cases h
 |agg cs vs hl h1 hh =>
  intro c hc
  obtain⟨i,hi⟩:=List.getElem?_of_mem hc
  have hlt:i<vs.size:=by rw[hl];exact(List.getElem?_eq_some_iff.1 hi).1
  exact gq (hh i c _ hi (Array.getElem?_eq_getElem hlt))
 |_=>trivial
theorem X7 {E:Cl}{f:FuncId}{ds:List D}{r:D}(h:(∀d,d∈ds->d.NOK)->CI E f ds r):CI E f ds r:=fun w fb vs hfb hg hl hd =>
 h (fun d hdm=>by
  obtain⟨i,hi⟩:=List.getElem?_of_mem hdm
  have hlt:i<vs.size:=by rw[hl];exact(List.getElem?_eq_some_iff.1 hi).1
  exact ko (hd i d _ hi (Array.getElem?_eq_getElem hlt))) w fb vs hfb hg hl hd
theorem jH {c:AX}(h:(Fj c).NOK) (hm:1<=c.mark.length):c.nm=false:=by
 have h1:=h (.list c.nm (Aj c.mark)) (by simp[Vf])
 cases hn:c.nm with
 |false=>rfl
 |true =>
  have h2:Aj c.mark=[]:=h1 hn
  have h3:=congrArg List.length h2
  rw[B5] at h3
  change c.mark.length=0 at h3
  omega
theorem iA {nl:Bool}{xs:List Int}(h:(D.list nl (Aj xs)).NOK):nl=true->xs=[]:=fun hn=>by
 have h2:Aj xs=[]:=h hn
 have h3:=congrArg List.length h2
 rw[B5] at h3
 exact List.length_eq_zero_iff.1 (by simpa using h3)
theorem Pg {c:AX}(h:Cx c.L c.P c.Q=true) {d:List Int}(he:spE c.L c.P c.Q d=0):(UL c.L c.P c.Q d).length=c.syms:=by
 unfold spE at he
 rw[if_pos h] at he
 have hs:CN d (c.Q*(c.L-c.P))=true:=by
  cases hs:CN d (c.Q*(c.L-c.P)) with
  |true=>rfl
  |false=>rw[hs] at he;simp at he
 unfold UL
 rw[if_pos h,if_pos hs,Kp,Xy]
 have h2:=a6 h
 have h3:=Pe h
 have:((c.L.toNat * c.Q.toNat:Nat):Int)=c.Q*c.L:=by push_cast;rw[Int.toNat_of_nonneg (by omega),Int.toNat_of_nonneg (by omega),Int.mul_comm]
 omega
theorem Xd (c:AX) (X:List Int) {k:Nat}(h:k<X.length):c.flat (X.take k)++c.code.stm (X[k]?.getD 0).toNat=c.flat (X.take (k+1)):=by
 rw[List.take_add_one,List.getElem?_eq_getElem h]
 unfold AX.flat
 rw[List.flatMap_append]
 simp
attribute [local congr] Bh A7 A8 Au Bi Az A1 A0 Ar Ai Ab AZ Aw Ad Ax BF BJ BH BI BG BK BC Ag Ay Ah BA BS Af BD BE BB A_ A' A6 Bj A9 Av Ae
attribute [local irreducible] IntKind.wrap A5 Option.getD and or
theorem MC (nl:Bool) (xs:List Int) (hl:xs.length<=1000) (hne:0<xs.length) (hnl:nl=false):H9 E0 Fn [] [.d (.list nl (Aj xs))] [(7,1,.row 3 1 false (Aj xs))] (.own 7 1):=by
 subst hnl
 refine Da IE Aq (by simp) (by simp[PM,CO,EL]) (by simp[Eu]) fun hwf hwo=>?_
 rw[ED];unfold FH
 have hn:¬xs=[]:=by intro h;rw[h] at hne;simp at hne
 (try (simp -implicitDefEqProofs only[go_sem,hn]));repeat' first|(with_reducible first|exact tI|refine aI ?_ ?_|intro _)|((first|with_reducible refine AM ?_ ?_<;>intro _)<;>try (simp -implicitDefEqProofs only[go_sem,hn]))|simp (disch:=omega) only[An]
 all_goals first|omega|rfl
theorem HU (c:AX) (hk:G6 c) (sy:List (Option Nat)) (hl:sy.length=c.syms) :
  CI E0 FB [.ptr (Rk c (Fx c.code)),.list false (Aj (N1 sy))] (.tup [.list (af c sy).isEmpty (Aj (af c sy)),.int .i64 (Zg c sy)]):=by
 have hs:=hk.syms
 have hsl:=FV sy
 have cC:=MC false (N1 sy) (by omega) (by omega) rfl
 have h0l:(SJ sy 0).length=sy.length:=YM sy 0
 refine AK G4 Aq (by simp) fun hwf=>?_
 rw[AW];unfold Eb
 (try (simp -implicitDefEqProofs only[go_sem]));repeat' first|(with_reducible first|exact tI|refine aI ?_ ?_|intro _)|((first|with_reducible refine AM ?_ ?_<;>intro _|(with_reducible refine isCall ?_);first|(refine Ex ([]) ([((7,1),(11,0))]) (cC) (by repeat' first|exact True.intro|exact rfl|refine And.intro ?_ ?_) (by simp[Handed,Df.get,Aa.ren,AV.ren,AV.ren.renL,AJ.get,BW,B6,Dv,AJ.reach,AV.sites,AV.sites.sitesL,AJ.osites]) (by simp[CL,Eu,CO,Df.get,Dv,EL,CF]) (by rfl) (by simp only[Dw,Df.get,Aa.ren,AV.ren,AV.ren.renL,and_self,and_true,true_and,if_true,reduceIte];rfl) ?_))<;>try (simp -implicitDefEqProofs only[go_sem]))|simp (disch:=omega) only[An]|((with_reducible refine Am ?_);refine⟨(_,_),rfl,?_,?_⟩)
 all_goals first|omega|(simp;done)|(simp;omega)|skip
 rw[←mX]
 refine AY (α:=Nat×Bool) (l0:=?l1) (m0:=?m1) (fun x=>[(14,.d (.int .i64 (x.1:Int)))]) (fun x=>[(11,.row 3 1 false (Aj (SJ sy x.1))),(24,.row 3 1 x.2 (Aj (ni (Wo sy x.1))))]) (fun x=>x.1<=sy.length/\x.2=(Wo sy x.1).isEmpty) (fun x=>sy.length-x.1) (0,true) ?h01 ?he1 ?he21 ?hI1 ?step1
 case h01=>(simp -implicitDefEqProofs only[go_sem];rfl)
 case he1=>rfl
 case he21=>rfl
 case' step1=>(rintro⟨k,e⟩ hI;try dsimp only at hI)
 case' hI1=>try dsimp only
 ·exact⟨Nat.zero_le _,rfl⟩
 ·obtain⟨k1,k2⟩:=hI
  change e=(Wo sy k).isEmpty at k2
  have hkl:=YM sy k
  by_cases hks:k<sy.length
  ·have hk':(k:Int)<(sy.length:Int):=by omega
   have hg:=iE sy hks
   have hwk:IntKind.i64.wrap ((k:Int)+1)=((k+1:Nat):Int):=by rw[Ak _ (by omega)];omega
   have hmk:=kz sy k
   have hml:=gt (Wo sy k)
   cases hsy:sy[k] with
   |none =>
    rw[hsy] at hg
    change (SJ sy k)[k]?.getD 0=-1 at hg
    have h1:=dN sy hks hsy
    have h2:=dD sy hks hsy
    have h3:=cu (Wo sy k) k
    have h4:false=(Wo sy k++[k]).isEmpty:=by cases Wo sy k<;>rfl
    (try (simp -implicitDefEqProofs only[go_sem,hk',hks,hg,hwk,hkl,hml,h1,h3]));repeat' first|(with_reducible first|exact tI|refine aI ?_ ?_|intro _)|((first|with_reducible refine AM ?_ ?_<;>intro _)<;>try (simp -implicitDefEqProofs only[go_sem,hk',hks,hg,hwk,hkl,hml,h1,h3]))|simp (disch:=omega) only[An]|((with_reducible refine Am ?_);refine⟨(_,_),rfl,?_,?_⟩)
    all_goals first|omega|(simp;done)|(simp;omega)|skip
    rw[←h2] at h4 ⊢
    exact⟨(k+1,false),rfl,⟨by show k+1<=sy.length;omega,h4⟩,by show sy.length-(k+1)<sy.length-k;omega⟩
   |some s =>
    rw[hsy] at hg
    change (SJ sy k)[k]?.getD 0=(s:Int) at hg
    have hne:¬(s:Int)=-1:=by omega
    have h1:=dM sy hks hsy
    have h2:=dC sy hks hsy
    (try (simp -implicitDefEqProofs only[go_sem,hk',hks,hg,hwk,hkl,hml,hne]));repeat' first|(with_reducible first|exact tI|refine aI ?_ ?_|intro _)|((first|with_reducible refine AM ?_ ?_<;>intro _)<;>try (simp -implicitDefEqProofs only[go_sem,hk',hks,hg,hwk,hkl,hml,hne]))|simp (disch:=omega) only[An]|((with_reducible refine Am ?_);refine⟨(_,_),rfl,?_,?_⟩)
    all_goals first|omega|(simp;done)|(simp;omega)|skip
    rw[←h2] at k2 ⊢
    rw[←h1]
    exact⟨(k+1,e),rfl,⟨by show k+1<=sy.length;omega,k2⟩,by show sy.length-(k+1)<sy.length-k;omega⟩
  ·have hke:k=sy.length:=by omega
   subst hke
   have hk':¬(sy.length:Int)<((SJ sy 0).length:Int):=by omega
   have hkn:=Fd sy
   have c1:=GY c (Fx c.code) false (O8 sy) hk.seed (by omega) (by omega)
   have c2:=Mf c.L c.P c.Q false e (Db c.seed (O8 sy)) (ni (fO sy)) (by rw[EW];omega)
   have h1:=iG sy
   have h2:=g0 sy
   unfold af Zg
   (try (simp -implicitDefEqProofs only[go_sem,BU,hk',h1,h2]));repeat' first|(with_reducible first|exact tI|refine aI ?_ ?_|intro _)|((first|with_reducible refine AM ?_ ?_<;>intro _|(with_reducible refine isCall ?_);first|refine AE c1 ?_|refine AE c2 ?_)<;>try (simp -implicitDefEqProofs only[go_sem,BU,hk',h1,h2]))|simp (disch:=omega) only[An]|((with_reducible refine Am ?_);refine⟨(_,_),rfl,?_,?_⟩)
   all_goals first|rfl|skip
theorem H4 (c:AX) (nl:Bool) (d:List Int):CI E0 J_ [Fj c,.list nl (Aj d)] (.tup [.list (ap c d).isEmpty (Aj (ap c d)),.int .i64 (lw c d)]):=by
 refine X7 fun hnok=>?_
 have c1:=Eh c
 obtain⟨r,hr⟩:∃r,fN c=r:=⟨_,rfl⟩
 rw[hr] at c1
 refine AK Nb Aq (by simp) fun hwf=>?_
 rw[AW];unfold Iu
 unfold ap lw
 rcases hok:c.ok with _|_
 ·have:=H_ hok
  rw[hr] at this
  rw[this.1,this.2] at c1
  simp only[Bool.false_eq_true,if_false]
  (try (simp -implicitDefEqProofs only[go_sem,AO,AN]));repeat' first|(with_reducible first|exact tI|refine aI ?_ ?_|intro _)|((first|with_reducible refine AM ?_ ?_<;>intro _|(with_reducible refine isCall ?_);first|refine AE c1 ?_)<;>try (simp -implicitDefEqProofs only[go_sem,AO,AN]))|simp (disch:=omega) only[An]|((with_reducible refine Ao ?_);refine⟨_,rfl,?_,?_⟩)
  all_goals first|rfl|skip
 ·have:=JN hok
  have hk:=FD hok
  have hm:=hk.markl
  have hs:=hk.syms
  have hnm:=jH (hnok _ (by simp)) hm.1
  rw[hr] at this
  rw[this.1,this.2] at c1
  have c2:=Me c.L c.P c.Q nl d
  simp only[if_true]
  by_cases hsp:spE c.L c.P c.Q d=0
  ·have hbl:=Pg hk.wev hsp
   rw[hsp] at c2 ⊢
   simp only[if_true]
   unfold JL
   obtain⟨B,hB⟩:∃B,UL c.L c.P c.Q d=B:=⟨_,rfl⟩
   rw[hB] at c2 hbl ⊢
   have hBe:B.isEmpty=false:=GA fun e=>by rw[e] at hbl;simp at hbl;omega
   rw[hBe] at c2
   have c3:=GY c (Fx c.code) false B hk.seed (by omega) (by omega)
   have hX:=KV B c.seed
   have hXl:=EW B c.seed
   obtain⟨X,hXe⟩:∃X,Db c.seed B=X:=⟨_,rfl⟩
   rw[hXe] at c3 hX hXl ⊢
   have cM:=MC c.nm c.mark (by omega) (by omega) hnm
   have hne:(c.mark++c.flat X).isEmpty=false:=GA fun e=>by have:=congrArg List.length e;simp at this;rw[this.1] at hm;simp at hm
   rw[hne]
   (try (simp -implicitDefEqProofs only[go_sem,AO,AN,BU]));repeat' first|(with_reducible first|exact tI|refine aI ?_ ?_|intro _)|((first|with_reducible refine AM ?_ ?_<;>intro _|(with_reducible refine isCall ?_);first|refine AE c1 ?_|refine AE c2 ?_|refine AE c3 ?_|(refine Ex ([]) ([((7,1),(37,0))]) (cM) (by repeat' first|exact True.intro|exact rfl|refine And.intro ?_ ?_) (by simp[Handed,Df.get,Aa.ren,AV.ren,AV.ren.renL,AJ.get,BW,B6,Dv,AJ.reach,AV.sites,AV.sites.sitesL,AJ.osites]) (by simp[CL,Eu,CO,Df.get,Dv,EL,CF]) (by rfl) (by simp only[Dw,Df.get,Aa.ren,AV.ren,AV.ren.renL,and_self,and_true,true_and,if_true,reduceIte];rfl) ?_))<;>try (simp -implicitDefEqProofs only[go_sem,AO,AN,BU]))|simp (disch:=omega) only[An]|((with_reducible refine Ao ?_);refine⟨_,rfl,?_,?_⟩)
   all_goals first|omega|(simp;done)|(simp;omega)|skip
   have hf0:c.mark=c.mark++c.flat (X.take 0):=by simp[AX.flat]
   rw[show Aj c.mark=Aj (c.mark++c.flat (X.take 0)) from congrArg Aj hf0]
   refine AY (α:=Nat) (l0:=?l2) (m0:=?m2) (fun x=>[(42,.d (.int .i64 (x:Int)))]) (fun x=>[(37,.row 3 1 false (Aj (c.mark++c.flat (X.take x))))]) (fun x=>x<=X.length) (fun x=>X.length-x) 0 ?h02 ?he2 ?he22 ?hI2 ?step2
   case h02=>(simp -implicitDefEqProofs only[go_sem];rfl)
   case he2=>rfl
   case he22=>rfl
   case' step2=>(rintro k hI;try dsimp only at hI)
   case' hI2=>try dsimp only
   ·exact Nat.zero_le _
   ·by_cases hks:k<X.length
    ·have hk':(k:Int)<(X.length:Int):=by omega
     have hwk:IntKind.i64.wrap ((k:Int)+1)=((k+1:Nat):Int):=by rw[Ak _ (by omega)];omega
     have hxm:=hX _ (EC hks)
     have hst:=Xd c X hks
     obtain⟨x,hx⟩:∃x,X[k]?.getD 0=x:=⟨_,rfl⟩
     rw[hx] at hxm hst
     have hg:=P6 c.code (s:=x.toNat) (by omega)
     have hx0:0<=x:=hxm.1
     have hx1:x<16:=by omega
     have hz:=HB hk.code
     have hsl:=LU c.code x.toNat
     have hfl:(c.flat (X.take k)).length<=32*20:=by rw[Ol,List.length_take];exact Nat.mul_le_mul (by omega) hz.2
     have hne0:=WG hk.code x.toNat
     (try (simp -implicitDefEqProofs only[go_sem,BU,hk',hks,hwk,hx,hx0,hx1,QY,hg,hsl]));repeat' first|(with_reducible first|exact tI|refine aI ?_ ?_|intro _)|((first|with_reducible refine AM ?_ ?_<;>intro _)<;>try (simp -implicitDefEqProofs only[go_sem,BU,hk',hks,hwk,hx,hx0,hx1,QY,hg,hsl]))|simp (disch:=omega) only[An]|((with_reducible refine Ao ?_);refine⟨_,rfl,?_,?_⟩)
     all_goals first|omega|(simp;done)|(simp;omega)|skip
     rw[List.append_assoc c.mark,hst]
     exact⟨k+1,rfl,hks,by omega⟩
    ·have hk':¬(k:Int)<(X.length:Int):=by omega
     have htk:X.take k=X:=List.take_of_length_le (by omega)
     rw[htk]
     (try (simp -implicitDefEqProofs only[go_sem,hk']));repeat' first|(with_reducible first|exact tI|refine aI ?_ ?_|intro _)|((first|with_reducible refine AM ?_ ?_<;>intro _)<;>try (simp -implicitDefEqProofs only[go_sem,hk']))|simp (disch:=omega) only[An]|((with_reducible refine Ao ?_);refine⟨_,rfl,?_,?_⟩)
     all_goals first|omega|(simp;done)|(simp;omega)|skip
     all_goals first|rfl|skip
  ·rw[if_neg hsp,if_neg hsp]
   obtain⟨B,hB⟩:∃B,UL c.L c.P c.Q d=B:=⟨_,rfl⟩
   rw[hB] at c2
   (try (simp -implicitDefEqProofs only[go_sem,AO,AN,BU,hsp]));repeat' first|(with_reducible first|exact tI|refine aI ?_ ?_|intro _)|((first|with_reducible refine AM ?_ ?_<;>intro _|(with_reducible refine isCall ?_);first|refine AE c1 ?_|refine AE c2 ?_)<;>try (simp -implicitDefEqProofs only[go_sem,AO,AN,BU,hsp]))|simp (disch:=omega) only[An]|((with_reducible refine Ao ?_);refine⟨_,rfl,?_,?_⟩)
   all_goals first|rfl|skip
noncomputable def gT (c:AX) (bits:List Int):D:=.tup [.list (X9 c bits).isEmpty (Aj (X9 c bits)),.int .i64 (cK c bits),.int .i64 (cH c bits)]
theorem me {c:AX}{sy:List (Option Nat)}(h:¬Zg c sy=0):af c sy=[]:=by
 unfold Zg mf at h
 unfold af lx
 split
 ·rename_i h1
  rw[if_pos h1] at h
  split
  ·rename_i h2
   rw[if_pos h2] at h
   split
   ·rename_i h3
    rw[if_pos h3] at h
    cases hg:dp c.L.toNat c.P.toNat c.Q.toNat (fs (Db c.seed (O8 sy))) (nt (ni (fO sy))) with
    |none=>rfl
    |some r=>rw[hg] at h;exact absurd rfl h
   ·rfl
  ·rfl
 ·rfl
theorem Oj (c:AX) (nl:Bool) (bits:List Int):CI E0 LN [Fj c,.list nl (Aj bits)] (gT c bits):=by
 refine X7 fun hnok=>?_
 have hnb:=iA (hnok (.list nl (Aj bits)) (by simp))
 have c1:=Eh c
 obtain⟨r,hr⟩:∃r,fN c=r:=⟨_,rfl⟩
 rw[hr] at c1
 refine AK Od Aq (by simp) fun hwf=>?_
 rw[AW];unfold Ju gT X9 cK cH
 rcases hok:c.ok with _|_
 ·have:=H_ hok
  rw[hr] at this
  rw[this.1,this.2] at c1
  simp only[Bool.false_eq_true,if_false]
  (try (simp -implicitDefEqProofs only[go_sem,AO,AN]));repeat' first|(with_reducible first|exact tI|refine aI ?_ ?_|intro _)|((first|with_reducible refine AM ?_ ?_<;>intro _|(with_reducible refine isCall ?_);first|refine AE c1 ?_)<;>try (simp -implicitDefEqProofs only[go_sem,AO,AN]))|simp (disch:=omega) only[An]
  all_goals first|rfl|skip
 ·have:=JN hok
  have hk:=FD hok
  rw[hr] at this
  rw[this.1,this.2] at c1
  have c2:=Gv nl bits
  simp only[if_true]
  cases hb:Gh bits with
  |false =>
   rw[hb] at c2
   simp only[Bool.false_eq_true,if_false]
   (try (simp -implicitDefEqProofs only[go_sem,AO,AN]));repeat' first|(with_reducible first|exact tI|refine aI ?_ ?_|intro _)|((first|with_reducible refine AM ?_ ?_<;>intro _|(with_reducible refine isCall ?_);first|refine AE c1 ?_|refine AE c2 ?_)<;>try (simp -implicitDefEqProofs only[go_sem,AO,AN]))|simp (disch:=omega) only[An]
   all_goals first|rfl|skip
  |true =>
   rw[hb] at c2
   simp only[if_true]
   have c3:=I3 c hk nl bits hb hnb
   unfold H3 at c3
   cases hf:c.find bits with
   |none =>
    rw[hf] at c3
    simp only at c3 ⊢
    (try (simp -implicitDefEqProofs only[go_sem,AO,AN]));repeat' first|(with_reducible first|exact tI|refine aI ?_ ?_|intro _)|((first|with_reducible refine AM ?_ ?_<;>intro _|(with_reducible refine isCall ?_);first|refine AE c1 ?_|refine AE c2 ?_|refine AE c3 ?_)<;>try (simp -implicitDefEqProofs only[go_sem,AO,AN]))|simp (disch:=omega) only[An]
    all_goals first|rfl|skip
   |some a =>
    rw[hf] at c3
    simp only at c3 ⊢
    have c4:=HU c hk (c.syL bits a) (LT c bits a)
    by_cases he:Zg c (c.syL bits a)=0
    ·rw[he] at c4 ⊢
     simp only[if_true]
     (try (simp -implicitDefEqProofs only[go_sem,AO,AN]));repeat' first|(with_reducible first|exact tI|refine aI ?_ ?_|intro _)|((first|with_reducible refine AM ?_ ?_<;>intro _|(with_reducible refine isCall ?_);first|refine AE c1 ?_|refine AE c2 ?_|refine AE c3 ?_|refine AE c4 ?_)<;>try (simp -implicitDefEqProofs only[go_sem,AO,AN]))|simp (disch:=omega) only[An]
     all_goals first|rfl|skip
    ·rw[if_neg he]
     have hl:=me he
     rw[hl] at c4 ⊢
     (try (simp -implicitDefEqProofs only[go_sem,AO,AN,he]));repeat' first|(with_reducible first|exact tI|refine aI ?_ ?_|intro _)|((first|with_reducible refine AM ?_ ?_<;>intro _|(with_reducible refine isCall ?_);first|refine AE c1 ?_|refine AE c2 ?_|refine AE c3 ?_|refine AE c4 ?_)<;>try (simp -implicitDefEqProofs only[go_sem,AO,AN,he]))|simp (disch:=omega) only[An]
     all_goals first|rfl|skip
end
section
def hZ (c:AU) (rest:List Int) (part q:Nat):Nat->Int
 |0=>(part:Int)
 |s+1=>min (hZ c rest part q s) (Ce (rest.take part) ((c.stm s).drop q))
theorem dG (c:AU) (rest:List Int) (part q:Nat):∀m,0<=hZ c rest part q m/\hZ c rest part q m<=part
 |0=>⟨by simp[hZ],Int.le_refl _⟩
 |m+1=>by
  have ih:=dG c rest part q m
  have:=MS (rest.take part) ((c.stm m).drop q)
  simp only[hZ];omega
def KR (c:AX) (at_:Nat) (rest:List Int):Nat:=if at_%c.tot<c.mark.length then min rest.length (c.mark.length-at_%c.tot) else min rest.length (c.code.sz-(at_%c.tot-c.mark.length)%c.code.sz)
def Ud (c:AX) (at_:Nat) (rest:List Int):Int:=if at_%c.tot<c.mark.length then Ce (rest.take (KR c at_ rest)) (c.mark.drop (at_%c.tot)) else hZ c.code rest (KR c at_ rest) ((at_%c.tot-c.mark.length)%c.code.sz) 16
def apW (c:AX):Nat->Nat->List Int->Int
 |0,_,_=>0
 |n+1,at_,rest=>if rest=[] then 0 else Ud c at_ rest+apW c n (at_+KR c at_ rest) (rest.drop (KR c at_ rest))
def Vs (c:AX) (at_:Nat):Int:=apW c (c.mark.length+1) at_ c.mark
theorem QD {c:AX}(hk:G6 c) (at_:Nat) {rest:List Int}(h:rest≠[]):1<=KR c at_ rest/\KR c at_ rest<=rest.length:=by
 have h1:0<rest.length:=List.length_pos_iff.2 h
 have hz:=HB hk.code
 have:=Nat.mod_lt (at_%c.tot-c.mark.length) (show 0<c.code.sz by omega)
 unfold KR
 split<;>omega
theorem gG (c:AX) (at_:Nat) (rest:List Int):0<=Ud c at_ rest/\Ud c at_ rest<=KR c at_ rest:=by
 unfold Ud
 split
 ·have:=MS (rest.take (KR c at_ rest)) (c.mark.drop (at_%c.tot))
  have h2:(rest.take (KR c at_ rest)).length<=KR c at_ rest:=by rw[List.length_take];omega
  omega
 ·exact dG ..
theorem Vr {c:AX}(hk:G6 c):∀(n m at_:Nat) (rest:List Int),rest.length<n->rest.length<m->apW c n at_ rest=apW c m at_ rest
 |0,_,_,_,h,_=>by omega
 |_,0,_,_,_,h=>by omega
 |n+1,m+1,at_,rest,h1,h2=>by
  unfold apW
  by_cases hr:rest=[]
  ·rw[if_pos hr,if_pos hr]
  ·rw[if_neg hr,if_neg hr]
   have:=QD hk at_ hr
   rw[Vr hk n m _ _ (by rw[List.length_drop];omega) (by rw[List.length_drop];omega)]
theorem e9 {c:AX}(hk:G6 c) {a j:Nat}(h:j<c.mark.length) (hj:c.mark.drop j≠[]) :
  apW c (c.mark.length+1) (a+j) (c.mark.drop j)=Ud c (a+j) (c.mark.drop j)+apW c (c.mark.length+1) (a+(j+KR c (a+j) (c.mark.drop j))) (c.mark.drop (j+KR c (a+j) (c.mark.drop j))):=by
 rw[show apW c (c.mark.length+1) (a+j) (c.mark.drop j)=Ud c (a+j) (c.mark.drop j)+apW c c.mark.length (a+j+KR c (a+j) (c.mark.drop j)) ((c.mark.drop j).drop (KR c (a+j) (c.mark.drop j))) from by
  conv=>lhs;unfold apW
  rw[if_neg hj]]
 have hp:=QD hk (a+j) hj
 rw[List.drop_drop,Nat.add_assoc]
 congr 1
 exact Vr hk _ _ _ _ (by rw[List.length_drop];omega) (by rw[List.length_drop];omega)
theorem Xr (a b:Nat):((a:Int)).tmod (b:Int)=((a%b:Nat):Int):=by
 rw[Int.tmod_eq_emod_of_nonneg (by omega)];rfl
attribute [local congr] Bh A7 A8 Au Bi Az A1 A0 Ar Ai Ab AZ Aw Ad Ax BF BJ BH BI BG BK BC Ag Ay Ah BA BS Af BD BE BB A_ A' A6 Bj A9 Av Ae
attribute [local irreducible] IntKind.wrap A5 Option.getD and or
theorem No (c:AX) (hk:G6 c) (a:Nat) (ha:a<=2000):CI E0 FS [.ptr (Rk c (Fx c.code)),.int .i64 (a:Int)] (.int .i64 (Vs c a)):=by
 have hm:=hk.markl
 have hs:=hk.syms
 have ht:=hk.tot
 have hz:=HB hk.code
 have cB:=GD c hk.wev hk.code
 have cL:=GC c
 have w0:IntKind.i64.wrap ((c.mark.length:Int)+((c.syms*c.code.sz:Nat):Int))=((c.tot:Nat):Int):=by rw[Ak _ (by omega)];unfold AX.tot;omega
 have ht1:c.mark.length<c.tot:=by
  have:2*2<=c.syms*c.code.sz:=Nat.mul_le_mul hs.1 hz.1
  unfold AX.tot;omega
 have hne0:¬((c.tot:Nat):Int)=0:=by omega
 have hnz0:¬((c.code.sz:Nat):Int)=0:=by omega
 refine AK Hl Aq (by simp) fun hwf=>?_
 rw[AW];unfold E5
 (try (simp -implicitDefEqProofs only[go_sem,BU,w0]));repeat' first|(with_reducible first|exact tI|refine aI ?_ ?_|intro _)|((first|with_reducible refine AM ?_ ?_<;>intro _|(with_reducible refine isCall ?_);first|refine AE cB ?_)<;>try (simp -implicitDefEqProofs only[go_sem,BU,w0]))|simp (disch:=omega) only[An]|((with_reducible refine CW ?_);refine⟨(_,_,_,_),rfl,?_,?_⟩)|((with_reducible refine Am ?_);refine⟨(_,_),rfl,?_,?_⟩)
 all_goals first|omega|(simp;done)|(simp;omega)|skip
 have hd0:c.mark=c.mark.drop 0:=rfl
 refine AY (α:=Nat×Int×Int×(List Int)) (l0:=?l1) (m0:=?m1) (fun x=>[(1,.d (.int .i64 x.2.1)),(4,.d (.int .i64 x.2.2.1)),(6,.d (.list c.nm (Aj x.2.2.2)))]) (fun x=>[]) (fun x=>x.1<=c.mark.length/\x.2.1=((a+x.1:Nat):Int)/\x.2.2.2=c.mark.drop x.1/\0<=x.2.2.1/\x.2.2.1<=x.1/\x.2.2.1+apW c (c.mark.length+1) (a+x.1) (c.mark.drop x.1)=Vs c a) (fun x=>c.mark.length-x.1) (0,(a:Int),0,c.mark) ?h01 ?he1 ?he21 ?hI1 ?step1
 case h01=>(simp -implicitDefEqProofs only[go_sem];rfl)
 case he1=>rfl
 case he21=>rfl
 case' step1=>(rintro⟨j,t,n,l⟩ hI;try dsimp only at hI)
 case' hI1=>try dsimp only
 ·exact⟨Nat.zero_le _,by simp,rfl,Int.le_refl _,by simp,by simp[Vs]⟩
 ·obtain⟨j1,j2,j3,n0,n1,j4⟩:=hI
  change t=((a+j:Nat):Int) at j2
  change l=c.mark.drop j at j3
  subst j2
  have hll:l.length=c.mark.length-j:=by rw[j3,List.length_drop]
  by_cases hj:j<c.mark.length
  ·have hl0:(0:Int)<(l.length:Int):=by omega
   have hlne:l≠[]:=fun e=>by rw[e] at hll;simp at hll;omega
   have hst:=e9 hk (a:=a) hj (by rw[←j3];exact hlne)
   have hsp:=QD hk (a+j) hlne
   have hsv:=gG c (a+j) l
   rw[←j3] at hst j4
   have hmod:=Xr (a+j) c.tot
   have hpt:=Nat.mod_lt (a+j) (show 0<c.tot by omega)
   have hlb:Ap l=true:=by rw[j3];exact Ei hm.2.2 j
   obtain⟨S,hS⟩:∃S,KR c (a+j) l=S:=⟨_,rfl⟩
   obtain⟨V,hV⟩:∃V,Ud c (a+j) l=V:=⟨_,rfl⟩
   have hS':=hS
   have hV':=hV
   unfold KR at hS'
   unfold Ud at hV'
   rw[hS] at hst hsp hsv hV'
   rw[hV] at hst hsv
   have wn:IntKind.i64.wrap (n+V)=n+V:=Ak _ (by omega)
   have wt:IntKind.i64.wrap (((a+j:Nat):Int)+(S:Int))=((a+(j+S):Nat):Int):=by rw[Ak _ (by omega)];omega
   have hlS:(S:Int)<=(l.length:Int):=by omega
   have hdl:l.drop S=c.mark.drop (j+S):=by rw[j3,List.drop_drop]
   have htk:(c.mark.drop (j+S)).take (l.length-S)=c.mark.drop (j+S):=List.take_of_length_le (by rw[List.length_drop];omega)
   by_cases hp:(a+j)%c.tot<c.mark.length
   ·rw[if_pos hp] at hS' hV'
    have hp':(((a+j)%c.tot:Nat):Int)<(c.mark.length:Int):=by omega
    have hmn:min (l.length:Int) (IntKind.i64.wrap ((c.mark.length:Int)-(((a+j)%c.tot:Nat):Int)))=(S:Int):=by rw[Ak _ (by omega)];omega
    have cD:=Ed c.nm c.nm (l.take S) (c.mark.drop ((a+j)%c.tot)) (Fl hlb S) (Ei hm.2.2 _) (by rw[List.length_take,List.length_drop];omega) (by rw[List.length_take];omega)
    rw[hV'] at cD
    (try (simp -implicitDefEqProofs only[go_sem,BU,w0,hl0,hmod,hne0,hp',hmn,hlS,wn,wt,hdl,htk]));repeat' first|(with_reducible first|exact tI|refine aI ?_ ?_|intro _)|((first|with_reducible refine AM ?_ ?_<;>intro _|(with_reducible refine isCall ?_);first|refine AE cB ?_|refine AE cD ?_)<;>try (simp -implicitDefEqProofs only[go_sem,BU,w0,hl0,hmod,hne0,hp',hmn,hlS,wn,wt,hdl,htk]))|simp (disch:=omega) only[An]|((with_reducible refine CW ?_);refine⟨(_,_,_,_),rfl,?_,?_⟩)|((with_reducible refine Am ?_);refine⟨(_,_),rfl,?_,?_⟩)
    all_goals first|omega|(simp;done)|(simp;omega)|skip
    exact⟨(j+S,_,_,_),rfl,⟨by show j+S<=_;omega,rfl,rfl,by show 0<=n+V;omega,by show n+V<=((j+S:Nat):Int);omega,by show n+V+apW c (c.mark.length+1) (a+(j+S)) (c.mark.drop (j+S))=Vs c a;rw[←j4,hst];omega⟩,by show c.mark.length-(j+S)<_;omega⟩
   ·rw[if_neg hp] at hS' hV'
    have hp':¬(((a+j)%c.tot:Nat):Int)<(c.mark.length:Int):=by omega
    obtain⟨q,hq⟩:∃q,((a+j)%c.tot-c.mark.length)%c.code.sz=q:=⟨_,rfl⟩
    rw[hq] at hS' hV'
    have hql:q<c.code.sz:=by rw[←hq];exact Nat.mod_lt _ (by omega)
    have wq:IntKind.i64.wrap ((((a+j)%c.tot:Nat):Int)-(c.mark.length:Int))=(((a+j)%c.tot-c.mark.length:Nat):Int):=by rw[Ak _ (by omega)];omega
    have hmq:=Xr ((a+j)%c.tot-c.mark.length) c.code.sz
    rw[hq] at hmq
    have wz:IntKind.i64.wrap ((c.code.sz:Int)-(q:Int))=((c.code.sz-q:Nat):Int):=by rw[Ak _ (by omega)];omega
    have hmn:min (l.length:Int) ((c.code.sz-q:Nat):Int)=(S:Int):=by omega
    have hmn0:∃z,min (l.length:Int) (IntKind.i64.wrap ((c.mark.length:Int)-(((a+j)%c.tot:Nat):Int)))=z:=⟨_,rfl⟩
    obtain⟨z,hz0⟩:=hmn0
    have h28:=P5 c.code
    have h16:=Ru c.code
    (try (simp -implicitDefEqProofs only[go_sem,BU,w0,hl0,hmod,hne0,hnz0,hp',hz0,wq,hmq,wz,hmn,h28,h16]));repeat' first|(with_reducible first|exact tI|refine aI ?_ ?_|intro _)|((first|with_reducible refine AM ?_ ?_<;>intro _|(with_reducible refine isCall ?_);first|refine AE cB ?_|refine AE cL ?_)<;>try (simp -implicitDefEqProofs only[go_sem,BU,w0,hl0,hmod,hne0,hnz0,hp',hz0,wq,hmq,wz,hmn,h28,h16]))|simp (disch:=omega) only[An]|((with_reducible refine CW ?_);refine⟨(_,_,_,_),rfl,?_,?_⟩)|((with_reducible refine Am ?_);refine⟨(_,_),rfl,?_,?_⟩)
    all_goals first|omega|(simp;done)|(simp;omega)|skip
    refine AY (α:=Nat×Int) (l0:=?l2) (m0:=?m2) (fun x=>[(87,.d (.int .i64 (x.1:Int))),(9,.d (.int .i64 x.2))]) (fun x=>[]) (fun x=>x.1<=16/\x.2=hZ c.code l S q x.1) (fun x=>16-x.1) (0,(S:Int)) ?h02 ?he2 ?he22 ?hI2 ?step2
    case h02=>(simp -implicitDefEqProofs only[go_sem];rfl)
    case he2=>rfl
    case he22=>rfl
    case' step2=>(rintro⟨s,b⟩ hI2;try dsimp only at hI2)
    case' hI2=>try dsimp only
    ·exact⟨Nat.zero_le _,rfl⟩
    ·obtain⟨s1,s2⟩:=hI2
     change b=hZ c.code l S q s at s2
     by_cases hs16:s<16
     ·have hs':(s:Int)<16:=by omega
      have hg:=P6 c.code hs16
      have hsl:=LU c.code s
      have hws:IntKind.i64.wrap ((s:Int)+1)=((s+1:Nat):Int):=by rw[Ak _ (by omega)];omega
      have cD:=Ed c.nm false (l.take S) ((c.code.stm s).drop q) (Fl hlb S) (Ei (UF ..) _) (by rw[List.length_take,List.length_drop,hsl];omega) (by rw[List.length_take];omega)
      have hqs:(q:Int)<=((c.code.stm s).length:Int):=by omega
      obtain⟨dv,hdv⟩:∃dv,Ce (l.take S) ((c.code.stm s).drop q)=dv:=⟨_,rfl⟩
      rw[hdv] at cD
      have hmm:min b dv=hZ c.code l S q (s+1):=by rw[s2,←hdv];rfl
      have htk2:((c.code.stm s).drop q).take (c.code.sz-q)=(c.code.stm s).drop q:=List.take_of_length_le (by rw[List.length_drop];omega)
      (try (simp -implicitDefEqProofs only[go_sem,hs',hg,hsl,hws,hlS,hqs,hql,hmm,htk2]));repeat' first|(with_reducible first|exact tI|refine aI ?_ ?_|intro _)|((first|with_reducible refine AM ?_ ?_<;>intro _|(with_reducible refine isCall ?_);first|refine AE cD ?_)<;>try (simp -implicitDefEqProofs only[go_sem,hs',hg,hsl,hws,hlS,hqs,hql,hmm,htk2]))|simp (disch:=omega) only[An]|((with_reducible refine CW ?_);refine⟨(_,_,_,_),rfl,?_,?_⟩)|((with_reducible refine Am ?_);refine⟨(_,_),rfl,?_,?_⟩)
      all_goals first|omega|(simp;done)|(simp;omega)|skip
      all_goals skip
     ·have hs':¬(s:Int)<16:=by omega
      have hse:s=16:=by omega
      rw[hse,hV'] at s2
      subst s2
      (try (simp -implicitDefEqProofs only[go_sem,hs',hlS,wn,wt,hdl,htk]));repeat' first|(with_reducible first|exact tI|refine aI ?_ ?_|intro _)|((first|with_reducible refine AM ?_ ?_<;>intro _)<;>try (simp -implicitDefEqProofs only[go_sem,hs',hlS,wn,wt,hdl,htk]))|simp (disch:=omega) only[An]|((with_reducible refine CW ?_);refine⟨(_,_,_,_),rfl,?_,?_⟩)|((with_reducible refine Am ?_);refine⟨(_,_),rfl,?_,?_⟩)
      all_goals first|omega|(simp;done)|(simp;omega)|skip
      exact⟨(j+S,_,_,_),rfl,⟨by show j+S<=_;omega,rfl,rfl,by show 0<=n+b;omega,by show n+b<=((j+S:Nat):Int);omega,by show n+b+apW c (c.mark.length+1) (a+(j+S)) (c.mark.drop (j+S))=Vs c a;rw[←j4,hst];omega⟩,by show c.mark.length-(j+S)<_;omega⟩
  ·have hl0:¬(0:Int)<(l.length:Int):=by omega
   have hln:l=[]:=List.length_eq_zero_iff.1 (by omega)
   have hap:apW c (c.mark.length+1) (a+j) (c.mark.drop j)=0:=by rw[←j3,hln];simp[apW]
   have:n=Vs c a:=by rw[←j4,hap];omega
   subst this
   (try (simp -implicitDefEqProofs only[go_sem,hl0]));repeat' first|(with_reducible first|exact tI|refine aI ?_ ?_|intro _)|((first|with_reducible refine AM ?_ ?_<;>intro _)<;>try (simp -implicitDefEqProofs only[go_sem,hl0]))|simp (disch:=omega) only[An]|((with_reducible refine CW ?_);refine⟨(_,_,_,_),rfl,?_,?_⟩)|((with_reducible refine Am ?_);refine⟨(_,_),rfl,?_,?_⟩)
   all_goals first|omega|(simp;done)|(simp;omega)|skip
   all_goals first|rfl|skip
end
section
def m_ (c:AX):Nat->Int
 |0=>(c.mark.length:Int)
 |n+1=>min (m_ c n) (Vs c (n+1))
def e_ (c:AX):Int:=if c.ok=true then m_ c (c.tot-1) else 0
def oC (c:AU) (a:Nat) (l:Int):Nat->Int
 |0=>l
 |b+1=>min (oC c a l b) (Ce (c.stm a) (c.stm b))
def oB (c:AU):Nat->Int
 |0=>(c.sz:Int)
 |a+1=>oC c a (oB c a) a
def oD (c:AX):Int:=if c.ok=true then oB c.code 16 else 0
def nv (c:AX):Int:=if c.Q*(c.P/2)=0 then 0 else if c.Q*c.L<=c.Q*(c.P/2) then ((c.syms*c.code.sz:Nat):Int) else (c.Q*(c.P/2)-1)*c.code.sz+1
def oU (c:AX):Int:=if c.ok=true then nv c else 0
attribute [local congr] Bh A7 A8 Au Bi Az A1 A0 Ar Ai Ab AZ Aw Ad Ax BF BJ BH BI BG BK BC Ag Ay Ah BA BS Af BD BE BB A_ A' A6 Bj A9 Av Ae
attribute [local irreducible] IntKind.wrap A5 Option.getD and or
theorem Np (c:AX):CI E0 J' [Fj c] (.tup [.int .i64 (e_ c),.int .i64 (Qh c)]):=by
 have c1:=Eh c
 obtain⟨r,hr⟩:∃r,fN c=r:=⟨_,rfl⟩
 rw[hr] at c1
 refine AK Nc Aq (by simp) fun hwf=>?_
 rw[AW];unfold Iv e_
 rcases hok:c.ok with _|_
 ·have:=H_ hok
  rw[hr] at this
  rw[this.1,this.2] at c1
  rw[this.2]
  (try (simp -implicitDefEqProofs only[go_sem,AO,AN]));repeat' first|(with_reducible first|exact tI|refine aI ?_ ?_|intro _)|((first|with_reducible refine AM ?_ ?_<;>intro _|(with_reducible refine isCall ?_);first|refine AE c1 ?_)<;>try (simp -implicitDefEqProofs only[go_sem,AO,AN]))|simp (disch:=omega) only[An]|((with_reducible refine BZ ?_);refine⟨(_,_,_),rfl,?_,?_⟩)
  all_goals first|rfl|skip
 ·have:=JN hok
  have hk:=FD hok
  rw[hr] at this
  rw[this.1,this.2] at c1
  rw[this.2]
  have hm:=hk.markl
  have ht:=hk.tot
  have cB:=GD c hk.wev hk.code
  have w0:IntKind.i64.wrap ((c.mark.length:Int)+((c.syms*c.code.sz:Nat):Int))=((c.tot:Nat):Int):=by rw[Ak _ (by omega)];unfold AX.tot;omega
  have ht1:1<=c.tot:=by unfold AX.tot;omega
  simp only[if_true]
  (try (simp -implicitDefEqProofs only[go_sem,AO,AN,BU]));repeat' first|(with_reducible first|exact tI|refine aI ?_ ?_|intro _)|((first|with_reducible refine AM ?_ ?_<;>intro _|(with_reducible refine isCall ?_);first|refine AE c1 ?_)<;>try (simp -implicitDefEqProofs only[go_sem,AO,AN,BU]))|simp (disch:=omega) only[An]|((with_reducible refine BZ ?_);refine⟨(_,_,_),rfl,?_,?_⟩)
  all_goals first|omega|(simp;done)|(simp;omega)|skip
  refine AY (α:=Nat×Int×Int) (l0:=?l1) (m0:=?m1) (fun x=>[(7,.d (.int .i64 x.2.1)),(6,.d (.int .i64 x.2.2))]) (fun x=>[]) (fun x=>x.1<=c.tot-1/\x.2.1=((x.1+1:Nat):Int)/\x.2.2=m_ c x.1) (fun x=>c.tot-1-x.1) (0,1,(c.mark.length:Int)) ?h01 ?he1 ?he21 ?hI1 ?step1
  case h01=>(simp -implicitDefEqProofs only[go_sem];rfl)
  case he1=>rfl
  case he21=>rfl
  case' step1=>(rintro⟨k,t,n⟩ hI;try dsimp only at hI)
  case' hI1=>try dsimp only
  ·exact⟨Nat.zero_le _,rfl,rfl⟩
  ·obtain⟨k1,k2,k3⟩:=hI
   change t=((k+1:Nat):Int) at k2
   change n=m_ c k at k3
   subst k2
   by_cases hkt:k+1<c.tot
   ·have hk':((k+1:Nat):Int)<((c.tot:Nat):Int):=by omega
    have cA:=No c hk (k+1) (by omega)
    have hwk:IntKind.i64.wrap (((k+1:Nat):Int)+1)=((k+1+1:Nat):Int):=by rw[Ak _ (by omega)];omega
    have hmm:min n (Vs c (k+1))=m_ c (k+1):=by rw[k3];rfl
    (try (simp -implicitDefEqProofs only[go_sem,BU,w0,hk',hwk,hmm]));repeat' first|(with_reducible first|exact tI|refine aI ?_ ?_|intro _)|((first|with_reducible refine AM ?_ ?_<;>intro _|(with_reducible refine isCall ?_);first|refine AE cB ?_|refine AE cA ?_)<;>try (simp -implicitDefEqProofs only[go_sem,BU,w0,hk',hwk,hmm]))|simp (disch:=omega) only[An]|((with_reducible refine BZ ?_);refine⟨(_,_,_),rfl,?_,?_⟩)
    all_goals first|omega|(simp;done)|(simp;omega)|skip
    exact⟨(k+1,_,_),rfl,⟨by show k+1<=c.tot-1;omega,rfl,rfl⟩,by show c.tot-1-(k+1)<c.tot-1-k;omega⟩
   ·have hk':¬((k+1:Nat):Int)<((c.tot:Nat):Int):=by omega
    have hke:k=c.tot-1:=by omega
    subst hke
    rw[k3]
    (try (simp -implicitDefEqProofs only[go_sem,BU,w0,hk']));repeat' first|(with_reducible first|exact tI|refine aI ?_ ?_|intro _)|((first|with_reducible refine AM ?_ ?_<;>intro _|(with_reducible refine isCall ?_);first|refine AE cB ?_)<;>try (simp -implicitDefEqProofs only[go_sem,BU,w0,hk']))|simp (disch:=omega) only[An]|((with_reducible refine BZ ?_);refine⟨(_,_,_),rfl,?_,?_⟩)
    all_goals first|omega|(simp;done)|(simp;omega)|skip
    all_goals first|rfl|skip
end
def Lp (f:Nat->Nat) (q:Nat):Nat->Nat->Nat
 |0,_=>0
 |i+1,k=>Lp f q i k+if i%q=k then f i else 0
def QG (f:Nat->Nat) (q:Nat):Nat->Nat->Nat
 |0,_=>0
 |m+1,k=>QG f q m k+f (m*q+k)
theorem Vd (f:Nat->Nat) {q k:Nat}(hk:k<q) (m:Nat):∀t,t<=q->Lp f q (m*q+t) k=Lp f q (m*q) k+if k<t then f (m*q+k) else 0
 |0,_=>by simp
 |t+1,h=>by
  have ih:=Vd f hk m t (by omega)
  show Lp f q (m*q+t) k+(if (m*q+t)%q=k then f (m*q+t) else 0)=_
  rw[ih,TV (show t<q by omega)]
  by_cases h1:t=k
  ·subst h1
   rw[if_pos rfl,if_neg (by omega),if_pos (by omega)];omega
  ·rw[if_neg h1]
   by_cases h2:k<t
   ·rw[if_pos h2,if_pos (by omega)];rfl
   ·rw[if_neg h2,if_neg (by omega)]
theorem Tf (f:Nat->Nat) {q k:Nat}(hk:k<q):∀m,Lp f q (m*q) k=QG f q m k
 |0=>by rw[Nat.zero_mul];rfl
 |m+1=>by
  rw[Nat.add_mul,Nat.one_mul,Vd f hk m q (Nat.le_refl q),if_pos hk,Tf f hk m];rfl
theorem gO {f g h:Nat->Nat}{q m k:Nat}(hk:k<q) (e:∀i,i<m*q->f i=2*g i+h i):QG f q m k=2*QG g q m k+QG h q m k:=by
 induction m with
 |zero=>rfl
 |succ m ih =>
  have h1:=ih fun i hi=>e i (by rw[Nat.add_mul];omega)
  have h2:=e (m*q+k) (SO hk (by omega))
  show QG f q m k+f (m*q+k)=2*(QG g q m k+g (m*q+k))+(QG h q m k+h (m*q+k))
  omega
theorem YI (mB:Nat->Bool) {q:Nat}(k:Nat):∀i,(Pk q k ((List.range i).filter mB)).length=Lp (fun i=>if mB i then 1 else 0) q i k
 |0=>rfl
 |i+1=>by
  have ih:=YI mB (q:=q) k i
  rw[List.range_succ,List.filter_append]
  show _=Lp _ q i k+if i%q=k then (if mB i then 1 else 0) else 0
  rw[←ih]
  cases hm:mB i with
  |false=>simp[hm]
  |true =>
   simp only[List.filter_cons,hm,if_true,List.filter_nil]
   rw[U1]
   by_cases h:i%q=k
   ·rw[if_pos h,if_pos h];simp
   ·rw[if_neg h,if_neg h];rfl
theorem i9 {l q k:Nat}(hk:k<q) {a R:List F}{W:Nat->List F}{mB wB:Nat->Bool}(hw:∀j,j<l->(W k)[j]?.getD 0≠R[j*q+k]?.getD 0->mB (j*q+k)=false->wB (j*q+k)=true) :
  (Re l (W k) (C7 l q k R) (Pk q k ((List.range (l*q)).filter mB))).length<=QG (fun i=>if wB i then 1 else 0) q l k:=by
 have hmk:∀j,j<l->(j∈Pk q k ((List.range (l*q)).filter mB)↔mB (j*q+k)=true):=fun j hj=>by
  rw[gy hk,List.mem_filter,List.mem_range]
  exact⟨fun h=>h.2,fun h=>⟨SO hk hj,h⟩⟩
 have hg:∀j,j<l->(C7 l q k R)[j]?.getD 0=R[j*q+k]?.getD 0:=fun j hj=>OJ j hj
 generalize Pk q k ((List.range (l*q)).filter mB)=mk at *
 generalize C7 l q k R=b at *
 unfold Re
 have:∀m,m<=l->((List.range m).filter fun j=>decide ((W k)[j]?.getD 0≠b[j]?.getD 0) && !mk.contains j).length<=QG (fun i=>if wB i then 1 else 0) q m k:=by
  intro m
  induction m with
  |zero=>intro _;exact Nat.le_refl 0
  |succ m ih =>
   intro hm
   have i1:=ih (by omega)
   rw[List.range_succ,List.filter_append,List.length_append]
   show _<=QG (fun i=>if wB i then 1 else 0) q m k+(if wB (m*q+k) then 1 else 0)
   refine Nat.add_le_add i1 ?_
   by_cases hc:(decide ((W k)[m]?.getD 0≠b[m]?.getD 0) && !mk.contains m)=true
   ·have hc2:=hc
    simp only[Bool.and_eq_true,decide_eq_true_eq,Bool.not_eq_true',List.contains_eq_mem,decide_eq_false_iff_not] at hc2
    have h3:mB (m*q+k)=false:=by
     cases h:mB (m*q+k) with
     |false=>rfl
     |true=>exact absurd ((hmk m (by omega)).2 h) hc2.2
    have h4:=hw m (by omega) (by rw[←hg m (by omega)];exact hc2.1) h3
    rw[h4]
    simp only[List.filter_cons,hc,if_true,List.filter_nil]
    exact Nat.le_refl 1
   ·simp only[List.filter_cons,hc,List.filter_nil]
    exact Nat.zero_le _
 exact this l (Nat.le_refl l)
theorem Wn (mB:Nat->Bool) (n:Nat):ak n ((List.range n).filter mB) :=
 ⟨List.Pairwise.filter _ List.pairwise_lt_range,fun j hj=>by simpa using (List.mem_filter.1 hj).1⟩
theorem RZ {l p q:Nat}(hl:l<=15) (hpl:p<l) (hq:0<q) {d R:List F}(hd:d.length=(l-p)*q) (hR:R.length=l*q) {mB wB:Nat->Bool}
  (hw:∀i,i<l*q->(Yq l p q d)[i]?.getD 0≠R[i]?.getD 0->mB i=false->wB i=true) {fC:Nat->Nat}(hf:∀i,i<l*q->fC i=if mB i then 1 else if wB i then 2 else 0)
  (hk:∀k,k<q->Lp fC q (l*q) k<=p):dp l p q R ((List.range (l*q)).filter mB)=some d:=by
 refine RQ hl hpl hq hd hR (Wn mB _) fun k hkq=>?_
 have h1:=hk k hkq
 rw[Tf fC hkq] at h1
 rw[gO (g:=fun i=>if wB i && !mB i then 1 else 0) (h:=fun i=>if mB i then 1 else 0) hkq fun i hi=>by
  rw[hf i hi]
  cases mB i<;>cases wB i<;>rfl] at h1
 rw[YI mB k,Tf _ hkq]
 have h2:=i9 (a:=[]) (wB:=fun i=>wB i && !mB i) (mB:=mB) (R:=R) (W:=fun k=>IB p (C7 (l-p) q k d)) (l:=l) hkq fun j hj hne hm=>by
  have hlt:=SO hkq hj
  have h3:(Yq l p q d)[j*q+k]?.getD 0=(IB p (C7 (l-p) q k d))[j]?.getD 0:=by
   unfold Yq
   rw[Q3 _ hlt,XZ hkq,TV hkq]
  rw[hw (j*q+k) hlt (by rw[h3];exact hne) hm,hm];rfl
 omega
end Go.Pw
