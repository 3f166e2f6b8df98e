/- A part of the proof. -/
import Derived.Test.YtibkjeolahobbaaDoorPgCdChG
set_option linter.all false
section
open Go Go.Pw Go.Proofs
namespace Go.Pw
set_option maxRecDepth 100000
set_option maxHeartbeats 3200000
theorem FM (sy:List (Option Nat)):(Mo sy).length=sy.length:=by simp[Mo]
def SH (sy:List (Option Nat)) (k:Nat):List Int:=(Mo sy).take k++(S2 sy).drop k
theorem YP (sy:List (Option Nat)) (k:Nat):(SH sy k).length=sy.length:=by
 unfold SH;rw[List.length_append,List.length_take,List.length_drop,FM,Mt];omega
theorem mF (sy:List (Option Nat)):SH sy 0=S2 sy:=rfl
theorem gx (sy:List (Option Nat)):SH sy sy.length=Mo sy:=by
 unfold SH
 rw[List.take_of_length_le (by rw[FM];omega),List.drop_eq_nil_of_le (by rw[Mt];omega),List.append_nil]
theorem gw (sy:List (Option Nat)) {k:Nat}(h:k<sy.length):(SH sy k)[k]?.getD 0=bW sy[k]:=by
 unfold SH
 rw[List.getElem?_append_right (by rw[List.length_take,FM];omega),List.length_take,FM,Nat.min_eq_left (by omega),Nat.sub_self,List.getElem?_drop]
 simp[S2,h]
theorem VC (sy:List (Option Nat)) {k:Nat}(h:k<sy.length):SH sy (k+1)=(Mo sy).take k++(((sy[k].getD 0:Nat):Int)::(S2 sy).drop (k+1)):=by
 unfold SH
 rw[List.take_add_one,List.append_assoc]
 congr 1
 simp[Mo,h]
theorem VD (sy:List (Option Nat)) {k:Nat}(h:k<sy.length):SH sy k=(Mo sy).take k++(bW sy[k]::(S2 sy).drop (k+1)):=by
 unfold SH
 rw[List.drop_eq_getElem_cons (by rw[Mt];exact h)]
 simp[S2]
theorem dG (sy:List (Option Nat)) {k s:Nat}(h:k<sy.length) (hs:sy[k]=some s):SH sy (k+1)=SH sy k:=by
 rw[VC sy h,VD sy h,hs];rfl
theorem dH (sy:List (Option Nat)) {k:Nat}(h:k<sy.length) (hs:sy[k]=none):(SH sy k).set k 0=SH sy (k+1):=by
 rw[VC sy h,VD sy h,hs]
 rw[List.set_append_right _ _ (by rw[List.length_take,FM];omega),List.length_take,FM,Nat.min_eq_left (by omega),Nat.sub_self];rfl
def Wx (sy:List (Option Nat)) (k:Nat):List Nat:=(List.range k).filter fun i=>(sy[i]?.getD none).isNone
theorem gi (sy:List (Option Nat)):Wx sy sy.length=Zf sy:=rfl
theorem cu (sy:List (Option Nat)) {k s:Nat}(h:k<sy.length) (hs:sy[k]=some s):Wx sy (k+1)=Wx sy k:=by
 unfold Wx;rw[List.range_succ,List.filter_append]
 simp[h,hs]
theorem cv (sy:List (Option Nat)) {k:Nat}(h:k<sy.length) (hs:sy[k]=none):Wx sy (k+1)=Wx sy k++[k]:=by
 unfold Wx;rw[List.range_succ,List.filter_append]
 simp[h,hs]
theorem kg (sy:List (Option Nat)) (k:Nat):(Wx sy k).length<=k:=by
 have:=List.length_filter_le (fun i=>(sy[i]?.getD none).isNone) (List.range k)
 rw[List.length_range] at this;exact this
theorem ci (l:List Nat) (k:Nat):ni l++[(k:Int)]=ni (l++[k]):=by simp[ni]
theorem gZ (l:List Nat):(ni l).length=l.length:=by simp[ni]
def _root_.Go.Pw.D.NOK1:D->Prop
 |.list nl xs=>nl=true->xs=[]
 |_=>True
def _root_.Go.Pw.D.NOK:D->Prop
 |.agg cs=>∀c,c∈cs->c.NOK1
 |d=>d.NOK1
theorem gX {w:World}{fb:Nat->Prop}{d:D}{v:Value}(h:A1 w fb d v):d.NOK1:=by
 cases h with
 |nil=>exact fun _=>rfl
 |empty=>exact fun h=>by cases h
 |list=>exact fun h=>by cases h
 |_=>trivial
theorem kY {w:World}{fb:Nat->Prop}{d:D}{v:Value}(h:A1 w fb d v):d.NOK:=by
 cases h with
 |nil=>exact fun _=>rfl
 |empty=>exact fun h=>by cases h
 |list=>exact fun h=>by cases h
 |agg cs vs hl h1 hh =>
  intro c hc
  obtain⟨i,hi⟩:=List.getElem?_of_mem hc
  have hlt:i<vs.size:=by rw[hl];exact(List.getElem?_eq_some_iff.1 hi).1
  exact gX (hh i c _ hi (Array.getElem?_eq_getElem hlt))
 |_=>trivial
theorem YA {E:Co}{f:FuncId}{ds:List D}{r:D}(h:(∀d,d∈ds->d.NOK)->CK E f ds r):CK E f ds r:=fun w fb vs hfb hg hl hd =>
 h (fun d hdm=>by
  obtain⟨i,hi⟩:=List.getElem?_of_mem hdm
  have hlt:i<vs.size:=by rw[hl];exact(List.getElem?_eq_some_iff.1 hi).1
  exact kY (hd i d _ hi (Array.getElem?_eq_getElem hlt))) w fb vs hfb hg hl hd
theorem iw {c:AX}(h:(FG c).NOK) (hm:1<=c.mark.length):c.nm=false:=by
 have h1:=h (.list c.nm (Al c.mark)) (by simp[Vo])
 cases hn:c.nm with
 |false=>rfl
 |true =>
  have h2:Al c.mark=[]:=h1 hn
  have h3:=congrArg List.length h2
  rw[CB] at h3
  change c.mark.length=0 at h3
  omega
theorem gt {nl:Bool}{xs:List Int}(h:(D.list nl (Al xs)).NOK):nl=true->xs=[]:=fun hn=>by
 have h2:Al xs=[]:=h hn
 have h3:=congrArg List.length h2
 rw[CB] at h3
 exact List.length_eq_zero_iff.1 (by simpa using h3)
theorem Hq {c:AX}(h:Cv c.L c.P c.Q=true) {d:List Int}(he:spE c.L c.P c.Q d=0):(Rt c.L c.P c.Q d).length=c.syms:=by
 unfold spE at he
 rw[if_pos h] at he
 have hs:CR d (c.Q*(c.L-c.P))=true:=by
  cases hs:CR d (c.Q*(c.L-c.P)) with
  |true=>rfl
  |false=>rw[hs] at he;simp at he
 unfold Rt
 rw[if_pos h,if_pos hs,JQ,Sr]
 have h2:=Sf h
 have h3:=Pi h
 have:((c.L.toNat * c.Q.toNat:Nat):Int)=c.Q*c.L:=by push_cast;rw[Int.toNat_of_nonneg (by omega),Int.toNat_of_nonneg (by omega),Int.mul_comm]
 omega
theorem Xm (c:AX) (X:List Int) {k:Nat}(h:k<X.length):c.flat (X.take k)++c.code.stm (X[k]?.getD 0).toNat=c.flat (X.take (k+1)):=by
 rw[List.take_add_one,List.getElem?_eq_getElem h]
 unfold AX.flat
 rw[List.flatMap_append]
 simp
attribute [local congr] Bi A9 A_ Aq Bj Ax Az Ay Ap Aj Ad AY Au Ae Av BH BL BJ BK BI BM BE Ah Aw Ai BC BS Ag BF BG BD BA BB A8 Bl A' Ar Af
attribute [local irreducible] IntKind.wrap A3 Option.getD and or
theorem MC (nl:Bool) (xs:List Int) (hl:xs.length<=1000) (hne:0<xs.length) (hnl:nl=false):H_ E0 Ft [] [.d (.list nl (Al xs))] [(7,1,.row 3 1 false (Al xs))] (.own 7 1):=by
 subst hnl
 refine De IG A0 (by simp) (by simp[PR,CT,D6]) (by simp[E5]) fun hwf hwo=>?_
 rw[EJ];unfold FS
 have hn:¬xs=[]:=by intro h;rw[h] at hne;simp at hne
 (try (simp -implicitDefEqProofs only[go_sem,hn]));repeat' first|(with_reducible first|exact tI|refine aI ?_ ?_|intro _)|((first|with_reducible refine AO ?_ ?_<;>intro _)<;>try (simp -implicitDefEqProofs only[go_sem,hn]))|simp (disch:=omega) only[An]
 all_goals first|omega|rfl
theorem Mg (c:AX) (hk:Ff c) (sy:List (Option Nat)) (hl:sy.length=c.syms) :
  CK E0 FK [.ptr (Rd c (F2 c.code)),.list false (Al (S2 sy))] (.tup [.list (VH c sy).isEmpty (Al (VH c sy)),.int .i64 (RE c sy)]):=by
 have hs:=hk.syms
 have hsl:=Mt sy
 have cC:=MC false (S2 sy) (by omega) (by omega) rfl
 have h0l:(SH sy 0).length=sy.length:=YP sy 0
 refine AM G5 A0 (by simp) fun hwf=>?_
 rw[AU];unfold Ei
 (try (simp -implicitDefEqProofs only[go_sem]));repeat' first|(with_reducible first|exact tI|refine aI ?_ ?_|intro _)|((first|with_reducible refine AO ?_ ?_<;>intro _|(with_reducible refine isCall ?_);first|(refine E7 ([]) ([((7,1),(11,0))]) (cC) (by repeat' first|exact True.intro|exact rfl|refine And.intro ?_ ?_) (by simp[Handed,Dm.get,Aa.ren,AV.ren,AV.ren.renL,AJ.get,BV,B2,Di,AJ.reach,AV.sites,AV.sites.sitesL,AJ.osites]) (by simp[CN,E5,CT,Dm.get,Di,D6,CG]) (by rfl) (by simp only[D4,Dm.get,Aa.ren,AV.ren,AV.ren.renL,and_self,and_true,true_and,if_true,reduceIte];rfl) ?_))<;>try (simp -implicitDefEqProofs only[go_sem]))|simp (disch:=omega) only[An]|((with_reducible refine Ao ?_);refine⟨(_,_),rfl,?_,?_⟩)
 all_goals first|omega|(simp;done)|(simp;omega)|skip
 rw[←mF]
 refine AZ (α:=Nat×Bool) (l0:=?l1) (m0:=?m1) (fun x=>[(14,.d (.int .i64 (x.1:Int)))]) (fun x=>[(11,.row 3 1 false (Al (SH sy x.1))),(24,.row 3 1 x.2 (Al (ni (Wx sy x.1))))]) (fun x=>x.1<=sy.length/\x.2=(Wx sy x.1).isEmpty) (fun x=>sy.length-x.1) (0,true) ?h01 ?he1 ?he21 ?hI1 ?step1
 case h01=>(simp -implicitDefEqProofs only[go_sem];rfl)
 case he1=>rfl
 case he21=>rfl
 case' step1=>(rintro⟨k,e⟩ hI;try dsimp only at hI)
 case' hI1=>try dsimp only
 ·exact⟨Nat.zero_le _,rfl⟩
 ·obtain⟨k1,k2⟩:=hI
  change e=(Wx sy k).isEmpty at k2
  have hkl:=YP sy k
  by_cases hks:k<sy.length
  ·have hk':(k:Int)<(sy.length:Int):=by omega
   have hg:=gw sy hks
   have hwk:IntKind.i64.wrap ((k:Int)+1)=((k+1:Nat):Int):=by rw[Ak _ (by omega)];omega
   have hmk:=kg sy k
   have hml:=gZ (Wx sy k)
   cases hsy:sy[k] with
   |none =>
    rw[hsy] at hg
    change (SH sy k)[k]?.getD 0=-1 at hg
    have h1:=dH sy hks hsy
    have h2:=cv sy hks hsy
    have h3:=ci (Wx sy k) k
    have h4:false=(Wx sy k++[k]).isEmpty:=by cases Wx sy k<;>rfl
    (try (simp -implicitDefEqProofs only[go_sem,hk',hks,hg,hwk,hkl,hml,h1,h3]));repeat' first|(with_reducible first|exact tI|refine aI ?_ ?_|intro _)|((first|with_reducible refine AO ?_ ?_<;>intro _)<;>try (simp -implicitDefEqProofs only[go_sem,hk',hks,hg,hwk,hkl,hml,h1,h3]))|simp (disch:=omega) only[An]|((with_reducible refine Ao ?_);refine⟨(_,_),rfl,?_,?_⟩)
    all_goals first|omega|(simp;done)|(simp;omega)|skip
    rw[←h2] at h4 ⊢
    exact⟨(k+1,false),rfl,⟨by show k+1<=sy.length;omega,h4⟩,by show sy.length-(k+1)<sy.length-k;omega⟩
   |some s =>
    rw[hsy] at hg
    change (SH sy k)[k]?.getD 0=(s:Int) at hg
    have hne:¬(s:Int)=-1:=by omega
    have h1:=dG sy hks hsy
    have h2:=cu sy hks hsy
    (try (simp -implicitDefEqProofs only[go_sem,hk',hks,hg,hwk,hkl,hml,hne]));repeat' first|(with_reducible first|exact tI|refine aI ?_ ?_|intro _)|((first|with_reducible refine AO ?_ ?_<;>intro _)<;>try (simp -implicitDefEqProofs only[go_sem,hk',hks,hg,hwk,hkl,hml,hne]))|simp (disch:=omega) only[An]|((with_reducible refine Ao ?_);refine⟨(_,_),rfl,?_,?_⟩)
    all_goals first|omega|(simp;done)|(simp;omega)|skip
    rw[←h2] at k2 ⊢
    rw[←h1]
    exact⟨(k+1,e),rfl,⟨by show k+1<=sy.length;omega,k2⟩,by show sy.length-(k+1)<sy.length-k;omega⟩
  ·have hke:k=sy.length:=by omega
   subst hke
   have hk':¬(sy.length:Int)<((SH sy 0).length:Int):=by omega
   have hkn:=FM sy
   have c1:=Gd c (F2 c.code) false (Mo sy) hk.seed (by omega) (by omega)
   have c2:=Mc c.L c.P c.Q false e (CQ c.seed (Mo sy)) (ni (Zf sy)) (by rw[Ce];omega)
   have h1:=gx sy
   have h2:=gi sy
   unfold VH RE
   (try (simp -implicitDefEqProofs only[go_sem,BQ,hk',h1,h2]));repeat' first|(with_reducible first|exact tI|refine aI ?_ ?_|intro _)|((first|with_reducible refine AO ?_ ?_<;>intro _|(with_reducible refine isCall ?_);first|refine AE c1 ?_|refine AE c2 ?_)<;>try (simp -implicitDefEqProofs only[go_sem,BQ,hk',h1,h2]))|simp (disch:=omega) only[An]|((with_reducible refine Ao ?_);refine⟨(_,_),rfl,?_,?_⟩)
   all_goals first|rfl|skip
theorem Dd (c:AX) (nl:Bool) (d:List Int):CK E0 KA [FG c,.list nl (Al d)] (.tup [.list (T4 c d).isEmpty (Al (T4 c d)),.int .i64 (lV c d)]):=by
 refine YA fun hnok=>?_
 have c1:=D1 c
 obtain⟨r,hr⟩:∃r,cT c=r:=⟨_,rfl⟩
 rw[hr] at c1
 refine AM Nh A0 (by simp) fun hwf=>?_
 rw[AU];unfold Iv
 unfold T4 lV
 rcases hok:c.ok with _|_
 ·have:=HH hok
  rw[hr] at this
  rw[this.1,this.2] at c1
  simp only[Bool.false_eq_true,if_false]
  (try (simp -implicitDefEqProofs only[go_sem,AI,AH]));repeat' first|(with_reducible first|exact tI|refine aI ?_ ?_|intro _)|((first|with_reducible refine AO ?_ ?_<;>intro _|(with_reducible refine isCall ?_);first|refine AE c1 ?_)<;>try (simp -implicitDefEqProofs only[go_sem,AI,AH]))|simp (disch:=omega) only[An]|((with_reducible refine A5 ?_);refine⟨_,rfl,?_,?_⟩)
  all_goals first|rfl|skip
 ·have:=GE hok
  have hk:=D7 hok
  have hm:=hk.markl
  have hs:=hk.syms
  have hnm:=iw (hnok _ (by simp)) hm.1
  rw[hr] at this
  rw[this.1,this.2] at c1
  have c2:=HT c.L c.P c.Q nl d
  simp only[if_true]
  by_cases hsp:spE c.L c.P c.Q d=0
  ·have hbl:=Hq hk.wev hsp
   rw[hsp] at c2 ⊢
   simp only[if_true]
   unfold DL
   obtain⟨B,hB⟩:∃B,Rt c.L c.P c.Q d=B:=⟨_,rfl⟩
   rw[hB] at c2 hbl ⊢
   have hBe:B.isEmpty=false:=DR fun e=>by rw[e] at hbl;simp at hbl;omega
   rw[hBe] at c2
   have c3:=Gd c (F2 c.code) false B hk.seed (by omega) (by omega)
   have hX:=HB B c.seed
   have hXl:=Ce B c.seed
   obtain⟨X,hXe⟩:∃X,CQ c.seed B=X:=⟨_,rfl⟩
   rw[hXe] at c3 hX hXl ⊢
   have cM:=MC c.nm c.mark (by omega) (by omega) hnm
   have hne:(c.mark++c.flat X).isEmpty=false:=DR fun e=>by have:=congrArg List.length e;simp at this;rw[this.1] at hm;simp at hm
   rw[hne]
   (try (simp -implicitDefEqProofs only[go_sem,AI,AH,BQ]));repeat' first|(with_reducible first|exact tI|refine aI ?_ ?_|intro _)|((first|with_reducible refine AO ?_ ?_<;>intro _|(with_reducible refine isCall ?_);first|refine AE c1 ?_|refine AE c2 ?_|refine AE c3 ?_|(refine E7 ([]) ([((7,1),(37,0))]) (cM) (by repeat' first|exact True.intro|exact rfl|refine And.intro ?_ ?_) (by simp[Handed,Dm.get,Aa.ren,AV.ren,AV.ren.renL,AJ.get,BV,B2,Di,AJ.reach,AV.sites,AV.sites.sitesL,AJ.osites]) (by simp[CN,E5,CT,Dm.get,Di,D6,CG]) (by rfl) (by simp only[D4,Dm.get,Aa.ren,AV.ren,AV.ren.renL,and_self,and_true,true_and,if_true,reduceIte];rfl) ?_))<;>try (simp -implicitDefEqProofs only[go_sem,AI,AH,BQ]))|simp (disch:=omega) only[An]|((with_reducible refine A5 ?_);refine⟨_,rfl,?_,?_⟩)
   all_goals first|omega|(simp;done)|(simp;omega)|skip
   have hf0:c.mark=c.mark++c.flat (X.take 0):=by simp[AX.flat]
   rw[show Al c.mark=Al (c.mark++c.flat (X.take 0)) from congrArg Al hf0]
   refine AZ (α:=Nat) (l0:=?l2) (m0:=?m2) (fun x=>[(42,.d (.int .i64 (x:Int)))]) (fun x=>[(37,.row 3 1 false (Al (c.mark++c.flat (X.take x))))]) (fun x=>x<=X.length) (fun x=>X.length-x) 0 ?h02 ?he2 ?he22 ?hI2 ?step2
   case h02=>(simp -implicitDefEqProofs only[go_sem];rfl)
   case he2=>rfl
   case he22=>rfl
   case' step2=>(rintro k hI;try dsimp only at hI)
   case' hI2=>try dsimp only
   ·exact Nat.zero_le _
   ·by_cases hks:k<X.length
    ·have hk':(k:Int)<(X.length:Int):=by omega
     have hwk:IntKind.i64.wrap ((k:Int)+1)=((k+1:Nat):Int):=by rw[Ak _ (by omega)];omega
     have hxm:=hX _ (DS hks)
     have hst:=Xm c X hks
     obtain⟨x,hx⟩:∃x,X[k]?.getD 0=x:=⟨_,rfl⟩
     rw[hx] at hxm hst
     have hg:=P4 c.code (s:=x.toNat) (by omega)
     have hx0:0<=x:=hxm.1
     have hx1:x<16:=by omega
     have hz:=E3 hk.code
     have hsl:=LU c.code x.toNat
     have hfl:(c.flat (X.take k)).length<=32*20:=by rw[Ot,List.length_take];exact Nat.mul_le_mul (by omega) hz.2
     have hne0:=Sl hk.code x.toNat
     (try (simp -implicitDefEqProofs only[go_sem,BQ,hk',hks,hwk,hx,hx0,hx1,QT,hg,hsl]));repeat' first|(with_reducible first|exact tI|refine aI ?_ ?_|intro _)|((first|with_reducible refine AO ?_ ?_<;>intro _)<;>try (simp -implicitDefEqProofs only[go_sem,BQ,hk',hks,hwk,hx,hx0,hx1,QT,hg,hsl]))|simp (disch:=omega) only[An]|((with_reducible refine A5 ?_);refine⟨_,rfl,?_,?_⟩)
     all_goals first|omega|(simp;done)|(simp;omega)|skip
     rw[List.append_assoc c.mark,hst]
     exact⟨k+1,rfl,hks,by omega⟩
    ·have hk':¬(k:Int)<(X.length:Int):=by omega
     have htk:X.take k=X:=List.take_of_length_le (by omega)
     rw[htk]
     (try (simp -implicitDefEqProofs only[go_sem,hk']));repeat' first|(with_reducible first|exact tI|refine aI ?_ ?_|intro _)|((first|with_reducible refine AO ?_ ?_<;>intro _)<;>try (simp -implicitDefEqProofs only[go_sem,hk']))|simp (disch:=omega) only[An]|((with_reducible refine A5 ?_);refine⟨_,rfl,?_,?_⟩)
     all_goals first|omega|(simp;done)|(simp;omega)|skip
     all_goals first|rfl|skip
  ·rw[if_neg hsp,if_neg hsp]
   obtain⟨B,hB⟩:∃B,Rt c.L c.P c.Q d=B:=⟨_,rfl⟩
   rw[hB] at c2
   (try (simp -implicitDefEqProofs only[go_sem,AI,AH,BQ,hsp]));repeat' first|(with_reducible first|exact tI|refine aI ?_ ?_|intro _)|((first|with_reducible refine AO ?_ ?_<;>intro _|(with_reducible refine isCall ?_);first|refine AE c1 ?_|refine AE c2 ?_)<;>try (simp -implicitDefEqProofs only[go_sem,AI,AH,BQ,hsp]))|simp (disch:=omega) only[An]|((with_reducible refine A5 ?_);refine⟨_,rfl,?_,?_⟩)
   all_goals first|rfl|skip
noncomputable def ZO (c:AX) (bits:List Int):D:=.tup [.list (Uv c bits).isEmpty (Al (Uv c bits)),.int .i64 (YD c bits),.int .i64 (YC c bits)]
theorem mK {c:AX}{sy:List (Option Nat)}(h:¬RE c sy=0):VH c sy=[]:=by
 unfold RE mL at h
 unfold VH lW
 split
 ·rename_i h1
  rw[if_pos h1] at h
  split
  ·rename_i h2
   rw[if_pos h2] at h
   split
   ·rename_i h3
    rw[if_pos h3] at h
    cases hg:XF c.L.toNat c.P.toNat c.Q.toNat (fs (CQ c.seed (Mo sy))) (nt (ni (Zf sy))) with
    |none=>rfl
    |some r=>rw[hg] at h;exact absurd rfl h
   ·rfl
  ·rfl
 ·rfl
theorem Er (c:AX) (nl:Bool) (bits:List Int):CK E0 LN [FG c,.list nl (Al bits)] (ZO c bits):=by
 refine YA fun hnok=>?_
 have hnb:=gt (hnok (.list nl (Al bits)) (by simp))
 have c1:=D1 c
 obtain⟨r,hr⟩:∃r,cT c=r:=⟨_,rfl⟩
 rw[hr] at c1
 refine AM Oj A0 (by simp) fun hwf=>?_
 rw[AU];unfold Jv ZO Uv YD YC
 rcases hok:c.ok with _|_
 ·have:=HH hok
  rw[hr] at this
  rw[this.1,this.2] at c1
  simp only[Bool.false_eq_true,if_false]
  (try (simp -implicitDefEqProofs only[go_sem,AI,AH]));repeat' first|(with_reducible first|exact tI|refine aI ?_ ?_|intro _)|((first|with_reducible refine AO ?_ ?_<;>intro _|(with_reducible refine isCall ?_);first|refine AE c1 ?_)<;>try (simp -implicitDefEqProofs only[go_sem,AI,AH]))|simp (disch:=omega) only[An]
  all_goals first|rfl|skip
 ·have:=GE hok
  have hk:=D7 hok
  rw[hr] at this
  rw[this.1,this.2] at c1
  have c2:=Lq nl bits
  simp only[if_true]
  cases hb:Hi bits with
  |false =>
   rw[hb] at c2
   simp only[Bool.false_eq_true,if_false]
   (try (simp -implicitDefEqProofs only[go_sem,AI,AH]));repeat' first|(with_reducible first|exact tI|refine aI ?_ ?_|intro _)|((first|with_reducible refine AO ?_ ?_<;>intro _|(with_reducible refine isCall ?_);first|refine AE c1 ?_|refine AE c2 ?_)<;>try (simp -implicitDefEqProofs only[go_sem,AI,AH]))|simp (disch:=omega) only[An]
   all_goals first|rfl|skip
  |true =>
   rw[hb] at c2
   simp only[if_true]
   have c3:=Oo c hk nl bits hb hnb
   unfold LZ at c3
   cases hf:c.find bits with
   |none =>
    rw[hf] at c3
    simp only at c3 ⊢
    (try (simp -implicitDefEqProofs only[go_sem,AI,AH]));repeat' first|(with_reducible first|exact tI|refine aI ?_ ?_|intro _)|((first|with_reducible refine AO ?_ ?_<;>intro _|(with_reducible refine isCall ?_);first|refine AE c1 ?_|refine AE c2 ?_|refine AE c3 ?_)<;>try (simp -implicitDefEqProofs only[go_sem,AI,AH]))|simp (disch:=omega) only[An]
    all_goals first|rfl|skip
   |some a =>
    rw[hf] at c3
    simp only at c3 ⊢
    have c4:=Mg c hk (c.syL bits a) (LT c bits a)
    by_cases he:RE c (c.syL bits a)=0
    ·rw[he] at c4 ⊢
     simp only[if_true]
     (try (simp -implicitDefEqProofs only[go_sem,AI,AH]));repeat' first|(with_reducible first|exact tI|refine aI ?_ ?_|intro _)|((first|with_reducible refine AO ?_ ?_<;>intro _|(with_reducible refine isCall ?_);first|refine AE c1 ?_|refine AE c2 ?_|refine AE c3 ?_|refine AE c4 ?_)<;>try (simp -implicitDefEqProofs only[go_sem,AI,AH]))|simp (disch:=omega) only[An]
     all_goals first|rfl|skip
    ·rw[if_neg he]
     have hl:=mK he
     rw[hl] at c4 ⊢
     (try (simp -implicitDefEqProofs only[go_sem,AI,AH,he]));repeat' first|(with_reducible first|exact tI|refine aI ?_ ?_|intro _)|((first|with_reducible refine AO ?_ ?_<;>intro _|(with_reducible refine isCall ?_);first|refine AE c1 ?_|refine AE c2 ?_|refine AE c3 ?_|refine AE c4 ?_)<;>try (simp -implicitDefEqProofs only[go_sem,AI,AH,he]))|simp (disch:=omega) only[An]
     all_goals first|rfl|skip
end Go.Pw
end
section
open Go Go.Pw Go.Proofs
namespace Go.Pw
set_option maxRecDepth 100000
set_option maxHeartbeats 3200000
def dA (c:AQ) (rest:List Int) (part q:Nat):Nat->Int
 |0=>(part:Int)
 |s+1=>min (dA c rest part q s) (Bv (rest.take part) ((c.stm s).drop q))
theorem c_ (c:AQ) (rest:List Int) (part q:Nat):∀m,0<=dA c rest part q m/\dA c rest part q m<=part
 |0=>⟨by simp[dA],Int.le_refl _⟩
 |m+1=>by
  have ih:=c_ c rest part q m
  have:=HM (rest.take part) ((c.stm m).drop q)
  simp only[dA];omega
def H' (c:AX) (at_:Nat) (rest:List Int):Nat:=if at_%c.tot<c.mark.length then min rest.length (c.mark.length-at_%c.tot) else min rest.length (c.code.sz-(at_%c.tot-c.mark.length)%c.code.sz)
def S4 (c:AX) (at_:Nat) (rest:List Int):Int:=if at_%c.tot<c.mark.length then Bv (rest.take (H' c at_ rest)) (c.mark.drop (at_%c.tot)) else dA c.code rest (H' c at_ rest) ((at_%c.tot-c.mark.length)%c.code.sz) 16
def apW (c:AX):Nat->Nat->List Int->Int
 |0,_,_=>0
 |n+1,at_,rest=>if rest=[] then 0 else S4 c at_ rest+apW c n (at_+H' c at_ rest) (rest.drop (H' c at_ rest))
def Q5 (c:AX) (at_:Nat):Int:=apW c (c.mark.length+1) at_ c.mark
theorem Mu {c:AX}(hk:Ff c) (at_:Nat) {rest:List Int}(h:rest≠[]):1<=H' c at_ rest/\H' c at_ rest<=rest.length:=by
 have h1:0<rest.length:=List.length_pos_iff.2 h
 have hz:=E3 hk.code
 have:=Nat.mod_lt (at_%c.tot-c.mark.length) (show 0<c.code.sz by omega)
 unfold H'
 split<;>omega
theorem X7 (c:AX) (at_:Nat) (rest:List Int):0<=S4 c at_ rest/\S4 c at_ rest<=H' c at_ rest:=by
 unfold S4
 split
 ·have:=HM (rest.take (H' c at_ rest)) (c.mark.drop (at_%c.tot))
  have h2:(rest.take (H' c at_ rest)).length<=H' c at_ rest:=by rw[List.length_take];omega
  omega
 ·exact c_ ..
theorem Vz {c:AX}(hk:Ff c):∀(n m at_:Nat) (rest:List Int),rest.length<n->rest.length<m->apW c n at_ rest=apW c m at_ rest
 |0,_,_,_,h,_=>by omega
 |_,0,_,_,_,h=>by omega
 |n+1,m+1,at_,rest,h1,h2=>by
  unfold apW
  by_cases hr:rest=[]
  ·rw[if_pos hr,if_pos hr]
  ·rw[if_neg hr,if_neg hr]
   have:=Mu hk at_ hr
   rw[Vz hk n m _ _ (by rw[List.length_drop];omega) (by rw[List.length_drop];omega)]
theorem en {c:AX}:∀(n at_:Nat) (rest:List Int),0<=apW c n at_ rest
 |0,_,_=>Int.le_refl 0
 |n+1,at_,rest=>by
  unfold apW
  split
  ·exact Int.le_refl 0
  ·have:=(X7 c at_ rest).1
   have:=en (c:=c) n (at_+H' c at_ rest) (rest.drop (H' c at_ rest))
   omega
theorem em {c:AX}(hk:Ff c) {a j:Nat}(h:j<c.mark.length) (hj:c.mark.drop j≠[]) :
  apW c (c.mark.length+1) (a+j) (c.mark.drop j)=S4 c (a+j) (c.mark.drop j)+apW c (c.mark.length+1) (a+(j+H' c (a+j) (c.mark.drop j))) (c.mark.drop (j+H' c (a+j) (c.mark.drop j))):=by
 rw[show apW c (c.mark.length+1) (a+j) (c.mark.drop j)=S4 c (a+j) (c.mark.drop j)+apW c c.mark.length (a+j+H' c (a+j) (c.mark.drop j)) ((c.mark.drop j).drop (H' c (a+j) (c.mark.drop j))) from by
  conv=>lhs;unfold apW
  rw[if_neg hj]]
 have hp:=Mu hk (a+j) hj
 rw[List.drop_drop,Nat.add_assoc]
 congr 1
 exact Vz hk _ _ _ _ (by rw[List.length_drop];omega) (by rw[List.length_drop];omega)
theorem X1 (a b:Nat):((a:Int)).tmod (b:Int)=((a%b:Nat):Int):=by
 rw[Int.tmod_eq_emod_of_nonneg (by omega)];rfl
attribute [local congr] Bi A9 A_ Aq Bj Ax Az Ay Ap Aj Ad AY Au Ae Av BH BL BJ BK BI BM BE Ah Aw Ai BC BS Ag BF BG BD BA BB A8 Bl A' Ar Af
attribute [local irreducible] IntKind.wrap A3 Option.getD and or
theorem Nu (c:AX) (hk:Ff c) (a:Nat) (ha:a<=2000):CK E0 Fc [.ptr (Rd c (F2 c.code)),.int .i64 (a:Int)] (.int .i64 (Q5 c a)):=by
 have hm:=hk.markl
 have hs:=hk.syms
 have ht:=hk.tot
 have hz:=E3 hk.code
 have cB:=D2 c hk.wev hk.code
 have cL:=Ep c
 have w0:IntKind.i64.wrap ((c.mark.length:Int)+((c.syms*c.code.sz:Nat):Int))=((c.tot:Nat):Int):=by rw[Ak _ (by omega)];unfold AX.tot;omega
 have ht1:c.mark.length<c.tot:=by
  have:2*2<=c.syms*c.code.sz:=Nat.mul_le_mul hs.1 hz.1
  unfold AX.tot;omega
 have hne0:¬((c.tot:Nat):Int)=0:=by omega
 have hnz0:¬((c.code.sz:Nat):Int)=0:=by omega
 refine AM Hm A0 (by simp) fun hwf=>?_
 rw[AU];unfold FB
 (try (simp -implicitDefEqProofs only[go_sem,BQ,w0]));repeat' first|(with_reducible first|exact tI|refine aI ?_ ?_|intro _)|((first|with_reducible refine AO ?_ ?_<;>intro _|(with_reducible refine isCall ?_);first|refine AE cB ?_)<;>try (simp -implicitDefEqProofs only[go_sem,BQ,w0]))|simp (disch:=omega) only[An]|((with_reducible refine Cb ?_);refine⟨(_,_,_,_),rfl,?_,?_⟩)|((with_reducible refine Ao ?_);refine⟨(_,_),rfl,?_,?_⟩)
 all_goals first|omega|(simp;done)|(simp;omega)|skip
 have hd0:c.mark=c.mark.drop 0:=rfl
 refine AZ (α:=Nat×Int×Int×(List Int)) (l0:=?l1) (m0:=?m1) (fun x=>[(1,.d (.int .i64 x.2.1)),(4,.d (.int .i64 x.2.2.1)),(6,.d (.list c.nm (Al x.2.2.2)))]) (fun x=>[]) (fun x=>x.1<=c.mark.length/\x.2.1=((a+x.1:Nat):Int)/\x.2.2.2=c.mark.drop x.1/\0<=x.2.2.1/\x.2.2.1<=x.1/\x.2.2.1+apW c (c.mark.length+1) (a+x.1) (c.mark.drop x.1)=Q5 c a) (fun x=>c.mark.length-x.1) (0,(a:Int),0,c.mark) ?h01 ?he1 ?he21 ?hI1 ?step1
 case h01=>(simp -implicitDefEqProofs only[go_sem];rfl)
 case he1=>rfl
 case he21=>rfl
 case' step1=>(rintro⟨j,t,n,l⟩ hI;try dsimp only at hI)
 case' hI1=>try dsimp only
 ·exact⟨Nat.zero_le _,by simp,rfl,Int.le_refl _,by simp,by simp[Q5]⟩
 ·obtain⟨j1,j2,j3,n0,n1,j4⟩:=hI
  change t=((a+j:Nat):Int) at j2
  change l=c.mark.drop j at j3
  subst j2
  have hll:l.length=c.mark.length-j:=by rw[j3,List.length_drop]
  by_cases hj:j<c.mark.length
  ·have hl0:(0:Int)<(l.length:Int):=by omega
   have hlne:l≠[]:=fun e=>by rw[e] at hll;simp at hll;omega
   have hst:=em hk (a:=a) hj (by rw[←j3];exact hlne)
   have hsp:=Mu hk (a+j) hlne
   have hsv:=X7 c (a+j) l
   rw[←j3] at hst j4
   have hmod:=X1 (a+j) c.tot
   have hpt:=Nat.mod_lt (a+j) (show 0<c.tot by omega)
   have hlb:Ab l=true:=by rw[j3];exact Dg hm.2.2 j
   obtain⟨S,hS⟩:∃S,H' c (a+j) l=S:=⟨_,rfl⟩
   obtain⟨V,hV⟩:∃V,S4 c (a+j) l=V:=⟨_,rfl⟩
   have hS':=hS
   have hV':=hV
   unfold H' at hS'
   unfold S4 at hV'
   rw[hS] at hst hsp hsv hV'
   rw[hV] at hst hsv
   have wn:IntKind.i64.wrap (n+V)=n+V:=Ak _ (by omega)
   have wt:IntKind.i64.wrap (((a+j:Nat):Int)+(S:Int))=((a+(j+S):Nat):Int):=by rw[Ak _ (by omega)];omega
   have hlS:(S:Int)<=(l.length:Int):=by omega
   have hdl:l.drop S=c.mark.drop (j+S):=by rw[j3,List.drop_drop]
   have htk:(c.mark.drop (j+S)).take (l.length-S)=c.mark.drop (j+S):=List.take_of_length_le (by rw[List.length_drop];omega)
   by_cases hp:(a+j)%c.tot<c.mark.length
   ·rw[if_pos hp] at hS' hV'
    have hp':(((a+j)%c.tot:Nat):Int)<(c.mark.length:Int):=by omega
    have hmn:min (l.length:Int) (IntKind.i64.wrap ((c.mark.length:Int)-(((a+j)%c.tot:Nat):Int)))=(S:Int):=by rw[Ak _ (by omega)];omega
    have cD:=Ek c.nm c.nm (l.take S) (c.mark.drop ((a+j)%c.tot)) (Et hlb S) (Dg hm.2.2 _) (by rw[List.length_take,List.length_drop];omega) (by rw[List.length_take];omega)
    rw[hV'] at cD
    (try (simp -implicitDefEqProofs only[go_sem,BQ,w0,hl0,hmod,hne0,hp',hmn,hlS,wn,wt,hdl,htk]));repeat' first|(with_reducible first|exact tI|refine aI ?_ ?_|intro _)|((first|with_reducible refine AO ?_ ?_<;>intro _|(with_reducible refine isCall ?_);first|refine AE cB ?_|refine AE cD ?_)<;>try (simp -implicitDefEqProofs only[go_sem,BQ,w0,hl0,hmod,hne0,hp',hmn,hlS,wn,wt,hdl,htk]))|simp (disch:=omega) only[An]|((with_reducible refine Cb ?_);refine⟨(_,_,_,_),rfl,?_,?_⟩)|((with_reducible refine Ao ?_);refine⟨(_,_),rfl,?_,?_⟩)
    all_goals first|omega|(simp;done)|(simp;omega)|skip
    exact⟨(j+S,_,_,_),rfl,⟨by show j+S<=_;omega,rfl,rfl,by show 0<=n+V;omega,by show n+V<=((j+S:Nat):Int);omega,by show n+V+apW c (c.mark.length+1) (a+(j+S)) (c.mark.drop (j+S))=Q5 c a;rw[←j4,hst];omega⟩,by show c.mark.length-(j+S)<_;omega⟩
   ·rw[if_neg hp] at hS' hV'
    have hp':¬(((a+j)%c.tot:Nat):Int)<(c.mark.length:Int):=by omega
    obtain⟨q,hq⟩:∃q,((a+j)%c.tot-c.mark.length)%c.code.sz=q:=⟨_,rfl⟩
    rw[hq] at hS' hV'
    have hql:q<c.code.sz:=by rw[←hq];exact Nat.mod_lt _ (by omega)
    have wq:IntKind.i64.wrap ((((a+j)%c.tot:Nat):Int)-(c.mark.length:Int))=(((a+j)%c.tot-c.mark.length:Nat):Int):=by rw[Ak _ (by omega)];omega
    have hmq:=X1 ((a+j)%c.tot-c.mark.length) c.code.sz
    rw[hq] at hmq
    have wz:IntKind.i64.wrap ((c.code.sz:Int)-(q:Int))=((c.code.sz-q:Nat):Int):=by rw[Ak _ (by omega)];omega
    have hmn:min (l.length:Int) ((c.code.sz-q:Nat):Int)=(S:Int):=by omega
    have hmn0:∃z,min (l.length:Int) (IntKind.i64.wrap ((c.mark.length:Int)-(((a+j)%c.tot:Nat):Int)))=z:=⟨_,rfl⟩
    obtain⟨z,hz0⟩:=hmn0
    have h28:=P3 c.code
    have h16:=Ro c.code
    (try (simp -implicitDefEqProofs only[go_sem,BQ,w0,hl0,hmod,hne0,hnz0,hp',hz0,wq,hmq,wz,hmn,h28,h16]));repeat' first|(with_reducible first|exact tI|refine aI ?_ ?_|intro _)|((first|with_reducible refine AO ?_ ?_<;>intro _|(with_reducible refine isCall ?_);first|refine AE cB ?_|refine AE cL ?_)<;>try (simp -implicitDefEqProofs only[go_sem,BQ,w0,hl0,hmod,hne0,hnz0,hp',hz0,wq,hmq,wz,hmn,h28,h16]))|simp (disch:=omega) only[An]|((with_reducible refine Cb ?_);refine⟨(_,_,_,_),rfl,?_,?_⟩)|((with_reducible refine Ao ?_);refine⟨(_,_),rfl,?_,?_⟩)
    all_goals first|omega|(simp;done)|(simp;omega)|skip
    refine AZ (α:=Nat×Int) (l0:=?l2) (m0:=?m2) (fun x=>[(87,.d (.int .i64 (x.1:Int))),(9,.d (.int .i64 x.2))]) (fun x=>[]) (fun x=>x.1<=16/\x.2=dA c.code l S q x.1) (fun x=>16-x.1) (0,(S:Int)) ?h02 ?he2 ?he22 ?hI2 ?step2
    case h02=>(simp -implicitDefEqProofs only[go_sem];rfl)
    case he2=>rfl
    case he22=>rfl
    case' step2=>(rintro⟨s,b⟩ hI2;try dsimp only at hI2)
    case' hI2=>try dsimp only
    ·exact⟨Nat.zero_le _,rfl⟩
    ·obtain⟨s1,s2⟩:=hI2
     change b=dA c.code l S q s at s2
     by_cases hs16:s<16
     ·have hs':(s:Int)<16:=by omega
      have hg:=P4 c.code hs16
      have hsl:=LU c.code s
      have hws:IntKind.i64.wrap ((s:Int)+1)=((s+1:Nat):Int):=by rw[Ak _ (by omega)];omega
      have cD:=Ek c.nm false (l.take S) ((c.code.stm s).drop q) (Et hlb S) (Dg (UK ..) _) (by rw[List.length_take,List.length_drop,hsl];omega) (by rw[List.length_take];omega)
      have hqs:(q:Int)<=((c.code.stm s).length:Int):=by omega
      obtain⟨dv,hdv⟩:∃dv,Bv (l.take S) ((c.code.stm s).drop q)=dv:=⟨_,rfl⟩
      rw[hdv] at cD
      have hmm:min b dv=dA c.code l S q (s+1):=by rw[s2,←hdv];rfl
      have htk2:((c.code.stm s).drop q).take (c.code.sz-q)=(c.code.stm s).drop q:=List.take_of_length_le (by rw[List.length_drop];omega)
      (try (simp -implicitDefEqProofs only[go_sem,hs',hg,hsl,hws,hlS,hqs,hql,hmm,htk2]));repeat' first|(with_reducible first|exact tI|refine aI ?_ ?_|intro _)|((first|with_reducible refine AO ?_ ?_<;>intro _|(with_reducible refine isCall ?_);first|refine AE cD ?_)<;>try (simp -implicitDefEqProofs only[go_sem,hs',hg,hsl,hws,hlS,hqs,hql,hmm,htk2]))|simp (disch:=omega) only[An]|((with_reducible refine Cb ?_);refine⟨(_,_,_,_),rfl,?_,?_⟩)|((with_reducible refine Ao ?_);refine⟨(_,_),rfl,?_,?_⟩)
      all_goals first|omega|(simp;done)|(simp;omega)|skip
      all_goals skip
     ·have hs':¬(s:Int)<16:=by omega
      have hse:s=16:=by omega
      rw[hse,hV'] at s2
      subst s2
      (try (simp -implicitDefEqProofs only[go_sem,hs',hlS,wn,wt,hdl,htk]));repeat' first|(with_reducible first|exact tI|refine aI ?_ ?_|intro _)|((first|with_reducible refine AO ?_ ?_<;>intro _)<;>try (simp -implicitDefEqProofs only[go_sem,hs',hlS,wn,wt,hdl,htk]))|simp (disch:=omega) only[An]|((with_reducible refine Cb ?_);refine⟨(_,_,_,_),rfl,?_,?_⟩)|((with_reducible refine Ao ?_);refine⟨(_,_),rfl,?_,?_⟩)
      all_goals first|omega|(simp;done)|(simp;omega)|skip
      exact⟨(j+S,_,_,_),rfl,⟨by show j+S<=_;omega,rfl,rfl,by show 0<=n+b;omega,by show n+b<=((j+S:Nat):Int);omega,by show n+b+apW c (c.mark.length+1) (a+(j+S)) (c.mark.drop (j+S))=Q5 c a;rw[←j4,hst];omega⟩,by show c.mark.length-(j+S)<_;omega⟩
  ·have hl0:¬(0:Int)<(l.length:Int):=by omega
   have hln:l=[]:=List.length_eq_zero_iff.1 (by omega)
   have hap:apW c (c.mark.length+1) (a+j) (c.mark.drop j)=0:=by rw[←j3,hln];simp[apW]
   have:n=Q5 c a:=by rw[←j4,hap];omega
   subst this
   (try (simp -implicitDefEqProofs only[go_sem,hl0]));repeat' first|(with_reducible first|exact tI|refine aI ?_ ?_|intro _)|((first|with_reducible refine AO ?_ ?_<;>intro _)<;>try (simp -implicitDefEqProofs only[go_sem,hl0]))|simp (disch:=omega) only[An]|((with_reducible refine Cb ?_);refine⟨(_,_,_,_),rfl,?_,?_⟩)|((with_reducible refine Ao ?_);refine⟨(_,_),rfl,?_,?_⟩)
   all_goals first|omega|(simp;done)|(simp;omega)|skip
   all_goals first|rfl|skip
end Go.Pw
end
section
open Go Go.Pw Go.Proofs
namespace Go.Pw
set_option maxRecDepth 100000
set_option maxHeartbeats 3200000
def Yd (c:AX):Nat->Int
 |0=>(c.mark.length:Int)
 |n+1=>min (Yd c n) (Q5 c (n+1))
def V3 (c:AX):Int:=if c.ok=true then Yd c (c.tot-1) else 0
def nR (c:AQ) (a:Nat) (l:Int):Nat->Int
 |0=>l
 |b+1=>min (nR c a l b) (Bv (c.stm a) (c.stm b))
def nQ (c:AQ):Nat->Int
 |0=>(c.sz:Int)
 |a+1=>nR c a (nQ c a) a
def nS (c:AX):Int:=if c.ok=true then nQ c.code 16 else 0
def Tl (c:AX):Int:=if c.Q*(c.P/2)=0 then 0 else if c.Q*c.L<=c.Q*(c.P/2) then ((c.syms*c.code.sz:Nat):Int) else (c.Q*(c.P/2)-1)*c.code.sz+1
def Yb (c:AX):Int:=if c.ok=true then Tl c else 0
theorem jS {L P Q:Int}(h:Cv L P Q=true):0<=Q*(P/2)/\Q*(P/2)<=32:=by
 have hb:=Sf h
 have h1:0<=P/2/\P/2<=4:=by omega
 obtain⟨q,rfl⟩:∃q:Nat,Q=(q:Int):=⟨Q.toNat,by omega⟩
 obtain⟨p,hp⟩:∃p:Nat,P/2=(p:Int):=⟨(P/2).toNat,by omega⟩
 rw[hp] at h1 ⊢
 have h2:q*p<=8*4:=Nat.mul_le_mul (by omega) (by omega)
 have h3:(q:Int)*(p:Int)=((q*p:Nat):Int):=by push_cast;rfl
 rw[h3];omega
attribute [local congr] Bi A9 A_ Aq Bj Ax Az Ay Ap Aj Ad AY Au Ae Av BH BL BJ BK BI BM BE Ah Aw Ai BC BS Ag BF BG BD BA BB A8 Bl A' Ar Af
attribute [local irreducible] IntKind.wrap A3 Option.getD and or
theorem H6 (c:AX):CK E0 KC [FG c] (.tup [.int .i64 (V3 c),.int .i64 (OV c)]):=by
 have c1:=D1 c
 obtain⟨r,hr⟩:∃r,cT c=r:=⟨_,rfl⟩
 rw[hr] at c1
 refine AM Nj A0 (by simp) fun hwf=>?_
 rw[AU];unfold Ix V3
 rcases hok:c.ok with _|_
 ·have:=HH hok
  rw[hr] at this
  rw[this.1,this.2] at c1
  rw[this.2]
  (try (simp -implicitDefEqProofs only[go_sem,AI,AH]));repeat' first|(with_reducible first|exact tI|refine aI ?_ ?_|intro _)|((first|with_reducible refine AO ?_ ?_<;>intro _|(with_reducible refine isCall ?_);first|refine AE c1 ?_)<;>try (simp -implicitDefEqProofs only[go_sem,AI,AH]))|simp (disch:=omega) only[An]|((with_reducible refine BU ?_);refine⟨(_,_,_),rfl,?_,?_⟩)
  all_goals first|rfl|skip
 ·have:=GE hok
  have hk:=D7 hok
  rw[hr] at this
  rw[this.1,this.2] at c1
  rw[this.2]
  have hm:=hk.markl
  have ht:=hk.tot
  have cB:=D2 c hk.wev hk.code
  have w0:IntKind.i64.wrap ((c.mark.length:Int)+((c.syms*c.code.sz:Nat):Int))=((c.tot:Nat):Int):=by rw[Ak _ (by omega)];unfold AX.tot;omega
  have ht1:1<=c.tot:=by unfold AX.tot;omega
  simp only[if_true]
  (try (simp -implicitDefEqProofs only[go_sem,AI,AH,BQ]));repeat' first|(with_reducible first|exact tI|refine aI ?_ ?_|intro _)|((first|with_reducible refine AO ?_ ?_<;>intro _|(with_reducible refine isCall ?_);first|refine AE c1 ?_)<;>try (simp -implicitDefEqProofs only[go_sem,AI,AH,BQ]))|simp (disch:=omega) only[An]|((with_reducible refine BU ?_);refine⟨(_,_,_),rfl,?_,?_⟩)
  all_goals first|omega|(simp;done)|(simp;omega)|skip
  refine AZ (α:=Nat×Int×Int) (l0:=?l1) (m0:=?m1) (fun x=>[(7,.d (.int .i64 x.2.1)),(6,.d (.int .i64 x.2.2))]) (fun x=>[]) (fun x=>x.1<=c.tot-1/\x.2.1=((x.1+1:Nat):Int)/\x.2.2=Yd c x.1) (fun x=>c.tot-1-x.1) (0,1,(c.mark.length:Int)) ?h01 ?he1 ?he21 ?hI1 ?step1
  case h01=>(simp -implicitDefEqProofs only[go_sem];rfl)
  case he1=>rfl
  case he21=>rfl
  case' step1=>(rintro⟨k,t,n⟩ hI;try dsimp only at hI)
  case' hI1=>try dsimp only
  ·exact⟨Nat.zero_le _,rfl,rfl⟩
  ·obtain⟨k1,k2,k3⟩:=hI
   change t=((k+1:Nat):Int) at k2
   change n=Yd c k at k3
   subst k2
   by_cases hkt:k+1<c.tot
   ·have hk':((k+1:Nat):Int)<((c.tot:Nat):Int):=by omega
    have cA:=Nu c hk (k+1) (by omega)
    have hwk:IntKind.i64.wrap (((k+1:Nat):Int)+1)=((k+1+1:Nat):Int):=by rw[Ak _ (by omega)];omega
    have hmm:min n (Q5 c (k+1))=Yd c (k+1):=by rw[k3];rfl
    (try (simp -implicitDefEqProofs only[go_sem,BQ,w0,hk',hwk,hmm]));repeat' first|(with_reducible first|exact tI|refine aI ?_ ?_|intro _)|((first|with_reducible refine AO ?_ ?_<;>intro _|(with_reducible refine isCall ?_);first|refine AE cB ?_|refine AE cA ?_)<;>try (simp -implicitDefEqProofs only[go_sem,BQ,w0,hk',hwk,hmm]))|simp (disch:=omega) only[An]|((with_reducible refine BU ?_);refine⟨(_,_,_),rfl,?_,?_⟩)
    all_goals first|omega|(simp;done)|(simp;omega)|skip
    exact⟨(k+1,_,_),rfl,⟨by show k+1<=c.tot-1;omega,rfl,rfl⟩,by show c.tot-1-(k+1)<c.tot-1-k;omega⟩
   ·have hk':¬((k+1:Nat):Int)<((c.tot:Nat):Int):=by omega
    have hke:k=c.tot-1:=by omega
    subst hke
    rw[k3]
    (try (simp -implicitDefEqProofs only[go_sem,BQ,w0,hk']));repeat' first|(with_reducible first|exact tI|refine aI ?_ ?_|intro _)|((first|with_reducible refine AO ?_ ?_<;>intro _|(with_reducible refine isCall ?_);first|refine AE cB ?_)<;>try (simp -implicitDefEqProofs only[go_sem,BQ,w0,hk']))|simp (disch:=omega) only[An]|((with_reducible refine BU ?_);refine⟨(_,_,_),rfl,?_,?_⟩)
    all_goals first|omega|(simp;done)|(simp;omega)|skip
    all_goals first|rfl|skip
theorem Nv (c:AX):CK E0 KB [FG c] (.tup [.int .i64 (Yb c),.int .i64 (OV c)]):=by
 have c1:=D1 c
 obtain⟨r,hr⟩:∃r,cT c=r:=⟨_,rfl⟩
 rw[hr] at c1
 refine AM Ni A0 (by simp) fun hwf=>?_
 rw[AU];unfold Iw Yb
 rcases hok:c.ok with _|_
 ·have:=HH hok
  rw[hr] at this
  rw[this.1,this.2] at c1
  rw[this.2]
  (try (simp -implicitDefEqProofs only[go_sem,AI,AH]));repeat' first|(with_reducible first|exact tI|refine aI ?_ ?_|intro _)|((first|with_reducible refine AO ?_ ?_<;>intro _|(with_reducible refine isCall ?_);first|refine AE c1 ?_)<;>try (simp -implicitDefEqProofs only[go_sem,AI,AH]))|simp (disch:=omega) only[An]
  all_goals first|rfl|skip
 ·have:=GE hok
  have hk:=D7 hok
  rw[hr] at this
  rw[this.1,this.2] at c1
  rw[this.2]
  have cL:=Ep c
  have cB:=D2 c hk.wev hk.code
  have cS:=E6 c (F2 c.code) hk.wev
  have hz:=E3 hk.code
  have hb:=Sf hk.wev
  have hqp:=jS hk.wev
  have w1:IntKind.i64.wrap (c.P.tdiv 2)=c.P/2:=by rw[Int.tdiv_eq_ediv_of_nonneg (by omega)];exact Ak _ (by omega)
  have w2:IntKind.i64.wrap (c.Q*(c.P/2))=c.Q*(c.P/2):=Ak _ (by omega)
  simp only[if_true]
  unfold Tl
  obtain⟨h,hh⟩:∃h,c.Q*(c.P/2)=h:=⟨_,rfl⟩
  rw[hh] at w2 hqp ⊢
  have hmul:(h-1)*(c.code.sz:Int)<=31*20:=by
   by_cases h0:0<=h-1
   ·exact Int.mul_le_mul (by omega) (by omega) (by omega) (by omega)
   ·have:h=0:=by omega
    subst this
    omega
  have hmul0:h≠0->0<=(h-1)*(c.code.sz:Int):=fun h0=>Int.mul_nonneg (by omega) (by omega)
  have w3:IntKind.i64.wrap (h-1)=h-1:=Ak _ (by omega)
  by_cases h0:h=0
  ·rw[if_pos h0]
   have w6:IntKind.i64.wrap 0=0:=Ak 0 (by omega)
   (try (simp -implicitDefEqProofs only[go_sem,AI,AH,BQ,w1,w2,w6,hh,h0]));repeat' first|(with_reducible first|exact tI|refine aI ?_ ?_|intro _)|((first|with_reducible refine AO ?_ ?_<;>intro _|(with_reducible refine isCall ?_);first|refine AE c1 ?_)<;>try (simp -implicitDefEqProofs only[go_sem,AI,AH,BQ,w1,w2,w6,hh,h0]))|simp (disch:=omega) only[An]
   all_goals first|rfl|skip
  ·rw[if_neg h0]
   have w4:IntKind.i64.wrap ((h-1)*(c.code.sz:Int))=(h-1)*(c.code.sz:Int):=Ak _ (by have:=hmul0 h0;omega)
   have w5:IntKind.i64.wrap ((h-1)*(c.code.sz:Int)+1)=(h-1)*(c.code.sz:Int)+1:=Ak _ (by have:=hmul0 h0;omega)
   by_cases h1:c.Q*c.L<=h
   ·rw[if_pos h1]
    (try (simp -implicitDefEqProofs only[go_sem,AI,AH,BQ,w1,w2,hh,h0,h1]));repeat' first|(with_reducible first|exact tI|refine aI ?_ ?_|intro _)|((first|with_reducible refine AO ?_ ?_<;>intro _|(with_reducible refine isCall ?_);first|refine AE c1 ?_|refine AE cL ?_|refine AE cB ?_|refine AE cS ?_)<;>try (simp -implicitDefEqProofs only[go_sem,AI,AH,BQ,w1,w2,hh,h0,h1]))|simp (disch:=omega) only[An]
    all_goals first|rfl|skip
   ·rw[if_neg h1]
    (try (simp -implicitDefEqProofs only[go_sem,AI,AH,BQ,w1,w2,hh,h0,h1,w3,w4,w5]));repeat' first|(with_reducible first|exact tI|refine aI ?_ ?_|intro _)|((first|with_reducible refine AO ?_ ?_<;>intro _|(with_reducible refine isCall ?_);first|refine AE c1 ?_|refine AE cL ?_|refine AE cB ?_|refine AE cS ?_)<;>try (simp -implicitDefEqProofs only[go_sem,AI,AH,BQ,w1,w2,hh,h0,h1,w3,w4,w5]))|simp (disch:=omega) only[An]
    all_goals first|rfl|skip
end Go.Pw
end
