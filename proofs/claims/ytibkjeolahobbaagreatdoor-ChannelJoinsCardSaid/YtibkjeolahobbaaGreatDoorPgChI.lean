/- A part of the proof. -/
import Derived.Test.YtibkjeolahobbaaGreatDoorPgChG
import Derived.Test.YtibkjeolahobbaaGreatDoorPgChrV
set_option linter.all false
open Go Go.Pw Go.Proofs
namespace Go.Pw
set_option maxRecDepth 100000
set_option maxHeartbeats 3200000
section
theorem Cw (sy:List (Option Nat)):(GV sy).length=sy.length:=by simp[GV]
def TL (sy:List (Option Nat)) (k:Nat):List Int:=(GV sy).take k++(OM sy).drop k
theorem Zu (sy:List (Option Nat)) (k:Nat):(TL sy k).length=sy.length:=by
 unfold TL;rw[List.length_append,List.length_take,List.length_drop,Cw,Ez];omega
theorem qv (sy:List (Option Nat)):TL sy 0=OM sy:=rfl
theorem k8 (sy:List (Option Nat)):TL sy sy.length=GV sy:=by
 unfold TL
 rw[List.take_of_length_le (by rw[Cw];omega),List.drop_eq_nil_of_le (by rw[Ez];omega),List.append_nil]
theorem kz (sy:List (Option Nat)) {k:Nat}(h:k<sy.length):(TL sy k)[k]?.getD 0=Se sy[k]:=by
 unfold TL
 rw[List.getElem?_append_right (by rw[List.length_take,Cw];omega),List.length_take,Cw,Nat.min_eq_left (by omega),Nat.sub_self,List.getElem?_drop]
 simp[OM,h]
theorem WK (sy:List (Option Nat)) {k:Nat}(h:k<sy.length):TL sy (k+1)=(GV sy).take k++(((sy[k].getD 0:Nat):Int)::(OM sy).drop (k+1)):=by
 unfold TL
 rw[List.take_add_one,List.append_assoc]
 congr 1
 simp[GV,h]
theorem WL (sy:List (Option Nat)) {k:Nat}(h:k<sy.length):TL sy k=(GV sy).take k++(Se sy[k]::(OM sy).drop (k+1)):=by
 unfold TL
 rw[List.drop_eq_getElem_cons (by rw[Ez];exact h)]
 simp[OM]
theorem fe (sy:List (Option Nat)) {k s:Nat}(h:k<sy.length) (hs:sy[k]=some s):TL sy (k+1)=TL sy k:=by
 rw[WK sy h,WL sy h,hs];rfl
theorem ff (sy:List (Option Nat)) {k:Nat}(h:k<sy.length) (hs:sy[k]=none):(TL sy k).set k 0=TL sy (k+1):=by
 rw[WK sy h,WL sy h,hs]
 rw[List.set_append_right _ _ (by rw[List.length_take,Cw];omega),List.length_take,Cw,Nat.min_eq_left (by omega),Nat.sub_self];rfl
def NT (sy:List (Option Nat)) (k:Nat):List Nat:=(List.range k).filter fun i=>(sy[i]?.getD none).isNone
theorem UN (sy:List (Option Nat)):NT sy sy.length=J_ sy:=rfl
theorem RX (sy:List (Option Nat)) {k s:Nat}(h:k<sy.length) (hs:sy[k]=some s):NT sy (k+1)=NT sy k:=by
 unfold NT;rw[List.range_succ,List.filter_append]
 simp[h,hs]
theorem RY (sy:List (Option Nat)) {k:Nat}(h:k<sy.length) (hs:sy[k]=none):NT sy (k+1)=NT sy k++[k]:=by
 unfold NT;rw[List.range_succ,List.filter_append]
 simp[h,hs]
theorem UM (sy:List (Option Nat)) (k:Nat):(NT sy k).length<=k:=by
 have:=List.length_filter_le (fun i=>(sy[i]?.getD none).isNone) (List.range k)
 rw[List.length_range] at this;exact this
theorem RU (l:List Nat) (k:Nat):ni l++[(k:Int)]=ni (l++[k]):=by simp[ni]
theorem QK (l:List Nat):(ni l).length=l.length:=by simp[ni]
def _root_.Go.Pw.D.NOK1:D->Prop
 |.list nl xs=>nl=true->xs=[]
 |_=>True
def _root_.Go.Pw.D.NOK:D->Prop
 |.agg cs=>∀c,c∈cs->c.NOK1
 |d=>d.NOK1
theorem kf {w:World}{fb:Nat->Prop}{d:D}{v:Value}(h:Aw w fb d v):d.NOK1:=by
 cases h with
 |nil=>exact fun _=>rfl
 |empty=>exact fun h=>by cases h
 |list=>exact fun h=>by cases h
 |_=>trivial
theorem pP {w:World}{fb:Nat->Prop}{d:D}{v:Value}(h:Aw w fb d v):d.NOK:=by
 cases h with
 |nil=>exact fun _=>rfl
 |empty=>exact fun h=>by cases h
 |list=>exact fun h=>by cases h
 |agg cs vs hl h1 hh =>
  intro c hc
  obtain⟨i,hi⟩:=List.getElem?_of_mem hc
  have hlt:i<vs.size:=by rw[hl];exact(List.getElem?_eq_some_iff.1 hi).1
  exact kf (hh i c _ hi (Array.getElem?_eq_getElem hlt))
 |_=>trivial
theorem Zb {E:CB}{f:FuncId}{ds:List D}{r:D}(h:(∀d,d∈ds->d.NOK)->BR E f ds r):BR E f ds r:=fun w fb vs hfb hg hl hd =>
 h (fun d hdm=>by
  obtain⟨i,hi⟩:=List.getElem?_of_mem hdm
  have hlt:i<vs.size:=by rw[hl];exact(List.getElem?_eq_some_iff.1 hi).1
  exact pP (hd i d _ hi (Array.getElem?_eq_getElem hlt))) w fb vs hfb hg hl hd
theorem mJ {c:AX}(h:(DJ c).NOK) (hm:1<=c.mark.length):c.nm=false:=by
 have h1:=h (.list c.nm (Aa c.mark)) (by simp[W8])
 cases hn:c.nm with
 |false=>rfl
 |true =>
  have h2:Aa c.mark=[]:=h1 hn
  have h3:=congrArg List.length h2
  rw[BH] at h3
  change c.mark.length=0 at h3
  omega
theorem kw {nl:Bool}{xs:List Int}(h:(D.list nl (Aa xs)).NOK):nl=true->xs=[]:=fun hn=>by
 have h2:Aa xs=[]:=h hn
 have h3:=congrArg List.length h2
 rw[BH] at h3
 exact List.length_eq_zero_iff.1 (by simpa using h3)
theorem ZS {c:AX}(h:CL c.L c.P c.Q=true) {d:List Int}(he:d6 c.L c.P c.Q d=0):(aW c.L c.P c.Q d).length=c.syms:=by
 unfold d6 at he
 rw[if_pos h] at he
 have hs:Bl d (c.Q*(c.L-c.P))=true:=by
  cases hs:Bl d (c.Q*(c.L-c.P)) with
  |true=>rfl
  |false=>rw[hs] at he;simp at he
 unfold aW
 rw[if_pos h,if_pos hs,Gx,ZR]
 have h2:=nq h
 have h3:=QF h
 have:((c.L.toNat * c.Q.toNat:Nat):Int)=c.Q*c.L:=by push_cast;rw[Int.toNat_of_nonneg (by omega),Int.toNat_of_nonneg (by omega),Int.mul_comm]
 omega
theorem Y7 (c:AX) (X:List Int) {k:Nat}(h:k<X.length):c.flat (X.take k)++c.code.stm (X[k]?.getD 0).toNat=c.flat (X.take (k+1)):=by
 rw[List.take_add_one,List.getElem?_eq_getElem h]
 unfold AX.flat
 rw[List.flatMap_append]
 simp
attribute [local irreducible] IntKind.wrap Ai Option.getD and or
theorem MP (nl:Bool) (xs:List Int) (hl:xs.length<=1000) (hne:0<xs.length) (hnl:nl=false):Hk E0 FG [] [.d (.list nl (Aa xs))] [(7,1,.row 3 1 false (Aa xs))] (.own 7 1):=by
 subst hnl
 refine C3 Hs Af (by simp) (by simp[Pu,E9,D7]) (by simp[J4]) fun hwf hwo=>?_
 rw[De];unfold Eg
 have hn:¬xs=[]:=by intro h;rw[h] at hne;simp at hne
 (try (simp -implicitDefEqProofs only[go_sem,hn]));repeat' first|(with_reducible first|exact tI|refine aI ?_ ?_|intro _|refine AJ ?_ ?_<;>intro _<;>try simp -implicitDefEqProofs only[go_sem,hn])|simp (disch:=omega) only[Ad]
 all_goals first|omega|rfl
theorem G9 (c:AX) (hk:HJ c) (sy:List (Option Nat)) (hl:sy.length=c.syms) :
  BR E0 EV [.ptr (Sv c (FR c.code)),.list false (Aa (OM sy))] (.tup [.list (YW c sy).isEmpty (Aa (YW c sy)),.int .i64 (XU c sy)]):=by
 have hs:=hk.syms
 have hsl:=Ez sy
 have cC:=MP false (OM sy) (by omega) (by omega) rfl
 have h0l:(TL sy 0).length=sy.length:=Zu sy 0
 refine AM Gf Af (by simp) fun hwf=>?_
 rw[AQ];unfold D0
 (try (simp -implicitDefEqProofs only[go_sem]));repeat' first|(with_reducible first|exact tI|refine aI ?_ ?_|intro _)|((first|with_reducible refine AJ ?_ ?_<;>intro _|(with_reducible refine isCall ?_);first|(refine EM ([]) ([((7,1),(11,0))]) (cC) ?_))<;>try (simp -implicitDefEqProofs only[go_sem]))|simp (disch:=omega) only[Ad]|((with_reducible apply Ae);exact rfl)
 all_goals first|omega|(simp<;>omega)|skip
 rw[←qv]
 refine AU (α:=Nat×Bool) (l0:=?l1) (m0:=?m1) (fun x=>[(14,.d (.int .i64 (x.1:Int)))]) (fun x=>[(11,.row 3 1 false (Aa (TL sy x.1))),(24,.row 3 1 x.2 (Aa (ni (NT sy x.1))))]) (fun x=>x.1<=sy.length/\x.2=(NT sy x.1).isEmpty) (fun x=>sy.length-x.1) (0,true) ?h01 ?he1 ?he21 ?hI1 ?step1
 case h01=>(simp -implicitDefEqProofs only[go_sem];rfl)
 case he1=>rfl
 case he21=>rfl
 case' step1=>(rintro⟨k,e⟩ hI;try dsimp only at hI)
 case' hI1=>try dsimp only
 ·exact⟨Nat.zero_le _,rfl⟩
 ·obtain⟨k1,k2⟩:=hI
  change e=(NT sy k).isEmpty at k2
  have hkl:=Zu sy k
  by_cases hks:k<sy.length
  ·have hk':(k:Int)<(sy.length:Int):=by omega
   have hg:=kz sy hks
   have hwk:IntKind.i64.wrap ((k:Int)+1)=((k+1:Nat):Int):=by rw[AZ _ (by omega)];omega
   have hmk:=UM sy k
   have hml:=QK (NT sy k)
   cases hsy:sy[k] with
   |none =>
    rw[hsy] at hg
    change (TL sy k)[k]?.getD 0=-1 at hg
    have h1:=ff sy hks hsy
    have h2:=RY sy hks hsy
    have h3:=RU (NT sy k) k
    have h4:false=(NT sy k++[k]).isEmpty:=by cases NT sy k<;>rfl
    (try (simp -implicitDefEqProofs only[go_sem,hk',hks,hg,hwk,hkl,hml,h1,h3]));repeat' first|(with_reducible first|exact tI|refine aI ?_ ?_|intro _|refine AJ ?_ ?_<;>intro _<;>try simp -implicitDefEqProofs only[go_sem,hk',hks,hg,hwk,hkl,hml,h1,h3])|simp (disch:=omega) only[Ad]|((with_reducible refine Ca ?_);refine⟨(_,_),rfl,?_,?_⟩)
    all_goals first|omega|(simp<;>omega)|skip
    rw[←h2] at h4 ⊢
    exact⟨(k+1,false),rfl,⟨by show k+1<=sy.length;omega,h4⟩,by show sy.length-(k+1)<sy.length-k;omega⟩
   |some s =>
    rw[hsy] at hg
    change (TL sy k)[k]?.getD 0=(s:Int) at hg
    have hne:¬(s:Int)=-1:=by omega
    have h1:=fe sy hks hsy
    have h2:=RX sy hks hsy
    (try (simp -implicitDefEqProofs only[go_sem,hk',hks,hg,hwk,hkl,hml,hne]));repeat' first|(with_reducible first|exact tI|refine aI ?_ ?_|intro _|refine AJ ?_ ?_<;>intro _<;>try simp -implicitDefEqProofs only[go_sem,hk',hks,hg,hwk,hkl,hml,hne])|simp (disch:=omega) only[Ad]|((with_reducible refine Ca ?_);refine⟨(_,_),rfl,?_,?_⟩)
    all_goals first|omega|(simp<;>omega)|skip
    rw[←h2] at k2 ⊢
    rw[←h1]
    exact⟨(k+1,e),rfl,⟨by show k+1<=sy.length;omega,k2⟩,by show sy.length-(k+1)<sy.length-k;omega⟩
  ·have hke:k=sy.length:=by omega
   subst hke
   have hk':¬(sy.length:Int)<((TL sy 0).length:Int):=by omega
   have hkn:=Cw sy
   have c1:=F7 c (FR c.code) false (GV sy) hk.seed (by omega) (by omega)
   have c2:=Mu c.L c.P c.Q false e (Bd c.seed (GV sy)) (ni (J_ sy)) (by rw[Bm];omega)
   have h1:=k8 sy
   have h2:=UN sy
   unfold YW XU
   (try (simp -implicitDefEqProofs only[go_sem,A0,hk',h1,h2]));repeat' first|(with_reducible first|exact tI|refine aI ?_ ?_|intro _)|((first|with_reducible refine AJ ?_ ?_<;>intro _|(with_reducible refine isCall ?_);first|refine AE c1 ?_|refine AE c2 ?_)<;>try (simp -implicitDefEqProofs only[go_sem,A0,hk',h1,h2]))|simp (disch:=omega) only[Ad]|((with_reducible apply Ae);exact rfl)
   all_goals first|rfl|skip
theorem N5 (c:AX) (nl:Bool) (d:List Int):BR E0 J0 [DJ c,.list nl (Aa d)] (.tup [.list (qU c d).isEmpty (Aa (qU c d)),.int .i64 (rZ c d)]):=by
 refine Zb fun hnok=>?_
 have c1:=EA c
 obtain⟨r,hr⟩:∃r,jO c=r:=⟨_,rfl⟩
 rw[hr] at c1
 refine AM Nu Af (by simp) fun hwf=>?_
 rw[AQ];unfold IW
 unfold qU rZ
 rcases hok:c.ok with _|_
 ·have:=Hn hok
  rw[hr] at this
  rw[this.1,this.2] at c1
  simp only[Bool.false_eq_true,if_false]
  (try (simp -implicitDefEqProofs only[go_sem,AP,AO]));repeat' first|(with_reducible first|exact tI|refine aI ?_ ?_|intro _)|((first|with_reducible refine AJ ?_ ?_<;>intro _|(with_reducible refine isCall ?_);first|refine AE c1 ?_)<;>try (simp -implicitDefEqProofs only[go_sem,AP,AO]))|simp (disch:=omega) only[Ad]|((with_reducible apply Ab);exact rfl)
  all_goals first|rfl|skip
 ·have:=JC hok
  have hk:=JO hok
  have hm:=hk.markl
  have hs:=hk.syms
  have hnm:=mJ (hnok _ (by simp)) hm.1
  rw[hr] at this
  rw[this.1,this.2] at c1
  have c2:=Mt c.L c.P c.Q nl d
  simp only[if_true]
  by_cases hsp:d6 c.L c.P c.Q d=0
  ·have hbl:=ZS hk.wev hsp
   rw[hsp] at c2 ⊢
   simp only[if_true]
   unfold Q5
   obtain⟨B,hB⟩:∃B,aW c.L c.P c.Q d=B:=⟨_,rfl⟩
   rw[hB] at c2 hbl ⊢
   have hBe:B.isEmpty=false:=Fj fun e=>by rw[e] at hbl;simp at hbl;omega
   rw[hBe] at c2
   have c3:=F7 c (FR c.code) false B hk.seed (by omega) (by omega)
   have hX:=IB B c.seed
   have hXl:=Bm B c.seed
   obtain⟨X,hXe⟩:∃X,Bd c.seed B=X:=⟨_,rfl⟩
   rw[hXe] at c3 hX hXl ⊢
   have cM:=MP c.nm c.mark (by omega) (by omega) hnm
   have hne:(c.mark++c.flat X).isEmpty=false:=Fj fun e=>by have:=congrArg List.length e;simp at this;rw[this.1] at hm;simp at hm
   rw[hne]
   (try (simp -implicitDefEqProofs only[go_sem,AP,AO,A0]));repeat' first|(with_reducible first|exact tI|refine aI ?_ ?_|intro _)|((first|with_reducible refine AJ ?_ ?_<;>intro _|(with_reducible refine isCall ?_);first|refine AE c1 ?_|refine AE c2 ?_|refine AE c3 ?_|(refine EM ([]) ([((7,1),(37,0))]) (cM) ?_))<;>try (simp -implicitDefEqProofs only[go_sem,AP,AO,A0]))|simp (disch:=omega) only[Ad]|((with_reducible apply Ab);exact rfl)
   all_goals first|omega|(simp<;>omega)|skip
   have hf0:c.mark=c.mark++c.flat (X.take 0):=by simp[AX.flat]
   rw[show Aa c.mark=Aa (c.mark++c.flat (X.take 0)) from congrArg Aa hf0]
   refine AU (α:=Nat) (l0:=?l2) (m0:=?m2) (fun x=>[(42,.d (.int .i64 (x:Int)))]) (fun x=>[(37,.row 3 1 false (Aa (c.mark++c.flat (X.take x))))]) (fun x=>x<=X.length) (fun x=>X.length-x) 0 ?h02 ?he2 ?he22 ?hI2 ?step2
   case h02=>(simp -implicitDefEqProofs only[go_sem];rfl)
   case he2=>rfl
   case he22=>rfl
   case' step2=>(rintro k hI;try dsimp only at hI)
   case' hI2=>try dsimp only
   ·exact Nat.zero_le _
   ·by_cases hks:k<X.length
    ·have hk':(k:Int)<(X.length:Int):=by omega
     have hwk:IntKind.i64.wrap ((k:Int)+1)=((k+1:Nat):Int):=by rw[AZ _ (by omega)];omega
     have hxm:=hX _ (Cs hks)
     have hst:=Y7 c X hks
     obtain⟨x,hx⟩:∃x,X[k]?.getD 0=x:=⟨_,rfl⟩
     rw[hx] at hxm hst
     have hg:=Qr c.code (s:=x.toNat) (by omega)
     have hx0:0<=x:=hxm.1
     have hx1:x<16:=by omega
     have hz:=Hl hk.code
     have hsl:=LO c.code x.toNat
     have hfl:(c.flat (X.take k)).length<=32*20:=by rw[PE,List.length_take];exact Nat.mul_le_mul (by omega) hz.2
     have hne0:=Xl hk.code x.toNat
     (try (simp -implicitDefEqProofs only[go_sem,A0,hk',hks,hwk,hx,hx0,hx1,RZ,hg,hsl]));repeat' first|(with_reducible first|exact tI|refine aI ?_ ?_|intro _|refine AJ ?_ ?_<;>intro _<;>try simp -implicitDefEqProofs only[go_sem,A0,hk',hks,hwk,hx,hx0,hx1,RZ,hg,hsl])|simp (disch:=omega) only[Ad]|((with_reducible refine Ca ?_);refine⟨_,rfl,?_,?_⟩)
     all_goals first|omega|(simp<;>omega)|skip
     rw[List.append_assoc c.mark,hst]
     exact⟨k+1,rfl,hks,by omega⟩
    ·have hk':¬(k:Int)<(X.length:Int):=by omega
     have htk:X.take k=X:=List.take_of_length_le (by omega)
     rw[htk]
     (try (simp -implicitDefEqProofs only[go_sem,hk']));repeat' first|(with_reducible first|exact tI|refine aI ?_ ?_|intro _|refine AJ ?_ ?_<;>intro _<;>try simp -implicitDefEqProofs only[go_sem,hk'])|simp (disch:=omega) only[Ad]|((with_reducible apply Ab);exact rfl)
     all_goals first|omega|(simp<;>omega)|skip
     all_goals first|rfl|skip
  ·rw[if_neg hsp,if_neg hsp]
   obtain⟨B,hB⟩:∃B,aW c.L c.P c.Q d=B:=⟨_,rfl⟩
   rw[hB] at c2
   (try (simp -implicitDefEqProofs only[go_sem,AP,AO,A0,hsp]));repeat' first|(with_reducible first|exact tI|refine aI ?_ ?_|intro _)|((first|with_reducible refine AJ ?_ ?_<;>intro _|(with_reducible refine isCall ?_);first|refine AE c1 ?_|refine AE c2 ?_)<;>try (simp -implicitDefEqProofs only[go_sem,AP,AO,A0,hsp]))|simp (disch:=omega) only[Ad]|((with_reducible apply Ab);exact rfl)
   all_goals first|rfl|skip
noncomputable def kK (c:AX) (bits:List Int):D:=.tup [.list (Zd c bits).isEmpty (Aa (Zd c bits)),.int .i64 (em c bits),.int .i64 (ej c bits)]
theorem q0 {c:AX}{sy:List (Option Nat)}(h:¬XU c sy=0):YW c sy=[]:=by
 unfold XU jP at h
 unfold YW dU
 split
 ·rename_i h1
  rw[if_pos h1] at h
  split
  ·rename_i h2
   rw[if_pos h2] at h
   split
   ·rename_i h3
    rw[if_pos h3] at h
    cases hg:Zz c.L.toNat c.P.toNat c.Q.toNat (fs (Bd c.seed (GV sy))) (nt (ni (J_ sy))) with
    |none=>rfl
    |some r=>rw[hg] at h;exact absurd rfl h
   ·rfl
  ·rfl
 ·rfl
theorem PB (c:AX) (nl:Bool) (bits:List Int):BR E0 LH [DJ c,.list nl (Aa bits)] (kK c bits):=by
 refine Zb fun hnok=>?_
 have hnb:=kw (hnok (.list nl (Aa bits)) (by simp))
 have c1:=EA c
 obtain⟨r,hr⟩:∃r,jO c=r:=⟨_,rfl⟩
 rw[hr] at c1
 refine AM O7 Af (by simp) fun hwf=>?_
 rw[AQ];unfold Jl kK Zd em ej
 rcases hok:c.ok with _|_
 ·have:=Hn hok
  rw[hr] at this
  rw[this.1,this.2] at c1
  simp only[Bool.false_eq_true,if_false]
  (try (simp -implicitDefEqProofs only[go_sem,AP,AO]));repeat' first|(with_reducible first|exact tI|refine aI ?_ ?_|intro _)|((first|with_reducible refine AJ ?_ ?_<;>intro _|(with_reducible refine isCall ?_);first|refine AE c1 ?_)<;>try (simp -implicitDefEqProofs only[go_sem,AP,AO]))|simp (disch:=omega) only[Ad]
  all_goals first|rfl|skip
 ·have:=JC hok
  have hk:=JO hok
  rw[hr] at this
  rw[this.1,this.2] at c1
  have c2:=GX nl bits
  simp only[if_true]
  cases hb:Dr bits with
  |false =>
   rw[hb] at c2
   simp only[Bool.false_eq_true,if_false]
   (try (simp -implicitDefEqProofs only[go_sem,AP,AO]));repeat' first|(with_reducible first|exact tI|refine aI ?_ ?_|intro _)|((first|with_reducible refine AJ ?_ ?_<;>intro _|(with_reducible refine isCall ?_);first|refine AE c1 ?_|refine AE c2 ?_)<;>try (simp -implicitDefEqProofs only[go_sem,AP,AO]))|simp (disch:=omega) only[Ad]
   all_goals first|rfl|skip
  |true =>
   rw[hb] at c2
   simp only[if_true]
   have c3:=Ip c hk nl bits hb hnb
   unfold Hg at c3
   cases hf:c.find bits with
   |none =>
    rw[hf] at c3
    simp only at c3 ⊢
    (try (simp -implicitDefEqProofs only[go_sem,AP,AO]));repeat' first|(with_reducible first|exact tI|refine aI ?_ ?_|intro _)|((first|with_reducible refine AJ ?_ ?_<;>intro _|(with_reducible refine isCall ?_);first|refine AE c1 ?_|refine AE c2 ?_|refine AE c3 ?_)<;>try (simp -implicitDefEqProofs only[go_sem,AP,AO]))|simp (disch:=omega) only[Ad]
    all_goals first|rfl|skip
   |some a =>
    rw[hf] at c3
    simp only at c3 ⊢
    have c4:=G9 c hk (c.syL bits a) (HS c bits a)
    by_cases he:XU c (c.syL bits a)=0
    ·rw[he] at c4 ⊢
     simp only[if_true]
     (try (simp -implicitDefEqProofs only[go_sem,AP,AO]));repeat' first|(with_reducible first|exact tI|refine aI ?_ ?_|intro _)|((first|with_reducible refine AJ ?_ ?_<;>intro _|(with_reducible refine isCall ?_);first|refine AE c1 ?_|refine AE c2 ?_|refine AE c3 ?_|refine AE c4 ?_)<;>try (simp -implicitDefEqProofs only[go_sem,AP,AO]))|simp (disch:=omega) only[Ad]
     all_goals first|rfl|skip
    ·rw[if_neg he]
     have hl:=q0 he
     rw[hl] at c4 ⊢
     (try (simp -implicitDefEqProofs only[go_sem,AP,AO,he]));repeat' first|(with_reducible first|exact tI|refine aI ?_ ?_|intro _)|((first|with_reducible refine AJ ?_ ?_<;>intro _|(with_reducible refine isCall ?_);first|refine AE c1 ?_|refine AE c2 ?_|refine AE c3 ?_|refine AE c4 ?_)<;>try (simp -implicitDefEqProofs only[go_sem,AP,AO,he]))|simp (disch:=omega) only[Ad]
     all_goals first|rfl|skip
end
section
def kt (c:AW) (rest:List Int) (part q:Nat):Nat->Int
 |0=>(part:Int)
 |s+1=>min (kt c rest part q s) (B' (rest.take part) ((c.stm s).drop q))
theorem fV (c:AW) (rest:List Int) (part q:Nat):∀m,0<=kt c rest part q m/\kt c rest part q m<=part
 |0=>⟨by simp[kt],Int.le_refl _⟩
 |m+1=>by
  have ih:=fV c rest part q m
  have:=Mg (rest.take part) ((c.stm m).drop q)
  simp only[kt];omega
def KF (c:AX) (at_:Nat) (rest:List Int):Nat:=if at_%c.tot<c.mark.length then min rest.length (c.mark.length-at_%c.tot) else min rest.length (c.code.sz-(at_%c.tot-c.mark.length)%c.code.sz)
def Vq (c:AX) (at_:Nat) (rest:List Int):Int:=if at_%c.tot<c.mark.length then B' (rest.take (KF c at_ rest)) (c.mark.drop (at_%c.tot)) else kt c.code rest (KF c at_ rest) ((at_%c.tot-c.mark.length)%c.code.sz) 16
def apW (c:AX):Nat->Nat->List Int->Int
 |0,_,_=>0
 |n+1,at_,rest=>if rest=[] then 0 else Vq c at_ rest+apW c n (at_+KF c at_ rest) (rest.drop (KF c at_ rest))
def XK (c:AX) (at_:Nat):Int:=apW c (c.mark.length+1) at_ c.mark
theorem Q4 {c:AX}(hk:HJ c) (at_:Nat) {rest:List Int}(h:rest≠[]):1<=KF c at_ rest/\KF c at_ rest<=rest.length:=by
 have h1:0<rest.length:=List.length_pos_iff.2 h
 have hz:=Hl hk.code
 have:=Nat.mod_lt (at_%c.tot-c.mark.length) (show 0<c.code.sz by omega)
 unfold KF
 split<;>omega
theorem j8 (c:AX) (at_:Nat) (rest:List Int):0<=Vq c at_ rest/\Vq c at_ rest<=KF c at_ rest:=by
 unfold Vq
 split
 ·have:=Mg (rest.take (KF c at_ rest)) (c.mark.drop (at_%c.tot))
  have h2:(rest.take (KF c at_ rest)).length<=KF c at_ rest:=by rw[List.length_take];omega
  omega
 ·exact fV ..
theorem XJ {c:AX}(hk:HJ c):∀(n m at_:Nat) (rest:List Int),rest.length<n->rest.length<m->apW c n at_ rest=apW c m at_ rest
 |0,_,_,_,h,_=>by omega
 |_,0,_,_,_,h=>by omega
 |n+1,m+1,at_,rest,h1,h2=>by
  unfold apW
  by_cases hr:rest=[]
  ·rw[if_pos hr,if_pos hr]
  ·rw[if_neg hr,if_neg hr]
   have:=Q4 hk at_ hr
   rw[XJ hk n m _ _ (by rw[List.length_drop];omega) (by rw[List.length_drop];omega)]
theorem jA {c:AX}(hk:HJ c) {a j:Nat}(h:j<c.mark.length) (hj:c.mark.drop j≠[]) :
  apW c (c.mark.length+1) (a+j) (c.mark.drop j)=Vq c (a+j) (c.mark.drop j)+apW c (c.mark.length+1) (a+(j+KF c (a+j) (c.mark.drop j))) (c.mark.drop (j+KF c (a+j) (c.mark.drop j))):=by
 rw[show apW c (c.mark.length+1) (a+j) (c.mark.drop j)=Vq c (a+j) (c.mark.drop j)+apW c c.mark.length (a+j+KF c (a+j) (c.mark.drop j)) ((c.mark.drop j).drop (KF c (a+j) (c.mark.drop j))) from by
  conv=>lhs;unfold apW
  rw[if_neg hj]]
 have hp:=Q4 hk (a+j) hj
 rw[List.drop_drop,Nat.add_assoc]
 congr 1
 exact XJ hk _ _ _ _ (by rw[List.length_drop];omega) (by rw[List.length_drop];omega)
theorem ZN (a b:Nat):((a:Int)).tmod (b:Int)=((a%b:Nat):Int):=by
 rw[Int.tmod_eq_emod_of_nonneg (by omega)];rfl
attribute [local irreducible] IntKind.wrap Ai Option.getD and or
theorem N4 (c:AX) (hk:HJ c) (a:Nat) (ha:a<=2000):BR E0 Ev [.ptr (Sv c (FR c.code)),.int .i64 (a:Int)] (.int .i64 (XK c a)):=by
 have hm:=hk.markl
 have hs:=hk.syms
 have ht:=hk.tot
 have hz:=Hl hk.code
 have cB:=Fm c hk.wev hk.code
 have cL:=Fl c
 have w0:IntKind.i64.wrap ((c.mark.length:Int)+((c.syms*c.code.sz:Nat):Int))=((c.tot:Nat):Int):=by rw[AZ _ (by omega)];unfold AX.tot;omega
 have ht1:c.mark.length<c.tot:=by
  have:2*2<=c.syms*c.code.sz:=Nat.mul_le_mul hs.1 hz.1
  unfold AX.tot;omega
 have hne0:¬((c.tot:Nat):Int)=0:=by omega
 have hnz0:¬((c.code.sz:Nat):Int)=0:=by omega
 refine AM HP Af (by simp) fun hwf=>?_
 rw[AQ];unfold EQ
 (try (simp -implicitDefEqProofs only[go_sem,A0,w0]));repeat' first|(with_reducible first|exact tI|refine aI ?_ ?_|intro _)|((first|with_reducible refine AJ ?_ ?_<;>intro _|(with_reducible refine isCall ?_);first|refine AE cB ?_)<;>try (simp -implicitDefEqProofs only[go_sem,A0,w0]))|simp (disch:=omega) only[Ad]|((with_reducible first|apply A8|apply Ae);exact rfl)
 all_goals first|omega|(simp<;>omega)|skip
 have hd0:c.mark=c.mark.drop 0:=rfl
 refine AU (α:=Nat×Int×Int×(List Int)) (l0:=?l1) (m0:=?m1) (fun x=>[(1,.d (.int .i64 x.2.1)),(4,.d (.int .i64 x.2.2.1)),(6,.d (.list c.nm (Aa x.2.2.2)))]) (fun x=>[]) (fun x=>x.1<=c.mark.length/\x.2.1=((a+x.1:Nat):Int)/\x.2.2.2=c.mark.drop x.1/\0<=x.2.2.1/\x.2.2.1<=x.1/\x.2.2.1+apW c (c.mark.length+1) (a+x.1) (c.mark.drop x.1)=XK c a) (fun x=>c.mark.length-x.1) (0,(a:Int),0,c.mark) ?h01 ?he1 ?he21 ?hI1 ?step1
 case h01=>(simp -implicitDefEqProofs only[go_sem];rfl)
 case he1=>rfl
 case he21=>rfl
 case' step1=>(rintro⟨j,t,n,l⟩ hI;try dsimp only at hI)
 case' hI1=>try dsimp only
 ·exact⟨Nat.zero_le _,by simp,rfl,Int.le_refl _,by simp,by simp[XK]⟩
 ·obtain⟨j1,j2,j3,n0,n1,j4⟩:=hI
  change t=((a+j:Nat):Int) at j2
  change l=c.mark.drop j at j3
  subst j2
  have hll:l.length=c.mark.length-j:=by rw[j3,List.length_drop]
  by_cases hj:j<c.mark.length
  ·have hl0:(0:Int)<(l.length:Int):=by omega
   have hlne:l≠[]:=fun e=>by rw[e] at hll;simp at hll;omega
   have hst:=jA hk (a:=a) hj (by rw[←j3];exact hlne)
   have hsp:=Q4 hk (a+j) hlne
   have hsv:=j8 c (a+j) l
   rw[←j3] at hst j4
   have hmod:=ZN (a+j) c.tot
   have hpt:=Nat.mod_lt (a+j) (show 0<c.tot by omega)
   have hlb:Al l=true:=by rw[j3];exact DM hm.2.2 j
   obtain⟨S,hS⟩:∃S,KF c (a+j) l=S:=⟨_,rfl⟩
   obtain⟨V,hV⟩:∃V,Vq c (a+j) l=V:=⟨_,rfl⟩
   have hS':=hS
   have hV':=hV
   unfold KF at hS'
   unfold Vq at hV'
   rw[hS] at hst hsp hsv hV'
   rw[hV] at hst hsv
   have wn:IntKind.i64.wrap (n+V)=n+V:=AZ _ (by omega)
   have wt:IntKind.i64.wrap (((a+j:Nat):Int)+(S:Int))=((a+(j+S):Nat):Int):=by rw[AZ _ (by omega)];omega
   have hlS:(S:Int)<=(l.length:Int):=by omega
   have hdl:l.drop S=c.mark.drop (j+S):=by rw[j3,List.drop_drop]
   have htk:(c.mark.drop (j+S)).take (l.length-S)=c.mark.drop (j+S):=List.take_of_length_le (by rw[List.length_drop];omega)
   by_cases hp:(a+j)%c.tot<c.mark.length
   ·rw[if_pos hp] at hS' hV'
    have hp':(((a+j)%c.tot:Nat):Int)<(c.mark.length:Int):=by omega
    have hmn:min (l.length:Int) (IntKind.i64.wrap ((c.mark.length:Int)-(((a+j)%c.tot:Nat):Int)))=(S:Int):=by rw[AZ _ (by omega)];omega
    have cD:=D5 c.nm c.nm (l.take S) (c.mark.drop ((a+j)%c.tot)) (EB hlb S) (DM hm.2.2 _) (by rw[List.length_take,List.length_drop];omega) (by rw[List.length_take];omega)
    rw[hV'] at cD
    (try (simp -implicitDefEqProofs only[go_sem,A0,w0,hl0,hmod,hne0,hp',hmn,hlS,wn,wt,hdl,htk]));repeat' first|(with_reducible first|exact tI|refine aI ?_ ?_|intro _)|((first|with_reducible refine AJ ?_ ?_<;>intro _|(with_reducible refine isCall ?_);first|refine AE cB ?_|refine AE cD ?_)<;>try (simp -implicitDefEqProofs only[go_sem,A0,w0,hl0,hmod,hne0,hp',hmn,hlS,wn,wt,hdl,htk]))|simp (disch:=omega) only[Ad]|((with_reducible refine Ca ?_);refine⟨(_,_),rfl,?_,?_⟩)
    all_goals first|omega|(simp<;>omega)|skip
    exact⟨(j+S,_,_,_),rfl,⟨by show j+S<=_;omega,rfl,rfl,by show 0<=n+V;omega,by show n+V<=((j+S:Nat):Int);omega,by show n+V+apW c (c.mark.length+1) (a+(j+S)) (c.mark.drop (j+S))=XK c a;rw[←j4,hst];omega⟩,by show c.mark.length-(j+S)<_;omega⟩
   ·rw[if_neg hp] at hS' hV'
    have hp':¬(((a+j)%c.tot:Nat):Int)<(c.mark.length:Int):=by omega
    obtain⟨q,hq⟩:∃q,((a+j)%c.tot-c.mark.length)%c.code.sz=q:=⟨_,rfl⟩
    rw[hq] at hS' hV'
    have hql:q<c.code.sz:=by rw[←hq];exact Nat.mod_lt _ (by omega)
    have wq:IntKind.i64.wrap ((((a+j)%c.tot:Nat):Int)-(c.mark.length:Int))=(((a+j)%c.tot-c.mark.length:Nat):Int):=by rw[AZ _ (by omega)];omega
    have hmq:=ZN ((a+j)%c.tot-c.mark.length) c.code.sz
    rw[hq] at hmq
    have wz:IntKind.i64.wrap ((c.code.sz:Int)-(q:Int))=((c.code.sz-q:Nat):Int):=by rw[AZ _ (by omega)];omega
    have hmn:min (l.length:Int) ((c.code.sz-q:Nat):Int)=(S:Int):=by omega
    have hmn0:∃z,min (l.length:Int) (IntKind.i64.wrap ((c.mark.length:Int)-(((a+j)%c.tot:Nat):Int)))=z:=⟨_,rfl⟩
    obtain⟨z,hz0⟩:=hmn0
    have h28:=Qq c.code
    have h16:=S4 c.code
    (try (simp -implicitDefEqProofs only[go_sem,A0,w0,hl0,hmod,hne0,hnz0,hp',hz0,wq,hmq,wz,hmn,h28,h16]));repeat' first|(with_reducible first|exact tI|refine aI ?_ ?_|intro _)|((first|with_reducible refine AJ ?_ ?_<;>intro _|(with_reducible refine isCall ?_);first|refine AE cB ?_|refine AE cL ?_)<;>try (simp -implicitDefEqProofs only[go_sem,A0,w0,hl0,hmod,hne0,hnz0,hp',hz0,wq,hmq,wz,hmn,h28,h16]))|simp (disch:=omega) only[Ad]|((with_reducible first|apply A8|apply Ae);exact rfl)
    all_goals first|omega|(simp<;>omega)|skip
    refine AU (α:=Nat×Int) (l0:=?l2) (m0:=?m2) (fun x=>[(87,.d (.int .i64 (x.1:Int))),(9,.d (.int .i64 x.2))]) (fun x=>[]) (fun x=>x.1<=16/\x.2=kt c.code l S q x.1) (fun x=>16-x.1) (0,(S:Int)) ?h02 ?he2 ?he22 ?hI2 ?step2
    case h02=>(simp -implicitDefEqProofs only[go_sem];rfl)
    case he2=>rfl
    case he22=>rfl
    case' step2=>(rintro⟨s,b⟩ hI2;try dsimp only at hI2)
    case' hI2=>try dsimp only
    ·exact⟨Nat.zero_le _,rfl⟩
    ·obtain⟨s1,s2⟩:=hI2
     change b=kt c.code l S q s at s2
     by_cases hs16:s<16
     ·have hs':(s:Int)<16:=by omega
      have hg:=Qr c.code hs16
      have hsl:=LO c.code s
      have hws:IntKind.i64.wrap ((s:Int)+1)=((s+1:Nat):Int):=by rw[AZ _ (by omega)];omega
      have cD:=D5 c.nm false (l.take S) ((c.code.stm s).drop q) (EB hlb S) (DM (d4 ..) _) (by rw[List.length_take,List.length_drop,hsl];omega) (by rw[List.length_take];omega)
      have hqs:(q:Int)<=((c.code.stm s).length:Int):=by omega
      obtain⟨dv,hdv⟩:∃dv,B' (l.take S) ((c.code.stm s).drop q)=dv:=⟨_,rfl⟩
      rw[hdv] at cD
      have hmm:min b dv=kt c.code l S q (s+1):=by rw[s2,←hdv];rfl
      have htk2:((c.code.stm s).drop q).take (c.code.sz-q)=(c.code.stm s).drop q:=List.take_of_length_le (by rw[List.length_drop];omega)
      (try (simp -implicitDefEqProofs only[go_sem,hs',hg,hsl,hws,hlS,hqs,hql,hmm,htk2]));repeat' first|(with_reducible first|exact tI|refine aI ?_ ?_|intro _)|((first|with_reducible refine AJ ?_ ?_<;>intro _|(with_reducible refine isCall ?_);first|refine AE cD ?_)<;>try (simp -implicitDefEqProofs only[go_sem,hs',hg,hsl,hws,hlS,hqs,hql,hmm,htk2]))|simp (disch:=omega) only[Ad]|((with_reducible first|apply A8|apply Ae);exact rfl)
      all_goals first|omega|(simp<;>omega)|skip
      all_goals skip
     ·have hs':¬(s:Int)<16:=by omega
      have hse:s=16:=by omega
      rw[hse,hV'] at s2
      subst s2
      (try (simp -implicitDefEqProofs only[go_sem,hs',hlS,wn,wt,hdl,htk]));repeat' first|(with_reducible first|exact tI|refine aI ?_ ?_|intro _|refine AJ ?_ ?_<;>intro _<;>try simp -implicitDefEqProofs only[go_sem,hs',hlS,wn,wt,hdl,htk])|simp (disch:=omega) only[Ad]|((with_reducible refine Ca ?_);refine⟨(_,_),rfl,?_,?_⟩)
      all_goals first|omega|(simp<;>omega)|skip
      exact⟨(j+S,_,_,_),rfl,⟨by show j+S<=_;omega,rfl,rfl,by show 0<=n+b;omega,by show n+b<=((j+S:Nat):Int);omega,by show n+b+apW c (c.mark.length+1) (a+(j+S)) (c.mark.drop (j+S))=XK c a;rw[←j4,hst];omega⟩,by show c.mark.length-(j+S)<_;omega⟩
  ·have hl0:¬(0:Int)<(l.length:Int):=by omega
   have hln:l=[]:=List.length_eq_zero_iff.1 (by omega)
   have hap:apW c (c.mark.length+1) (a+j) (c.mark.drop j)=0:=by rw[←j3,hln];simp[apW]
   have:n=XK c a:=by rw[←j4,hap];omega
   subst this
   (try (simp -implicitDefEqProofs only[go_sem,hl0]));repeat' first|(with_reducible first|exact tI|refine aI ?_ ?_|intro _|refine AJ ?_ ?_<;>intro _<;>try simp -implicitDefEqProofs only[go_sem,hl0])|simp (disch:=omega) only[Ad]|((with_reducible first|apply A8|apply Ae);exact rfl)
   all_goals first|omega|(simp<;>omega)|skip
   all_goals first|rfl|skip
end
section
def rO (c:AX):Nat->Int
 |0=>(c.mark.length:Int)
 |n+1=>min (rO c n) (XK c (n+1))
def jB (c:AX):Int:=if c.ok=true then rO c (c.tot-1) else 0
def sL (c:AW) (a:Nat) (l:Int):Nat->Int
 |0=>l
 |b+1=>min (sL c a l b) (B' (c.stm a) (c.stm b))
def sK (c:AW):Nat->Int
 |0=>(c.sz:Int)
 |a+1=>sL c a (sK c a) a
def sM (c:AX):Int:=if c.ok=true then sK c.code 16 else 0
def sB (c:AX):Int:=if c.Q*(c.P/2)=0 then 0 else if c.Q*c.L<=c.Q*(c.P/2) then ((c.syms*c.code.sz:Nat):Int) else (c.Q*(c.P/2)-1)*c.code.sz+1
def sW (c:AX):Int:=if c.ok=true then sB c else 0
attribute [local irreducible] IntKind.wrap Ai Option.getD and or
theorem N6 (c:AX):BR E0 J1 [DJ c] (.tup [.int .i64 (jB c),.int .i64 (Oq c)]):=by
 have c1:=EA c
 obtain⟨r,hr⟩:∃r,jO c=r:=⟨_,rfl⟩
 rw[hr] at c1
 refine AM Nv Af (by simp) fun hwf=>?_
 rw[AQ];unfold IX jB
 rcases hok:c.ok with _|_
 ·have:=Hn hok
  rw[hr] at this
  rw[this.1,this.2] at c1
  rw[this.2]
  (try (simp -implicitDefEqProofs only[go_sem,AP,AO]));repeat' first|(with_reducible first|exact tI|refine aI ?_ ?_|intro _)|((first|with_reducible refine AJ ?_ ?_<;>intro _|(with_reducible refine isCall ?_);first|refine AE c1 ?_)<;>try (simp -implicitDefEqProofs only[go_sem,AP,AO]))|simp (disch:=omega) only[Ad]|((with_reducible apply Ag);exact rfl)
  all_goals first|rfl|skip
 ·have:=JC hok
  have hk:=JO hok
  rw[hr] at this
  rw[this.1,this.2] at c1
  rw[this.2]
  have hm:=hk.markl
  have ht:=hk.tot
  have cB:=Fm c hk.wev hk.code
  have w0:IntKind.i64.wrap ((c.mark.length:Int)+((c.syms*c.code.sz:Nat):Int))=((c.tot:Nat):Int):=by rw[AZ _ (by omega)];unfold AX.tot;omega
  have ht1:1<=c.tot:=by unfold AX.tot;omega
  simp only[if_true]
  (try (simp -implicitDefEqProofs only[go_sem,AP,AO,A0]));repeat' first|(with_reducible first|exact tI|refine aI ?_ ?_|intro _)|((first|with_reducible refine AJ ?_ ?_<;>intro _|(with_reducible refine isCall ?_);first|refine AE c1 ?_)<;>try (simp -implicitDefEqProofs only[go_sem,AP,AO,A0]))|simp (disch:=omega) only[Ad]|((with_reducible refine Ca ?_);refine⟨(_,_,_),rfl,?_,?_⟩)
  all_goals first|omega|(simp<;>omega)|skip
  refine AU (α:=Nat×Int×Int) (l0:=?l1) (m0:=?m1) (fun x=>[(7,.d (.int .i64 x.2.1)),(6,.d (.int .i64 x.2.2))]) (fun x=>[]) (fun x=>x.1<=c.tot-1/\x.2.1=((x.1+1:Nat):Int)/\x.2.2=rO c x.1) (fun x=>c.tot-1-x.1) (0,1,(c.mark.length:Int)) ?h01 ?he1 ?he21 ?hI1 ?step1
  case h01=>(simp -implicitDefEqProofs only[go_sem];rfl)
  case he1=>rfl
  case he21=>rfl
  case' step1=>(rintro⟨k,t,n⟩ hI;try dsimp only at hI)
  case' hI1=>try dsimp only
  ·exact⟨Nat.zero_le _,rfl,rfl⟩
  ·obtain⟨k1,k2,k3⟩:=hI
   change t=((k+1:Nat):Int) at k2
   change n=rO c k at k3
   subst k2
   by_cases hkt:k+1<c.tot
   ·have hk':((k+1:Nat):Int)<((c.tot:Nat):Int):=by omega
    have cA:=N4 c hk (k+1) (by omega)
    have hwk:IntKind.i64.wrap (((k+1:Nat):Int)+1)=((k+1+1:Nat):Int):=by rw[AZ _ (by omega)];omega
    have hmm:min n (XK c (k+1))=rO c (k+1):=by rw[k3];rfl
    (try (simp -implicitDefEqProofs only[go_sem,A0,w0,hk',hwk,hmm]));repeat' first|(with_reducible first|exact tI|refine aI ?_ ?_|intro _)|((first|with_reducible refine AJ ?_ ?_<;>intro _|(with_reducible refine isCall ?_);first|refine AE cB ?_|refine AE cA ?_)<;>try (simp -implicitDefEqProofs only[go_sem,A0,w0,hk',hwk,hmm]))|simp (disch:=omega) only[Ad]|((with_reducible refine Ca ?_);refine⟨(_,_,_),rfl,?_,?_⟩)
    all_goals first|omega|(simp<;>omega)|skip
    exact⟨(k+1,_,_),rfl,⟨by show k+1<=c.tot-1;omega,rfl,rfl⟩,by show c.tot-1-(k+1)<c.tot-1-k;omega⟩
   ·have hk':¬((k+1:Nat):Int)<((c.tot:Nat):Int):=by omega
    have hke:k=c.tot-1:=by omega
    subst hke
    rw[k3]
    (try (simp -implicitDefEqProofs only[go_sem,A0,w0,hk']));repeat' first|(with_reducible first|exact tI|refine aI ?_ ?_|intro _)|((first|with_reducible refine AJ ?_ ?_<;>intro _|(with_reducible refine isCall ?_);first|refine AE cB ?_)<;>try (simp -implicitDefEqProofs only[go_sem,A0,w0,hk']))|simp (disch:=omega) only[Ad]|((with_reducible apply Ag);exact rfl)
    all_goals first|omega|(simp<;>omega)|skip
    all_goals first|rfl|skip
end
def Ls (f:Nat->Nat) (q:Nat):Nat->Nat->Nat
 |0,_=>0
 |i+1,k=>Ls f q i k+if i%q=k then f i else 0
def Q_ (f:Nat->Nat) (q:Nat):Nat->Nat->Nat
 |0,_=>0
 |m+1,k=>Q_ f q m k+f (m*q+k)
theorem W6 (f:Nat->Nat) {q k:Nat}(hk:k<q) (m:Nat):∀t,t<=q->Ls f q (m*q+t) k=Ls f q (m*q) k+if k<t then f (m*q+k) else 0
 |0,_=>by simp
 |t+1,h=>by
  have ih:=W6 f hk m t (by omega)
  show Ls f q (m*q+t) k+(if (m*q+t)%q=k then f (m*q+t) else 0)=_
  rw[ih,Rm (show t<q by omega)]
  by_cases h1:t=k
  ·subst h1
   rw[if_pos rfl,if_neg (by omega),if_pos (by omega)];omega
  ·rw[if_neg h1]
   by_cases h2:k<t
   ·rw[if_pos h2,if_pos (by omega)];rfl
   ·rw[if_neg h2,if_neg (by omega)]
theorem Uz (f:Nat->Nat) {q k:Nat}(hk:k<q):∀m,Ls f q (m*q) k=Q_ f q m k
 |0=>by rw[Nat.zero_mul];rfl
 |m+1=>by
  rw[Nat.add_mul,Nat.one_mul,W6 f hk m q (Nat.le_refl q),if_pos hk,Uz f hk m];rfl
theorem kG {f g h:Nat->Nat}{q m k:Nat}(hk:k<q) (e:∀i,i<m*q->f i=2*g i+h i):Q_ f q m k=2*Q_ g q m k+Q_ h q m k:=by
 induction m with
 |zero=>rfl
 |succ m ih =>
  have h1:=ih fun i hi=>e i (by rw[Nat.add_mul];omega)
  have h2:=e (m*q+k) (Pg hk (by omega))
  show Q_ f q m k+f (m*q+k)=2*(Q_ g q m k+g (m*q+k))+(Q_ h q m k+h (m*q+k))
  omega
theorem Zr (mB:Nat->Bool) {q:Nat}(k:Nat):∀i,(NS q k ((List.range i).filter mB)).length=Ls (fun i=>if mB i then 1 else 0) q i k
 |0=>rfl
 |i+1=>by
  have ih:=Zr mB (q:=q) k i
  rw[List.range_succ,List.filter_append]
  show _=Ls _ q i k+if i%q=k then (if mB i then 1 else 0) else 0
  rw[←ih]
  cases hm:mB i with
  |false=>simp[hm]
  |true =>
   simp only[List.filter_cons,hm,if_true,List.filter_nil]
   rw[WE]
   by_cases h:i%q=k
   ·rw[if_pos h,if_pos h];simp
   ·rw[if_neg h,if_neg h];rfl
theorem ly {l q k:Nat}(hk:k<q) {a R:List F}{W:Nat->List F}{mB wB:Nat->Bool}(hw:∀j,j<l->(W k)[j]?.getD 0≠R[j*q+k]?.getD 0->mB (j*q+k)=false->wB (j*q+k)=true) :
  (QR l (W k) (Bw l q k R) (NS q k ((List.range (l*q)).filter mB))).length<=Q_ (fun i=>if wB i then 1 else 0) q l k:=by
 have hmk:∀j,j<l->(j∈NS q k ((List.range (l*q)).filter mB)↔mB (j*q+k)=true):=fun j hj=>by
  rw[Zq hk,List.mem_filter,List.mem_range]
  exact⟨fun h=>h.2,fun h=>⟨Pg hk hj,h⟩⟩
 have hg:∀j,j<l->(Bw l q k R)[j]?.getD 0=R[j*q+k]?.getD 0:=fun j hj=>IY j hj
 generalize NS q k ((List.range (l*q)).filter mB)=mk at *
 generalize Bw l q k R=b at *
 unfold QR
 have:∀m,m<=l->((List.range m).filter fun j=>decide ((W k)[j]?.getD 0≠b[j]?.getD 0) && !mk.contains j).length<=Q_ (fun i=>if wB i then 1 else 0) q m k:=by
  intro m
  induction m with
  |zero=>intro _;exact Nat.le_refl 0
  |succ m ih =>
   intro hm
   have i1:=ih (by omega)
   rw[List.range_succ,List.filter_append,List.length_append]
   show _<=Q_ (fun i=>if wB i then 1 else 0) q m k+(if wB (m*q+k) then 1 else 0)
   refine Nat.add_le_add i1 ?_
   by_cases hc:(decide ((W k)[m]?.getD 0≠b[m]?.getD 0) && !mk.contains m)=true
   ·have hc2:=hc
    simp only[Bool.and_eq_true,decide_eq_true_eq,Bool.not_eq_true',List.contains_eq_mem,decide_eq_false_iff_not] at hc2
    have h3:mB (m*q+k)=false:=by
     cases h:mB (m*q+k) with
     |false=>rfl
     |true=>exact absurd ((hmk m (by omega)).2 h) hc2.2
    have h4:=hw m (by omega) (by rw[←hg m (by omega)];exact hc2.1) h3
    rw[h4]
    simp only[List.filter_cons,hc,if_true,List.filter_nil]
    exact Nat.le_refl 1
   ·simp only[List.filter_cons,hc,List.filter_nil]
    exact Nat.zero_le _
 exact this l (Nat.le_refl l)
theorem YF (mB:Nat->Bool) (n:Nat):XV n ((List.range n).filter mB) :=
 ⟨List.Pairwise.filter _ List.pairwise_lt_range,fun j hj=>by simpa using (List.mem_filter.1 hj).1⟩
theorem Sm {l p q:Nat}(hl:l<=15) (hpl:p<l) (hq:0<q) {d R:List F}(hd:d.length=(l-p)*q) (hR:R.length=l*q) {mB wB:Nat->Bool}
  (hw:∀i,i<l*q->(aV l p q d)[i]?.getD 0≠R[i]?.getD 0->mB i=false->wB i=true) {fC:Nat->Nat}(hf:∀i,i<l*q->fC i=if mB i then 1 else if wB i then 2 else 0)
  (hk:∀k,k<q->Ls fC q (l*q) k<=p):Zz l p q R ((List.range (l*q)).filter mB)=some d:=by
 refine Sc hl hpl hq hd hR (YF mB _) fun k hkq=>?_
 have h1:=hk k hkq
 rw[Uz fC hkq] at h1
 rw[kG (g:=fun i=>if wB i && !mB i then 1 else 0) (h:=fun i=>if mB i then 1 else 0) hkq fun i hi=>by
  rw[hf i hi]
  cases mB i<;>cases wB i<;>rfl] at h1
 rw[Zr mB k,Uz _ hkq]
 have h2:=ly (a:=[]) (wB:=fun i=>wB i && !mB i) (mB:=mB) (R:=R) (W:=fun k=>Hp p (Bw (l-p) q k d)) (l:=l) hkq fun j hj hne hm=>by
  have hlt:=Pg hkq hj
  have h3:(aV l p q d)[j*q+k]?.getD 0=(Hp p (Bw (l-p) q k d))[j]?.getD 0:=by
   unfold aV
   rw[SC _ hlt,Up hkq,Rm hkq]
  rw[hw (j*q+k) hlt (by rw[h3];exact hne) hm,hm];rfl
 omega
end Go.Pw
