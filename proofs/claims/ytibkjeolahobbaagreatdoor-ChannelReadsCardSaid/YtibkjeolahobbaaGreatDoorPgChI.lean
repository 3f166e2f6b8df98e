/- A part of the proof. -/
import Derived.Test.YtibkjeolahobbaaGreatDoorPgChG
import Derived.Test.YtibkjeolahobbaaGreatDoorPgChrV
set_option linter.all false
open Go Go.Pw Go.Proofs
namespace Go.Pw
set_option maxRecDepth 100000
set_option maxHeartbeats 3200000
section
theorem EB (sy:List (Option Nat)):(HJ sy).length=sy.length:=by simp[HJ]
def UW (sy:List (Option Nat)) (k:Nat):List Int:=(HJ sy).take k++(VF sy).drop k
theorem a_ (sy:List (Option Nat)) (k:Nat):(UW sy k).length=sy.length:=by
 unfold UW;rw[List.length_append,List.length_take,List.length_drop,EB,N'];omega
theorem qR (sy:List (Option Nat)):UW sy 0=VF sy:=rfl
theorem lM (sy:List (Option Nat)):UW sy sy.length=HJ sy:=by
 unfold UW
 rw[List.take_of_length_le (by rw[EB];omega),List.drop_eq_nil_of_le (by rw[N'];omega),List.append_nil]
theorem lL (sy:List (Option Nat)) {k:Nat}(h:k<sy.length):(UW sy k)[k]?.getD 0=e9 sy[k]:=by
 unfold UW
 rw[List.getElem?_append_right (by rw[List.length_take,EB];omega),List.length_take,EB,Nat.min_eq_left (by omega),Nat.sub_self,List.getElem?_drop]
 simp[VF,h]
theorem XX (sy:List (Option Nat)) {k:Nat}(h:k<sy.length):UW sy (k+1)=(HJ sy).take k++(((sy[k].getD 0:Nat):Int)::(VF sy).drop (k+1)):=by
 unfold UW
 rw[List.take_add_one,List.append_assoc]
 congr 1
 simp[HJ,h]
theorem XY (sy:List (Option Nat)) {k:Nat}(h:k<sy.length):UW sy k=(HJ sy).take k++(e9 sy[k]::(VF sy).drop (k+1)):=by
 unfold UW
 rw[List.drop_eq_getElem_cons (by rw[N'];exact h)]
 simp[VF]
theorem gQ (sy:List (Option Nat)) {k s:Nat}(h:k<sy.length) (hs:sy[k]=some s):UW sy (k+1)=UW sy k:=by
 rw[XX sy h,XY sy h,hs];rfl
theorem gR (sy:List (Option Nat)) {k:Nat}(h:k<sy.length) (hs:sy[k]=none):(UW sy k).set k 0=UW sy (k+1):=by
 rw[XX sy h,XY sy h,hs]
 rw[List.set_append_right _ _ (by rw[List.length_take,EB];omega),List.length_take,EB,Nat.min_eq_left (by omega),Nat.sub_self];rfl
def TW (sy:List (Option Nat)) (k:Nat):List Nat:=(List.range k).filter fun i=>(sy[i]?.getD none).isNone
theorem a6 (sy:List (Option Nat)):TW sy sy.length=Na sy:=rfl
theorem XR (sy:List (Option Nat)) {k s:Nat}(h:k<sy.length) (hs:sy[k]=some s):TW sy (k+1)=TW sy k:=by
 unfold TW;rw[List.range_succ,List.filter_append]
 simp[h,hs]
theorem XS (sy:List (Option Nat)) {k:Nat}(h:k<sy.length) (hs:sy[k]=none):TW sy (k+1)=TW sy k++[k]:=by
 unfold TW;rw[List.range_succ,List.filter_append]
 simp[h,hs]
theorem ZN (sy:List (Option Nat)) (k:Nat):(TW sy k).length<=k:=by
 have:=List.length_filter_le (fun i=>(sy[i]?.getD none).isNone) (List.range k)
 rw[List.length_range] at this;exact this
theorem XK (l:List Nat) (k:Nat):ni l++[(k:Int)]=ni (l++[k]):=by simp[ni]
theorem VU (l:List Nat):(ni l).length=l.length:=by simp[ni]
def _root_.Go.Pw.D.NOK1:D->Prop
 |.list nl xs=>nl=true->xs=[]
 |_=>True
def _root_.Go.Pw.D.NOK:D->Prop
 |.agg cs=>∀c,c∈cs->c.NOK1
 |d=>d.NOK1
theorem kw {w:World}{fb:Nat->Prop}{d:D}{v:Value}(h:A5 w fb d v):d.NOK1:=by
 cases h with
 |nil=>exact fun _=>rfl
 |empty=>exact fun h=>by cases h
 |list=>exact fun h=>by cases h
 |_=>trivial
theorem o9 {w:World}{fb:Nat->Prop}{d:D}{v:Value}(h:A5 w fb d v):d.NOK:=by
 cases h with
 |nil=>exact fun _=>rfl
 |empty=>exact fun h=>by cases h
 |list=>exact fun h=>by cases h
 |agg cs vs hl h1 hh =>
  intro c hc
  obtain⟨i,hi⟩:=List.getElem?_of_mem hc
  have hlt:i<vs.size:=by rw[hl];exact(List.getElem?_eq_some_iff.1 hi).1
  exact kw (hh i c _ hi (Array.getElem?_eq_getElem hlt))
 |_=>trivial
theorem af {E:Cn}{f:FuncId}{ds:List D}{r:D}(h:(∀d,d∈ds->d.NOK)->CA E f ds r):CA E f ds r:=fun w fb vs hfb hg hl hd =>
 h (fun d hdm=>by
  obtain⟨i,hi⟩:=List.getElem?_of_mem hdm
  have hlt:i<vs.size:=by rw[hl];exact(List.getElem?_eq_some_iff.1 hi).1
  exact o9 (hd i d _ hi (Array.getElem?_eq_getElem hlt))) w fb vs hfb hg hl hd
theorem mY {c:AY}(h:(DX c).NOK) (hm:1<=c.mark.length):c.nm=false:=by
 have h1:=h (.list c.nm (Ab c.mark)) (by simp[YG])
 cases hn:c.nm with
 |false=>rfl
 |true =>
  have h2:Ab c.mark=[]:=h1 hn
  have h3:=congrArg List.length h2
  rw[B4] at h3
  change c.mark.length=0 at h3
  omega
theorem lI {nl:Bool}{xs:List Int}(h:(D.list nl (Ab xs)).NOK):nl=true->xs=[]:=fun hn=>by
 have h2:Ab xs=[]:=h hn
 have h3:=congrArg List.length h2
 rw[B4] at h3
 exact List.length_eq_zero_iff.1 (by simpa using h3)
theorem U6 {c:AY}(h:C2 c.L c.P c.Q=true) {d:List Int}(he:Yc c.L c.P c.Q d=0):(Tc c.L c.P c.Q d).length=c.syms:=by
 unfold Yc at he
 rw[if_pos h] at he
 have hs:CP d (c.Q*(c.L-c.P))=true:=by
  cases hs:CP d (c.Q*(c.L-c.P)) with
  |true=>rfl
  |false=>rw[hs] at he;simp at he
 unfold Tc
 rw[if_pos h,if_pos hs,G6,aR]
 have h2:=ne h
 have h3:=RM h
 have:((c.L.toNat * c.Q.toNat:Nat):Int)=c.Q*c.L:=by push_cast;rw[Int.toNat_of_nonneg (by omega),Int.toNat_of_nonneg (by omega),Int.mul_comm]
 omega
theorem S9 (c:AY) (X:List Int) {k:Nat}(h:k<X.length):c.flat (X.take k)++c.code.stm (X[k]?.getD 0).toNat=c.flat (X.take (k+1)):=by
 rw[List.take_add_one,List.getElem?_eq_getElem h]
 unfold AY.flat
 rw[List.flatMap_append]
 simp
attribute [local congr] Bm A' BA Au Bn Az A1 A0 Ar Al Af Aa Aw Ag Ax BM BQ BO BP BN BR BG Aj Ay Ak BE BX Ai BK BL BF BH BJ BI BC BD A_ Bp BB Av Ah
attribute [local irreducible] IntKind.wrap A3 Option.getD and or
theorem NN (nl:Bool) (xs:List Int) (hl:xs.length<=1000) (hne:0<xs.length) (hnl:nl=false):Ic E0 F3 [] [.d (.list nl (Ab xs))] [(7,1,.row 3 1 false (Ab xs))] (.own 7 1):=by
 subst hnl
 refine Dm Ip An (by simp) (by simp[Q3,Cc,EF]) (by simp[E']) fun hwf hwo=>?_
 rw[ET];unfold FX
 have hn:¬xs=[]:=by intro h;rw[h] at hne;simp at hne
 (try (simp -implicitDefEqProofs only[go_sem,hn]));repeat' first|(with_reducible first|exact tI|refine aI ?_ ?_|intro _)|((first|with_reducible refine AK ?_ ?_<;>intro _)<;>try (simp -implicitDefEqProofs only[go_sem,hn]))|simp (disch:=omega) only[Ae]
 all_goals first|omega|rfl
theorem Nz (c:AY) (hk:HU c) (sy:List (Option Nat)) (hl:sy.length=c.syms) :
  CA E0 FO [.ptr (T0 c (GS c.code)),.list false (Ab (VF sy))] (.tup [.list (bC c sy).isEmpty (Ab (bC c sy)),.int .i64 (Zd c sy)]):=by
 have hs:=hk.syms
 have hsl:=N' sy
 have cC:=NN false (VF sy) (by omega) (by omega) rfl
 have h0l:(UW sy 0).length=sy.length:=a_ sy 0
 refine AL HS An (by simp) fun hwf=>?_
 rw[AR];unfold En
 (try (simp -implicitDefEqProofs only[go_sem]));repeat' first|(with_reducible first|exact tI|refine aI ?_ ?_|intro _)|((first|with_reducible refine AK ?_ ?_<;>intro _|(with_reducible refine isCall ?_);first|(refine FA ([]) ([((7,1),(11,0))]) (cC) (by repeat' first|exact True.intro|exact rfl|refine And.intro ?_ ?_) (by simp[Handed,Dv.get,Am.ren,AV.ren,AV.ren.renL,AN.get,Be,CH,D8,AN.reach,AV.sites,AV.sites.sitesL,AN.osites]) (by simp[Ca,E',Cc,Dv.get,D8,EF,CU]) (by rfl) (by simp only[D9,Dv.get,Am.ren,AV.ren,AV.ren.renL,and_self,and_true,true_and,if_true,reduceIte];rfl) ?_))<;>try (simp -implicitDefEqProofs only[go_sem]))|simp (disch:=omega) only[Ae]|((with_reducible refine Ap ?_);refine⟨(_,_),rfl,?_,?_⟩)
 all_goals first|omega|(simp<;>omega)|skip
 rw[←qR]
 refine AX (α:=Nat×Bool) (l0:=?l1) (m0:=?m1) (fun x=>[(14,.d (.int .i64 (x.1:Int)))]) (fun x=>[(11,.row 3 1 false (Ab (UW sy x.1))),(24,.row 3 1 x.2 (Ab (ni (TW sy x.1))))]) (fun x=>x.1<=sy.length/\x.2=(TW sy x.1).isEmpty) (fun x=>sy.length-x.1) (0,true) ?h01 ?he1 ?he21 ?hI1 ?step1
 case h01=>(simp -implicitDefEqProofs only[go_sem];rfl)
 case he1=>rfl
 case he21=>rfl
 case' step1=>(rintro⟨k,e⟩ hI;try dsimp only at hI)
 case' hI1=>try dsimp only
 ·exact⟨Nat.zero_le _,rfl⟩
 ·obtain⟨k1,k2⟩:=hI
  change e=(TW sy k).isEmpty at k2
  have hkl:=a_ sy k
  by_cases hks:k<sy.length
  ·have hk':(k:Int)<(sy.length:Int):=by omega
   have hg:=lL sy hks
   have hwk:IntKind.i64.wrap ((k:Int)+1)=((k+1:Nat):Int):=by rw[AZ _ (by omega)];omega
   have hmk:=ZN sy k
   have hml:=VU (TW sy k)
   cases hsy:sy[k] with
   |none =>
    rw[hsy] at hg
    change (UW sy k)[k]?.getD 0=-1 at hg
    have h1:=gR sy hks hsy
    have h2:=XS sy hks hsy
    have h3:=XK (TW sy k) k
    have h4:false=(TW sy k++[k]).isEmpty:=by cases TW sy k<;>rfl
    (try (simp -implicitDefEqProofs only[go_sem,hk',hks,hg,hwk,hkl,hml,h1,h3]));repeat' first|(with_reducible first|exact tI|refine aI ?_ ?_|intro _)|((first|with_reducible refine AK ?_ ?_<;>intro _)<;>try (simp -implicitDefEqProofs only[go_sem,hk',hks,hg,hwk,hkl,hml,h1,h3]))|simp (disch:=omega) only[Ae]|((with_reducible refine Ap ?_);refine⟨(_,_),rfl,?_,?_⟩)
    all_goals first|omega|(simp<;>omega)|skip
    rw[←h2] at h4 ⊢
    exact⟨(k+1,false),rfl,⟨by show k+1<=sy.length;omega,h4⟩,by show sy.length-(k+1)<sy.length-k;omega⟩
   |some s =>
    rw[hsy] at hg
    change (UW sy k)[k]?.getD 0=(s:Int) at hg
    have hne:¬(s:Int)=-1:=by omega
    have h1:=gQ sy hks hsy
    have h2:=XR sy hks hsy
    (try (simp -implicitDefEqProofs only[go_sem,hk',hks,hg,hwk,hkl,hml,hne]));repeat' first|(with_reducible first|exact tI|refine aI ?_ ?_|intro _)|((first|with_reducible refine AK ?_ ?_<;>intro _)<;>try (simp -implicitDefEqProofs only[go_sem,hk',hks,hg,hwk,hkl,hml,hne]))|simp (disch:=omega) only[Ae]|((with_reducible refine Ap ?_);refine⟨(_,_),rfl,?_,?_⟩)
    all_goals first|omega|(simp<;>omega)|skip
    rw[←h2] at k2 ⊢
    rw[←h1]
    exact⟨(k+1,e),rfl,⟨by show k+1<=sy.length;omega,k2⟩,by show sy.length-(k+1)<sy.length-k;omega⟩
  ·have hke:k=sy.length:=by omega
   subst hke
   have hk':¬(sy.length:Int)<((UW sy 0).length:Int):=by omega
   have hkn:=EB sy
   have c1:=Gt c (GS c.code) false (HJ sy) hk.seed (by omega) (by omega)
   have c2:=Nu c.L c.P c.Q false e (CG c.seed (HJ sy)) (ni (Na sy)) (by rw[CX];omega)
   have h1:=lM sy
   have h2:=a6 sy
   unfold bC Zd
   (try (simp -implicitDefEqProofs only[go_sem,BZ,hk',h1,h2]));repeat' first|(with_reducible first|exact tI|refine aI ?_ ?_|intro _)|((first|with_reducible refine AK ?_ ?_<;>intro _|(with_reducible refine isCall ?_);first|refine AE c1 ?_|refine AE c2 ?_)<;>try (simp -implicitDefEqProofs only[go_sem,BZ,hk',h1,h2]))|simp (disch:=omega) only[Ae]|((with_reducible refine Ap ?_);refine⟨(_,_),rfl,?_,?_⟩)
   all_goals first|rfl|skip
theorem IY (c:AY) (nl:Bool) (d:List Int):CA E0 Kt [DX c,.list nl (Ab d)] (.tup [.list (eP c d).isEmpty (Ab (eP c d)),.int .i64 (jf c d)]):=by
 refine af fun hnok=>?_
 have c1:=D7 c
 obtain⟨r,hr⟩:∃r,f6 c=r:=⟨_,rfl⟩
 rw[hr] at c1
 refine AL O1 An (by simp) fun hwf=>?_
 rw[AR];unfold JP
 unfold eP jf
 rcases hok:c.ok with _|_
 ·have:=Hm hok
  rw[hr] at this
  rw[this.1,this.2] at c1
  simp only[Bool.false_eq_true,if_false]
  (try (simp -implicitDefEqProofs only[go_sem,AP,AO]));repeat' first|(with_reducible first|exact tI|refine aI ?_ ?_|intro _)|((first|with_reducible refine AK ?_ ?_<;>intro _|(with_reducible refine isCall ?_);first|refine AE c1 ?_)<;>try (simp -implicitDefEqProofs only[go_sem,AP,AO]))|simp (disch:=omega) only[Ae]|((with_reducible refine Ad ?_);refine⟨_,rfl,?_,?_⟩)
  all_goals first|rfl|skip
 ·have:=Ig hok
  have hk:=HT hok
  have hm:=hk.markl
  have hs:=hk.syms
  have hnm:=mY (hnok _ (by simp)) hm.1
  rw[hr] at this
  rw[this.1,this.2] at c1
  have c2:=Nt c.L c.P c.Q nl d
  simp only[if_true]
  by_cases hsp:Yc c.L c.P c.Q d=0
  ·have hbl:=U6 hk.wev hsp
   rw[hsp] at c2 ⊢
   simp only[if_true]
   unfold MZ
   obtain⟨B,hB⟩:∃B,Tc c.L c.P c.Q d=B:=⟨_,rfl⟩
   rw[hB] at c2 hbl ⊢
   have hBe:B.isEmpty=false:=Fe fun e=>by rw[e] at hbl;simp at hbl;omega
   rw[hBe] at c2
   have c3:=Gt c (GS c.code) false B hk.seed (by omega) (by omega)
   have hX:=Hd B c.seed
   have hXl:=CX B c.seed
   obtain⟨X,hXe⟩:∃X,CG c.seed B=X:=⟨_,rfl⟩
   rw[hXe] at c3 hX hXl ⊢
   have cM:=NN c.nm c.mark (by omega) (by omega) hnm
   have hne:(c.mark++c.flat X).isEmpty=false:=Fe fun e=>by have:=congrArg List.length e;simp at this;rw[this.1] at hm;simp at hm
   rw[hne]
   (try (simp -implicitDefEqProofs only[go_sem,AP,AO,BZ]));repeat' first|(with_reducible first|exact tI|refine aI ?_ ?_|intro _)|((first|with_reducible refine AK ?_ ?_<;>intro _|(with_reducible refine isCall ?_);first|refine AE c1 ?_|refine AE c2 ?_|refine AE c3 ?_|(refine FA ([]) ([((7,1),(37,0))]) (cM) (by repeat' first|exact True.intro|exact rfl|refine And.intro ?_ ?_) (by simp[Handed,Dv.get,Am.ren,AV.ren,AV.ren.renL,AN.get,Be,CH,D8,AN.reach,AV.sites,AV.sites.sitesL,AN.osites]) (by simp[Ca,E',Cc,Dv.get,D8,EF,CU]) (by rfl) (by simp only[D9,Dv.get,Am.ren,AV.ren,AV.ren.renL,and_self,and_true,true_and,if_true,reduceIte];rfl) ?_))<;>try (simp -implicitDefEqProofs only[go_sem,AP,AO,BZ]))|simp (disch:=omega) only[Ae]|((with_reducible refine Ad ?_);refine⟨_,rfl,?_,?_⟩)
   all_goals first|omega|(simp<;>omega)|skip
   have hf0:c.mark=c.mark++c.flat (X.take 0):=by simp[AY.flat]
   rw[show Ab c.mark=Ab (c.mark++c.flat (X.take 0)) from congrArg Ab hf0]
   refine AX (α:=Nat) (l0:=?l2) (m0:=?m2) (fun x=>[(42,.d (.int .i64 (x:Int)))]) (fun x=>[(37,.row 3 1 false (Ab (c.mark++c.flat (X.take x))))]) (fun x=>x<=X.length) (fun x=>X.length-x) 0 ?h02 ?he2 ?he22 ?hI2 ?step2
   case h02=>(simp -implicitDefEqProofs only[go_sem];rfl)
   case he2=>rfl
   case he22=>rfl
   case' step2=>(rintro k hI;try dsimp only at hI)
   case' hI2=>try dsimp only
   ·exact Nat.zero_le _
   ·by_cases hks:k<X.length
    ·have hk':(k:Int)<(X.length:Int):=by omega
     have hwk:IntKind.i64.wrap ((k:Int)+1)=((k+1:Nat):Int):=by rw[AZ _ (by omega)];omega
     have hxm:=hX _ (Dd hks)
     have hst:=S9 c X hks
     obtain⟨x,hx⟩:∃x,X[k]?.getD 0=x:=⟨_,rfl⟩
     rw[hx] at hxm hst
     have hg:=Ru c.code (s:=x.toNat) (by omega)
     have hx0:0<=x:=hxm.1
     have hx1:x<16:=by omega
     have hz:=Ha hk.code
     have hsl:=Jx c.code x.toNat
     have hfl:(c.flat (X.take k)).length<=32*20:=by rw[MW,List.length_take];exact Nat.mul_le_mul (by omega) hz.2
     have hne0:=U2 hk.code x.toNat
     (try (simp -implicitDefEqProofs only[go_sem,BZ,hk',hks,hwk,hx,hx0,hx1,SX,hg,hsl]));repeat' first|(with_reducible first|exact tI|refine aI ?_ ?_|intro _)|((first|with_reducible refine AK ?_ ?_<;>intro _)<;>try (simp -implicitDefEqProofs only[go_sem,BZ,hk',hks,hwk,hx,hx0,hx1,SX,hg,hsl]))|simp (disch:=omega) only[Ae]|((with_reducible refine Ad ?_);refine⟨_,rfl,?_,?_⟩)
     all_goals first|omega|(simp<;>omega)|skip
     rw[List.append_assoc c.mark,hst]
     exact⟨k+1,rfl,hks,by omega⟩
    ·have hk':¬(k:Int)<(X.length:Int):=by omega
     have htk:X.take k=X:=List.take_of_length_le (by omega)
     rw[htk]
     (try (simp -implicitDefEqProofs only[go_sem,hk']));repeat' first|(with_reducible first|exact tI|refine aI ?_ ?_|intro _)|((first|with_reducible refine AK ?_ ?_<;>intro _)<;>try (simp -implicitDefEqProofs only[go_sem,hk']))|simp (disch:=omega) only[Ae]|((with_reducible refine Ad ?_);refine⟨_,rfl,?_,?_⟩)
     all_goals first|omega|(simp<;>omega)|skip
     all_goals first|rfl|skip
  ·rw[if_neg hsp,if_neg hsp]
   obtain⟨B,hB⟩:∃B,Tc c.L c.P c.Q d=B:=⟨_,rfl⟩
   rw[hB] at c2
   (try (simp -implicitDefEqProofs only[go_sem,AP,AO,BZ,hsp]));repeat' first|(with_reducible first|exact tI|refine aI ?_ ?_|intro _)|((first|with_reducible refine AK ?_ ?_<;>intro _|(with_reducible refine isCall ?_);first|refine AE c1 ?_|refine AE c2 ?_)<;>try (simp -implicitDefEqProofs only[go_sem,AP,AO,BZ,hsp]))|simp (disch:=omega) only[Ae]|((with_reducible refine Ad ?_);refine⟨_,rfl,?_,?_⟩)
   all_goals first|rfl|skip
noncomputable def Th (c:AY) (bits:List Int):D:=.tup [.list (SJ c bits).isEmpty (Ab (SJ c bits)),.int .i64 (UM c bits),.int .i64 (UL c bits)]
theorem nM {c:AY}{sy:List (Option Nat)}(h:¬Zd c sy=0):bC c sy=[]:=by
 unfold Zd le at h
 unfold bC g_
 split
 ·rename_i h1
  rw[if_pos h1] at h
  split
  ·rename_i h2
   rw[if_pos h2] at h
   split
   ·rename_i h3
    rw[if_pos h3] at h
    cases hg:bE c.L.toNat c.P.toNat c.Q.toNat (fs (CG c.seed (HJ sy))) (nt (ni (Na sy))) with
    |none=>rfl
    |some r=>rw[hg] at h;exact absurd rfl h
   ·rfl
  ·rfl
 ·rfl
theorem Jd (c:AY) (nl:Bool) (bits:List Int):CA E0 MD [DX c,.list nl (Ab bits)] (Th c bits):=by
 refine af fun hnok=>?_
 have hnb:=lI (hnok (.list nl (Ab bits)) (by simp))
 have c1:=D7 c
 obtain⟨r,hr⟩:∃r,f6 c=r:=⟨_,rfl⟩
 rw[hr] at c1
 refine AL QH An (by simp) fun hwf=>?_
 rw[AR];unfold Kd Th SJ UM UL
 rcases hok:c.ok with _|_
 ·have:=Hm hok
  rw[hr] at this
  rw[this.1,this.2] at c1
  simp only[Bool.false_eq_true,if_false]
  (try (simp -implicitDefEqProofs only[go_sem,AP,AO]));repeat' first|(with_reducible first|exact tI|refine aI ?_ ?_|intro _)|((first|with_reducible refine AK ?_ ?_<;>intro _|(with_reducible refine isCall ?_);first|refine AE c1 ?_)<;>try (simp -implicitDefEqProofs only[go_sem,AP,AO]))|simp (disch:=omega) only[Ae]
  all_goals first|rfl|skip
 ·have:=Ig hok
  have hk:=HT hok
  rw[hr] at this
  rw[this.1,this.2] at c1
  have c2:=Mo nl bits
  simp only[if_true]
  cases hb:Ps bits with
  |false =>
   rw[hb] at c2
   simp only[Bool.false_eq_true,if_false]
   (try (simp -implicitDefEqProofs only[go_sem,AP,AO]));repeat' first|(with_reducible first|exact tI|refine aI ?_ ?_|intro _)|((first|with_reducible refine AK ?_ ?_<;>intro _|(with_reducible refine isCall ?_);first|refine AE c1 ?_|refine AE c2 ?_)<;>try (simp -implicitDefEqProofs only[go_sem,AP,AO]))|simp (disch:=omega) only[Ae]
   all_goals first|rfl|skip
  |true =>
   rw[hb] at c2
   simp only[if_true]
   have c3:=QN c hk nl bits hb hnb
   unfold MS at c3
   cases hf:c.find bits with
   |none =>
    rw[hf] at c3
    simp only at c3 ⊢
    (try (simp -implicitDefEqProofs only[go_sem,AP,AO]));repeat' first|(with_reducible first|exact tI|refine aI ?_ ?_|intro _)|((first|with_reducible refine AK ?_ ?_<;>intro _|(with_reducible refine isCall ?_);first|refine AE c1 ?_|refine AE c2 ?_|refine AE c3 ?_)<;>try (simp -implicitDefEqProofs only[go_sem,AP,AO]))|simp (disch:=omega) only[Ae]
    all_goals first|rfl|skip
   |some a =>
    rw[hf] at c3
    simp only at c3 ⊢
    have c4:=Nz c hk (c.syL bits a) (Jw c bits a)
    by_cases he:Zd c (c.syL bits a)=0
    ·rw[he] at c4 ⊢
     simp only[if_true]
     (try (simp -implicitDefEqProofs only[go_sem,AP,AO]));repeat' first|(with_reducible first|exact tI|refine aI ?_ ?_|intro _)|((first|with_reducible refine AK ?_ ?_<;>intro _|(with_reducible refine isCall ?_);first|refine AE c1 ?_|refine AE c2 ?_|refine AE c3 ?_|refine AE c4 ?_)<;>try (simp -implicitDefEqProofs only[go_sem,AP,AO]))|simp (disch:=omega) only[Ae]
     all_goals first|rfl|skip
    ·rw[if_neg he]
     have hl:=nM he
     rw[hl] at c4 ⊢
     (try (simp -implicitDefEqProofs only[go_sem,AP,AO,he]));repeat' first|(with_reducible first|exact tI|refine aI ?_ ?_|intro _)|((first|with_reducible refine AK ?_ ?_<;>intro _|(with_reducible refine isCall ?_);first|refine AE c1 ?_|refine AE c2 ?_|refine AE c3 ?_|refine AE c4 ?_)<;>try (simp -implicitDefEqProofs only[go_sem,AP,AO,he]))|simp (disch:=omega) only[Ae]
     all_goals first|rfl|skip
end
section
def lG (c:AW) (rest:List Int) (part q:Nat):Nat->Int
 |0=>(part:Int)
 |s+1=>min (lG c rest part q s) (Cs (rest.take part) ((c.stm s).drop q))
theorem gL (c:AW) (rest:List Int) (part q:Nat):∀m,0<=lG c rest part q m/\lG c rest part q m<=part
 |0=>⟨by simp[lG],Int.le_refl _⟩
 |m+1=>by
  have ih:=gL c rest part q m
  have:=Ng (rest.take part) ((c.stm m).drop q)
  simp only[lG];omega
def LA (c:AY) (at_:Nat) (rest:List Int):Nat:=if at_%c.tot<c.mark.length then min rest.length (c.mark.length-at_%c.tot) else min rest.length (c.code.sz-(at_%c.tot-c.mark.length)%c.code.sz)
def W4 (c:AY) (at_:Nat) (rest:List Int):Int:=if at_%c.tot<c.mark.length then Cs (rest.take (LA c at_ rest)) (c.mark.drop (at_%c.tot)) else lG c.code rest (LA c at_ rest) ((at_%c.tot-c.mark.length)%c.code.sz) 16
def apW (c:AY):Nat->Nat->List Int->Int
 |0,_,_=>0
 |n+1,at_,rest=>if rest=[] then 0 else W4 c at_ rest+apW c n (at_+LA c at_ rest) (rest.drop (LA c at_ rest))
def YR (c:AY) (at_:Nat):Int:=apW c (c.mark.length+1) at_ c.mark
theorem R4 {c:AY}(hk:HU c) (at_:Nat) {rest:List Int}(h:rest≠[]):1<=LA c at_ rest/\LA c at_ rest<=rest.length:=by
 have h1:0<rest.length:=List.length_pos_iff.2 h
 have hz:=Ha hk.code
 have:=Nat.mod_lt (at_%c.tot-c.mark.length) (show 0<c.code.sz by omega)
 unfold LA
 split<;>omega
theorem kL (c:AY) (at_:Nat) (rest:List Int):0<=W4 c at_ rest/\W4 c at_ rest<=LA c at_ rest:=by
 unfold W4
 split
 ·have:=Ng (rest.take (LA c at_ rest)) (c.mark.drop (at_%c.tot))
  have h2:(rest.take (LA c at_ rest)).length<=LA c at_ rest:=by rw[List.length_take];omega
  omega
 ·exact gL ..
theorem YQ {c:AY}(hk:HU c):∀(n m at_:Nat) (rest:List Int),rest.length<n->rest.length<m->apW c n at_ rest=apW c m at_ rest
 |0,_,_,_,h,_=>by omega
 |_,0,_,_,_,h=>by omega
 |n+1,m+1,at_,rest,h1,h2=>by
  unfold apW
  by_cases hr:rest=[]
  ·rw[if_pos hr,if_pos hr]
  ·rw[if_neg hr,if_neg hr]
   have:=R4 hk at_ hr
   rw[YQ hk n m _ _ (by rw[List.length_drop];omega) (by rw[List.length_drop];omega)]
theorem jV {c:AY}(hk:HU c) {a j:Nat}(h:j<c.mark.length) (hj:c.mark.drop j≠[]) :
  apW c (c.mark.length+1) (a+j) (c.mark.drop j)=W4 c (a+j) (c.mark.drop j)+apW c (c.mark.length+1) (a+(j+LA c (a+j) (c.mark.drop j))) (c.mark.drop (j+LA c (a+j) (c.mark.drop j))):=by
 rw[show apW c (c.mark.length+1) (a+j) (c.mark.drop j)=W4 c (a+j) (c.mark.drop j)+apW c c.mark.length (a+j+LA c (a+j) (c.mark.drop j)) ((c.mark.drop j).drop (LA c (a+j) (c.mark.drop j))) from by
  conv=>lhs;unfold apW
  rw[if_neg hj]]
 have hp:=R4 hk (a+j) hj
 rw[List.drop_drop,Nat.add_assoc]
 congr 1
 exact YQ hk _ _ _ _ (by rw[List.length_drop];omega) (by rw[List.length_drop];omega)
theorem aN (a b:Nat):((a:Int)).tmod (b:Int)=((a%b:Nat):Int):=by
 rw[Int.tmod_eq_emod_of_nonneg (by omega)];rfl
attribute [local congr] Bm A' BA Au Bn Az A1 A0 Ar Al Af Aa Aw Ag Ax BM BQ BO BP BN BR BG Aj Ay Ak BE BX Ai BK BL BF BH BJ BI BC BD A_ Bp BB Av Ah
attribute [local irreducible] IntKind.wrap A3 Option.getD and or
theorem PB (c:AY) (hk:HU c) (a:Nat) (ha:a<=2000):CA E0 Fk [.ptr (T0 c (GS c.code)),.int .i64 (a:Int)] (.int .i64 (YR c a)):=by
 have hm:=hk.markl
 have hs:=hk.syms
 have ht:=hk.tot
 have hz:=Ha hk.code
 have cB:=Ez c hk.wev hk.code
 have cL:=GV c
 have w0:IntKind.i64.wrap ((c.mark.length:Int)+((c.syms*c.code.sz:Nat):Int))=((c.tot:Nat):Int):=by rw[AZ _ (by omega)];unfold AY.tot;omega
 have ht1:c.mark.length<c.tot:=by
  have:2*2<=c.syms*c.code.sz:=Nat.mul_le_mul hs.1 hz.1
  unfold AY.tot;omega
 have hne0:¬((c.tot:Nat):Int)=0:=by omega
 have hnz0:¬((c.code.sz:Nat):Int)=0:=by omega
 refine AL H' An (by simp) fun hwf=>?_
 rw[AR];unfold FH
 (try (simp -implicitDefEqProofs only[go_sem,BZ,w0]));repeat' first|(with_reducible first|exact tI|refine aI ?_ ?_|intro _)|((first|with_reducible refine AK ?_ ?_<;>intro _|(with_reducible refine isCall ?_);first|refine AE cB ?_)<;>try (simp -implicitDefEqProofs only[go_sem,BZ,w0]))|simp (disch:=omega) only[Ae]|((with_reducible refine Bf ?_);refine⟨(_,_,_,_),rfl,?_,?_⟩)|((with_reducible refine Ap ?_);refine⟨(_,_),rfl,?_,?_⟩)
 all_goals first|omega|(simp<;>omega)|skip
 have hd0:c.mark=c.mark.drop 0:=rfl
 refine AX (α:=Nat×Int×Int×(List Int)) (l0:=?l1) (m0:=?m1) (fun x=>[(1,.d (.int .i64 x.2.1)),(4,.d (.int .i64 x.2.2.1)),(6,.d (.list c.nm (Ab x.2.2.2)))]) (fun x=>[]) (fun x=>x.1<=c.mark.length/\x.2.1=((a+x.1:Nat):Int)/\x.2.2.2=c.mark.drop x.1/\0<=x.2.2.1/\x.2.2.1<=x.1/\x.2.2.1+apW c (c.mark.length+1) (a+x.1) (c.mark.drop x.1)=YR c a) (fun x=>c.mark.length-x.1) (0,(a:Int),0,c.mark) ?h01 ?he1 ?he21 ?hI1 ?step1
 case h01=>(simp -implicitDefEqProofs only[go_sem];rfl)
 case he1=>rfl
 case he21=>rfl
 case' step1=>(rintro⟨j,t,n,l⟩ hI;try dsimp only at hI)
 case' hI1=>try dsimp only
 ·exact⟨Nat.zero_le _,by simp,rfl,Int.le_refl _,by simp,by simp[YR]⟩
 ·obtain⟨j1,j2,j3,n0,n1,j4⟩:=hI
  change t=((a+j:Nat):Int) at j2
  change l=c.mark.drop j at j3
  subst j2
  have hll:l.length=c.mark.length-j:=by rw[j3,List.length_drop]
  by_cases hj:j<c.mark.length
  ·have hl0:(0:Int)<(l.length:Int):=by omega
   have hlne:l≠[]:=fun e=>by rw[e] at hll;simp at hll;omega
   have hst:=jV hk (a:=a) hj (by rw[←j3];exact hlne)
   have hsp:=R4 hk (a+j) hlne
   have hsv:=kL c (a+j) l
   rw[←j3] at hst j4
   have hmod:=aN (a+j) c.tot
   have hpt:=Nat.mod_lt (a+j) (show 0<c.tot by omega)
   have hlb:A8 l=true:=by rw[j3];exact EC hm.2.2 j
   obtain⟨S,hS⟩:∃S,LA c (a+j) l=S:=⟨_,rfl⟩
   obtain⟨V,hV⟩:∃V,W4 c (a+j) l=V:=⟨_,rfl⟩
   have hS':=hS
   have hV':=hV
   unfold LA at hS'
   unfold W4 at hV'
   rw[hS] at hst hsp hsv hV'
   rw[hV] at hst hsv
   have wn:IntKind.i64.wrap (n+V)=n+V:=AZ _ (by omega)
   have wt:IntKind.i64.wrap (((a+j:Nat):Int)+(S:Int))=((a+(j+S):Nat):Int):=by rw[AZ _ (by omega)];omega
   have hlS:(S:Int)<=(l.length:Int):=by omega
   have hdl:l.drop S=c.mark.drop (j+S):=by rw[j3,List.drop_drop]
   have htk:(c.mark.drop (j+S)).take (l.length-S)=c.mark.drop (j+S):=List.take_of_length_le (by rw[List.length_drop];omega)
   by_cases hp:(a+j)%c.tot<c.mark.length
   ·rw[if_pos hp] at hS' hV'
    have hp':(((a+j)%c.tot:Nat):Int)<(c.mark.length:Int):=by omega
    have hmn:min (l.length:Int) (IntKind.i64.wrap ((c.mark.length:Int)-(((a+j)%c.tot:Nat):Int)))=(S:Int):=by rw[AZ _ (by omega)];omega
    have cD:=Et c.nm c.nm (l.take S) (c.mark.drop ((a+j)%c.tot)) (E1 hlb S) (EC hm.2.2 _) (by rw[List.length_take,List.length_drop];omega) (by rw[List.length_take];omega)
    rw[hV'] at cD
    (try (simp -implicitDefEqProofs only[go_sem,BZ,w0,hl0,hmod,hne0,hp',hmn,hlS,wn,wt,hdl,htk]));repeat' first|(with_reducible first|exact tI|refine aI ?_ ?_|intro _)|((first|with_reducible refine AK ?_ ?_<;>intro _|(with_reducible refine isCall ?_);first|refine AE cB ?_|refine AE cD ?_)<;>try (simp -implicitDefEqProofs only[go_sem,BZ,w0,hl0,hmod,hne0,hp',hmn,hlS,wn,wt,hdl,htk]))|simp (disch:=omega) only[Ae]|((with_reducible refine Bf ?_);refine⟨(_,_,_,_),rfl,?_,?_⟩)|((with_reducible refine Ap ?_);refine⟨(_,_),rfl,?_,?_⟩)
    all_goals first|omega|(simp<;>omega)|skip
    exact⟨(j+S,_,_,_),rfl,⟨by show j+S<=_;omega,rfl,rfl,by show 0<=n+V;omega,by show n+V<=((j+S:Nat):Int);omega,by show n+V+apW c (c.mark.length+1) (a+(j+S)) (c.mark.drop (j+S))=YR c a;rw[←j4,hst];omega⟩,by show c.mark.length-(j+S)<_;omega⟩
   ·rw[if_neg hp] at hS' hV'
    have hp':¬(((a+j)%c.tot:Nat):Int)<(c.mark.length:Int):=by omega
    obtain⟨q,hq⟩:∃q,((a+j)%c.tot-c.mark.length)%c.code.sz=q:=⟨_,rfl⟩
    rw[hq] at hS' hV'
    have hql:q<c.code.sz:=by rw[←hq];exact Nat.mod_lt _ (by omega)
    have wq:IntKind.i64.wrap ((((a+j)%c.tot:Nat):Int)-(c.mark.length:Int))=(((a+j)%c.tot-c.mark.length:Nat):Int):=by rw[AZ _ (by omega)];omega
    have hmq:=aN ((a+j)%c.tot-c.mark.length) c.code.sz
    rw[hq] at hmq
    have wz:IntKind.i64.wrap ((c.code.sz:Int)-(q:Int))=((c.code.sz-q:Nat):Int):=by rw[AZ _ (by omega)];omega
    have hmn:min (l.length:Int) ((c.code.sz-q:Nat):Int)=(S:Int):=by omega
    have hmn0:∃z,min (l.length:Int) (IntKind.i64.wrap ((c.mark.length:Int)-(((a+j)%c.tot:Nat):Int)))=z:=⟨_,rfl⟩
    obtain⟨z,hz0⟩:=hmn0
    have h28:=Rt c.code
    have h16:=T9 c.code
    (try (simp -implicitDefEqProofs only[go_sem,BZ,w0,hl0,hmod,hne0,hnz0,hp',hz0,wq,hmq,wz,hmn,h28,h16]));repeat' first|(with_reducible first|exact tI|refine aI ?_ ?_|intro _)|((first|with_reducible refine AK ?_ ?_<;>intro _|(with_reducible refine isCall ?_);first|refine AE cB ?_|refine AE cL ?_)<;>try (simp -implicitDefEqProofs only[go_sem,BZ,w0,hl0,hmod,hne0,hnz0,hp',hz0,wq,hmq,wz,hmn,h28,h16]))|simp (disch:=omega) only[Ae]|((with_reducible refine Bf ?_);refine⟨(_,_,_,_),rfl,?_,?_⟩)|((with_reducible refine Ap ?_);refine⟨(_,_),rfl,?_,?_⟩)
    all_goals first|omega|(simp<;>omega)|skip
    refine AX (α:=Nat×Int) (l0:=?l2) (m0:=?m2) (fun x=>[(87,.d (.int .i64 (x.1:Int))),(9,.d (.int .i64 x.2))]) (fun x=>[]) (fun x=>x.1<=16/\x.2=lG c.code l S q x.1) (fun x=>16-x.1) (0,(S:Int)) ?h02 ?he2 ?he22 ?hI2 ?step2
    case h02=>(simp -implicitDefEqProofs only[go_sem];rfl)
    case he2=>rfl
    case he22=>rfl
    case' step2=>(rintro⟨s,b⟩ hI2;try dsimp only at hI2)
    case' hI2=>try dsimp only
    ·exact⟨Nat.zero_le _,rfl⟩
    ·obtain⟨s1,s2⟩:=hI2
     change b=lG c.code l S q s at s2
     by_cases hs16:s<16
     ·have hs':(s:Int)<16:=by omega
      have hg:=Ru c.code hs16
      have hsl:=Jx c.code s
      have hws:IntKind.i64.wrap ((s:Int)+1)=((s+1:Nat):Int):=by rw[AZ _ (by omega)];omega
      have cD:=Et c.nm false (l.take S) ((c.code.stm s).drop q) (E1 hlb S) (EC (ep ..) _) (by rw[List.length_take,List.length_drop,hsl];omega) (by rw[List.length_take];omega)
      have hqs:(q:Int)<=((c.code.stm s).length:Int):=by omega
      obtain⟨dv,hdv⟩:∃dv,Cs (l.take S) ((c.code.stm s).drop q)=dv:=⟨_,rfl⟩
      rw[hdv] at cD
      have hmm:min b dv=lG c.code l S q (s+1):=by rw[s2,←hdv];rfl
      have htk2:((c.code.stm s).drop q).take (c.code.sz-q)=(c.code.stm s).drop q:=List.take_of_length_le (by rw[List.length_drop];omega)
      (try (simp -implicitDefEqProofs only[go_sem,hs',hg,hsl,hws,hlS,hqs,hql,hmm,htk2]));repeat' first|(with_reducible first|exact tI|refine aI ?_ ?_|intro _)|((first|with_reducible refine AK ?_ ?_<;>intro _|(with_reducible refine isCall ?_);first|refine AE cD ?_)<;>try (simp -implicitDefEqProofs only[go_sem,hs',hg,hsl,hws,hlS,hqs,hql,hmm,htk2]))|simp (disch:=omega) only[Ae]|((with_reducible refine Bf ?_);refine⟨(_,_,_,_),rfl,?_,?_⟩)|((with_reducible refine Ap ?_);refine⟨(_,_),rfl,?_,?_⟩)
      all_goals first|omega|(simp<;>omega)|skip
      all_goals skip
     ·have hs':¬(s:Int)<16:=by omega
      have hse:s=16:=by omega
      rw[hse,hV'] at s2
      subst s2
      (try (simp -implicitDefEqProofs only[go_sem,hs',hlS,wn,wt,hdl,htk]));repeat' first|(with_reducible first|exact tI|refine aI ?_ ?_|intro _)|((first|with_reducible refine AK ?_ ?_<;>intro _)<;>try (simp -implicitDefEqProofs only[go_sem,hs',hlS,wn,wt,hdl,htk]))|simp (disch:=omega) only[Ae]|((with_reducible refine Bf ?_);refine⟨(_,_,_,_),rfl,?_,?_⟩)|((with_reducible refine Ap ?_);refine⟨(_,_),rfl,?_,?_⟩)
      all_goals first|omega|(simp<;>omega)|skip
      exact⟨(j+S,_,_,_),rfl,⟨by show j+S<=_;omega,rfl,rfl,by show 0<=n+b;omega,by show n+b<=((j+S:Nat):Int);omega,by show n+b+apW c (c.mark.length+1) (a+(j+S)) (c.mark.drop (j+S))=YR c a;rw[←j4,hst];omega⟩,by show c.mark.length-(j+S)<_;omega⟩
  ·have hl0:¬(0:Int)<(l.length:Int):=by omega
   have hln:l=[]:=List.length_eq_zero_iff.1 (by omega)
   have hap:apW c (c.mark.length+1) (a+j) (c.mark.drop j)=0:=by rw[←j3,hln];simp[apW]
   have:n=YR c a:=by rw[←j4,hap];omega
   subst this
   (try (simp -implicitDefEqProofs only[go_sem,hl0]));repeat' first|(with_reducible first|exact tI|refine aI ?_ ?_|intro _)|((first|with_reducible refine AK ?_ ?_<;>intro _)<;>try (simp -implicitDefEqProofs only[go_sem,hl0]))|simp (disch:=omega) only[Ae]|((with_reducible refine Bf ?_);refine⟨(_,_,_,_),rfl,?_,?_⟩)|((with_reducible refine Ap ?_);refine⟨(_,_),rfl,?_,?_⟩)
   all_goals first|omega|(simp<;>omega)|skip
   all_goals first|rfl|skip
end
section
def qk (c:AY):Nat->Int
 |0=>(c.mark.length:Int)
 |n+1=>min (qk c n) (YR c (n+1))
def jW (c:AY):Int:=if c.ok=true then qk c (c.tot-1) else 0
def rV (c:AW) (a:Nat) (l:Int):Nat->Int
 |0=>l
 |b+1=>min (rV c a l b) (Cs (c.stm a) (c.stm b))
def rU (c:AW):Nat->Int
 |0=>(c.sz:Int)
 |a+1=>rV c a (rU c a) a
def rX (c:AY):Int:=if c.ok=true then rU c.code 16 else 0
def rL (c:AY):Int:=if c.Q*(c.P/2)=0 then 0 else if c.Q*c.L<=c.Q*(c.P/2) then ((c.syms*c.code.sz:Nat):Int) else (c.Q*(c.P/2)-1)*c.code.sz+1
def rj (c:AY):Int:=if c.ok=true then rL c else 0
attribute [local congr] Bm A' BA Au Bn Az A1 A0 Ar Al Af Aa Aw Ag Ax BM BQ BO BP BN BR BG Aj Ay Ak BE BX Ai BK BL BF BH BJ BI BC BD A_ Bp BB Av Ah
attribute [local irreducible] IntKind.wrap A3 Option.getD and or
theorem PE (c:AY):CA E0 Kv [DX c] (.tup [.int .i64 (jW c),.int .i64 (JU c)]):=by
 have c1:=D7 c
 obtain⟨r,hr⟩:∃r,f6 c=r:=⟨_,rfl⟩
 rw[hr] at c1
 refine AL O3 An (by simp) fun hwf=>?_
 rw[AR];unfold JR jW
 rcases hok:c.ok with _|_
 ·have:=Hm hok
  rw[hr] at this
  rw[this.1,this.2] at c1
  rw[this.2]
  (try (simp -implicitDefEqProofs only[go_sem,AP,AO]));repeat' first|(with_reducible first|exact tI|refine aI ?_ ?_|intro _)|((first|with_reducible refine AK ?_ ?_<;>intro _|(with_reducible refine isCall ?_);first|refine AE c1 ?_)<;>try (simp -implicitDefEqProofs only[go_sem,AP,AO]))|simp (disch:=omega) only[Ae]|((with_reducible refine Ao ?_);refine⟨(_,_,_),rfl,?_,?_⟩)
  all_goals first|rfl|skip
 ·have:=Ig hok
  have hk:=HT hok
  rw[hr] at this
  rw[this.1,this.2] at c1
  rw[this.2]
  have hm:=hk.markl
  have ht:=hk.tot
  have cB:=Ez c hk.wev hk.code
  have w0:IntKind.i64.wrap ((c.mark.length:Int)+((c.syms*c.code.sz:Nat):Int))=((c.tot:Nat):Int):=by rw[AZ _ (by omega)];unfold AY.tot;omega
  have ht1:1<=c.tot:=by unfold AY.tot;omega
  simp only[if_true]
  (try (simp -implicitDefEqProofs only[go_sem,AP,AO,BZ]));repeat' first|(with_reducible first|exact tI|refine aI ?_ ?_|intro _)|((first|with_reducible refine AK ?_ ?_<;>intro _|(with_reducible refine isCall ?_);first|refine AE c1 ?_)<;>try (simp -implicitDefEqProofs only[go_sem,AP,AO,BZ]))|simp (disch:=omega) only[Ae]|((with_reducible refine Ao ?_);refine⟨(_,_,_),rfl,?_,?_⟩)
  all_goals first|omega|(simp<;>omega)|skip
  refine AX (α:=Nat×Int×Int) (l0:=?l1) (m0:=?m1) (fun x=>[(7,.d (.int .i64 x.2.1)),(6,.d (.int .i64 x.2.2))]) (fun x=>[]) (fun x=>x.1<=c.tot-1/\x.2.1=((x.1+1:Nat):Int)/\x.2.2=qk c x.1) (fun x=>c.tot-1-x.1) (0,1,(c.mark.length:Int)) ?h01 ?he1 ?he21 ?hI1 ?step1
  case h01=>(simp -implicitDefEqProofs only[go_sem];rfl)
  case he1=>rfl
  case he21=>rfl
  case' step1=>(rintro⟨k,t,n⟩ hI;try dsimp only at hI)
  case' hI1=>try dsimp only
  ·exact⟨Nat.zero_le _,rfl,rfl⟩
  ·obtain⟨k1,k2,k3⟩:=hI
   change t=((k+1:Nat):Int) at k2
   change n=qk c k at k3
   subst k2
   by_cases hkt:k+1<c.tot
   ·have hk':((k+1:Nat):Int)<((c.tot:Nat):Int):=by omega
    have cA:=PB c hk (k+1) (by omega)
    have hwk:IntKind.i64.wrap (((k+1:Nat):Int)+1)=((k+1+1:Nat):Int):=by rw[AZ _ (by omega)];omega
    have hmm:min n (YR c (k+1))=qk c (k+1):=by rw[k3];rfl
    (try (simp -implicitDefEqProofs only[go_sem,BZ,w0,hk',hwk,hmm]));repeat' first|(with_reducible first|exact tI|refine aI ?_ ?_|intro _)|((first|with_reducible refine AK ?_ ?_<;>intro _|(with_reducible refine isCall ?_);first|refine AE cB ?_|refine AE cA ?_)<;>try (simp -implicitDefEqProofs only[go_sem,BZ,w0,hk',hwk,hmm]))|simp (disch:=omega) only[Ae]|((with_reducible refine Ao ?_);refine⟨(_,_,_),rfl,?_,?_⟩)
    all_goals first|omega|(simp<;>omega)|skip
    exact⟨(k+1,_,_),rfl,⟨by show k+1<=c.tot-1;omega,rfl,rfl⟩,by show c.tot-1-(k+1)<c.tot-1-k;omega⟩
   ·have hk':¬((k+1:Nat):Int)<((c.tot:Nat):Int):=by omega
    have hke:k=c.tot-1:=by omega
    subst hke
    rw[k3]
    (try (simp -implicitDefEqProofs only[go_sem,BZ,w0,hk']));repeat' first|(with_reducible first|exact tI|refine aI ?_ ?_|intro _)|((first|with_reducible refine AK ?_ ?_<;>intro _|(with_reducible refine isCall ?_);first|refine AE cB ?_)<;>try (simp -implicitDefEqProofs only[go_sem,BZ,w0,hk']))|simp (disch:=omega) only[Ae]|((with_reducible refine Ao ?_);refine⟨(_,_,_),rfl,?_,?_⟩)
    all_goals first|omega|(simp<;>omega)|skip
    all_goals first|rfl|skip
end
def rK (f:Nat->Bool):Nat->Nat
 |0=>0
 |n+1=>rK f n+if f n then 1 else 0
def rf (f:Nat->Nat) (z:Nat):Nat->Nat
 |0=>z
 |n+1=>min (rf f z n) (f n)
def rQ (f:Nat->Nat):Nat->Nat
 |0=>0
 |n+1=>rQ f n+f n
def r0 (c:AY) (a j t:Nat):Bool:=decide (j<=t) && (decide (a+t<c.mark.length) && decide (c.mark[a+t]?.getD 0≠c.mark[t]?.getD 0) || decide (c.tot<=a+t) && decide (c.mark[a+t-c.tot]?.getD 0≠c.mark[t]?.getD 0))
def wF (c:AY) (a j s y i:Nat):Bool:=decide (a+j<=c.mark.length+s*c.code.sz+i) && (decide (c.mark.length+s*c.code.sz+i<a+c.mark.length) && decide ((c.code.stm y)[i]?.getD 0≠c.mark[c.mark.length+s*c.code.sz+i-a]?.getD 0))
def rD (c:AY) (a j s:Nat):Nat:=rf (fun y=>rK (wF c a j s y) c.code.sz) c.code.sz 16
def sH (c:AY) (a j:Nat):Nat:=rK (r0 c a j) c.mark.length+rQ (rD c a j) c.syms
def Mn (f:Nat->Nat) (q:Nat):Nat->Nat->Nat
 |0,_=>0
 |i+1,k=>Mn f q i k+if i%q=k then f i else 0
def R8 (f:Nat->Nat) (q:Nat):Nat->Nat->Nat
 |0,_=>0
 |m+1,k=>R8 f q m k+f (m*q+k)
theorem YE (f:Nat->Nat) {q k:Nat}(hk:k<q) (m:Nat):∀t,t<=q->Mn f q (m*q+t) k=Mn f q (m*q) k+if k<t then f (m*q+k) else 0
 |0,_=>by simp
 |t+1,h=>by
  have ih:=YE f hk m t (by omega)
  show Mn f q (m*q+t) k+(if (m*q+t)%q=k then f (m*q+t) else 0)=_
  rw[ih,Sl (show t<q by omega)]
  by_cases h1:t=k
  ·subst h1
   rw[if_pos rfl,if_neg (by omega),if_pos (by omega)];omega
  ·rw[if_neg h1]
   by_cases h2:k<t
   ·rw[if_pos h2,if_pos (by omega)];rfl
   ·rw[if_neg h2,if_neg (by omega)]
theorem V9 (f:Nat->Nat) {q k:Nat}(hk:k<q):∀m,Mn f q (m*q) k=R8 f q m k
 |0=>by rw[Nat.zero_mul];rfl
 |m+1=>by
  rw[Nat.add_mul,Nat.one_mul,YE f hk m q (Nat.le_refl q),if_pos hk,V9 f hk m];rfl
theorem kV {f g h:Nat->Nat}{q m k:Nat}(hk:k<q) (e:∀i,i<m*q->f i=2*g i+h i):R8 f q m k=2*R8 g q m k+R8 h q m k:=by
 induction m with
 |zero=>rfl
 |succ m ih =>
  have h1:=ih fun i hi=>e i (by rw[Nat.add_mul];omega)
  have h2:=e (m*q+k) (Oj hk (by omega))
  show R8 f q m k+f (m*q+k)=2*(R8 g q m k+g (m*q+k))+(R8 h q m k+h (m*q+k))
  omega
theorem a5 (mB:Nat->Bool) {q:Nat}(k:Nat):∀i,(OU q k ((List.range i).filter mB)).length=Mn (fun i=>if mB i then 1 else 0) q i k
 |0=>rfl
 |i+1=>by
  have ih:=a5 mB (q:=q) k i
  rw[List.range_succ,List.filter_append]
  show _=Mn _ q i k+if i%q=k then (if mB i then 1 else 0) else 0
  rw[←ih]
  cases hm:mB i with
  |false=>simp[hm]
  |true =>
   simp only[List.filter_cons,hm,if_true,List.filter_nil]
   rw[XQ]
   by_cases h:i%q=k
   ·rw[if_pos h,if_pos h];simp
   ·rw[if_neg h,if_neg h];rfl
theorem mN {l q k:Nat}(hk:k<q) {a R:List F}{W:Nat->List F}{mB wB:Nat->Bool}(hw:∀j,j<l->(W k)[j]?.getD 0≠R[j*q+k]?.getD 0->mB (j*q+k)=false->wB (j*q+k)=true) :
  (Ra l (W k) (CI l q k R) (OU q k ((List.range (l*q)).filter mB))).length<=R8 (fun i=>if wB i then 1 else 0) q l k:=by
 have hmk:∀j,j<l->(j∈OU q k ((List.range (l*q)).filter mB)↔mB (j*q+k)=true):=fun j hj=>by
  rw[aw hk,List.mem_filter,List.mem_range]
  exact⟨fun h=>h.2,fun h=>⟨Oj hk hj,h⟩⟩
 have hg:∀j,j<l->(CI l q k R)[j]?.getD 0=R[j*q+k]?.getD 0:=fun j hj=>JS j hj
 generalize OU q k ((List.range (l*q)).filter mB)=mk at *
 generalize CI l q k R=b at *
 unfold Ra
 have:∀m,m<=l->((List.range m).filter fun j=>decide ((W k)[j]?.getD 0≠b[j]?.getD 0) && !mk.contains j).length<=R8 (fun i=>if wB i then 1 else 0) q m k:=by
  intro m
  induction m with
  |zero=>intro _;exact Nat.le_refl 0
  |succ m ih =>
   intro hm
   have i1:=ih (by omega)
   rw[List.range_succ,List.filter_append,List.length_append]
   show _<=R8 (fun i=>if wB i then 1 else 0) q m k+(if wB (m*q+k) then 1 else 0)
   refine Nat.add_le_add i1 ?_
   by_cases hc:(decide ((W k)[m]?.getD 0≠b[m]?.getD 0) && !mk.contains m)=true
   ·have hc2:=hc
    simp only[Bool.and_eq_true,decide_eq_true_eq,Bool.not_eq_true',List.contains_eq_mem,decide_eq_false_iff_not] at hc2
    have h3:mB (m*q+k)=false:=by
     cases h:mB (m*q+k) with
     |false=>rfl
     |true=>exact absurd ((hmk m (by omega)).2 h) hc2.2
    have h4:=hw m (by omega) (by rw[←hg m (by omega)];exact hc2.1) h3
    rw[h4]
    simp only[List.filter_cons,hc,if_true,List.filter_nil]
    exact Nat.le_refl 1
   ·simp only[List.filter_cons,hc,List.filter_nil]
    exact Nat.zero_le _
 exact this l (Nat.le_refl l)
theorem ZM (mB:Nat->Bool) (n:Nat):Yd n ((List.range n).filter mB) :=
 ⟨List.Pairwise.filter _ List.pairwise_lt_range,fun j hj=>by simpa using (List.mem_filter.1 hj).1⟩
theorem Tn {l p q:Nat}(hl:l<=15) (hpl:p<l) (hq:0<q) {d R:List F}(hd:d.length=(l-p)*q) (hR:R.length=l*q) {mB wB:Nat->Bool}
  (hw:∀i,i<l*q->(aU l p q d)[i]?.getD 0≠R[i]?.getD 0->mB i=false->wB i=true) {fC:Nat->Nat}(hf:∀i,i<l*q->fC i=if mB i then 1 else if wB i then 2 else 0)
  (hk:∀k,k<q->Mn fC q (l*q) k<=p):bE l p q R ((List.range (l*q)).filter mB)=some d:=by
 refine Tb hl hpl hq hd hR (ZM mB _) fun k hkq=>?_
 have h1:=hk k hkq
 rw[V9 fC hkq] at h1
 rw[kV (g:=fun i=>if wB i && !mB i then 1 else 0) (h:=fun i=>if mB i then 1 else 0) hkq fun i hi=>by
  rw[hf i hi]
  cases mB i<;>cases wB i<;>rfl] at h1
 rw[a5 mB k,V9 _ hkq]
 have h2:=mN (a:=[]) (wB:=fun i=>wB i && !mB i) (mB:=mB) (R:=R) (W:=fun k=>Fl p (CI (l-p) q k d)) (l:=l) hkq fun j hj hne hm=>by
  have hlt:=Oj hkq hj
  have h3:(aU l p q d)[j*q+k]?.getD 0=(Fl p (CI (l-p) q k d))[j]?.getD 0:=by
   unfold aU
   rw[TB _ hlt,Vx hkq,Sl hkq]
  rw[hw (j*q+k) hlt (by rw[h3];exact hne) hm,hm];rfl
 omega
end Go.Pw
