/- A part of the proof. -/
import Derived.Test.YtibkjeolahobbaaGreatDoorPgChG
set_option linter.all false
section
open Go Go.Pw Go.Proofs
namespace Go.Pw
set_option maxRecDepth 100000
set_option maxHeartbeats 3200000
theorem FP (sy:List (Option Nat)):(NL sy).length=sy.length:=by simp[NL]
def TC (sy:List (Option Nat)) (k:Nat):List Int:=(NL sy).take k++(T1 sy).drop k
theorem ZX (sy:List (Option Nat)) (k:Nat):(TC sy k).length=sy.length:=by
 unfold TC;rw[List.length_append,List.length_take,List.length_drop,FP,NT];omega
theorem pF (sy:List (Option Nat)):TC sy 0=T1 sy:=rfl
theorem kD (sy:List (Option Nat)):TC sy sy.length=NL sy:=by
 unfold TC
 rw[List.take_of_length_le (by rw[FP];omega),List.drop_eq_nil_of_le (by rw[NT];omega),List.append_nil]
theorem kC (sy:List (Option Nat)) {k:Nat}(h:k<sy.length):(TC sy k)[k]?.getD 0=dY sy[k]:=by
 unfold TC
 rw[List.getElem?_append_right (by rw[List.length_take,FP];omega),List.length_take,FP,Nat.min_eq_left (by omega),Nat.sub_self,List.getElem?_drop]
 simp[T1,h]
theorem V_ (sy:List (Option Nat)) {k:Nat}(h:k<sy.length):TC sy (k+1)=(NL sy).take k++(((sy[k].getD 0:Nat):Int)::(T1 sy).drop (k+1)):=by
 unfold TC
 rw[List.take_add_one,List.append_assoc]
 congr 1
 simp[NL,h]
theorem WA (sy:List (Option Nat)) {k:Nat}(h:k<sy.length):TC sy k=(NL sy).take k++(dY sy[k]::(T1 sy).drop (k+1)):=by
 unfold TC
 rw[List.drop_eq_getElem_cons (by rw[NT];exact h)]
 simp[T1]
theorem fA (sy:List (Option Nat)) {k s:Nat}(h:k<sy.length) (hs:sy[k]=some s):TC sy (k+1)=TC sy k:=by
 rw[V_ sy h,WA sy h,hs];rfl
theorem fB (sy:List (Option Nat)) {k:Nat}(h:k<sy.length) (hs:sy[k]=none):(TC sy k).set k 0=TC sy (k+1):=by
 rw[V_ sy h,WA sy h,hs]
 rw[List.set_append_right _ _ (by rw[List.length_take,FP];omega),List.length_take,FP,Nat.min_eq_left (by omega),Nat.sub_self];rfl
def X3 (sy:List (Option Nat)) (k:Nat):List Nat:=(List.range k).filter fun i=>(sy[i]?.getD none).isNone
theorem jw (sy:List (Option Nat)):X3 sy sy.length=bC sy:=rfl
theorem en (sy:List (Option Nat)) {k s:Nat}(h:k<sy.length) (hs:sy[k]=some s):X3 sy (k+1)=X3 sy k:=by
 unfold X3;rw[List.range_succ,List.filter_append]
 simp[h,hs]
theorem eo (sy:List (Option Nat)) {k:Nat}(h:k<sy.length) (hs:sy[k]=none):X3 sy (k+1)=X3 sy k++[k]:=by
 unfold X3;rw[List.range_succ,List.filter_append]
 simp[h,hs]
theorem nT (sy:List (Option Nat)) (k:Nat):(X3 sy k).length<=k:=by
 have:=List.length_filter_le (fun i=>(sy[i]?.getD none).isNone) (List.range k)
 rw[List.length_range] at this;exact this
theorem ed (l:List Nat) (k:Nat):ni l++[(k:Int)]=ni (l++[k]):=by simp[ni]
theorem jo (l:List Nat):(ni l).length=l.length:=by simp[ni]
def _root_.Go.Pw.D.NOK1:D->Prop
 |.list nl xs=>nl=true->xs=[]
 |_=>True
def _root_.Go.Pw.D.NOK:D->Prop
 |.agg cs=>∀c,c∈cs->c.NOK1
 |d=>d.NOK1
theorem jm {w:World}{fb:Nat->Prop}{d:D}{v:Value}(h:A2 w fb d v):d.NOK1:=by
 cases h with
 |nil=>exact fun _=>rfl
 |empty=>exact fun h=>by cases h
 |list=>exact fun h=>by cases h
 |_=>trivial
theorem nK {w:World}{fb:Nat->Prop}{d:D}{v:Value}(h:A2 w fb d v):d.NOK:=by
 cases h with
 |nil=>exact fun _=>rfl
 |empty=>exact fun h=>by cases h
 |list=>exact fun h=>by cases h
 |agg cs vs hl h1 hh =>
  intro c hc
  obtain⟨i,hi⟩:=List.getElem?_of_mem hc
  have hlt:i<vs.size:=by rw[hl];exact(List.getElem?_eq_some_iff.1 hi).1
  exact jm (hh i c _ hi (Array.getElem?_eq_getElem hlt))
 |_=>trivial
theorem ZI {E:Cr}{f:FuncId}{ds:List D}{r:D}(h:(∀d,d∈ds->d.NOK)->CE E f ds r):CE E f ds r:=fun w fb vs hfb hg hl hd =>
 h (fun d hdm=>by
  obtain⟨i,hi⟩:=List.getElem?_of_mem hdm
  have hlt:i<vs.size:=by rw[hl];exact(List.getElem?_eq_some_iff.1 hi).1
  exact nK (hd i d _ hi (Array.getElem?_eq_getElem hlt))) w fb vs hfb hg hl hd
theorem lF {c:AX}(h:(Dg c).NOK) (hm:1<=c.mark.length):c.nm=false:=by
 have h1:=h (.list c.nm (Am c.mark)) (by simp[Ws])
 cases hn:c.nm with
 |false=>rfl
 |true =>
  have h2:Am c.mark=[]:=h1 hn
  have h3:=congrArg List.length h2
  rw[B7] at h3
  change c.mark.length=0 at h3
  omega
theorem j9 {nl:Bool}{xs:List Int}(h:(D.list nl (Am xs)).NOK):nl=true->xs=[]:=fun hn=>by
 have h2:Am xs=[]:=h hn
 have h3:=congrArg List.length h2
 rw[B7] at h3
 exact List.length_eq_zero_iff.1 (by simpa using h3)
theorem NS {c:AX}(h:Cz c.L c.P c.Q=true) {d:List Int}(he:spE c.L c.P c.Q d=0):(Tn c.L c.P c.Q d).length=c.syms:=by
 unfold spE at he
 rw[if_pos h] at he
 have hs:CS d (c.Q*(c.L-c.P))=true:=by
  cases hs:CS d (c.Q*(c.L-c.P)) with
  |true=>rfl
  |false=>rw[hs] at he;simp at he
 unfold Tn
 rw[if_pos h,if_pos hs,Jl,Tm]
 have h2:=Ki h
 have h3:=QP h
 have:((c.L.toNat * c.Q.toNat:Nat):Int)=c.Q*c.L:=by push_cast;rw[Int.toNat_of_nonneg (by omega),Int.toNat_of_nonneg (by omega),Int.mul_comm]
 omega
theorem Yu (c:AX) (X:List Int) {k:Nat}(h:k<X.length):c.flat (X.take k)++c.code.stm (X[k]?.getD 0).toNat=c.flat (X.take (k+1)):=by
 rw[List.take_add_one,List.getElem?_eq_getElem h]
 unfold AX.flat
 rw[List.flatMap_append]
 simp
attribute [local congr] Bl A_ A' Ar Bm Ay A0 Az Aq Ak Ae Aa Av Af Aw BL BP BN BO BM BQ BF Ai Ax Aj BD BX Ah BJ BK BE BG BI BH BB BC A9 Bn BA Au Ag
attribute [local irreducible] IntKind.wrap A4 Option.getD and or
theorem Mi (nl:Bool) (xs:List Int) (hl:xs.length<=1000) (hne:0<xs.length) (hnl:nl=false):IR E0 F3 [] [.d (.list nl (Am xs))] [(7,1,.row 3 1 false (Am xs))] (.own 7 1):=by
 subst hnl
 refine Di Ia Ap (by simp) (by simp[P_,CV,EY]) (by simp[E_]) fun hwf hwo=>?_
 rw[ES];unfold FV
 have hn:¬xs=[]:=by intro h;rw[h] at hne;simp at hne
 (try (simp -implicitDefEqProofs only[go_sem,hn]));repeat' first|(with_reducible first|exact tI|refine aI ?_ ?_|intro _)|((first|with_reducible refine AO ?_ ?_<;>intro _)<;>try (simp -implicitDefEqProofs only[go_sem,hn]))|simp (disch:=omega) only[Al]
 all_goals first|omega|rfl
theorem NF (c:AX) (hk:Fj c) (sy:List (Option Nat)) (hl:sy.length=c.syms) :
  CE E0 FM [.ptr (Se c (Fg c.code)),.list false (Am (T1 sy))] (.tup [.list (Uy c sy).isEmpty (Am (Uy c sy)),.int .i64 (RI c sy)]):=by
 have hs:=hk.syms
 have hsl:=NT sy
 have cC:=Mi false (T1 sy) (by omega) (by omega) rfl
 have h0l:(TC sy 0).length=sy.length:=ZX sy 0
 refine AP HE Ap (by simp) fun hwf=>?_
 rw[AW];unfold En
 (try (simp -implicitDefEqProofs only[go_sem]));repeat' first|(with_reducible first|exact tI|refine aI ?_ ?_|intro _)|((first|with_reducible refine AO ?_ ?_<;>intro _|(with_reducible refine isCall ?_);first|(refine FA ([]) ([((7,1),(11,0))]) (cC) (by repeat' first|exact True.intro|exact rfl|refine And.intro ?_ ?_) (by simp[Handed,Dm.get,Ad.ren,AV.ren,AV.ren.renL,AN.get,Bb,CI,D8,AN.reach,AV.sites,AV.sites.sitesL,AN.osites]) (by simp[CQ,E_,CV,Dm.get,D8,EY,CL]) (by rfl) (by simp only[D9,Dm.get,Ad.ren,AV.ren,AV.ren.renL,and_self,and_true,true_and,if_true,reduceIte];rfl) ?_))<;>try (simp -implicitDefEqProofs only[go_sem]))|simp (disch:=omega) only[Al]|((with_reducible refine Ab ?_);refine⟨(_,_),rfl,?_,?_⟩)
 all_goals first|omega|(simp;done)|(simp;omega)|skip
 rw[←pF]
 refine AY (α:=Nat×Bool) (l0:=?l1) (m0:=?m1) (fun x=>[(14,.d (.int .i64 (x.1:Int)))]) (fun x=>[(11,.row 3 1 false (Am (TC sy x.1))),(24,.row 3 1 x.2 (Am (ni (X3 sy x.1))))]) (fun x=>x.1<=sy.length/\x.2=(X3 sy x.1).isEmpty) (fun x=>sy.length-x.1) (0,true) ?h01 ?he1 ?he21 ?hI1 ?step1
 case h01=>(simp -implicitDefEqProofs only[go_sem];rfl)
 case he1=>rfl
 case he21=>rfl
 case' step1=>(rintro⟨k,e⟩ hI;try dsimp only at hI)
 case' hI1=>try dsimp only
 ·exact⟨Nat.zero_le _,rfl⟩
 ·obtain⟨k1,k2⟩:=hI
  change e=(X3 sy k).isEmpty at k2
  have hkl:=ZX sy k
  by_cases hks:k<sy.length
  ·have hk':(k:Int)<(sy.length:Int):=by omega
   have hg:=kC sy hks
   have hwk:IntKind.i64.wrap ((k:Int)+1)=((k+1:Nat):Int):=by rw[AZ _ (by omega)];omega
   have hmk:=nT sy k
   have hml:=jo (X3 sy k)
   cases hsy:sy[k] with
   |none =>
    rw[hsy] at hg
    change (TC sy k)[k]?.getD 0=-1 at hg
    have h1:=fB sy hks hsy
    have h2:=eo sy hks hsy
    have h3:=ed (X3 sy k) k
    have h4:false=(X3 sy k++[k]).isEmpty:=by cases X3 sy k<;>rfl
    (try (simp -implicitDefEqProofs only[go_sem,hk',hks,hg,hwk,hkl,hml,h1,h3]));repeat' first|(with_reducible first|exact tI|refine aI ?_ ?_|intro _)|((first|with_reducible refine AO ?_ ?_<;>intro _)<;>try (simp -implicitDefEqProofs only[go_sem,hk',hks,hg,hwk,hkl,hml,h1,h3]))|simp (disch:=omega) only[Al]|((with_reducible refine Ab ?_);refine⟨(_,_),rfl,?_,?_⟩)
    all_goals first|omega|(simp;done)|(simp;omega)|skip
    rw[←h2] at h4 ⊢
    exact⟨(k+1,false),rfl,⟨by show k+1<=sy.length;omega,h4⟩,by show sy.length-(k+1)<sy.length-k;omega⟩
   |some s =>
    rw[hsy] at hg
    change (TC sy k)[k]?.getD 0=(s:Int) at hg
    have hne:¬(s:Int)=-1:=by omega
    have h1:=fA sy hks hsy
    have h2:=en sy hks hsy
    (try (simp -implicitDefEqProofs only[go_sem,hk',hks,hg,hwk,hkl,hml,hne]));repeat' first|(with_reducible first|exact tI|refine aI ?_ ?_|intro _)|((first|with_reducible refine AO ?_ ?_<;>intro _)<;>try (simp -implicitDefEqProofs only[go_sem,hk',hks,hg,hwk,hkl,hml,hne]))|simp (disch:=omega) only[Al]|((with_reducible refine Ab ?_);refine⟨(_,_),rfl,?_,?_⟩)
    all_goals first|omega|(simp;done)|(simp;omega)|skip
    rw[←h2] at k2 ⊢
    rw[←h1]
    exact⟨(k+1,e),rfl,⟨by show k+1<=sy.length;omega,k2⟩,by show sy.length-(k+1)<sy.length-k;omega⟩
  ·have hke:k=sy.length:=by omega
   subst hke
   have hk':¬(sy.length:Int)<((TC sy 0).length:Int):=by omega
   have hkn:=FP sy
   have c1:=Gm c (Fg c.code) false (NL sy) hk.seed (by omega) (by omega)
   have c2:=NA c.L c.P c.Q false e (Cx c.seed (NL sy)) (ni (bC sy)) (by rw[Dv];omega)
   have h1:=kD sy
   have h2:=jw sy
   unfold Uy RI
   (try (simp -implicitDefEqProofs only[go_sem,BU,hk',h1,h2]));repeat' first|(with_reducible first|exact tI|refine aI ?_ ?_|intro _)|((first|with_reducible refine AO ?_ ?_<;>intro _|(with_reducible refine isCall ?_);first|refine AE c1 ?_|refine AE c2 ?_)<;>try (simp -implicitDefEqProofs only[go_sem,BU,hk',h1,h2]))|simp (disch:=omega) only[Al]|((with_reducible refine Ab ?_);refine⟨(_,_),rfl,?_,?_⟩)
   all_goals first|rfl|skip
theorem Fy (c:AX) (nl:Bool) (d:List Int):CE E0 KT [Dg c,.list nl (Am d)] (.tup [.list (Zw c d).isEmpty (Am (Zw c d)),.int .i64 (oc c d)]):=by
 refine ZI fun hnok=>?_
 have c1:=D5 c
 obtain⟨r,hr⟩:∃r,eP c=r:=⟨_,rfl⟩
 rw[hr] at c1
 refine AP OE Ap (by simp) fun hwf=>?_
 rw[AW];unfold JB
 unfold Zw oc
 rcases hok:c.ok with _|_
 ·have:=Gt hok
  rw[hr] at this
  rw[this.1,this.2] at c1
  simp only[Bool.false_eq_true,if_false]
  (try (simp -implicitDefEqProofs only[go_sem,AG,AF]));repeat' first|(with_reducible first|exact tI|refine aI ?_ ?_|intro _)|((first|with_reducible refine AO ?_ ?_<;>intro _|(with_reducible refine isCall ?_);first|refine AE c1 ?_)<;>try (simp -implicitDefEqProofs only[go_sem,AG,AF]))|simp (disch:=omega) only[Al]|((with_reducible refine A1 ?_);refine⟨_,rfl,?_,?_⟩)
  all_goals first|rfl|skip
 ·have:=HT hok
  have hk:=Dh hok
  have hm:=hk.markl
  have hs:=hk.syms
  have hnm:=lF (hnok _ (by simp)) hm.1
  rw[hr] at this
  rw[this.1,this.2] at c1
  have c2:=M_ c.L c.P c.Q nl d
  simp only[if_true]
  by_cases hsp:spE c.L c.P c.Q d=0
  ·have hbl:=NS hk.wev hsp
   rw[hsp] at c2 ⊢
   simp only[if_true]
   unfold IU
   obtain⟨B,hB⟩:∃B,Tn c.L c.P c.Q d=B:=⟨_,rfl⟩
   rw[hB] at c2 hbl ⊢
   have hBe:B.isEmpty=false:=GN fun e=>by rw[e] at hbl;simp at hbl;omega
   rw[hBe] at c2
   have c3:=Gm c (Fg c.code) false B hk.seed (by omega) (by omega)
   have hX:=Iw B c.seed
   have hXl:=Dv B c.seed
   obtain⟨X,hXe⟩:∃X,Cx c.seed B=X:=⟨_,rfl⟩
   rw[hXe] at c3 hX hXl ⊢
   have cM:=Mi c.nm c.mark (by omega) (by omega) hnm
   have hne:(c.mark++c.flat X).isEmpty=false:=GN fun e=>by have:=congrArg List.length e;simp at this;rw[this.1] at hm;simp at hm
   rw[hne]
   (try (simp -implicitDefEqProofs only[go_sem,AG,AF,BU]));repeat' first|(with_reducible first|exact tI|refine aI ?_ ?_|intro _)|((first|with_reducible refine AO ?_ ?_<;>intro _|(with_reducible refine isCall ?_);first|refine AE c1 ?_|refine AE c2 ?_|refine AE c3 ?_|(refine FA ([]) ([((7,1),(37,0))]) (cM) (by repeat' first|exact True.intro|exact rfl|refine And.intro ?_ ?_) (by simp[Handed,Dm.get,Ad.ren,AV.ren,AV.ren.renL,AN.get,Bb,CI,D8,AN.reach,AV.sites,AV.sites.sitesL,AN.osites]) (by simp[CQ,E_,CV,Dm.get,D8,EY,CL]) (by rfl) (by simp only[D9,Dm.get,Ad.ren,AV.ren,AV.ren.renL,and_self,and_true,true_and,if_true,reduceIte];rfl) ?_))<;>try (simp -implicitDefEqProofs only[go_sem,AG,AF,BU]))|simp (disch:=omega) only[Al]|((with_reducible refine A1 ?_);refine⟨_,rfl,?_,?_⟩)
   all_goals first|omega|(simp;done)|(simp;omega)|skip
   have hf0:c.mark=c.mark++c.flat (X.take 0):=by simp[AX.flat]
   rw[show Am c.mark=Am (c.mark++c.flat (X.take 0)) from congrArg Am hf0]
   refine AY (α:=Nat) (l0:=?l2) (m0:=?m2) (fun x=>[(42,.d (.int .i64 (x:Int)))]) (fun x=>[(37,.row 3 1 false (Am (c.mark++c.flat (X.take x))))]) (fun x=>x<=X.length) (fun x=>X.length-x) 0 ?h02 ?he2 ?he22 ?hI2 ?step2
   case h02=>(simp -implicitDefEqProofs only[go_sem];rfl)
   case he2=>rfl
   case he22=>rfl
   case' step2=>(rintro k hI;try dsimp only at hI)
   case' hI2=>try dsimp only
   ·exact Nat.zero_le _
   ·by_cases hks:k<X.length
    ·have hk':(k:Int)<(X.length:Int):=by omega
     have hwk:IntKind.i64.wrap ((k:Int)+1)=((k+1:Nat):Int):=by rw[AZ _ (by omega)];omega
     have hxm:=hX _ (D2 hks)
     have hst:=Yu c X hks
     obtain⟨x,hx⟩:∃x,X[k]?.getD 0=x:=⟨_,rfl⟩
     rw[hx] at hxm hst
     have hg:=Kn c.code (s:=x.toNat) (by omega)
     have hx0:0<=x:=hxm.1
     have hx1:x<16:=by omega
     have hz:=EC hk.code
     have hsl:=Eb c.code x.toNat
     have hfl:(c.flat (X.take k)).length<=32*20:=by rw[PW,List.length_take];exact Nat.mul_le_mul (by omega) hz.2
     have hne0:=XU hk.code x.toNat
     (try (simp -implicitDefEqProofs only[go_sem,BU,hk',hks,hwk,hx,hx0,hx1,RL,hg,hsl]));repeat' first|(with_reducible first|exact tI|refine aI ?_ ?_|intro _)|((first|with_reducible refine AO ?_ ?_<;>intro _)<;>try (simp -implicitDefEqProofs only[go_sem,BU,hk',hks,hwk,hx,hx0,hx1,RL,hg,hsl]))|simp (disch:=omega) only[Al]|((with_reducible refine A1 ?_);refine⟨_,rfl,?_,?_⟩)
     all_goals first|omega|(simp;done)|(simp;omega)|skip
     rw[List.append_assoc c.mark,hst]
     exact⟨k+1,rfl,hks,by omega⟩
    ·have hk':¬(k:Int)<(X.length:Int):=by omega
     have htk:X.take k=X:=List.take_of_length_le (by omega)
     rw[htk]
     (try (simp -implicitDefEqProofs only[go_sem,hk']));repeat' first|(with_reducible first|exact tI|refine aI ?_ ?_|intro _)|((first|with_reducible refine AO ?_ ?_<;>intro _)<;>try (simp -implicitDefEqProofs only[go_sem,hk']))|simp (disch:=omega) only[Al]|((with_reducible refine A1 ?_);refine⟨_,rfl,?_,?_⟩)
     all_goals first|omega|(simp;done)|(simp;omega)|skip
     all_goals first|rfl|skip
  ·rw[if_neg hsp,if_neg hsp]
   obtain⟨B,hB⟩:∃B,Tn c.L c.P c.Q d=B:=⟨_,rfl⟩
   rw[hB] at c2
   (try (simp -implicitDefEqProofs only[go_sem,AG,AF,BU,hsp]));repeat' first|(with_reducible first|exact tI|refine aI ?_ ?_|intro _)|((first|with_reducible refine AO ?_ ?_<;>intro _|(with_reducible refine isCall ?_);first|refine AE c1 ?_|refine AE c2 ?_)<;>try (simp -implicitDefEqProofs only[go_sem,AG,AF,BU,hsp]))|simp (disch:=omega) only[Al]|((with_reducible refine A1 ?_);refine⟨_,rfl,?_,?_⟩)
   all_goals first|rfl|skip
noncomputable def Vm (c:AX) (bits:List Int):D:=.tup [.list (S5 c bits).isEmpty (Am (S5 c bits)),.int .i64 (Vo c bits),.int .i64 (Vn c bits)]
theorem pK {c:AX}{sy:List (Option Nat)}(h:¬RI c sy=0):Uy c sy=[]:=by
 unfold RI pL at h
 unfold Uy od
 split
 ·rename_i h1
  rw[if_pos h1] at h
  split
  ·rename_i h2
   rw[if_pos h2] at h
   split
   ·rename_i h3
    rw[if_pos h3] at h
    cases hg:YJ c.L.toNat c.P.toNat c.Q.toNat (fs (Cx c.seed (NL sy))) (nt (ni (bC sy))) with
    |none=>rfl
    |some r=>rw[hg] at h;exact absurd rfl h
   ·rfl
  ·rfl
 ·rfl
theorem GP (c:AX) (nl:Bool) (bits:List Int):CE E0 Lk [Dg c,.list nl (Am bits)] (Vm c bits):=by
 refine ZI fun hnok=>?_
 have hnb:=j9 (hnok (.list nl (Am bits)) (by simp))
 have c1:=D5 c
 obtain⟨r,hr⟩:∃r,eP c=r:=⟨_,rfl⟩
 rw[hr] at c1
 refine AP PP Ap (by simp) fun hwf=>?_
 rw[AW];unfold KA Vm S5 Vo Vn
 rcases hok:c.ok with _|_
 ·have:=Gt hok
  rw[hr] at this
  rw[this.1,this.2] at c1
  simp only[Bool.false_eq_true,if_false]
  (try (simp -implicitDefEqProofs only[go_sem,AG,AF]));repeat' first|(with_reducible first|exact tI|refine aI ?_ ?_|intro _)|((first|with_reducible refine AO ?_ ?_<;>intro _|(with_reducible refine isCall ?_);first|refine AE c1 ?_)<;>try (simp -implicitDefEqProofs only[go_sem,AG,AF]))|simp (disch:=omega) only[Al]
  all_goals first|rfl|skip
 ·have:=HT hok
  have hk:=Dh hok
  rw[hr] at this
  rw[this.1,this.2] at c1
  have c2:=ME nl bits
  simp only[if_true]
  cases hb:Mp bits with
  |false =>
   rw[hb] at c2
   simp only[Bool.false_eq_true,if_false]
   (try (simp -implicitDefEqProofs only[go_sem,AG,AF]));repeat' first|(with_reducible first|exact tI|refine aI ?_ ?_|intro _)|((first|with_reducible refine AO ?_ ?_<;>intro _|(with_reducible refine isCall ?_);first|refine AE c1 ?_|refine AE c2 ?_)<;>try (simp -implicitDefEqProofs only[go_sem,AG,AF]))|simp (disch:=omega) only[Al]
   all_goals first|rfl|skip
  |true =>
   rw[hb] at c2
   simp only[if_true]
   have c3:=PV c hk nl bits hb hnb
   unfold Lv at c3
   cases hf:c.find bits with
   |none =>
    rw[hf] at c3
    simp only at c3 ⊢
    (try (simp -implicitDefEqProofs only[go_sem,AG,AF]));repeat' first|(with_reducible first|exact tI|refine aI ?_ ?_|intro _)|((first|with_reducible refine AO ?_ ?_<;>intro _|(with_reducible refine isCall ?_);first|refine AE c1 ?_|refine AE c2 ?_|refine AE c3 ?_)<;>try (simp -implicitDefEqProofs only[go_sem,AG,AF]))|simp (disch:=omega) only[Al]
    all_goals first|rfl|skip
   |some a =>
    rw[hf] at c3
    simp only at c3 ⊢
    have c4:=NF c hk (c.syL bits a) (Jf c bits a)
    by_cases he:RI c (c.syL bits a)=0
    ·rw[he] at c4 ⊢
     simp only[if_true]
     (try (simp -implicitDefEqProofs only[go_sem,AG,AF]));repeat' first|(with_reducible first|exact tI|refine aI ?_ ?_|intro _)|((first|with_reducible refine AO ?_ ?_<;>intro _|(with_reducible refine isCall ?_);first|refine AE c1 ?_|refine AE c2 ?_|refine AE c3 ?_|refine AE c4 ?_)<;>try (simp -implicitDefEqProofs only[go_sem,AG,AF]))|simp (disch:=omega) only[Al]
     all_goals first|rfl|skip
    ·rw[if_neg he]
     have hl:=pK he
     rw[hl] at c4 ⊢
     (try (simp -implicitDefEqProofs only[go_sem,AG,AF,he]));repeat' first|(with_reducible first|exact tI|refine aI ?_ ?_|intro _)|((first|with_reducible refine AO ?_ ?_<;>intro _|(with_reducible refine isCall ?_);first|refine AE c1 ?_|refine AE c2 ?_|refine AE c3 ?_|refine AE c4 ?_)<;>try (simp -implicitDefEqProofs only[go_sem,AG,AF,he]))|simp (disch:=omega) only[Al]
     all_goals first|rfl|skip
end Go.Pw
end
section
open Go Go.Pw Go.Proofs
namespace Go.Pw
set_option maxRecDepth 100000
set_option maxHeartbeats 3200000
def XJ (c:AR) (rest:List Int) (part q:Nat):Nat->Int
 |0=>(part:Int)
 |s+1=>min (XJ c rest part q s) (B5 (rest.take part) ((c.stm s).drop q))
theorem eu (c:AR) (rest:List Int) (part q:Nat):∀m,0<=XJ c rest part q m/\XJ c rest part q m<=part
 |0=>⟨by simp[XJ],Int.le_refl _⟩
 |m+1=>by
  have ih:=eu c rest part q m
  have:=HY (rest.take part) ((c.stm m).drop q)
  simp only[XJ];omega
def IT (c:AX) (at_:Nat) (rest:List Int):Nat:=if at_%c.tot<c.mark.length then min rest.length (c.mark.length-at_%c.tot) else min rest.length (c.code.sz-(at_%c.tot-c.mark.length)%c.code.sz)
def P4 (c:AX) (at_:Nat) (rest:List Int):Int:=if at_%c.tot<c.mark.length then B5 (rest.take (IT c at_ rest)) (c.mark.drop (at_%c.tot)) else XJ c.code rest (IT c at_ rest) ((at_%c.tot-c.mark.length)%c.code.sz) 16
def apW (c:AX):Nat->Nat->List Int->Int
 |0,_,_=>0
 |n+1,at_,rest=>if rest=[] then 0 else P4 c at_ rest+apW c n (at_+IT c at_ rest) (rest.drop (IT c at_ rest))
def QM (c:AX) (at_:Nat):Int:=apW c (c.mark.length+1) at_ c.mark
theorem NU {c:AX}(hk:Fj c) (at_:Nat) {rest:List Int}(h:rest≠[]):1<=IT c at_ rest/\IT c at_ rest<=rest.length:=by
 have h1:0<rest.length:=List.length_pos_iff.2 h
 have hz:=EC hk.code
 have:=Nat.mod_lt (at_%c.tot-c.mark.length) (show 0<c.code.sz by omega)
 unfold IT
 split<;>omega
theorem jA (c:AX) (at_:Nat) (rest:List Int):0<=P4 c at_ rest/\P4 c at_ rest<=IT c at_ rest:=by
 unfold P4
 split
 ·have:=HY (rest.take (IT c at_ rest)) (c.mark.drop (at_%c.tot))
  have h2:(rest.take (IT c at_ rest)).length<=IT c at_ rest:=by rw[List.length_take];omega
  omega
 ·exact eu ..
theorem W7 {c:AX}(hk:Fj c):∀(n m at_:Nat) (rest:List Int),rest.length<n->rest.length<m->apW c n at_ rest=apW c m at_ rest
 |0,_,_,_,h,_=>by omega
 |_,0,_,_,_,h=>by omega
 |n+1,m+1,at_,rest,h1,h2=>by
  unfold apW
  by_cases hr:rest=[]
  ·rw[if_pos hr,if_pos hr]
  ·rw[if_neg hr,if_neg hr]
   have:=NU hk at_ hr
   rw[W7 hk n m _ _ (by rw[List.length_drop];omega) (by rw[List.length_drop];omega)]
theorem gq {c:AX}(hk:Fj c) {a j:Nat}(h:j<c.mark.length) (hj:c.mark.drop j≠[]) :
  apW c (c.mark.length+1) (a+j) (c.mark.drop j)=P4 c (a+j) (c.mark.drop j)+apW c (c.mark.length+1) (a+(j+IT c (a+j) (c.mark.drop j))) (c.mark.drop (j+IT c (a+j) (c.mark.drop j))):=by
 rw[show apW c (c.mark.length+1) (a+j) (c.mark.drop j)=P4 c (a+j) (c.mark.drop j)+apW c c.mark.length (a+j+IT c (a+j) (c.mark.drop j)) ((c.mark.drop j).drop (IT c (a+j) (c.mark.drop j))) from by
  conv=>lhs;unfold apW
  rw[if_neg hj]]
 have hp:=NU hk (a+j) hj
 rw[List.drop_drop,Nat.add_assoc]
 congr 1
 exact W7 hk _ _ _ _ (by rw[List.length_drop];omega) (by rw[List.length_drop];omega)
theorem Tg (a b:Nat):((a:Int)).tmod (b:Int)=((a%b:Nat):Int):=by
 rw[Int.tmod_eq_emod_of_nonneg (by omega)];rfl
theorem jy (a b:Nat):min (a:Int) (b:Int)=((min a b:Nat):Int):=by omega
attribute [local congr] Bl A_ A' Ar Bm Ay A0 Az Aq Ak Ae Aa Av Af Aw BL BP BN BO BM BQ BF Ai Ax Aj BD BX Ah BJ BK BE BG BI BH BB BC A9 Bn BA Au Ag
attribute [local irreducible] IntKind.wrap A4 Option.getD and or
theorem OT (c:AX) (hk:Fj c) (a:Nat) (ha:a<=2000):CE E0 Ff [.ptr (Se c (Fg c.code)),.int .i64 (a:Int)] (.int .i64 (QM c a)):=by
 have hm:=hk.markl
 have hs:=hk.syms
 have ht:=hk.tot
 have hz:=EC hk.code
 have cB:=Ex c hk.wev hk.code
 have cL:=D6 c
 have w0:IntKind.i64.wrap ((c.mark.length:Int)+((c.syms*c.code.sz:Nat):Int))=((c.tot:Nat):Int):=by rw[AZ _ (by omega)];unfold AX.tot;omega
 have ht1:c.mark.length<c.tot:=by
  have:2*2<=c.syms*c.code.sz:=Nat.mul_le_mul hs.1 hz.1
  unfold AX.tot;omega
 have hne0:¬((c.tot:Nat):Int)=0:=by omega
 have hnz0:¬((c.code.sz:Nat):Int)=0:=by omega
 refine AP Hz Ap (by simp) fun hwf=>?_
 rw[AW];unfold FG
 (try (simp -implicitDefEqProofs only[go_sem,BU,w0]));repeat' first|(with_reducible first|exact tI|refine aI ?_ ?_|intro _)|((first|with_reducible refine AO ?_ ?_<;>intro _|(with_reducible refine isCall ?_);first|refine AE cB ?_)<;>try (simp -implicitDefEqProofs only[go_sem,BU,w0]))|simp (disch:=omega) only[Al]|((with_reducible refine Cc ?_);refine⟨(_,_,_,_),rfl,?_,?_⟩)|((with_reducible refine Ab ?_);refine⟨(_,_),rfl,?_,?_⟩)
 all_goals first|omega|(simp;done)|(simp;omega)|skip
 have hd0:c.mark=c.mark.drop 0:=rfl
 refine AY (α:=Nat×Int×Int×(List Int)) (l0:=?l1) (m0:=?m1) (fun x=>[(1,.d (.int .i64 x.2.1)),(4,.d (.int .i64 x.2.2.1)),(6,.d (.list c.nm (Am x.2.2.2)))]) (fun x=>[]) (fun x=>x.1<=c.mark.length/\x.2.1=((a+x.1:Nat):Int)/\x.2.2.2=c.mark.drop x.1/\0<=x.2.2.1/\x.2.2.1<=x.1/\x.2.2.1+apW c (c.mark.length+1) (a+x.1) (c.mark.drop x.1)=QM c a) (fun x=>c.mark.length-x.1) (0,(a:Int),0,c.mark) ?h01 ?he1 ?he21 ?hI1 ?step1
 case h01=>(simp -implicitDefEqProofs only[go_sem];rfl)
 case he1=>rfl
 case he21=>rfl
 case' step1=>(rintro⟨j,t,n,l⟩ hI;try dsimp only at hI)
 case' hI1=>try dsimp only
 ·exact⟨Nat.zero_le _,by simp,rfl,Int.le_refl _,by simp,by simp[QM]⟩
 ·obtain⟨j1,j2,j3,n0,n1,j4⟩:=hI
  change t=((a+j:Nat):Int) at j2
  change l=c.mark.drop j at j3
  subst j2
  have hll:l.length=c.mark.length-j:=by rw[j3,List.length_drop]
  by_cases hj:j<c.mark.length
  ·have hl0:(0:Int)<(l.length:Int):=by omega
   have hlne:l≠[]:=fun e=>by rw[e] at hll;simp at hll;omega
   have hst:=gq hk (a:=a) hj (by rw[←j3];exact hlne)
   have hsp:=NU hk (a+j) hlne
   have hsv:=jA c (a+j) l
   rw[←j3] at hst j4
   have hmod:=Tg (a+j) c.tot
   have hpt:=Nat.mod_lt (a+j) (show 0<c.tot by omega)
   have hlb:Ao l=true:=by rw[j3];exact Ez hm.2.2 j
   obtain⟨S,hS⟩:∃S,IT c (a+j) l=S:=⟨_,rfl⟩
   obtain⟨V,hV⟩:∃V,P4 c (a+j) l=V:=⟨_,rfl⟩
   have hS':=hS
   have hV':=hV
   unfold IT at hS'
   unfold P4 at hV'
   rw[hS] at hst hsp hsv hV'
   rw[hV] at hst hsv
   have wn:IntKind.i64.wrap (n+V)=n+V:=AZ _ (by omega)
   have wt:IntKind.i64.wrap (((a+j:Nat):Int)+(S:Int))=((a+(j+S):Nat):Int):=by rw[AZ _ (by omega)];omega
   have hlS:(S:Int)<=(l.length:Int):=by omega
   have hdl:l.drop S=c.mark.drop (j+S):=by rw[j3,List.drop_drop]
   have htk:(c.mark.drop (j+S)).take (l.length-S)=c.mark.drop (j+S):=List.take_of_length_le (by rw[List.length_drop];omega)
   by_cases hp:(a+j)%c.tot<c.mark.length
   ·rw[if_pos hp] at hS' hV'
    have hp':(((a+j)%c.tot:Nat):Int)<(c.mark.length:Int):=by omega
    have hmn:min (l.length:Int) (IntKind.i64.wrap ((c.mark.length:Int)-(((a+j)%c.tot:Nat):Int)))=(S:Int):=by rw[AZ _ (by omega)];omega
    have cD:=Df c.nm c.nm (l.take S) (c.mark.drop ((a+j)%c.tot)) (F0 hlb S) (Ez hm.2.2 _) (by rw[List.length_take,List.length_drop];omega) (by rw[List.length_take];omega)
    rw[hV'] at cD
    (try (simp -implicitDefEqProofs only[go_sem,BU,w0,hl0,hmod,hne0,hp',hmn,hlS,wn,wt,hdl,htk]));repeat' first|(with_reducible first|exact tI|refine aI ?_ ?_|intro _)|((first|with_reducible refine AO ?_ ?_<;>intro _|(with_reducible refine isCall ?_);first|refine AE cB ?_|refine AE cD ?_)<;>try (simp -implicitDefEqProofs only[go_sem,BU,w0,hl0,hmod,hne0,hp',hmn,hlS,wn,wt,hdl,htk]))|simp (disch:=omega) only[Al]|((with_reducible refine Cc ?_);refine⟨(_,_,_,_),rfl,?_,?_⟩)|((with_reducible refine Ab ?_);refine⟨(_,_),rfl,?_,?_⟩)
    all_goals first|omega|(simp;done)|(simp;omega)|skip
    exact⟨(j+S,_,_,_),rfl,⟨by show j+S<=_;omega,rfl,rfl,by show 0<=n+V;omega,by show n+V<=((j+S:Nat):Int);omega,by show n+V+apW c (c.mark.length+1) (a+(j+S)) (c.mark.drop (j+S))=QM c a;rw[←j4,hst];omega⟩,by show c.mark.length-(j+S)<_;omega⟩
   ·rw[if_neg hp] at hS' hV'
    have hp':¬(((a+j)%c.tot:Nat):Int)<(c.mark.length:Int):=by omega
    obtain⟨q,hq⟩:∃q,((a+j)%c.tot-c.mark.length)%c.code.sz=q:=⟨_,rfl⟩
    rw[hq] at hS' hV'
    have hql:q<c.code.sz:=by rw[←hq];exact Nat.mod_lt _ (by omega)
    have wq:IntKind.i64.wrap ((((a+j)%c.tot:Nat):Int)-(c.mark.length:Int))=(((a+j)%c.tot-c.mark.length:Nat):Int):=by rw[AZ _ (by omega)];omega
    have hmq:=Tg ((a+j)%c.tot-c.mark.length) c.code.sz
    rw[hq] at hmq
    have wz:IntKind.i64.wrap ((c.code.sz:Int)-(q:Int))=((c.code.sz-q:Nat):Int):=by rw[AZ _ (by omega)];omega
    have hmn:min (l.length:Int) ((c.code.sz-q:Nat):Int)=(S:Int):=by omega
    have hmn0:∃z,min (l.length:Int) (IntKind.i64.wrap ((c.mark.length:Int)-(((a+j)%c.tot:Nat):Int)))=z:=⟨_,rfl⟩
    obtain⟨z,hz0⟩:=hmn0
    have h28:=NP c.code
    have h16:=Ov c.code
    (try (simp -implicitDefEqProofs only[go_sem,BU,w0,hl0,hmod,hne0,hnz0,hp',hz0,wq,hmq,wz,hmn,h28,h16]));repeat' first|(with_reducible first|exact tI|refine aI ?_ ?_|intro _)|((first|with_reducible refine AO ?_ ?_<;>intro _|(with_reducible refine isCall ?_);first|refine AE cB ?_|refine AE cL ?_)<;>try (simp -implicitDefEqProofs only[go_sem,BU,w0,hl0,hmod,hne0,hnz0,hp',hz0,wq,hmq,wz,hmn,h28,h16]))|simp (disch:=omega) only[Al]|((with_reducible refine Cc ?_);refine⟨(_,_,_,_),rfl,?_,?_⟩)|((with_reducible refine Ab ?_);refine⟨(_,_),rfl,?_,?_⟩)
    all_goals first|omega|(simp;done)|(simp;omega)|skip
    refine AY (α:=Nat×Int) (l0:=?l2) (m0:=?m2) (fun x=>[(87,.d (.int .i64 (x.1:Int))),(9,.d (.int .i64 x.2))]) (fun x=>[]) (fun x=>x.1<=16/\x.2=XJ c.code l S q x.1) (fun x=>16-x.1) (0,(S:Int)) ?h02 ?he2 ?he22 ?hI2 ?step2
    case h02=>(simp -implicitDefEqProofs only[go_sem];rfl)
    case he2=>rfl
    case he22=>rfl
    case' step2=>(rintro⟨s,b⟩ hI2;try dsimp only at hI2)
    case' hI2=>try dsimp only
    ·exact⟨Nat.zero_le _,rfl⟩
    ·obtain⟨s1,s2⟩:=hI2
     change b=XJ c.code l S q s at s2
     by_cases hs16:s<16
     ·have hs':(s:Int)<16:=by omega
      have hg:=Kn c.code hs16
      have hsl:=Eb c.code s
      have hws:IntKind.i64.wrap ((s:Int)+1)=((s+1:Nat):Int):=by rw[AZ _ (by omega)];omega
      have cD:=Df c.nm false (l.take S) ((c.code.stm s).drop q) (F0 hlb S) (Ez (NR ..) _) (by rw[List.length_take,List.length_drop,hsl];omega) (by rw[List.length_take];omega)
      have hqs:(q:Int)<=((c.code.stm s).length:Int):=by omega
      obtain⟨dv,hdv⟩:∃dv,B5 (l.take S) ((c.code.stm s).drop q)=dv:=⟨_,rfl⟩
      rw[hdv] at cD
      have hmm:min b dv=XJ c.code l S q (s+1):=by rw[s2,←hdv];rfl
      have htk2:((c.code.stm s).drop q).take (c.code.sz-q)=(c.code.stm s).drop q:=List.take_of_length_le (by rw[List.length_drop];omega)
      (try (simp -implicitDefEqProofs only[go_sem,hs',hg,hsl,hws,hlS,hqs,hql,hmm,htk2]));repeat' first|(with_reducible first|exact tI|refine aI ?_ ?_|intro _)|((first|with_reducible refine AO ?_ ?_<;>intro _|(with_reducible refine isCall ?_);first|refine AE cD ?_)<;>try (simp -implicitDefEqProofs only[go_sem,hs',hg,hsl,hws,hlS,hqs,hql,hmm,htk2]))|simp (disch:=omega) only[Al]|((with_reducible refine Cc ?_);refine⟨(_,_,_,_),rfl,?_,?_⟩)|((with_reducible refine Ab ?_);refine⟨(_,_),rfl,?_,?_⟩)
      all_goals first|omega|(simp;done)|(simp;omega)|skip
      all_goals skip
     ·have hs':¬(s:Int)<16:=by omega
      have hse:s=16:=by omega
      rw[hse,hV'] at s2
      subst s2
      (try (simp -implicitDefEqProofs only[go_sem,hs',hlS,wn,wt,hdl,htk]));repeat' first|(with_reducible first|exact tI|refine aI ?_ ?_|intro _)|((first|with_reducible refine AO ?_ ?_<;>intro _)<;>try (simp -implicitDefEqProofs only[go_sem,hs',hlS,wn,wt,hdl,htk]))|simp (disch:=omega) only[Al]|((with_reducible refine Cc ?_);refine⟨(_,_,_,_),rfl,?_,?_⟩)|((with_reducible refine Ab ?_);refine⟨(_,_),rfl,?_,?_⟩)
      all_goals first|omega|(simp;done)|(simp;omega)|skip
      exact⟨(j+S,_,_,_),rfl,⟨by show j+S<=_;omega,rfl,rfl,by show 0<=n+b;omega,by show n+b<=((j+S:Nat):Int);omega,by show n+b+apW c (c.mark.length+1) (a+(j+S)) (c.mark.drop (j+S))=QM c a;rw[←j4,hst];omega⟩,by show c.mark.length-(j+S)<_;omega⟩
  ·have hl0:¬(0:Int)<(l.length:Int):=by omega
   have hln:l=[]:=List.length_eq_zero_iff.1 (by omega)
   have hap:apW c (c.mark.length+1) (a+j) (c.mark.drop j)=0:=by rw[←j3,hln];simp[apW]
   have:n=QM c a:=by rw[←j4,hap];omega
   subst this
   (try (simp -implicitDefEqProofs only[go_sem,hl0]));repeat' first|(with_reducible first|exact tI|refine aI ?_ ?_|intro _)|((first|with_reducible refine AO ?_ ?_<;>intro _)<;>try (simp -implicitDefEqProofs only[go_sem,hl0]))|simp (disch:=omega) only[Al]|((with_reducible refine Cc ?_);refine⟨(_,_,_,_),rfl,?_,?_⟩)|((with_reducible refine Ab ?_);refine⟨(_,_),rfl,?_,?_⟩)
   all_goals first|omega|(simp;done)|(simp;omega)|skip
   all_goals first|rfl|skip
end Go.Pw
end
