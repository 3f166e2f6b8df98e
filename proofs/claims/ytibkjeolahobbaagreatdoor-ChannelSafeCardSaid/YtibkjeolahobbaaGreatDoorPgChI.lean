/- A part of the proof. -/
import Derived.Test.YtibkjeolahobbaaGreatDoorPgChG
set_option linter.all false
section
open Go Go.Pw Go.Proofs
namespace Go.Pw
set_option maxRecDepth 100000
set_option maxHeartbeats 3200000
theorem FP (sy:List (Option Nat)):(NF sy).length=sy.length:=by simp[NF]
def S4 (sy:List (Option Nat)) (k:Nat):List Int:=(NF sy).take k++(Tp sy).drop k
theorem ZP (sy:List (Option Nat)) (k:Nat):(S4 sy k).length=sy.length:=by
 unfold S4;rw[List.length_append,List.length_take,List.length_drop,FP,NN];omega
theorem o8 (sy:List (Option Nat)):S4 sy 0=Tp sy:=rfl
theorem j5 (sy:List (Option Nat)):S4 sy sy.length=NF sy:=by
 unfold S4
 rw[List.take_of_length_le (by rw[FP];omega),List.drop_eq_nil_of_le (by rw[NN];omega),List.append_nil]
theorem j0 (sy:List (Option Nat)) {k:Nat}(h:k<sy.length):(S4 sy k)[k]?.getD 0=dQ sy[k]:=by
 unfold S4
 rw[List.getElem?_append_right (by rw[List.length_take,FP];omega),List.length_take,FP,Nat.min_eq_left (by omega),Nat.sub_self,List.getElem?_drop]
 simp[Tp,h]
theorem Vz (sy:List (Option Nat)) {k:Nat}(h:k<sy.length):S4 sy (k+1)=(NF sy).take k++(((sy[k].getD 0:Nat):Int)::(Tp sy).drop (k+1)):=by
 unfold S4
 rw[List.take_add_one,List.append_assoc]
 congr 1
 simp[NF,h]
theorem V3 (sy:List (Option Nat)) {k:Nat}(h:k<sy.length):S4 sy k=(NF sy).take k++(dQ sy[k]::(Tp sy).drop (k+1)):=by
 unfold S4
 rw[List.drop_eq_getElem_cons (by rw[NN];exact h)]
 simp[Tp]
theorem eq (sy:List (Option Nat)) {k s:Nat}(h:k<sy.length) (hs:sy[k]=some s):S4 sy (k+1)=S4 sy k:=by
 rw[Vz sy h,V3 sy h,hs];rfl
theorem et (sy:List (Option Nat)) {k:Nat}(h:k<sy.length) (hs:sy[k]=none):(S4 sy k).set k 0=S4 sy (k+1):=by
 rw[Vz sy h,V3 sy h,hs]
 rw[List.set_append_right _ _ (by rw[List.length_take,FP];omega),List.length_take,FP,Nat.min_eq_left (by omega),Nat.sub_self];rfl
def Xv (sy:List (Option Nat)) (k:Nat):List Nat:=(List.range k).filter fun i=>(sy[i]?.getD none).isNone
theorem jn (sy:List (Option Nat)):Xv sy sy.length=a5 sy:=rfl
theorem ec (sy:List (Option Nat)) {k s:Nat}(h:k<sy.length) (hs:sy[k]=some s):Xv sy (k+1)=Xv sy k:=by
 unfold Xv;rw[List.range_succ,List.filter_append]
 simp[h,hs]
theorem ed (sy:List (Option Nat)) {k:Nat}(h:k<sy.length) (hs:sy[k]=none):Xv sy (k+1)=Xv sy k++[k]:=by
 unfold Xv;rw[List.range_succ,List.filter_append]
 simp[h,hs]
theorem nL (sy:List (Option Nat)) (k:Nat):(Xv sy k).length<=k:=by
 have:=List.length_filter_le (fun i=>(sy[i]?.getD none).isNone) (List.range k)
 rw[List.length_range] at this;exact this
theorem eS (l:List Nat) (k:Nat):ni l++[(k:Int)]=ni (l++[k]):=by simp[ni]
theorem jg (l:List Nat):(ni l).length=l.length:=by simp[ni]
def _root_.Go.Pw.D.NOK1:D->Prop
 |.list nl xs=>nl=true->xs=[]
 |_=>True
def _root_.Go.Pw.D.NOK:D->Prop
 |.agg cs=>∀c,c∈cs->c.NOK1
 |d=>d.NOK1
theorem je {w:World}{fb:Nat->Prop}{d:D}{v:Value}(h:A2 w fb d v):d.NOK1:=by
 cases h with
 |nil=>exact fun _=>rfl
 |empty=>exact fun h=>by cases h
 |list=>exact fun h=>by cases h
 |_=>trivial
theorem nC {w:World}{fb:Nat->Prop}{d:D}{v:Value}(h:A2 w fb d v):d.NOK:=by
 cases h with
 |nil=>exact fun _=>rfl
 |empty=>exact fun h=>by cases h
 |list=>exact fun h=>by cases h
 |agg cs vs hl h1 hh =>
  intro c hc
  obtain⟨i,hi⟩:=List.getElem?_of_mem hc
  have hlt:i<vs.size:=by rw[hl];exact(List.getElem?_eq_some_iff.1 hi).1
  exact je (hh i c _ hi (Array.getElem?_eq_getElem hlt))
 |_=>trivial
theorem ZA {E:Cr}{f:FuncId}{ds:List D}{r:D}(h:(∀d,d∈ds->d.NOK)->CD E f ds r):CD E f ds r:=fun w fb vs hfb hg hl hd =>
 h (fun d hdm=>by
  obtain⟨i,hi⟩:=List.getElem?_of_mem hdm
  have hlt:i<vs.size:=by rw[hl];exact(List.getElem?_eq_some_iff.1 hi).1
  exact nC (hd i d _ hi (Array.getElem?_eq_getElem hlt))) w fb vs hfb hg hl hd
theorem k8 {c:AX}(h:(Dg c).NOK) (hm:1<=c.mark.length):c.nm=false:=by
 have h1:=h (.list c.nm (Am c.mark)) (by simp[Wk])
 cases hn:c.nm with
 |false=>rfl
 |true =>
  have h2:Am c.mark=[]:=h1 hn
  have h3:=congrArg List.length h2
  rw[B7] at h3
  change c.mark.length=0 at h3
  omega
theorem jx {nl:Bool}{xs:List Int}(h:(D.list nl (Am xs)).NOK):nl=true->xs=[]:=fun hn=>by
 have h2:Am xs=[]:=h hn
 have h3:=congrArg List.length h2
 rw[B7] at h3
 exact List.length_eq_zero_iff.1 (by simpa using h3)
theorem NM {c:AX}(h:Cz c.L c.P c.Q=true) {d:List Int}(he:spE c.L c.P c.Q d=0):(Tc c.L c.P c.Q d).length=c.syms:=by
 unfold spE at he
 rw[if_pos h] at he
 have hs:CS d (c.Q*(c.L-c.P))=true:=by
  cases hs:CS d (c.Q*(c.L-c.P)) with
  |true=>rfl
  |false=>rw[hs] at he;simp at he
 unfold Tc
 rw[if_pos h,if_pos hs,Jj,Tb]
 have h2:=Kg h
 have h3:=QG h
 have:((c.L.toNat * c.Q.toNat:Nat):Int)=c.Q*c.L:=by push_cast;rw[Int.toNat_of_nonneg (by omega),Int.toNat_of_nonneg (by omega),Int.mul_comm]
 omega
theorem Ym (c:AX) (X:List Int) {k:Nat}(h:k<X.length):c.flat (X.take k)++c.code.stm (X[k]?.getD 0).toNat=c.flat (X.take (k+1)):=by
 rw[List.take_add_one,List.getElem?_eq_getElem h]
 unfold AX.flat
 rw[List.flatMap_append]
 simp
attribute [local congr] Bl A_ A' Ar Bm Ay A0 Az Aq Ak Ae Aa Av Af Aw BL BP BN BO BM BQ BF Ai Ax Aj BD BX Ah BJ BK BE BG BI BH BB BC A9 Bn BA Au Ag
attribute [local irreducible] IntKind.wrap A4 Option.getD and or
theorem Mb (nl:Bool) (xs:List Int) (hl:xs.length<=1000) (hne:0<xs.length) (hnl:nl=false):IP E0 F3 [] [.d (.list nl (Am xs))] [(7,1,.row 3 1 false (Am xs))] (.own 7 1):=by
 subst hnl
 refine Di IY Ap (by simp) (by simp[P2,CV,EY]) (by simp[E_]) fun hwf hwo=>?_
 rw[ES];unfold FV
 have hn:¬xs=[]:=by intro h;rw[h] at hne;simp at hne
 (try (simp -implicitDefEqProofs only[go_sem,hn]));repeat' first|(with_reducible first|exact tI|refine aI ?_ ?_|intro _)|((first|with_reducible refine AM ?_ ?_<;>intro _)<;>try (simp -implicitDefEqProofs only[go_sem,hn]))|simp (disch:=omega) only[Al]
 all_goals first|omega|rfl
theorem M9 (c:AX) (hk:Fj c) (sy:List (Option Nat)) (hl:sy.length=c.syms) :
  CD E0 FM [.ptr (ST c (Fg c.code)),.list false (Am (Tp sy))] (.tup [.list (Uq c sy).isEmpty (Am (Uq c sy)),.int .i64 (Q_ c sy)]):=by
 have hs:=hk.syms
 have hsl:=NN sy
 have cC:=Mb false (Tp sy) (by omega) (by omega) rfl
 have h0l:(S4 sy 0).length=sy.length:=ZP sy 0
 refine AO HD Ap (by simp) fun hwf=>?_
 rw[AW];unfold En
 (try (simp -implicitDefEqProofs only[go_sem]));repeat' first|(with_reducible first|exact tI|refine aI ?_ ?_|intro _)|((first|with_reducible refine AM ?_ ?_<;>intro _|(with_reducible refine isCall ?_);first|(refine FA ([]) ([((7,1),(11,0))]) (cC) (by repeat' first|exact True.intro|exact rfl|refine And.intro ?_ ?_) (by simp[Handed,Dm.get,Ad.ren,AV.ren,AV.ren.renL,AL.get,Bb,CH,D8,AL.reach,AV.sites,AV.sites.sitesL,AL.osites]) (by simp[CP,E_,CV,Dm.get,D8,EY,CK]) (by rfl) (by simp only[D9,Dm.get,Ad.ren,AV.ren,AV.ren.renL,and_self,and_true,true_and,if_true,reduceIte];rfl) ?_))<;>try (simp -implicitDefEqProofs only[go_sem]))|simp (disch:=omega) only[Al]|((with_reducible refine Ab ?_);refine⟨(_,_),rfl,?_,?_⟩)
 all_goals first|omega|(simp;done)|(simp;omega)|skip
 rw[←o8]
 refine AY (α:=Nat×Bool) (l0:=?l1) (m0:=?m1) (fun x=>[(14,.d (.int .i64 (x.1:Int)))]) (fun x=>[(11,.row 3 1 false (Am (S4 sy x.1))),(24,.row 3 1 x.2 (Am (ni (Xv sy x.1))))]) (fun x=>x.1<=sy.length/\x.2=(Xv sy x.1).isEmpty) (fun x=>sy.length-x.1) (0,true) ?h01 ?he1 ?he21 ?hI1 ?step1
 case h01=>(simp -implicitDefEqProofs only[go_sem];rfl)
 case he1=>rfl
 case he21=>rfl
 case' step1=>(rintro⟨k,e⟩ hI;try dsimp only at hI)
 case' hI1=>try dsimp only
 ·exact⟨Nat.zero_le _,rfl⟩
 ·obtain⟨k1,k2⟩:=hI
  change e=(Xv sy k).isEmpty at k2
  have hkl:=ZP sy k
  by_cases hks:k<sy.length
  ·have hk':(k:Int)<(sy.length:Int):=by omega
   have hg:=j0 sy hks
   have hwk:IntKind.i64.wrap ((k:Int)+1)=((k+1:Nat):Int):=by rw[AZ _ (by omega)];omega
   have hmk:=nL sy k
   have hml:=jg (Xv sy k)
   cases hsy:sy[k] with
   |none =>
    rw[hsy] at hg
    change (S4 sy k)[k]?.getD 0=-1 at hg
    have h1:=et sy hks hsy
    have h2:=ed sy hks hsy
    have h3:=eS (Xv sy k) k
    have h4:false=(Xv sy k++[k]).isEmpty:=by cases Xv sy k<;>rfl
    (try (simp -implicitDefEqProofs only[go_sem,hk',hks,hg,hwk,hkl,hml,h1,h3]));repeat' first|(with_reducible first|exact tI|refine aI ?_ ?_|intro _)|((first|with_reducible refine AM ?_ ?_<;>intro _)<;>try (simp -implicitDefEqProofs only[go_sem,hk',hks,hg,hwk,hkl,hml,h1,h3]))|simp (disch:=omega) only[Al]|((with_reducible refine Ab ?_);refine⟨(_,_),rfl,?_,?_⟩)
    all_goals first|omega|(simp;done)|(simp;omega)|skip
    rw[←h2] at h4 ⊢
    exact⟨(k+1,false),rfl,⟨by show k+1<=sy.length;omega,h4⟩,by show sy.length-(k+1)<sy.length-k;omega⟩
   |some s =>
    rw[hsy] at hg
    change (S4 sy k)[k]?.getD 0=(s:Int) at hg
    have hne:¬(s:Int)=-1:=by omega
    have h1:=eq sy hks hsy
    have h2:=ec sy hks hsy
    (try (simp -implicitDefEqProofs only[go_sem,hk',hks,hg,hwk,hkl,hml,hne]));repeat' first|(with_reducible first|exact tI|refine aI ?_ ?_|intro _)|((first|with_reducible refine AM ?_ ?_<;>intro _)<;>try (simp -implicitDefEqProofs only[go_sem,hk',hks,hg,hwk,hkl,hml,hne]))|simp (disch:=omega) only[Al]|((with_reducible refine Ab ?_);refine⟨(_,_),rfl,?_,?_⟩)
    all_goals first|omega|(simp;done)|(simp;omega)|skip
    rw[←h2] at k2 ⊢
    rw[←h1]
    exact⟨(k+1,e),rfl,⟨by show k+1<=sy.length;omega,k2⟩,by show sy.length-(k+1)<sy.length-k;omega⟩
  ·have hke:k=sy.length:=by omega
   subst hke
   have hk':¬(sy.length:Int)<((S4 sy 0).length:Int):=by omega
   have hkn:=FP sy
   have c1:=Gm c (Fg c.code) false (NF sy) hk.seed (by omega) (by omega)
   have c2:=M4 c.L c.P c.Q false e (Cx c.seed (NF sy)) (ni (a5 sy)) (by rw[Dv];omega)
   have h1:=j5 sy
   have h2:=jn sy
   unfold Uq Q_
   (try (simp -implicitDefEqProofs only[go_sem,BT,hk',h1,h2]));repeat' first|(with_reducible first|exact tI|refine aI ?_ ?_|intro _)|((first|with_reducible refine AM ?_ ?_<;>intro _|(with_reducible refine isCall ?_);first|refine AE c1 ?_|refine AE c2 ?_)<;>try (simp -implicitDefEqProofs only[go_sem,BT,hk',h1,h2]))|simp (disch:=omega) only[Al]|((with_reducible refine Ab ?_);refine⟨(_,_),rfl,?_,?_⟩)
   all_goals first|rfl|skip
theorem Fy (c:AX) (nl:Bool) (d:List Int):CD E0 KQ [Dg c,.list nl (Am d)] (.tup [.list (Zo c d).isEmpty (Am (Zo c d)),.int .i64 (oT c d)]):=by
 refine ZA fun hnok=>?_
 have c1:=D5 c
 obtain⟨r,hr⟩:∃r,eH c=r:=⟨_,rfl⟩
 rw[hr] at c1
 refine AO N_ Ap (by simp) fun hwf=>?_
 rw[AW];unfold I'
 unfold Zo oT
 rcases hok:c.ok with _|_
 ·have:=Gt hok
  rw[hr] at this
  rw[this.1,this.2] at c1
  simp only[Bool.false_eq_true,if_false]
  (try (simp -implicitDefEqProofs only[go_sem,AG,AF]));repeat' first|(with_reducible first|exact tI|refine aI ?_ ?_|intro _)|((first|with_reducible refine AM ?_ ?_<;>intro _|(with_reducible refine isCall ?_);first|refine AE c1 ?_)<;>try (simp -implicitDefEqProofs only[go_sem,AG,AF]))|simp (disch:=omega) only[Al]|((with_reducible refine A1 ?_);refine⟨_,rfl,?_,?_⟩)
  all_goals first|rfl|skip
 ·have:=HS hok
  have hk:=Dh hok
  have hm:=hk.markl
  have hs:=hk.syms
  have hnm:=k8 (hnok _ (by simp)) hm.1
  rw[hr] at this
  rw[this.1,this.2] at c1
  have c2:=M3 c.L c.P c.Q nl d
  simp only[if_true]
  by_cases hsp:spE c.L c.P c.Q d=0
  ·have hbl:=NM hk.wev hsp
   rw[hsp] at c2 ⊢
   simp only[if_true]
   unfold IR
   obtain⟨B,hB⟩:∃B,Tc c.L c.P c.Q d=B:=⟨_,rfl⟩
   rw[hB] at c2 hbl ⊢
   have hBe:B.isEmpty=false:=GN fun e=>by rw[e] at hbl;simp at hbl;omega
   rw[hBe] at c2
   have c3:=Gm c (Fg c.code) false B hk.seed (by omega) (by omega)
   have hX:=Iu B c.seed
   have hXl:=Dv B c.seed
   obtain⟨X,hXe⟩:∃X,Cx c.seed B=X:=⟨_,rfl⟩
   rw[hXe] at c3 hX hXl ⊢
   have cM:=Mb c.nm c.mark (by omega) (by omega) hnm
   have hne:(c.mark++c.flat X).isEmpty=false:=GN fun e=>by have:=congrArg List.length e;simp at this;rw[this.1] at hm;simp at hm
   rw[hne]
   (try (simp -implicitDefEqProofs only[go_sem,AG,AF,BT]));repeat' first|(with_reducible first|exact tI|refine aI ?_ ?_|intro _)|((first|with_reducible refine AM ?_ ?_<;>intro _|(with_reducible refine isCall ?_);first|refine AE c1 ?_|refine AE c2 ?_|refine AE c3 ?_|(refine FA ([]) ([((7,1),(37,0))]) (cM) (by repeat' first|exact True.intro|exact rfl|refine And.intro ?_ ?_) (by simp[Handed,Dm.get,Ad.ren,AV.ren,AV.ren.renL,AL.get,Bb,CH,D8,AL.reach,AV.sites,AV.sites.sitesL,AL.osites]) (by simp[CP,E_,CV,Dm.get,D8,EY,CK]) (by rfl) (by simp only[D9,Dm.get,Ad.ren,AV.ren,AV.ren.renL,and_self,and_true,true_and,if_true,reduceIte];rfl) ?_))<;>try (simp -implicitDefEqProofs only[go_sem,AG,AF,BT]))|simp (disch:=omega) only[Al]|((with_reducible refine A1 ?_);refine⟨_,rfl,?_,?_⟩)
   all_goals first|omega|(simp;done)|(simp;omega)|skip
   have hf0:c.mark=c.mark++c.flat (X.take 0):=by simp[AX.flat]
   rw[show Am c.mark=Am (c.mark++c.flat (X.take 0)) from congrArg Am hf0]
   refine AY (α:=Nat) (l0:=?l2) (m0:=?m2) (fun x=>[(42,.d (.int .i64 (x:Int)))]) (fun x=>[(37,.row 3 1 false (Am (c.mark++c.flat (X.take x))))]) (fun x=>x<=X.length) (fun x=>X.length-x) 0 ?h02 ?he2 ?he22 ?hI2 ?step2
   case h02=>(simp -implicitDefEqProofs only[go_sem];rfl)
   case he2=>rfl
   case he22=>rfl
   case' step2=>(rintro k hI;try dsimp only at hI)
   case' hI2=>try dsimp only
   ·exact Nat.zero_le _
   ·by_cases hks:k<X.length
    ·have hk':(k:Int)<(X.length:Int):=by omega
     have hwk:IntKind.i64.wrap ((k:Int)+1)=((k+1:Nat):Int):=by rw[AZ _ (by omega)];omega
     have hxm:=hX _ (D2 hks)
     have hst:=Ym c X hks
     obtain⟨x,hx⟩:∃x,X[k]?.getD 0=x:=⟨_,rfl⟩
     rw[hx] at hxm hst
     have hg:=Kl c.code (s:=x.toNat) (by omega)
     have hx0:0<=x:=hxm.1
     have hx1:x<16:=by omega
     have hz:=EC hk.code
     have hsl:=Eb c.code x.toNat
     have hfl:(c.flat (X.take k)).length<=32*20:=by rw[PN,List.length_take];exact Nat.mul_le_mul (by omega) hz.2
     have hne0:=XM hk.code x.toNat
     (try (simp -implicitDefEqProofs only[go_sem,BT,hk',hks,hwk,hx,hx0,hx1,RC,hg,hsl]));repeat' first|(with_reducible first|exact tI|refine aI ?_ ?_|intro _)|((first|with_reducible refine AM ?_ ?_<;>intro _)<;>try (simp -implicitDefEqProofs only[go_sem,BT,hk',hks,hwk,hx,hx0,hx1,RC,hg,hsl]))|simp (disch:=omega) only[Al]|((with_reducible refine A1 ?_);refine⟨_,rfl,?_,?_⟩)
     all_goals first|omega|(simp;done)|(simp;omega)|skip
     rw[List.append_assoc c.mark,hst]
     exact⟨k+1,rfl,hks,by omega⟩
    ·have hk':¬(k:Int)<(X.length:Int):=by omega
     have htk:X.take k=X:=List.take_of_length_le (by omega)
     rw[htk]
     (try (simp -implicitDefEqProofs only[go_sem,hk']));repeat' first|(with_reducible first|exact tI|refine aI ?_ ?_|intro _)|((first|with_reducible refine AM ?_ ?_<;>intro _)<;>try (simp -implicitDefEqProofs only[go_sem,hk']))|simp (disch:=omega) only[Al]|((with_reducible refine A1 ?_);refine⟨_,rfl,?_,?_⟩)
     all_goals first|omega|(simp;done)|(simp;omega)|skip
     all_goals first|rfl|skip
  ·rw[if_neg hsp,if_neg hsp]
   obtain⟨B,hB⟩:∃B,Tc c.L c.P c.Q d=B:=⟨_,rfl⟩
   rw[hB] at c2
   (try (simp -implicitDefEqProofs only[go_sem,AG,AF,BT,hsp]));repeat' first|(with_reducible first|exact tI|refine aI ?_ ?_|intro _)|((first|with_reducible refine AM ?_ ?_<;>intro _|(with_reducible refine isCall ?_);first|refine AE c1 ?_|refine AE c2 ?_)<;>try (simp -implicitDefEqProofs only[go_sem,AG,AF,BT,hsp]))|simp (disch:=omega) only[Al]|((with_reducible refine A1 ?_);refine⟨_,rfl,?_,?_⟩)
   all_goals first|rfl|skip
noncomputable def Ve (c:AX) (bits:List Int):D:=.tup [.list (Sv c bits).isEmpty (Am (Sv c bits)),.int .i64 (Vg c bits),.int .i64 (Vf c bits)]
theorem pC {c:AX}{sy:List (Option Nat)}(h:¬Q_ c sy=0):Uq c sy=[]:=by
 unfold Q_ pD at h
 unfold Uq oU
 split
 ·rename_i h1
  rw[if_pos h1] at h
  split
  ·rename_i h2
   rw[if_pos h2] at h
   split
   ·rename_i h3
    rw[if_pos h3] at h
    cases hg:YB c.L.toNat c.P.toNat c.Q.toNat (fs (Cx c.seed (NF sy))) (nt (ni (a5 sy))) with
    |none=>rfl
    |some r=>rw[hg] at h;exact absurd rfl h
   ·rfl
  ·rfl
 ·rfl
theorem GP (c:AX) (nl:Bool) (bits:List Int):CD E0 Lg [Dg c,.list nl (Am bits)] (Ve c bits):=by
 refine ZA fun hnok=>?_
 have hnb:=jx (hnok (.list nl (Am bits)) (by simp))
 have c1:=D5 c
 obtain⟨r,hr⟩:∃r,eH c=r:=⟨_,rfl⟩
 rw[hr] at c1
 refine AO PH Ap (by simp) fun hwf=>?_
 rw[AW];unfold J_ Ve Sv Vg Vf
 rcases hok:c.ok with _|_
 ·have:=Gt hok
  rw[hr] at this
  rw[this.1,this.2] at c1
  simp only[Bool.false_eq_true,if_false]
  (try (simp -implicitDefEqProofs only[go_sem,AG,AF]));repeat' first|(with_reducible first|exact tI|refine aI ?_ ?_|intro _)|((first|with_reducible refine AM ?_ ?_<;>intro _|(with_reducible refine isCall ?_);first|refine AE c1 ?_)<;>try (simp -implicitDefEqProofs only[go_sem,AG,AF]))|simp (disch:=omega) only[Al]
  all_goals first|rfl|skip
 ·have:=HS hok
  have hk:=Dh hok
  rw[hr] at this
  rw[this.1,this.2] at c1
  have c2:=MA nl bits
  simp only[if_true]
  cases hb:Mi bits with
  |false =>
   rw[hb] at c2
   simp only[Bool.false_eq_true,if_false]
   (try (simp -implicitDefEqProofs only[go_sem,AG,AF]));repeat' first|(with_reducible first|exact tI|refine aI ?_ ?_|intro _)|((first|with_reducible refine AM ?_ ?_<;>intro _|(with_reducible refine isCall ?_);first|refine AE c1 ?_|refine AE c2 ?_)<;>try (simp -implicitDefEqProofs only[go_sem,AG,AF]))|simp (disch:=omega) only[Al]
   all_goals first|rfl|skip
  |true =>
   rw[hb] at c2
   simp only[if_true]
   have c3:=PM c hk nl bits hb hnb
   unfold Lr at c3
   cases hf:c.find bits with
   |none =>
    rw[hf] at c3
    simp only at c3 ⊢
    (try (simp -implicitDefEqProofs only[go_sem,AG,AF]));repeat' first|(with_reducible first|exact tI|refine aI ?_ ?_|intro _)|((first|with_reducible refine AM ?_ ?_<;>intro _|(with_reducible refine isCall ?_);first|refine AE c1 ?_|refine AE c2 ?_|refine AE c3 ?_)<;>try (simp -implicitDefEqProofs only[go_sem,AG,AF]))|simp (disch:=omega) only[Al]
    all_goals first|rfl|skip
   |some a =>
    rw[hf] at c3
    simp only at c3 ⊢
    have c4:=M9 c hk (c.syL bits a) (Jd c bits a)
    by_cases he:Q_ c (c.syL bits a)=0
    ·rw[he] at c4 ⊢
     simp only[if_true]
     (try (simp -implicitDefEqProofs only[go_sem,AG,AF]));repeat' first|(with_reducible first|exact tI|refine aI ?_ ?_|intro _)|((first|with_reducible refine AM ?_ ?_<;>intro _|(with_reducible refine isCall ?_);first|refine AE c1 ?_|refine AE c2 ?_|refine AE c3 ?_|refine AE c4 ?_)<;>try (simp -implicitDefEqProofs only[go_sem,AG,AF]))|simp (disch:=omega) only[Al]
     all_goals first|rfl|skip
    ·rw[if_neg he]
     have hl:=pC he
     rw[hl] at c4 ⊢
     (try (simp -implicitDefEqProofs only[go_sem,AG,AF,he]));repeat' first|(with_reducible first|exact tI|refine aI ?_ ?_|intro _)|((first|with_reducible refine AM ?_ ?_<;>intro _|(with_reducible refine isCall ?_);first|refine AE c1 ?_|refine AE c2 ?_|refine AE c3 ?_|refine AE c4 ?_)<;>try (simp -implicitDefEqProofs only[go_sem,AG,AF,he]))|simp (disch:=omega) only[Al]
     all_goals first|rfl|skip
end Go.Pw
end
section
open Go Go.Pw Go.Proofs
namespace Go.Pw
set_option maxRecDepth 100000
set_option maxHeartbeats 3200000
def XB (c:AQ) (rest:List Int) (part q:Nat):Nat->Int
 |0=>(part:Int)
 |s+1=>min (XB c rest part q s) (B5 (rest.take part) ((c.stm s).drop q))
theorem ei (c:AQ) (rest:List Int) (part q:Nat):∀m,0<=XB c rest part q m/\XB c rest part q m<=part
 |0=>⟨by simp[XB],Int.le_refl _⟩
 |m+1=>by
  have ih:=ei c rest part q m
  have:=HX (rest.take part) ((c.stm m).drop q)
  simp only[XB];omega
def IQ (c:AX) (at_:Nat) (rest:List Int):Nat:=if at_%c.tot<c.mark.length then min rest.length (c.mark.length-at_%c.tot) else min rest.length (c.code.sz-(at_%c.tot-c.mark.length)%c.code.sz)
def Pv (c:AX) (at_:Nat) (rest:List Int):Int:=if at_%c.tot<c.mark.length then B5 (rest.take (IQ c at_ rest)) (c.mark.drop (at_%c.tot)) else XB c.code rest (IQ c at_ rest) ((at_%c.tot-c.mark.length)%c.code.sz) 16
def apW (c:AX):Nat->Nat->List Int->Int
 |0,_,_=>0
 |n+1,at_,rest=>if rest=[] then 0 else Pv c at_ rest+apW c n (at_+IQ c at_ rest) (rest.drop (IQ c at_ rest))
def QD (c:AX) (at_:Nat):Int:=apW c (c.mark.length+1) at_ c.mark
theorem NO {c:AX}(hk:Fj c) (at_:Nat) {rest:List Int}(h:rest≠[]):1<=IQ c at_ rest/\IQ c at_ rest<=rest.length:=by
 have h1:0<rest.length:=List.length_pos_iff.2 h
 have hz:=EC hk.code
 have:=Nat.mod_lt (at_%c.tot-c.mark.length) (show 0<c.code.sz by omega)
 unfold IQ
 split<;>omega
theorem iw (c:AX) (at_:Nat) (rest:List Int):0<=Pv c at_ rest/\Pv c at_ rest<=IQ c at_ rest:=by
 unfold Pv
 split
 ·have:=HX (rest.take (IQ c at_ rest)) (c.mark.drop (at_%c.tot))
  have h2:(rest.take (IQ c at_ rest)).length<=IQ c at_ rest:=by rw[List.length_take];omega
  omega
 ·exact ei ..
theorem Wx {c:AX}(hk:Fj c):∀(n m at_:Nat) (rest:List Int),rest.length<n->rest.length<m->apW c n at_ rest=apW c m at_ rest
 |0,_,_,_,h,_=>by omega
 |_,0,_,_,_,h=>by omega
 |n+1,m+1,at_,rest,h1,h2=>by
  unfold apW
  by_cases hr:rest=[]
  ·rw[if_pos hr,if_pos hr]
  ·rw[if_neg hr,if_neg hr]
   have:=NO hk at_ hr
   rw[Wx hk n m _ _ (by rw[List.length_drop];omega) (by rw[List.length_drop];omega)]
theorem gf {c:AX}(hk:Fj c) {a j:Nat}(h:j<c.mark.length) (hj:c.mark.drop j≠[]) :
  apW c (c.mark.length+1) (a+j) (c.mark.drop j)=Pv c (a+j) (c.mark.drop j)+apW c (c.mark.length+1) (a+(j+IQ c (a+j) (c.mark.drop j))) (c.mark.drop (j+IQ c (a+j) (c.mark.drop j))):=by
 rw[show apW c (c.mark.length+1) (a+j) (c.mark.drop j)=Pv c (a+j) (c.mark.drop j)+apW c c.mark.length (a+j+IQ c (a+j) (c.mark.drop j)) ((c.mark.drop j).drop (IQ c (a+j) (c.mark.drop j))) from by
  conv=>lhs;unfold apW
  rw[if_neg hj]]
 have hp:=NO hk (a+j) hj
 rw[List.drop_drop,Nat.add_assoc]
 congr 1
 exact Wx hk _ _ _ _ (by rw[List.length_drop];omega) (by rw[List.length_drop];omega)
theorem TV (a b:Nat):((a:Int)).tmod (b:Int)=((a%b:Nat):Int):=by
 rw[Int.tmod_eq_emod_of_nonneg (by omega)];rfl
theorem jp (a b:Nat):min (a:Int) (b:Int)=((min a b:Nat):Int):=by omega
attribute [local congr] Bl A_ A' Ar Bm Ay A0 Az Aq Ak Ae Aa Av Af Aw BL BP BN BO BM BQ BF Ai Ax Aj BD BX Ah BJ BK BE BG BI BH BB BC A9 Bn BA Au Ag
attribute [local irreducible] IntKind.wrap A4 Option.getD and or
theorem OL (c:AX) (hk:Fj c) (a:Nat) (ha:a<=2000):CD E0 Ff [.ptr (ST c (Fg c.code)),.int .i64 (a:Int)] (.int .i64 (QD c a)):=by
 have hm:=hk.markl
 have hs:=hk.syms
 have ht:=hk.tot
 have hz:=EC hk.code
 have cB:=Ex c hk.wev hk.code
 have cL:=D6 c
 have w0:IntKind.i64.wrap ((c.mark.length:Int)+((c.syms*c.code.sz:Nat):Int))=((c.tot:Nat):Int):=by rw[AZ _ (by omega)];unfold AX.tot;omega
 have ht1:c.mark.length<c.tot:=by
  have:2*2<=c.syms*c.code.sz:=Nat.mul_le_mul hs.1 hz.1
  unfold AX.tot;omega
 have hne0:¬((c.tot:Nat):Int)=0:=by omega
 have hnz0:¬((c.code.sz:Nat):Int)=0:=by omega
 refine AO Hx Ap (by simp) fun hwf=>?_
 rw[AW];unfold FG
 (try (simp -implicitDefEqProofs only[go_sem,BT,w0]));repeat' first|(with_reducible first|exact tI|refine aI ?_ ?_|intro _)|((first|with_reducible refine AM ?_ ?_<;>intro _|(with_reducible refine isCall ?_);first|refine AE cB ?_)<;>try (simp -implicitDefEqProofs only[go_sem,BT,w0]))|simp (disch:=omega) only[Al]|((with_reducible refine Cc ?_);refine⟨(_,_,_,_),rfl,?_,?_⟩)|((with_reducible refine Ab ?_);refine⟨(_,_),rfl,?_,?_⟩)
 all_goals first|omega|(simp;done)|(simp;omega)|skip
 have hd0:c.mark=c.mark.drop 0:=rfl
 refine AY (α:=Nat×Int×Int×(List Int)) (l0:=?l1) (m0:=?m1) (fun x=>[(1,.d (.int .i64 x.2.1)),(4,.d (.int .i64 x.2.2.1)),(6,.d (.list c.nm (Am x.2.2.2)))]) (fun x=>[]) (fun x=>x.1<=c.mark.length/\x.2.1=((a+x.1:Nat):Int)/\x.2.2.2=c.mark.drop x.1/\0<=x.2.2.1/\x.2.2.1<=x.1/\x.2.2.1+apW c (c.mark.length+1) (a+x.1) (c.mark.drop x.1)=QD c a) (fun x=>c.mark.length-x.1) (0,(a:Int),0,c.mark) ?h01 ?he1 ?he21 ?hI1 ?step1
 case h01=>(simp -implicitDefEqProofs only[go_sem];rfl)
 case he1=>rfl
 case he21=>rfl
 case' step1=>(rintro⟨j,t,n,l⟩ hI;try dsimp only at hI)
 case' hI1=>try dsimp only
 ·exact⟨Nat.zero_le _,by simp,rfl,Int.le_refl _,by simp,by simp[QD]⟩
 ·obtain⟨j1,j2,j3,n0,n1,j4⟩:=hI
  change t=((a+j:Nat):Int) at j2
  change l=c.mark.drop j at j3
  subst j2
  have hll:l.length=c.mark.length-j:=by rw[j3,List.length_drop]
  by_cases hj:j<c.mark.length
  ·have hl0:(0:Int)<(l.length:Int):=by omega
   have hlne:l≠[]:=fun e=>by rw[e] at hll;simp at hll;omega
   have hst:=gf hk (a:=a) hj (by rw[←j3];exact hlne)
   have hsp:=NO hk (a+j) hlne
   have hsv:=iw c (a+j) l
   rw[←j3] at hst j4
   have hmod:=TV (a+j) c.tot
   have hpt:=Nat.mod_lt (a+j) (show 0<c.tot by omega)
   have hlb:Ao l=true:=by rw[j3];exact Ez hm.2.2 j
   obtain⟨S,hS⟩:∃S,IQ c (a+j) l=S:=⟨_,rfl⟩
   obtain⟨V,hV⟩:∃V,Pv c (a+j) l=V:=⟨_,rfl⟩
   have hS':=hS
   have hV':=hV
   unfold IQ at hS'
   unfold Pv at hV'
   rw[hS] at hst hsp hsv hV'
   rw[hV] at hst hsv
   have wn:IntKind.i64.wrap (n+V)=n+V:=AZ _ (by omega)
   have wt:IntKind.i64.wrap (((a+j:Nat):Int)+(S:Int))=((a+(j+S):Nat):Int):=by rw[AZ _ (by omega)];omega
   have hlS:(S:Int)<=(l.length:Int):=by omega
   have hdl:l.drop S=c.mark.drop (j+S):=by rw[j3,List.drop_drop]
   have htk:(c.mark.drop (j+S)).take (l.length-S)=c.mark.drop (j+S):=List.take_of_length_le (by rw[List.length_drop];omega)
   by_cases hp:(a+j)%c.tot<c.mark.length
   ·rw[if_pos hp] at hS' hV'
    have hp':(((a+j)%c.tot:Nat):Int)<(c.mark.length:Int):=by omega
    have hmn:min (l.length:Int) (IntKind.i64.wrap ((c.mark.length:Int)-(((a+j)%c.tot:Nat):Int)))=(S:Int):=by rw[AZ _ (by omega)];omega
    have cD:=Df c.nm c.nm (l.take S) (c.mark.drop ((a+j)%c.tot)) (F0 hlb S) (Ez hm.2.2 _) (by rw[List.length_take,List.length_drop];omega) (by rw[List.length_take];omega)
    rw[hV'] at cD
    (try (simp -implicitDefEqProofs only[go_sem,BT,w0,hl0,hmod,hne0,hp',hmn,hlS,wn,wt,hdl,htk]));repeat' first|(with_reducible first|exact tI|refine aI ?_ ?_|intro _)|((first|with_reducible refine AM ?_ ?_<;>intro _|(with_reducible refine isCall ?_);first|refine AE cB ?_|refine AE cD ?_)<;>try (simp -implicitDefEqProofs only[go_sem,BT,w0,hl0,hmod,hne0,hp',hmn,hlS,wn,wt,hdl,htk]))|simp (disch:=omega) only[Al]|((with_reducible refine Cc ?_);refine⟨(_,_,_,_),rfl,?_,?_⟩)|((with_reducible refine Ab ?_);refine⟨(_,_),rfl,?_,?_⟩)
    all_goals first|omega|(simp;done)|(simp;omega)|skip
    exact⟨(j+S,_,_,_),rfl,⟨by show j+S<=_;omega,rfl,rfl,by show 0<=n+V;omega,by show n+V<=((j+S:Nat):Int);omega,by show n+V+apW c (c.mark.length+1) (a+(j+S)) (c.mark.drop (j+S))=QD c a;rw[←j4,hst];omega⟩,by show c.mark.length-(j+S)<_;omega⟩
   ·rw[if_neg hp] at hS' hV'
    have hp':¬(((a+j)%c.tot:Nat):Int)<(c.mark.length:Int):=by omega
    obtain⟨q,hq⟩:∃q,((a+j)%c.tot-c.mark.length)%c.code.sz=q:=⟨_,rfl⟩
    rw[hq] at hS' hV'
    have hql:q<c.code.sz:=by rw[←hq];exact Nat.mod_lt _ (by omega)
    have wq:IntKind.i64.wrap ((((a+j)%c.tot:Nat):Int)-(c.mark.length:Int))=(((a+j)%c.tot-c.mark.length:Nat):Int):=by rw[AZ _ (by omega)];omega
    have hmq:=TV ((a+j)%c.tot-c.mark.length) c.code.sz
    rw[hq] at hmq
    have wz:IntKind.i64.wrap ((c.code.sz:Int)-(q:Int))=((c.code.sz-q:Nat):Int):=by rw[AZ _ (by omega)];omega
    have hmn:min (l.length:Int) ((c.code.sz-q:Nat):Int)=(S:Int):=by omega
    have hmn0:∃z,min (l.length:Int) (IntKind.i64.wrap ((c.mark.length:Int)-(((a+j)%c.tot:Nat):Int)))=z:=⟨_,rfl⟩
    obtain⟨z,hz0⟩:=hmn0
    have h28:=NJ c.code
    have h16:=Oj c.code
    (try (simp -implicitDefEqProofs only[go_sem,BT,w0,hl0,hmod,hne0,hnz0,hp',hz0,wq,hmq,wz,hmn,h28,h16]));repeat' first|(with_reducible first|exact tI|refine aI ?_ ?_|intro _)|((first|with_reducible refine AM ?_ ?_<;>intro _|(with_reducible refine isCall ?_);first|refine AE cB ?_|refine AE cL ?_)<;>try (simp -implicitDefEqProofs only[go_sem,BT,w0,hl0,hmod,hne0,hnz0,hp',hz0,wq,hmq,wz,hmn,h28,h16]))|simp (disch:=omega) only[Al]|((with_reducible refine Cc ?_);refine⟨(_,_,_,_),rfl,?_,?_⟩)|((with_reducible refine Ab ?_);refine⟨(_,_),rfl,?_,?_⟩)
    all_goals first|omega|(simp;done)|(simp;omega)|skip
    refine AY (α:=Nat×Int) (l0:=?l2) (m0:=?m2) (fun x=>[(87,.d (.int .i64 (x.1:Int))),(9,.d (.int .i64 x.2))]) (fun x=>[]) (fun x=>x.1<=16/\x.2=XB c.code l S q x.1) (fun x=>16-x.1) (0,(S:Int)) ?h02 ?he2 ?he22 ?hI2 ?step2
    case h02=>(simp -implicitDefEqProofs only[go_sem];rfl)
    case he2=>rfl
    case he22=>rfl
    case' step2=>(rintro⟨s,b⟩ hI2;try dsimp only at hI2)
    case' hI2=>try dsimp only
    ·exact⟨Nat.zero_le _,rfl⟩
    ·obtain⟨s1,s2⟩:=hI2
     change b=XB c.code l S q s at s2
     by_cases hs16:s<16
     ·have hs':(s:Int)<16:=by omega
      have hg:=Kl c.code hs16
      have hsl:=Eb c.code s
      have hws:IntKind.i64.wrap ((s:Int)+1)=((s+1:Nat):Int):=by rw[AZ _ (by omega)];omega
      have cD:=Df c.nm false (l.take S) ((c.code.stm s).drop q) (F0 hlb S) (Ez (NL ..) _) (by rw[List.length_take,List.length_drop,hsl];omega) (by rw[List.length_take];omega)
      have hqs:(q:Int)<=((c.code.stm s).length:Int):=by omega
      obtain⟨dv,hdv⟩:∃dv,B5 (l.take S) ((c.code.stm s).drop q)=dv:=⟨_,rfl⟩
      rw[hdv] at cD
      have hmm:min b dv=XB c.code l S q (s+1):=by rw[s2,←hdv];rfl
      have htk2:((c.code.stm s).drop q).take (c.code.sz-q)=(c.code.stm s).drop q:=List.take_of_length_le (by rw[List.length_drop];omega)
      (try (simp -implicitDefEqProofs only[go_sem,hs',hg,hsl,hws,hlS,hqs,hql,hmm,htk2]));repeat' first|(with_reducible first|exact tI|refine aI ?_ ?_|intro _)|((first|with_reducible refine AM ?_ ?_<;>intro _|(with_reducible refine isCall ?_);first|refine AE cD ?_)<;>try (simp -implicitDefEqProofs only[go_sem,hs',hg,hsl,hws,hlS,hqs,hql,hmm,htk2]))|simp (disch:=omega) only[Al]|((with_reducible refine Cc ?_);refine⟨(_,_,_,_),rfl,?_,?_⟩)|((with_reducible refine Ab ?_);refine⟨(_,_),rfl,?_,?_⟩)
      all_goals first|omega|(simp;done)|(simp;omega)|skip
      all_goals skip
     ·have hs':¬(s:Int)<16:=by omega
      have hse:s=16:=by omega
      rw[hse,hV'] at s2
      subst s2
      (try (simp -implicitDefEqProofs only[go_sem,hs',hlS,wn,wt,hdl,htk]));repeat' first|(with_reducible first|exact tI|refine aI ?_ ?_|intro _)|((first|with_reducible refine AM ?_ ?_<;>intro _)<;>try (simp -implicitDefEqProofs only[go_sem,hs',hlS,wn,wt,hdl,htk]))|simp (disch:=omega) only[Al]|((with_reducible refine Cc ?_);refine⟨(_,_,_,_),rfl,?_,?_⟩)|((with_reducible refine Ab ?_);refine⟨(_,_),rfl,?_,?_⟩)
      all_goals first|omega|(simp;done)|(simp;omega)|skip
      exact⟨(j+S,_,_,_),rfl,⟨by show j+S<=_;omega,rfl,rfl,by show 0<=n+b;omega,by show n+b<=((j+S:Nat):Int);omega,by show n+b+apW c (c.mark.length+1) (a+(j+S)) (c.mark.drop (j+S))=QD c a;rw[←j4,hst];omega⟩,by show c.mark.length-(j+S)<_;omega⟩
  ·have hl0:¬(0:Int)<(l.length:Int):=by omega
   have hln:l=[]:=List.length_eq_zero_iff.1 (by omega)
   have hap:apW c (c.mark.length+1) (a+j) (c.mark.drop j)=0:=by rw[←j3,hln];simp[apW]
   have:n=QD c a:=by rw[←j4,hap];omega
   subst this
   (try (simp -implicitDefEqProofs only[go_sem,hl0]));repeat' first|(with_reducible first|exact tI|refine aI ?_ ?_|intro _)|((first|with_reducible refine AM ?_ ?_<;>intro _)<;>try (simp -implicitDefEqProofs only[go_sem,hl0]))|simp (disch:=omega) only[Al]|((with_reducible refine Cc ?_);refine⟨(_,_,_,_),rfl,?_,?_⟩)|((with_reducible refine Ab ?_);refine⟨(_,_),rfl,?_,?_⟩)
   all_goals first|omega|(simp;done)|(simp;omega)|skip
   all_goals first|rfl|skip
end Go.Pw
end
