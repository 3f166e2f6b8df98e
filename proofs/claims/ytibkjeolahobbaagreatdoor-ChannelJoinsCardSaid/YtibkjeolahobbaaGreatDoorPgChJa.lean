/- A part of the proof. -/
import Derived.Test.YtibkjeolahobbaaGreatDoorPgChM
import Derived.Test.YtibkjeolahobbaaGreatDoorPgChG
import Derived.Test.YtibkjeolahobbaaGreatDoorPgChI
import Derived.Test.YtibkjeolahobbaaGreatDoorPgChcW
set_option linter.all false
open Go Go.Pw Go.Proofs
namespace Go.Pw
set_option maxRecDepth 100000
set_option maxHeartbeats 3200000
section
def Fe (g:Nat->Nat):List Int:=(List.range 16).map fun s=>((g s:Nat):Int)
theorem Fq (g:Nat->Nat):(Fe g).length=16:=by simp[Fe]
theorem Dk (g:Nat->Nat) {s:Nat}(h:s<16):(Fe g)[s]?=some ((g s:Nat):Int):=by simp[Fe,h]
theorem Tp (g:Nat->Nat):Aa (Fe g)=[.int .i64 (g 0:Nat),.int .i64 (g 1:Nat),.int .i64 (g 2:Nat),.int .i64 (g 3:Nat),.int .i64 (g 4:Nat),.int .i64 (g 5:Nat),.int .i64 (g 6:Nat),.int .i64 (g 7:Nat),.int .i64 (g 8:Nat),.int .i64 (g 9:Nat),.int .i64 (g 10:Nat),.int .i64 (g 11:Nat),.int .i64 (g 12:Nat),.int .i64 (g 13:Nat),.int .i64 (g 14:Nat),.int .i64 (g 15:Nat)]:=rfl
theorem rc (g:Nat->Nat) {x:Int}(h:x∈Fe g):∃s,s<16/\x=((g s:Nat):Int):=by
 simp only[Fe,List.mem_map,List.mem_range] at h
 obtain⟨s,h1,h2⟩:=h
 exact⟨s,h1,h2.symm⟩
def MS (g:Nat->Nat):Option Nat:=(List.range 16).find? fun s=>decide (0<g s) && (List.range 16).all fun t=>decide (t=s\/g t<g s)
theorem de {g:Nat->Nat}{s:Nat}:((decide (0<g s) && (List.range 16).all fun t=>decide (t=s\/g t<g s))=true)↔(0<g s/\∀t,t<16->t=s\/g t<g s):=by
 simp only[Bool.and_eq_true,decide_eq_true_eq,List.all_eq_true,List.mem_range]
theorem df {g:Nat->Nat}{s:Nat}(hs:s<16) (h0:0<g s) (h:∀t,t<16->t=s\/g t<g s):MS g=some s:=by
 cases hw:MS g with
 |none =>
  unfold MS at hw
  rw[List.find?_eq_none] at hw
  exact absurd (de.2 ⟨h0,h⟩) (hw s (by simpa using hs))
 |some u =>
  have h1:=List.mem_of_find?_eq_some hw
  have h2:(decide (0<g u) && (List.range 16).all fun t=>decide (t=u\/g t<g u))=true:=by
   unfold MS at hw
   have h3:=List.find?_some hw
   exact h3
  have h2:=de.1 h2
  rw[List.mem_range] at h1
  rcases h2.2 s hs with e|e
  ·rw[e]
  ·rcases h u h1 with e'|e'
   ·rw[e']
   ·omega
theorem Xa {g:Nat->Nat}(h:∀s,s<16->0<g s->∃t,t<16/\t≠s/\g s<=g t):MS g=none:=by
 unfold MS
 rw[List.find?_eq_none]
 intro s hs hp
 rw[List.mem_range] at hs
 obtain⟨h1,h2⟩:=de.1 hp
 obtain⟨t,t1,t2,t3⟩:=h s hs h1
 rcases h2 t t1 with e|e
 ·exact t2 e
 ·omega
def fQ (xs:List Int):Nat->Int
 |0=>xs[0]?.getD 0
 |k+1=>max (fQ xs k) (xs[k+1]?.getD 0)
theorem fP (xs:List Int):∀(n k:Nat),k<=n->xs[k]?.getD 0<=fQ xs n
 |0,k,h=>by
    have:k=0:=by omega
    subst this;exact Int.le_refl _
 |n+1,k,h=>by
  unfold fQ
  by_cases e:k=n+1
  ·subst e;omega
  ·have:=fP xs n k (by omega);omega
theorem Zm (xs:List Int):∀n,∃k,k<=n/\fQ xs n=xs[k]?.getD 0
 |0=>⟨0,Nat.le_refl _,rfl⟩
 |n+1=>by
  obtain⟨k,h1,h2⟩:=Zm xs n
  unfold fQ
  by_cases h:fQ xs n<=xs[n+1]?.getD 0
  ·exact⟨n+1,Nat.le_refl _,by omega⟩
  ·exact⟨k,by omega,by omega⟩
theorem bf {g:Nat->Nat}{m:Int}{f:Nat}(h:(Fe g).findIdx? (fun x=>decide (m=x))=some f):f<16/\m=((g f:Nat):Int)/\∀t,t<f->m≠((g t:Nat):Int):=by
 rw[List.findIdx?_eq_some_iff_getElem] at h
 obtain⟨h1,h2,h3⟩:=h
 have hl:=Fq g
 have hg:∀t (ht:t<(Fe g).length),(Fe g)[t]=((g t:Nat):Int):=fun t ht=>by
  have:=Dk g (s:=t) (by omega)
  rw[List.getElem?_eq_getElem ht] at this
  exact Option.some.inj this
 refine⟨by omega,by rw[hg] at h2;simpa using h2,fun t ht=>?_⟩
 have:=h3 t ht
 rw[hg] at this
 simpa using this
attribute [local irreducible] IntKind.wrap Ai Option.getD and or
theorem Q2 (nl:Bool) (xs:List Int) (h0:0<xs.length) (hl:xs.length<=1000):BR E0 F_ [.list nl (Aa xs)] (.int .i64 (fQ xs (xs.length-1))):=by
 have hne:¬(xs.length:Int)<1:=by omega
 have hz:0<xs.length:=h0
 refine AM JG Af (by simp) fun hwf=>?_
 rw[AQ];unfold FT
 (try (simp -implicitDefEqProofs only[go_sem,hne,hz]));repeat' first|(with_reducible first|exact tI|refine aI ?_ ?_|intro _|refine AJ ?_ ?_<;>intro _<;>try simp -implicitDefEqProofs only[go_sem,hne,hz])|simp (disch:=omega) only[Ad]|((with_reducible refine Ca ?_);refine⟨(_,_,_),rfl,?_,?_⟩)
 all_goals first|omega|(simp<;>omega)|skip
 refine AU (α:=Nat×Int×Int) (l0:=?l1) (m0:=?m1) (fun x=>[(4,.d (.int .i64 x.2.1)),(3,.d (.int .i64 x.2.2))]) (fun x=>[]) (fun x=>x.1+1<=xs.length/\x.2.1=((x.1+1:Nat):Int)/\x.2.2=fQ xs x.1) (fun x=>xs.length-x.1) (0,1,(xs[0]?.getD 0)) ?h01 ?he1 ?he21 ?hI1 ?step1
 case h01=>(simp -implicitDefEqProofs only[go_sem];rfl)
 case he1=>rfl
 case he21=>rfl
 case' step1=>(rintro⟨k,i,m⟩ hI;try dsimp only at hI)
 case' hI1=>try dsimp only
 ·exact⟨by omega,rfl,rfl⟩
 ·obtain⟨k1,k2,k3⟩:=hI
  change i=((k+1:Nat):Int) at k2
  change m=fQ xs k at k3
  subst k2
  by_cases hk:k+1<xs.length
  ·have hk':((k+1:Nat):Int)<(xs.length:Int):=by omega
   have hwk:IntKind.i64.wrap (((k+1:Nat):Int)+1)=((k+1+1:Nat):Int):=by rw[AZ _ (by omega)];omega
   have hmm:max m (xs[k+1]?.getD 0)=fQ xs (k+1):=by rw[k3];rfl
   (try (simp -implicitDefEqProofs only[go_sem,hk',hk,hwk,hmm]));repeat' first|(with_reducible first|exact tI|refine aI ?_ ?_|intro _|refine AJ ?_ ?_<;>intro _<;>try simp -implicitDefEqProofs only[go_sem,hk',hk,hwk,hmm])|simp (disch:=omega) only[Ad]|((with_reducible refine Ca ?_);refine⟨(_,_,_),rfl,?_,?_⟩)
   all_goals first|omega|(simp<;>omega)|skip
   all_goals exact⟨(k+1,_,_),rfl,⟨by show k+1+1<=xs.length;omega,rfl,rfl⟩,by show xs.length-(k+1)<xs.length-k;omega⟩
  ·have hk':¬((k+1:Nat):Int)<(xs.length:Int):=by omega
   have hke:k=xs.length-1:=by omega
   rw[←hke,←k3]
   (try (simp -implicitDefEqProofs only[go_sem,hk']));repeat' first|(with_reducible first|exact tI|refine aI ?_ ?_|intro _|refine AJ ?_ ?_<;>intro _<;>try simp -implicitDefEqProofs only[go_sem,hk'])|simp (disch:=omega) only[Ad]|((with_reducible apply Ag);exact rfl)
   all_goals first|omega|(simp<;>omega)|skip
   all_goals first|rfl|skip
theorem OW (nl:Bool) (xs:List Int) (n:Int) {f:Nat}(hf:xs.findIdx? (fun x=>decide (n=x))=some f):BR E0 DP [.list nl (Aa xs),.int .i64 n] (.int .i64 (f:Int)):=by
 rw[List.findIdx?_eq_some_iff_getElem] at hf
 obtain⟨f1,f2,f3⟩:=hf
 have f2':n=xs[f]?.getD 0:=by rw[List.getElem?_eq_getElem f1,Option.getD_some];simpa using f2
 have f3':∀j,j<f->n≠xs[j]?.getD 0:=fun j hj=>by rw[List.getElem?_eq_getElem (by omega),Option.getD_some];simpa using f3 j hj
 refine AM ES Af (by simp) fun hwf=>?_
 simp only[CU,Bu,Bt,Bq,Cd,Cc,Dt,Cb,A2,A9,A_,Bz,BG,List.length_map,BH,true_and,and_true] at hwf
 rw[AQ];unfold DB
 (try (simp -implicitDefEqProofs only[go_sem]));repeat' first|(with_reducible first|exact tI|refine aI ?_ ?_|intro _|refine AJ ?_ ?_<;>intro _<;>try simp -implicitDefEqProofs only[go_sem])|simp (disch:=omega) only[Ad]|((with_reducible apply Ab);exact rfl)
 refine AU (α:=Nat) (l0:=?l2) (m0:=?m2) (fun x=>[(8,.d (.int .i64 (x:Int)))]) (fun x=>[]) (fun x=>x<=f) (fun x=>f-x) 0 ?h02 ?he2 ?he22 ?hI2 ?step2
 case h02=>(simp -implicitDefEqProofs only[go_sem];rfl)
 case he2=>rfl
 case he22=>rfl
 case' step2=>(rintro i hI;try dsimp only at hI)
 case' hI2=>try dsimp only
 ·exact Nat.zero_le _
 ·have h:i<xs.length:=by omega
  have h':(i:Int)<(xs.length:Int):=by omega
  have hw:IntKind.i64.wrap ((i:Int)+1)=((i+1:Nat):Int):=by rw[AZ _ (by omega)];omega
  by_cases hb:i=f
  ·subst hb
   (try (simp -implicitDefEqProofs only[go_sem,h',h,hw,f2'.symm]));repeat' first|(with_reducible first|exact tI|refine aI ?_ ?_|intro _|refine AJ ?_ ?_<;>intro _<;>try simp -implicitDefEqProofs only[go_sem,h',h,hw,f2'.symm])|simp (disch:=omega) only[Ad]|((with_reducible apply Ab);exact rfl)
   all_goals first|omega|(simp<;>omega)|skip
   all_goals first|rfl|(exfalso;rename_i hh;exact hh f2')|(exfalso;rename_i hh;exact hh f2'.symm)|skip
  ·have hn:=f3' i (by omega)
   have hn2:¬xs[i]?.getD 0=n:=fun e=>hn e.symm
   (try (simp -implicitDefEqProofs only[go_sem,h',h,hw,hn,hn2]));repeat' first|(with_reducible first|exact tI|refine aI ?_ ?_|intro _|refine AJ ?_ ?_<;>intro _<;>try simp -implicitDefEqProofs only[go_sem,h',h,hw,hn,hn2])|simp (disch:=omega) only[Ad]|((with_reducible apply Ab);exact rfl)
   all_goals first|omega|(simp<;>omega)|skip
   all_goals skip
theorem My (g:Nat->Nat):BR E0 FM [.agg (Aa (Fe g))] (.int .i64 (Se (MS g))):=by
  have hl:=Fq g
  have e16:=Tp g
  obtain⟨k0,k1,k2⟩:=Zm (Fe g) 15
  have hge:=fun t (ht:t<16)=>fP (Fe g) 15 t (by omega)
  have hgv:∀t,t<16->(Fe g)[t]?.getD 0=((g t:Nat):Int):=fun t ht=>by rw[Dk g ht,Option.getD_some]
  have c1:=Q2 false (Fe g) (by omega) (by omega)
  rw[hl] at c1
  obtain⟨m,hm⟩:∃m,fQ (Fe g) (16-1)=m:=⟨_,rfl⟩
  rw[show (15:Nat)=16-1 from rfl,hm] at k2 hge
  rw[hm] at c1
  rw[hgv k0 (by omega)] at k2
  obtain⟨f,hf⟩:∃f,(Fe g).findIdx? (fun x=>decide (m=x))=some f:=by
    cases h:(Fe g).findIdx? (fun x=>decide (m=x)) with
    |some f=>exact⟨f,rfl⟩
    |none =>
      rw[List.findIdx?_eq_none_iff] at h
      have:=h m (by rw[k2];simp only[Fe,List.mem_map,List.mem_range];exact⟨k0,by omega,rfl⟩)
      simp at this
  have c2:=OW false (Fe g) m hf
  obtain⟨f1,f2,f3⟩:=bf hf
  have hlg:∀t,t<16->([.int .i64 (g 0:Nat),.int .i64 (g 1:Nat),.int .i64 (g 2:Nat),.int .i64 (g 3:Nat),.int .i64 (g 4:Nat),.int .i64 (g 5:Nat),.int .i64 (g 6:Nat),.int .i64 (g 7:Nat),.int .i64 (g 8:Nat),.int .i64 (g 9:Nat),.int .i64 (g 10:Nat),.int .i64 (g 11:Nat),.int .i64 (g 12:Nat),.int .i64 (g 13:Nat),.int .i64 (g 14:Nat),.int .i64 (g 15:Nat)]:List D)[t]?=some (.int .i64 ((g t:Nat):Int)):=fun t ht=>by
    rw[←Tp]
    simp only[Aa,List.getElem?_map,Dk g ht,Option.map_some]
  have hmx:∀t,t<16->((g t:Nat):Int)<=m:=fun t ht=>by rw[←hgv t ht];exact hge t ht
  rw[e16] at c1 c2 ⊢
  refine AM Hw Af (by simp) fun hwf=>?_
  rw[AQ];unfold Ek
  (try (simp -implicitDefEqProofs only[go_sem]));repeat' first|(with_reducible first|exact tI|refine aI ?_ ?_|intro _)|((first|with_reducible refine AJ ?_ ?_<;>intro _|(with_reducible refine isCall ?_);first|refine AE c1 ?_|refine AE c2 ?_)<;>try (simp -implicitDefEqProofs only[go_sem]))|simp (disch:=omega) only[Ad]|((with_reducible apply Ab);exact rfl)
  all_goals first|omega|(simp<;>omega)|skip
  refine AU (α:=Nat) (l0:=?l3) (m0:=?m3) (fun x=>[(5,.d (.int .i64 (x:Int)))]) (fun x=>[]) (fun x=>f<=x/\x<=15/\∀t,x<t->t<16->((g t:Nat):Int)≠m) (fun x=>x) 15 ?h03 ?he3 ?he23 ?hI3 ?step3
  case h03=>(simp -implicitDefEqProofs only[go_sem];rfl)
  case he3=>rfl
  case he23=>rfl
  case' step3=>(rintro l hI;try dsimp only at hI)
  case' hI3=>try dsimp only
  · exact⟨by omega,Nat.le_refl _,fun t h1 h2=>by omega⟩
  · obtain⟨l1,l2,l3⟩:=hI
    have hl':(l:Int)<16:=by omega
    have hgl:=hlg l (by omega)
    by_cases hv:((g l:Nat):Int)=m
    · by_cases hm0:m=0
      · have hw:MS g=none:=Xa fun s hs h0=>by have:=hmx s hs;omega
        rw[hw]
        (try (simp -implicitDefEqProofs only[go_sem,hl',hgl,hv,hm0]));repeat' first|(with_reducible first|exact tI|refine aI ?_ ?_|intro _|refine AJ ?_ ?_<;>intro _<;>try simp -implicitDefEqProofs only[go_sem,hl',hgl,hv,hm0])|simp (disch:=omega) only[Ad]|((with_reducible apply Ab);exact rfl)
        all_goals first|omega|(simp<;>omega)|skip
        all_goals first|rfl|skip
      · by_cases hfl:f=l
        · subst hfl
          have hw:MS g=some f:=df f1 (by omega) fun t ht=>by
            by_cases e:t=f
            · exact .inl e
            · right
              have h1:=hmx t ht
              rcases Nat.lt_or_gt_of_ne e with h|h
              · have:=f3 t h;omega
              · have:=l3 t h ht;omega
          rw[hw]
          (try (simp -implicitDefEqProofs only[go_sem,hl',hgl,hv,hm0]));repeat' first|(with_reducible first|exact tI|refine aI ?_ ?_|intro _|refine AJ ?_ ?_<;>intro _<;>try simp -implicitDefEqProofs only[go_sem,hl',hgl,hv,hm0])|simp (disch:=omega) only[Ad]|((with_reducible apply Ab);exact rfl)
          all_goals first|omega|(simp<;>omega)|skip
          all_goals first|rfl|skip
        · have hw:MS g=none:=Xa fun s hs h0=>by
            have h1:=hmx s hs
            by_cases e:s=f
            · exact⟨l,by omega,by omega,by omega⟩
            · exact⟨f,f1,fun e'=>e e'.symm,by omega⟩
          have hfl':¬(f:Int)=(l:Int):=by omega
          rw[hw]
          (try (simp -implicitDefEqProofs only[go_sem,hl',hgl,hv,hm0,hfl']));repeat' first|(with_reducible first|exact tI|refine aI ?_ ?_|intro _|refine AJ ?_ ?_<;>intro _<;>try simp -implicitDefEqProofs only[go_sem,hl',hgl,hv,hm0,hfl'])|simp (disch:=omega) only[Ad]|((with_reducible apply Ab);exact rfl)
          all_goals first|omega|(simp<;>omega)|skip
          all_goals first|rfl|skip
    · have hlf:f≠l:=fun e=>hv (by rw[←e];exact f2.symm)
      have hwl:IntKind.i64.wrap ((l:Int)-1)=((l-1:Nat):Int):=by rw[AZ _ (by omega)];omega
      (try (simp -implicitDefEqProofs only[go_sem,hl',hgl,hv,hwl]));repeat' first|(with_reducible first|exact tI|refine aI ?_ ?_|intro _|refine AJ ?_ ?_<;>intro _<;>try simp -implicitDefEqProofs only[go_sem,hl',hgl,hv,hwl])|simp (disch:=omega) only[Ad]|((with_reducible apply Ab);exact rfl)
      all_goals first|omega|(simp<;>omega)|skip
      all_goals first
        |(
           rename_i t h1 h2
           by_cases e:t=l
           · rw[e];exact hv
           · exact l3 t (by have:l-1<t:=h1;omega) h2)
        |skip
end
section
def vD (n:Nat) (f:Nat->Nat->Nat):List D:=(List.range n).map fun i=>.agg (Aa (Fe (f i)))
theorem Qf (n:Nat) (f:Nat->Nat->Nat):(vD n f).length=n:=by simp[vD]
theorem Qg {n:Nat}(f:Nat->Nat->Nat) {i:Nat}(h:i<n):(vD n f)[i]?=some (.agg (Aa (Fe (f i)))):=by simp[vD,h]
theorem Qh {n:Nat}{f g:Nat->Nat->Nat}(h:∀i,i<n->∀s,s<16->f i s=g i s):vD n f=vD n g:=by
 unfold vD
 refine List.map_congr_left fun i hi=>?_
 rw[List.mem_range] at hi
 have:Fe (f i)=Fe (g i):=by
  unfold Fe
  refine List.map_congr_left fun s hs=>?_
  rw[List.mem_range] at hs
  rw[h i hi s hs]
 rw[this]
theorem jY (n:Nat):List.replicate n (.agg [.int .i64 0,.int .i64 0,.int .i64 0,.int .i64 0,.int .i64 0,.int .i64 0,.int .i64 0,.int .i64 0,.int .i64 0,.int .i64 0,.int .i64 0,.int .i64 0,.int .i64 0,.int .i64 0,.int .i64 0,.int .i64 0])=vD n fun _ _=>0:=by
 unfold vD
 rw[List.map_const',List.length_range];rfl
theorem oA {n:Nat}{f f':Nat->Nat->Nat}{i s:Nat}(hi:i<n) (hs:s<16) (h1:f' i s=f i s+1) (h2:∀j t,¬(j=i/\t=s)->f' j t=f j t) :
  (vD n f).set i (.agg (Aa ((Fe (f i)).take s++[((f i s:Nat):Int)+1]++(Fe (f i)).drop (s+1))))=vD n f':=by
 have hv:(Fe (f i)).take s++[((f i s:Nat):Int)+1]++(Fe (f i)).drop (s+1)=Fe (f' i):=by
  apply List.ext_getElem?
  intro t
  have hl:=Fq (f i)
  rw[List.append_assoc]
  rcases Nat.lt_trichotomy t s with h|h|h
  ·rw[List.getElem?_append_left (by rw[List.length_take];omega),List.getElem?_take,if_pos h,Dk _ (by omega),Dk _ (by omega),h2 i t (by omega)]
  ·subst h
   rw[List.getElem?_append_right (by rw[List.length_take];omega),List.length_take,Dk _ hs,h1,show t-min t (Fe (f i)).length=0 by omega]
   simp
  ·by_cases ht:t<16
   ·rw[List.getElem?_append_right (by rw[List.length_take];omega),List.length_take,List.getElem?_append_right (by simp;omega),List.getElem?_drop,show s+1+(t-min s (Fe (f i)).length-[((f i s:Nat):Int)+1].length)=t by simp;omega,Dk _ ht,Dk _ ht,h2 i t (by omega)]
   ·rw[List.getElem?_eq_none (by simp[hl];omega),List.getElem?_eq_none (by rw[Fq];omega)]
 rw[hv]
 apply List.ext_getElem?
 intro j
 rw[List.getElem?_set,Qf]
 by_cases e:i=j
 ·subst e
  rw[if_pos rfl,if_pos hi,Qg _ hi]
 ·rw[if_neg e]
  by_cases hj:j<n
  ·rw[Qg _ hj,Qg _ hj]
   have:Fe (f j)=Fe (f' j):=by
    unfold Fe
    refine List.map_congr_left fun t _=>?_
    rw[h2 j t (by omega)]
   rw[this]
  ·rw[List.getElem?_eq_none (by rw[Qf];omega),List.getElem?_eq_none (by rw[Qf];omega)]
def DQ (c:AX) (bits:List Int) (i:Nat):Option Nat:=match c.find bits with
 |some a=>(c.syL bits a)[i]?.getD none
 |none=>none
theorem d0 {c:AX}{bits:List Int}{a:Nat}:∀i,i<(c.syL bits a).length->∀s,(c.syL bits a)[i]?.getD none=some s->s<16:=fun i hi s hs=>by
 rw[HS] at hi
 simp[AX.syL,hi] at hs
 exact(H' hs).1
theorem Tu {c:AX}{bits:List Int}{i s:Nat}(h:DQ c bits i=some s):s<16:=by
 unfold DQ at h
 split at h
 ·rename_i a _
  by_cases hi:i<(c.syL bits a).length
  ·exact d0 i hi s h
  ·rw[List.getElem?_eq_none (by omega)] at h;cases h
 ·cases h
def Qc (c:AX) (rs:List (List Int)):Nat->Nat->Nat->Nat
 |0,_,_=>0
 |k+1,i,s=>Qc c rs k i s+if DQ c (rs[k]?.getD []) i=some s then 1 else 0
theorem Xd (c:AX) (rs:List (List Int)):∀k i s,Qc c rs k i s<=k
 |0,_,_=>Nat.le_refl _
 |k+1,i,s=>by have:=Xd c rs k i s;unfold Qc;split<;>omega
def LM (c:AX) (rs:List (List Int)) (k j:Nat):Nat->Nat->Nat:=fun i s=>Qc c rs k i s+if i<j/\DQ c (rs[k]?.getD []) i=some s then 1 else 0
theorem qV (c:AX) (rs:List (List Int)) (k n:Nat):vD n (LM c rs k 0)=vD n (Qc c rs k):=Qh fun i _ s _=>by unfold LM;rw[if_neg (by omega),Nat.add_zero]
theorem jW (c:AX) (rs:List (List Int)) (k n m:Nat) (h:∀i,m<=i->i<n->DQ c (rs[k]?.getD []) i=none):vD n (LM c rs k m)=vD n (Qc c rs (k+1)):=Qh fun i hi s _=>by
 show _=Qc c rs k i s+if DQ c (rs[k]?.getD []) i=some s then 1 else 0
 unfold LM
 by_cases hm:i<m
 ·by_cases hs:DQ c (rs[k]?.getD []) i=some s
  ·rw[if_pos ⟨hm,hs⟩,if_pos hs]
  ·rw[if_neg fun hh=>hs hh.2,if_neg hs]
 ·rw[if_neg fun hh=>hm hh.1,if_neg (by rw[h i (by omega) hi];exact fun e=>by cases e)]
theorem nu {c:AX}{rs:List (List Int)}{k j n:Nat}(h:DQ c (rs[k]?.getD []) j=none):vD n (LM c rs k (j+1))=vD n (LM c rs k j):=Qh fun i hi s _=>by
 unfold LM
 by_cases e:i=j
 ·subst e
  have n1:¬(i<i+1/\DQ c (rs[k]?.getD []) i=some s):=fun hh=>by rw[h] at hh;cases hh.2
  have n2:¬(i<i/\DQ c (rs[k]?.getD []) i=some s):=fun hh=>by omega
  rw[if_neg n1,if_neg n2]
 ·by_cases hs:i<j/\DQ c (rs[k]?.getD []) i=some s
  ·rw[if_pos ⟨by omega,hs.2⟩,if_pos hs]
  ·rw[if_neg fun hh=>hs ⟨by omega,hh.2⟩,if_neg hs]
theorem M6 (c:AX) (rs:List (List Int)) (k j s:Nat):LM c rs k j j s=Qc c rs k j s:=by unfold LM;rw[if_neg (by omega)];rfl
theorem jV {c:AX}{rs:List (List Int)}{k j n x:Nat}(hj:j<n) (h:DQ c (rs[k]?.getD []) j=some x) :
  (vD n (LM c rs k j)).set j (.agg (Aa ((Fe (LM c rs k j j)).take x++[((LM c rs k j j x:Nat):Int)+1]++(Fe (LM c rs k j j)).drop (x+1))))=vD n (LM c rs k (j+1)):=by
 refine oA hj (Tu h) ?_ fun i t hne=>?_
 ·rw[M6];unfold LM;rw[if_pos ⟨by omega,h⟩]
 ·unfold LM
  by_cases e:i=j
  ·subst e
   have n1:¬(i<i+1/\DQ c (rs[k]?.getD []) i=some t):=fun hh=>by rw[h] at hh;exact hne ⟨rfl,(Option.some.inj hh.2).symm⟩
   have n2:¬(i<i/\DQ c (rs[k]?.getD []) i=some t):=fun hh=>by omega
   rw[if_neg n1,if_neg n2]
  ·by_cases hs:i<j/\DQ c (rs[k]?.getD []) i=some t
   ·rw[if_pos ⟨by omega,hs.2⟩,if_pos hs]
   ·rw[if_neg fun hh=>hs ⟨by omega,hh.2⟩,if_neg hs]
def VB (c:AX) (rs:List (List Int)):List (Option Nat):=(List.range c.syms).map fun i=>MS (Qc c rs rs.length i)
theorem NY (c:AX) (rs:List (List Int)):(VB c rs).length=c.syms:=by simp[VB]
theorem fk (c:AX) (rs:List (List Int)) {i:Nat}(h:i<c.syms):(OM (VB c rs)).take i++[Se (MS (Qc c rs rs.length i))]=(OM (VB c rs)).take (i+1):=by
 rw[List.take_add_one,List.getElem?_eq_getElem (by rw[Ez,NY];exact h)]
 simp[OM,VB]
noncomputable def qx (c:AX) (rs:List (List Int)):Int:=if c.ok=true then if 1<=rs.length/\rs.length<=6 then if rs.all Dr=true then XU c (VB c rs) else 131 else 1 else 130
noncomputable def qP (c:AX) (rs:List (List Int)):List Int:=if c.ok=true then if 1<=rs.length/\rs.length<=6 then if rs.all Dr=true then YW c (VB c rs) else [] else [] else []
noncomputable def WN (c:AX) (rs:List (List Int)):D:=.tup [.list (qP c rs).isEmpty (Aa (qP c rs)),.int .i64 (qx c rs)]
theorem XB:BL E0.P DI=true:=by kernel_rfl
theorem jD {rs:List (List Int)}(h:rs.findIdx? (fun r=>!Dr r)=none):rs.all Dr=true:=by
 rw[List.findIdx?_eq_none_iff] at h
 rw[List.all_eq_true]
 intro x hx
 have:=h x hx
 simpa using this
theorem jC {rs:List (List Int)}{i:Nat}(h:rs.findIdx? (fun r=>!Dr r)=some i):rs.all Dr=false:=by
 rw[List.findIdx?_eq_some_iff_getElem] at h
 cases ha:rs.all Dr with
 |false=>rfl
 |true =>
  rw[List.all_eq_true] at ha
  have h2:=h.2.1
  rw[ha _ (List.getElem_mem h.1)] at h2
  cases h2
theorem gm (c:AX) (bits:List Int):∃(a:Int) (nl2:Bool) (sgs:List Int) (b:Bool),Hg c bits=.tup [.int .i64 a,.list nl2 (Aa sgs),.bool b]/\sgs.length<=c.syms/\(∀j,j<sgs.length->sgs[j]?.getD 0=Se (DQ c bits j))/\∀j,sgs.length<=j->j<c.syms->DQ c bits j=none:=by
 unfold Hg DQ
 cases c.find bits with
 |none=>exact⟨0,true,[],false,rfl,by simp,fun j hj=>by simp at hj,fun _ _ _=>rfl⟩
 |some a =>
  have hl:=HS c bits a
  refine⟨a,false,OM (c.syL bits a),true,rfl,by rw[Ez,hl];exact Nat.le_refl _,fun j hj=>?_,fun j h1 h2=>?_⟩
  ·rw[Ez] at hj
   simp[OM,hj]
  ·rw[Ez,hl] at h1;omega
theorem j6 (s:Nat):Se (some s)=(s:Int):=rfl
theorem j5:Se none=-1:=rfl
attribute [local irreducible] IntKind.wrap Ai Option.getD and or
theorem Mz (r:List Int):BR E0 DI [.list false (Aa r)] (.bool (!Dr r)):=by
 have c1:=GX false r
 obtain⟨b,hb⟩:∃b,Dr r=b:=⟨_,rfl⟩
 rw[hb] at c1 ⊢
 refine AM Mp Af (by simp) fun hwf=>?_
 rw[AQ];unfold Hd
 cases b <;>
 ·(try (simp -implicitDefEqProofs only[go_sem]));repeat' first|(with_reducible first|exact tI|refine aI ?_ ?_|intro _)|((first|with_reducible refine AJ ?_ ?_<;>intro _|(with_reducible refine isCall ?_);first|refine AE c1 ?_)<;>try (simp -implicitDefEqProofs only[go_sem]))|simp (disch:=omega) only[Ad]
  all_goals first|rfl|skip
theorem J9 (rs:List (List Int)) (hlen:rs.length<=1000):BR E0 Ch [.list false (XT rs),.fn DI []] (.bool (!rs.all Dr)):=by
 have c1:=HC rs hlen DI [] (fun r=>!Dr r) XB rfl fun x _=>Mz x
 refine AM EK Af (by simp) fun hwf=>?_
 rw[AQ];unfold CX
 cases hf:rs.findIdx? (fun r=>!Dr r) with
 |none =>
  rw[hf] at c1
  rw[jD hf]
  (try (simp -implicitDefEqProofs only[go_sem]));repeat' first|(with_reducible first|exact tI|refine aI ?_ ?_|intro _)|((first|with_reducible refine AJ ?_ ?_<;>intro _|(with_reducible refine isCall ?_);first|refine AE c1 ?_)<;>try (simp -implicitDefEqProofs only[go_sem]))|simp (disch:=omega) only[Ad]
  all_goals first|rfl|skip
 |some k =>
  rw[hf] at c1
  rw[jC hf]
  have h0:(0:Int)<=(k:Int):=by omega
  (try (simp -implicitDefEqProofs only[go_sem,h0]));repeat' first|(with_reducible first|exact tI|refine aI ?_ ?_|intro _)|((first|with_reducible refine AJ ?_ ?_<;>intro _|(with_reducible refine isCall ?_);first|refine AE c1 ?_)<;>try (simp -implicitDefEqProofs only[go_sem,h0]))|simp (disch:=omega) only[Ad]
  all_goals first|rfl|skip
theorem PD (c:AX) (rs:List (List Int)):BR E0 LI [DJ c,.list rs.isEmpty (XT rs)] (WN c rs):=by
 have c1:=EA c
 obtain⟨r,hr⟩:∃r,jO c=r:=⟨_,rfl⟩
 rw[hr] at c1
 refine AM O8 Af (by simp) fun hwf=>?_
 rw[AQ];unfold Jm WN qP qx
 rcases hok:c.ok with _|_
 ·have:=Hn hok
  rw[hr] at this
  rw[this.1,this.2] at c1
  simp only[Bool.false_eq_true,if_false]
  (try (simp -implicitDefEqProofs only[go_sem,AP,AO]));repeat' first|(with_reducible first|exact tI|refine aI ?_ ?_|intro _)|((first|with_reducible refine AJ ?_ ?_<;>intro _|(with_reducible refine isCall ?_);first|refine AE c1 ?_)<;>try (simp -implicitDefEqProofs only[go_sem,AP,AO]))|simp (disch:=omega) only[Ad]|((with_reducible first|apply Ae|apply Ab);exact rfl)
  all_goals first|rfl|skip
 ·have:=JC hok
  have hk:=JO hok
  rw[hr] at this
  rw[this.1,this.2] at c1
  simp only[if_true]
  by_cases h1:rs.length<1
  ·have h1':(rs.length:Int)<1:=by omega
   have hc:¬(1<=rs.length/\rs.length<=6):=by omega
   rw[if_neg hc,if_neg hc]
   (try (simp -implicitDefEqProofs only[go_sem,AP,AO,h1']));repeat' first|(with_reducible first|exact tI|refine aI ?_ ?_|intro _)|((first|with_reducible refine AJ ?_ ?_<;>intro _|(with_reducible refine isCall ?_);first|refine AE c1 ?_)<;>try (simp -implicitDefEqProofs only[go_sem,AP,AO,h1']))|simp (disch:=omega) only[Ad]|((with_reducible first|apply Ae|apply Ab);exact rfl)
   all_goals first|rfl|skip
  by_cases h6:6<rs.length
  ·have h1':¬(rs.length:Int)<1:=by omega
   have h6':6<(rs.length:Int):=by omega
   have hc:¬(1<=rs.length/\rs.length<=6):=by omega
   rw[if_neg hc,if_neg hc]
   (try (simp -implicitDefEqProofs only[go_sem,AP,AO,h1',h6']));repeat' first|(with_reducible first|exact tI|refine aI ?_ ?_|intro _)|((first|with_reducible refine AJ ?_ ?_<;>intro _|(with_reducible refine isCall ?_);first|refine AE c1 ?_)<;>try (simp -implicitDefEqProofs only[go_sem,AP,AO,h1',h6']))|simp (disch:=omega) only[Ad]|((with_reducible first|apply Ae|apply Ab);exact rfl)
   all_goals first|rfl|skip
  have h1':¬(rs.length:Int)<1:=by omega
  have h6':¬6<(rs.length:Int):=by omega
  have hc:1<=rs.length/\rs.length<=6:=by omega
  rw[if_pos hc,if_pos hc]
  have hre:rs.isEmpty=false:=by cases rs with
   |nil=>simp at h1
   |cons _ _=>rfl
  rw[hre]
  have c2:=J9 rs (by omega)
  cases ha:rs.all Dr with
  |false =>
   rw[ha] at c2
   simp only[Bool.not_false,Bool.false_eq_true,if_false] at c2 ⊢
   (try (simp -implicitDefEqProofs only[go_sem,AP,AO,h1',h6']));repeat' first|(with_reducible first|exact tI|refine aI ?_ ?_|intro _)|((first|with_reducible refine AJ ?_ ?_<;>intro _|(with_reducible refine isCall ?_);first|refine AE c1 ?_|refine AE c2 ?_)<;>try (simp -implicitDefEqProofs only[go_sem,AP,AO,h1',h6']))|simp (disch:=omega) only[Ad]|((with_reducible first|apply Ae|apply Ab);exact rfl)
   all_goals first|rfl|skip
  |true =>
   rw[ha] at c2
   simp only[Bool.not_true,if_true] at c2 ⊢
   have hrd:∀k,k<rs.length->Dr (rs[k]?.getD [])=true:=fun k hk=>by
    rw[List.all_eq_true] at ha
    exact ha _ (by rw[List.getElem?_eq_getElem hk,Option.getD_some];exact List.getElem_mem hk)
   have cS:=EL c (FR c.code) hk.wev
   have hs:=hk.syms
   rw[hs.2.2] at cS
   have hsy:((c.syms:Nat):Int)<=1073741824:=by omega
   have hzr:=jY c.syms
   (try (simp -implicitDefEqProofs only[go_sem,AP,AO,h1',h6',hsy,hzr]));repeat' first|(with_reducible first|exact tI|refine aI ?_ ?_|intro _)|((first|with_reducible refine AJ ?_ ?_<;>intro _|(with_reducible refine isCall ?_);first|refine AE c1 ?_|refine AE c2 ?_|refine AE cS ?_)<;>try (simp -implicitDefEqProofs only[go_sem,AP,AO,h1',h6',hsy,hzr]))|simp (disch:=omega) only[Ad]|((with_reducible first|apply Ae|apply Ab);exact rfl)
   all_goals first|omega|(simp<;>omega)|skip
   refine AU (α:=Nat) (l0:=?l1) (m0:=?m1) (fun x=>[(45,.d (.int .i64 (x:Int)))]) (fun x=>[(42,.row 94 16 false (vD c.syms (Qc c rs x)))]) (fun x=>x<=rs.length) (fun x=>rs.length-x) 0 ?h01 ?he1 ?he21 ?hI1 ?step1
   case h01=>(simp -implicitDefEqProofs only[go_sem];rfl)
   case he1=>rfl
   case he21=>rfl
   case' step1=>(rintro k hI;try dsimp only at hI)
   case' hI1=>try dsimp only
   ·exact Nat.zero_le _
   ·have hvl:=Qf c.syms (Qc c rs k)
    by_cases hkr:k<rs.length
    ·have hk':(k:Int)<(rs.length:Int):=by omega
     have hwk:IntKind.i64.wrap ((k:Int)+1)=((k+1:Nat):Int):=by rw[AZ _ (by omega)];omega
     have hrk:=hrd k hkr
     obtain⟨bits,hbits⟩:∃bits,rs[k]?.getD []=bits:=⟨_,rfl⟩
     rw[hbits] at hrk
     have c3:=Ip c hk false bits hrk (fun h=>by cases h)
     obtain⟨a,nl2,sgs,b,q1,q2,q3,q4⟩:=gm c bits
     rw[q1] at c3
     have hV0:=qV c rs k c.syms
     have hVe:=jW c rs k c.syms sgs.length (by rw[hbits];exact q4)
     (try (simp -implicitDefEqProofs only[go_sem,hk',hkr,hbits]));repeat' first|(with_reducible first|exact tI|refine aI ?_ ?_|intro _)|((first|with_reducible refine AJ ?_ ?_<;>intro _|(with_reducible refine isCall ?_);first|refine AE c3 ?_)<;>try (simp -implicitDefEqProofs only[go_sem,hk',hkr,hbits]))|simp (disch:=omega) only[Ad]|((with_reducible first|apply Ae|apply Ab);exact rfl)
     all_goals first|omega|(simp<;>omega)|skip
     rw[←hV0]
     refine AU (α:=Nat) (l0:=?l2) (m0:=?m2) (fun x=>[(58,.d (.int .i64 (x:Int)))]) (fun x=>[(42,.row 94 16 false (vD c.syms (LM c rs k x)))]) (fun x=>x<=sgs.length) (fun x=>sgs.length-x) 0 ?h02 ?he2 ?he22 ?hI2 ?step2
     case h02=>(simp -implicitDefEqProofs only[go_sem];rfl)
     case he2=>rfl
     case he22=>rfl
     case' step2=>(rintro j hI2;try dsimp only at hI2)
     case' hI2=>try dsimp only
     ·exact Nat.zero_le _
     ·have hvl2:=Qf c.syms (LM c rs k j)
      by_cases hj:j<sgs.length
      ·have hj':(j:Int)<(sgs.length:Int):=by omega
       have hwj:IntKind.i64.wrap ((j:Int)+1)=((j+1:Nat):Int):=by rw[AZ _ (by omega)];omega
       have hg:=q3 j hj
       have hjs:j<c.syms:=by omega
       have hjv:j<(vD c.syms (LM c rs k j)).length:=by omega
       cases hsv:DQ c bits j with
       |none =>
        rw[hsv,j5] at hg
        have hno:=nu (c:=c) (rs:=rs) (k:=k) (n:=c.syms) (by rw[hbits];exact hsv)
        (try (simp -implicitDefEqProofs only[go_sem,hj',hj,hwj,hg]));repeat' first|(with_reducible first|exact tI|refine aI ?_ ?_|intro _|refine AJ ?_ ?_<;>intro _<;>try simp -implicitDefEqProofs only[go_sem,hj',hj,hwj,hg])|simp (disch:=omega) only[Ad]|((with_reducible refine Ca ?_);refine⟨(_,_),rfl,?_,?_⟩)|((with_reducible refine Ca ?_);refine⟨_,rfl,?_,?_⟩)
        all_goals first|omega|(simp<;>omega)|skip
        rw[←hno]
        exact⟨j+1,rfl,hj,by omega⟩
       |some x =>
        rw[hsv,j6] at hg
        have hx:=Tu hsv
        have hx':(x:Int)<16:=by omega
        have hne:¬(x:Int)=-1:=by omega
        have hy:=jV (c:=c) (rs:=rs) (k:=k) (n:=c.syms) hjs (by rw[hbits];exact hsv)
        have hgv:=Qg (LM c rs k j) hjs
        have hvx:=Dk (LM c rs k j j) hx
        have hl16:=Fq (LM c rs k j j)
        have hble:LM c rs k j j x<=k:=by rw[M6];exact Xd ..
        have hwx:IntKind.i64.wrap (((LM c rs k j j x:Nat):Int)+1)=((LM c rs k j j x:Nat):Int)+1:=AZ _ (by omega)
        have hvx2:(Fe (LM c rs k j j))[x]?.getD 0=((LM c rs k j j x:Nat):Int):=by rw[hvx];exact PL _
        have hx16:x<16:=hx
        (try (simp -implicitDefEqProofs only[go_sem,hj',hj,hwj,hg,hne,hvl2,hjs,hx',hgv,hvx2,hl16,hx16,hwx,hy]));repeat' first|(with_reducible first|exact tI|refine aI ?_ ?_|intro _|refine AJ ?_ ?_<;>intro _<;>try simp -implicitDefEqProofs only[go_sem,hj',hj,hwj,hg,hne,hvl2,hjs,hx',hgv,hvx2,hl16,hx16,hwx,hy])|simp (disch:=omega) only[Ad]|((with_reducible refine Ca ?_);refine⟨(_,_),rfl,?_,?_⟩)|((with_reducible refine Ca ?_);refine⟨_,rfl,?_,?_⟩)
        all_goals first|omega|(simp<;>omega)|skip
        all_goals exact⟨j+1,rfl,hj,by omega⟩
      ·have hj':¬(j:Int)<(sgs.length:Int):=by omega
       have hje:j=sgs.length:=by omega
       subst hje
       rw[hVe]
       (try (simp -implicitDefEqProofs only[go_sem,hj',hwk]));repeat' first|(with_reducible first|exact tI|refine aI ?_ ?_|intro _|refine AJ ?_ ?_<;>intro _<;>try simp -implicitDefEqProofs only[go_sem,hj',hwk])|simp (disch:=omega) only[Ad]|((with_reducible refine Ca ?_);refine⟨(_,_),rfl,?_,?_⟩)|((with_reducible refine Ca ?_);refine⟨_,rfl,?_,?_⟩)
       all_goals first|omega|(simp<;>omega)|skip
       all_goals exact⟨k+1,rfl,hkr,by omega⟩
    ·have hk':¬(k:Int)<(rs.length:Int):=by omega
     have hke:k=rs.length:=by omega
     subst hke
     (try (simp -implicitDefEqProofs only[go_sem,hk',hvl]));repeat' first|(with_reducible first|exact tI|refine aI ?_ ?_|intro _|refine AJ ?_ ?_<;>intro _<;>try simp -implicitDefEqProofs only[go_sem,hk',hvl])|simp (disch:=omega) only[Ad]|((with_reducible first|apply Ae|apply Ab);exact rfl)
     all_goals first|omega|(simp<;>omega)|skip
     refine AU (α:=Nat×Bool) (l0:=?l3) (m0:=?m3) (fun x=>[(78,.d (.int .i64 (x.1:Int)))]) (fun x=>[(86,.row 3 1 x.2 (Aa ((OM (VB c rs)).take x.1)))]) (fun x=>x.1<=c.syms/\x.2=decide (x.1=0)) (fun x=>c.syms-x.1) (0,true) ?h03 ?he3 ?he23 ?hI3 ?step3
     case h03=>(simp -implicitDefEqProofs only[go_sem];rfl)
     case he3=>rfl
     case he23=>rfl
     case' step3=>(rintro⟨i,f⟩ hI3;try dsimp only at hI3)
     case' hI3=>try dsimp only
     ·exact⟨Nat.zero_le _,rfl⟩
     ·obtain⟨i1,i2⟩:=hI3
      change f=decide (i=0) at i2
      by_cases hi:i<c.syms
      ·have hi':(i:Int)<((c.syms:Nat):Int):=by omega
       have hwi:IntKind.i64.wrap ((i:Int)+1)=((i+1:Nat):Int):=by rw[AZ _ (by omega)];omega
       have hgv:=Qg (Qc c rs rs.length) hi
       have cW:=My (Qc c rs rs.length i)
       rw[Tp] at hgv cW
       have hst:=fk c rs hi
       have hl32:((OM (VB c rs)).take i).length<=32:=by rw[List.length_take,Ez,NY];omega
       have hfe:false=decide (i+1=0):=by simp
       (try (simp -implicitDefEqProofs only[go_sem,hi',hwi,hvl,hi,hgv,hst]));repeat' first|(with_reducible first|exact tI|refine aI ?_ ?_|intro _)|((first|with_reducible refine AJ ?_ ?_<;>intro _|(with_reducible refine isCall ?_);first|refine AE cW ?_)<;>try (simp -implicitDefEqProofs only[go_sem,hi',hwi,hvl,hi,hgv,hst]))|simp (disch:=omega) only[Ad]|((with_reducible refine Ca ?_);refine⟨(_,_),rfl,?_,?_⟩)|((with_reducible refine Ca ?_);refine⟨_,rfl,?_,?_⟩)
       all_goals first|omega|(simp<;>omega)|skip
       all_goals exact⟨(i+1,false),rfl,⟨by show i+1<=c.syms;omega,hfe⟩,by show c.syms-(i+1)<c.syms-i;omega⟩
      ·have hi':¬(i:Int)<((c.syms:Nat):Int):=by omega
       have hie:i=c.syms:=by omega
       subst hie
       have htk:(OM (VB c rs)).take c.syms=OM (VB c rs):=List.take_of_length_le (by rw[Ez,NY];omega)
       have hf0:f=false:=by rw[i2];exact decide_eq_false (by omega)
       rw[htk,hf0]
       have cG:=G9 c hk (VB c rs) (NY c rs)
       (try (simp -implicitDefEqProofs only[go_sem,hi',hvl]));repeat' first|(with_reducible first|exact tI|refine aI ?_ ?_|intro _)|((first|with_reducible refine AJ ?_ ?_<;>intro _|(with_reducible refine isCall ?_);first|refine AE cG ?_)<;>try (simp -implicitDefEqProofs only[go_sem,hi',hvl]))|simp (disch:=omega) only[Ad]|((with_reducible first|apply Ae|apply Ab);exact rfl)
       all_goals first|omega|(simp<;>omega)|skip
       all_goals first|rfl|skip
end
def sA (f:Nat->Bool):Nat->Nat
 |0=>0
 |n+1=>sA f n+if f n then 1 else 0
def sS (f:Nat->Nat) (z:Nat):Nat->Nat
 |0=>z
 |n+1=>min (sS f z n) (f n)
def sH (f:Nat->Nat):Nat->Nat
 |0=>0
 |n+1=>sH f n+f n
def sk (c:AX) (a j t:Nat):Bool:=decide (j<=t) && (decide (a+t<c.mark.length) && decide (c.mark[a+t]?.getD 0≠c.mark[t]?.getD 0) || decide (c.tot<=a+t) && decide (c.mark[a+t-c.tot]?.getD 0≠c.mark[t]?.getD 0))
def wF (c:AX) (a j s y i:Nat):Bool:=decide (a+j<=c.mark.length+s*c.code.sz+i) && (decide (c.mark.length+s*c.code.sz+i<a+c.mark.length) && decide ((c.code.stm y)[i]?.getD 0≠c.mark[c.mark.length+s*c.code.sz+i-a]?.getD 0))
def r4 (c:AX) (a j s:Nat):Nat:=sS (fun y=>sA (wF c a j s y) c.code.sz) c.code.sz 16
def tA (c:AX) (a j:Nat):Nat:=sA (sk c a j) c.mark.length+sH (r4 c a j) c.syms
section
def FC (c:AX):AX:={ c with code:=FD c.code,nm:=false }
theorem R5 (c:AX):(FD c.code).stm=c.code.stm:=by
 funext s;unfold AW.stm;rw[Ph];rfl
theorem Y3 (c:AX) (m:Nat):Ib (FD c.code) m=Ib c.code m:=by unfold Ib;rw[R5]
theorem cz (c:AX):(FC c).ok=c.ok:=by
 unfold AX.ok FC
 simp only[lz,Y3]
theorem W5 (c:AX):DJ (FC c)=.agg [.int .i64 c.code.bits,.int .i64 c.code.out,.int .i64 c.code.least,.int .i64 c.code.most,.list c.code.words.isEmpty (Bv (FD c.code).words),.list c.code.next.isEmpty (Bv (FD c.code).next),.int .i64 c.L,.int .i64 c.P,.int .i64 c.Q,.list false (Aa c.mark),.int .i64 c.seed,.int .i64 c.errs]:=rfl
theorem mA (c:AW):FE (FD c)=.agg [.int .i64 c.bits,.int .i64 c.out,.int .i64 c.least,.int .i64 c.most,.list c.words.isEmpty (Bv (FD c).words),.list c.next.isEmpty (Bv (FD c).next)]:=rfl
theorem h_ {c:AX}(h:c.ok=true):Oq c=0:=(JC h).2
theorem ll {c:AX}(h:c.ok=false):Oq c=130:=(Hn h).2
attribute [local irreducible] IntKind.wrap Ai Option.getD and or
theorem RE (c:AX) (hf:c.code.far=false) (hm:c.mark.length<=1000):BR E0 OD [DJ c] (DJ (FC c)):=by
 have c1:=RG c.code hf
 rw[mA] at c1
 rw[W5]
 refine AM Rr Af (by simp) fun hwf=>?_
 rw[AQ];unfold Lz
 (try (simp -implicitDefEqProofs only[go_sem,AP,AO,Au,Aq]));repeat' first|(with_reducible first|exact tI|refine aI ?_ ?_|intro _)|((first|with_reducible refine AJ ?_ ?_<;>intro _|(with_reducible refine isCall ?_);first|refine AE c1 ?_)<;>try (simp -implicitDefEqProofs only[go_sem,AP,AO,Au,Aq]))|simp (disch:=omega) only[Ad]
 all_goals first|rfl|omega|(rename_i h;rw[h];rfl)|skip
end
end Go.Pw
