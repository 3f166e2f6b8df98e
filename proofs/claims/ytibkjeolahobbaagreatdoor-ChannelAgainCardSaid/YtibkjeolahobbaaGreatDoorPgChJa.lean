/- A part of the proof. -/
import Derived.Test.YtibkjeolahobbaaGreatDoorPgChM
import Derived.Test.YtibkjeolahobbaaGreatDoorPgChG
set_option linter.all false
open Go Go.Pw Go.Proofs
namespace Go.Pw
set_option maxRecDepth 100000
set_option maxHeartbeats 3200000
section
def Je (g:Nat->Nat):List Int:=(List.range 16).map fun s=>((g s:Nat):Int)
theorem Ms (g:Nat->Nat):(Je g).length=16:=by simp[Je]
theorem Gx (g:Nat->Nat) {s:Nat}(h:s<16):(Je g)[s]?=some ((g s:Nat):Int):=by simp[Je,h]
theorem Sj (g:Nat->Nat):Aj (Je g)=[.int .i64 (g 0:Nat),.int .i64 (g 1:Nat),.int .i64 (g 2:Nat),.int .i64 (g 3:Nat),.int .i64 (g 4:Nat),.int .i64 (g 5:Nat),.int .i64 (g 6:Nat),.int .i64 (g 7:Nat),.int .i64 (g 8:Nat),.int .i64 (g 9:Nat),.int .i64 (g 10:Nat),.int .i64 (g 11:Nat),.int .i64 (g 12:Nat),.int .i64 (g 13:Nat),.int .i64 (g 14:Nat),.int .i64 (g 15:Nat)]:=rfl
theorem nH (g:Nat->Nat) {x:Int}(h:x∈Je g):∃s,s<16/\x=((g s:Nat):Int):=by
 simp only[Je,List.mem_map,List.mem_range] at h
 obtain⟨s,h1,h2⟩:=h
 exact⟨s,h1,h2.symm⟩
def Mq (g:Nat->Nat):Option Nat:=(List.range 16).find? fun s=>decide (0<g s) && (List.range 16).all fun t=>decide (t=s\/g t<g s)
theorem au {g:Nat->Nat}{s:Nat}:((decide (0<g s) && (List.range 16).all fun t=>decide (t=s\/g t<g s))=true)↔(0<g s/\∀t,t<16->t=s\/g t<g s):=by
 simp only[Bool.and_eq_true,decide_eq_true_eq,List.all_eq_true,List.mem_range]
theorem av {g:Nat->Nat}{s:Nat}(hs:s<16) (h0:0<g s) (h:∀t,t<16->t=s\/g t<g s):Mq g=some s:=by
 cases hw:Mq g with
 |none =>
  unfold Mq at hw
  rw[List.find?_eq_none] at hw
  exact absurd (au.2 ⟨h0,h⟩) (hw s (by simpa using hs))
 |some u =>
  have h1:=List.mem_of_find?_eq_some hw
  have h2:(decide (0<g u) && (List.range 16).all fun t=>decide (t=u\/g t<g u))=true:=by
   unfold Mq at hw
   have h3:=List.find?_some hw
   exact h3
  have h2:=au.1 h2
  rw[List.mem_range] at h1
  rcases h2.2 s hs with e|e
  ·rw[e]
  ·rcases h u h1 with e'|e'
   ·rw[e']
   ·omega
theorem aw {g:Nat->Nat}(h:∀s,s<16->0<g s->∃t,t<16/\t≠s/\g s<=g t):Mq g=none:=by
 unfold Mq
 rw[List.find?_eq_none]
 intro s hs hp
 rw[List.mem_range] at hs
 obtain⟨h1,h2⟩:=au.1 hp
 obtain⟨t,t1,t2,t3⟩:=h s hs h1
 rcases h2 t t1 with e|e
 ·exact t2 e
 ·omega
def cy (xs:List Int):Nat->Int
 |0=>xs[0]?.getD 0
 |k+1=>max (cy xs k) (xs[k+1]?.getD 0)
theorem cx (xs:List Int):∀(n k:Nat),k<=n->xs[k]?.getD 0<=cy xs n
 |0,k,h=>by
    have:k=0:=by omega
    subst this;exact Int.le_refl _
 |n+1,k,h=>by
  unfold cy
  by_cases e:k=n+1
  ·subst e;omega
  ·have:=cx xs n k (by omega);omega
theorem YD (xs:List Int):∀n,∃k,k<=n/\cy xs n=xs[k]?.getD 0
 |0=>⟨0,Nat.le_refl _,rfl⟩
 |n+1=>by
  obtain⟨k,h1,h2⟩:=YD xs n
  unfold cy
  by_cases h:cy xs n<=xs[n+1]?.getD 0
  ·exact⟨n+1,Nat.le_refl _,by omega⟩
  ·exact⟨k,by omega,by omega⟩
theorem Ze {g:Nat->Nat}{m:Int}{f:Nat}(h:(Je g).findIdx? (fun x=>decide (m=x))=some f):f<16/\m=((g f:Nat):Int)/\∀t,t<f->m≠((g t:Nat):Int):=by
 rw[List.findIdx?_eq_some_iff_getElem] at h
 obtain⟨h1,h2,h3⟩:=h
 have hl:=Ms g
 have hg:∀t (ht:t<(Je g).length),(Je g)[t]=((g t:Nat):Int):=fun t ht=>by
  have:=Gx g (s:=t) (by omega)
  rw[List.getElem?_eq_getElem ht] at this
  exact Option.some.inj this
 refine⟨by omega,by rw[hg] at h2;simpa using h2,fun t ht=>?_⟩
 have:=h3 t ht
 rw[hg] at this
 simpa using this
attribute [local congr] Bh A7 A8 Au Bi Az A1 A0 Ar Ai Ab AZ Aw Ad Ax BF BJ BH BI BG BK BC Ag Ay Ah BA BS Af BD BE BB A_ A' A6 Bj A9 Av Ae
attribute [local irreducible] IntKind.wrap A5 Option.getD and or
theorem QB (nl:Bool) (xs:List Int) (h0:0<xs.length) (hl:xs.length<=1000):CI E0 Ga [.list nl (Aj xs)] (.int .i64 (cy xs (xs.length-1))):=by
 have hne:¬(xs.length:Int)<1:=by omega
 have hz:0<xs.length:=h0
 refine AK JS Aq (by simp) fun hwf=>?_
 rw[AW];unfold F0
 (try (simp -implicitDefEqProofs only[go_sem,hne,hz]));repeat' first|(with_reducible first|exact tI|refine aI ?_ ?_|intro _)|((first|with_reducible refine AM ?_ ?_<;>intro _)<;>try (simp -implicitDefEqProofs only[go_sem,hne,hz]))|simp (disch:=omega) only[An]|((with_reducible refine BZ ?_);refine⟨(_,_,_),rfl,?_,?_⟩)
 all_goals first|omega|(simp;done)|(simp;omega)|skip
 refine AY (α:=Nat×Int×Int) (l0:=?l1) (m0:=?m1) (fun x=>[(4,.d (.int .i64 x.2.1)),(3,.d (.int .i64 x.2.2))]) (fun x=>[]) (fun x=>x.1+1<=xs.length/\x.2.1=((x.1+1:Nat):Int)/\x.2.2=cy xs x.1) (fun x=>xs.length-x.1) (0,1,(xs[0]?.getD 0)) ?h01 ?he1 ?he21 ?hI1 ?step1
 case h01=>(simp -implicitDefEqProofs only[go_sem];rfl)
 case he1=>rfl
 case he21=>rfl
 case' step1=>(rintro⟨k,i,m⟩ hI;try dsimp only at hI)
 case' hI1=>try dsimp only
 ·exact⟨by omega,rfl,rfl⟩
 ·obtain⟨k1,k2,k3⟩:=hI
  change i=((k+1:Nat):Int) at k2
  change m=cy xs k at k3
  subst k2
  by_cases hk:k+1<xs.length
  ·have hk':((k+1:Nat):Int)<(xs.length:Int):=by omega
   have hwk:IntKind.i64.wrap (((k+1:Nat):Int)+1)=((k+1+1:Nat):Int):=by rw[Ak _ (by omega)];omega
   have hmm:max m (xs[k+1]?.getD 0)=cy xs (k+1):=by rw[k3];rfl
   (try (simp -implicitDefEqProofs only[go_sem,hk',hk,hwk,hmm]));repeat' first|(with_reducible first|exact tI|refine aI ?_ ?_|intro _)|((first|with_reducible refine AM ?_ ?_<;>intro _)<;>try (simp -implicitDefEqProofs only[go_sem,hk',hk,hwk,hmm]))|simp (disch:=omega) only[An]|((with_reducible refine BZ ?_);refine⟨(_,_,_),rfl,?_,?_⟩)
   all_goals first|omega|(simp;done)|(simp;omega)|skip
   all_goals exact⟨(k+1,_,_),rfl,⟨by show k+1+1<=xs.length;omega,rfl,rfl⟩,by show xs.length-(k+1)<xs.length-k;omega⟩
  ·have hk':¬((k+1:Nat):Int)<(xs.length:Int):=by omega
   have hke:k=xs.length-1:=by omega
   rw[←hke,←k3]
   (try (simp -implicitDefEqProofs only[go_sem,hk']));repeat' first|(with_reducible first|exact tI|refine aI ?_ ?_|intro _)|((first|with_reducible refine AM ?_ ?_<;>intro _)<;>try (simp -implicitDefEqProofs only[go_sem,hk']))|simp (disch:=omega) only[An]|((with_reducible refine BZ ?_);refine⟨(_,_,_),rfl,?_,?_⟩)
   all_goals first|omega|(simp;done)|(simp;omega)|skip
   all_goals first|rfl|skip
theorem N_ (nl:Bool) (xs:List Int) (n:Int) {f:Nat}(hf:xs.findIdx? (fun x=>decide (n=x))=some f):CI E0 D1 [.list nl (Aj xs),.int .i64 n] (.int .i64 (f:Int)):=by
 rw[List.findIdx?_eq_some_iff_getElem] at hf
 obtain⟨f1,f2,f3⟩:=hf
 have f2':n=xs[f]?.getD 0:=by rw[List.getElem?_eq_getElem f1,Option.getD_some];simpa using f2
 have f3':∀j,j<f->n≠xs[j]?.getD 0:=fun j hj=>by rw[List.getElem?_eq_getElem (by omega),Option.getD_some];simpa using f3 j hj
 refine AK E8 Aq (by simp) fun hwf=>?_
 simp only[Dx,DK,DJ,C0,EH,EG,Fz,EF,Bk,Bv,Bw,DM,B9,List.length_map,B5,true_and,and_true] at hwf
 rw[AW];unfold Dl
 (try (simp -implicitDefEqProofs only[go_sem]));repeat' first|(with_reducible first|exact tI|refine aI ?_ ?_|intro _)|((first|with_reducible refine AM ?_ ?_<;>intro _)<;>try (simp -implicitDefEqProofs only[go_sem]))|simp (disch:=omega) only[An]|((with_reducible refine Ao ?_);refine⟨_,rfl,?_,?_⟩)
 refine AY (α:=Nat) (l0:=?l2) (m0:=?m2) (fun x=>[(8,.d (.int .i64 (x:Int)))]) (fun x=>[]) (fun x=>x<=f) (fun x=>f-x) 0 ?h02 ?he2 ?he22 ?hI2 ?step2
 case h02=>(simp -implicitDefEqProofs only[go_sem];rfl)
 case he2=>rfl
 case he22=>rfl
 case' step2=>(rintro i hI;try dsimp only at hI)
 case' hI2=>try dsimp only
 ·exact Nat.zero_le _
 ·have h:i<xs.length:=by omega
  have h':(i:Int)<(xs.length:Int):=by omega
  have hw:IntKind.i64.wrap ((i:Int)+1)=((i+1:Nat):Int):=by rw[Ak _ (by omega)];omega
  by_cases hb:i=f
  ·subst hb
   (try (simp -implicitDefEqProofs only[go_sem,h',h,hw,f2'.symm]));repeat' first|(with_reducible first|exact tI|refine aI ?_ ?_|intro _)|((first|with_reducible refine AM ?_ ?_<;>intro _)<;>try (simp -implicitDefEqProofs only[go_sem,h',h,hw,f2'.symm]))|simp (disch:=omega) only[An]|((with_reducible refine Ao ?_);refine⟨_,rfl,?_,?_⟩)
   all_goals first|omega|(simp;done)|(simp;omega)|skip
   all_goals first|rfl|(exfalso;rename_i hh;exact hh f2')|(exfalso;rename_i hh;exact hh f2'.symm)|skip
  ·have hn:=f3' i (by omega)
   have hn2:¬xs[i]?.getD 0=n:=fun e=>hn e.symm
   (try (simp -implicitDefEqProofs only[go_sem,h',h,hw,hn,hn2]));repeat' first|(with_reducible first|exact tI|refine aI ?_ ?_|intro _)|((first|with_reducible refine AM ?_ ?_<;>intro _)<;>try (simp -implicitDefEqProofs only[go_sem,h',h,hw,hn,hn2]))|simp (disch:=omega) only[An]|((with_reducible refine Ao ?_);refine⟨_,rfl,?_,?_⟩)
   all_goals first|omega|(simp;done)|(simp;omega)|skip
   all_goals skip
theorem Mj (g:Nat->Nat):CI E0 Ft [.agg (Aj (Je g))] (.int .i64 (RS (Mq g))):=by
  have hl:=Ms g
  have e16:=Sj g
  obtain⟨k0,k1,k2⟩:=YD (Je g) 15
  have hge:=fun t (ht:t<16)=>cx (Je g) 15 t (by omega)
  have hgv:∀t,t<16->(Je g)[t]?.getD 0=((g t:Nat):Int):=fun t ht=>by rw[Gx g ht,Option.getD_some]
  have c1:=QB false (Je g) (by omega) (by omega)
  rw[hl] at c1
  obtain⟨m,hm⟩:∃m,cy (Je g) (16-1)=m:=⟨_,rfl⟩
  rw[show (15:Nat)=16-1 from rfl,hm] at k2 hge
  rw[hm] at c1
  rw[hgv k0 (by omega)] at k2
  obtain⟨f,hf⟩:∃f,(Je g).findIdx? (fun x=>decide (m=x))=some f:=by
    cases h:(Je g).findIdx? (fun x=>decide (m=x)) with
    |some f=>exact⟨f,rfl⟩
    |none =>
      rw[List.findIdx?_eq_none_iff] at h
      have:=h m (by rw[k2];simp only[Je,List.mem_map,List.mem_range];exact⟨k0,by omega,rfl⟩)
      simp at this
  have c2:=N_ false (Je g) m hf
  obtain⟨f1,f2,f3⟩:=Ze hf
  have hlg:∀t,t<16->([.int .i64 (g 0:Nat),.int .i64 (g 1:Nat),.int .i64 (g 2:Nat),.int .i64 (g 3:Nat),.int .i64 (g 4:Nat),.int .i64 (g 5:Nat),.int .i64 (g 6:Nat),.int .i64 (g 7:Nat),.int .i64 (g 8:Nat),.int .i64 (g 9:Nat),.int .i64 (g 10:Nat),.int .i64 (g 11:Nat),.int .i64 (g 12:Nat),.int .i64 (g 13:Nat),.int .i64 (g 14:Nat),.int .i64 (g 15:Nat)]:List D)[t]?=some (.int .i64 ((g t:Nat):Int)):=fun t ht=>by
    rw[←Sj]
    simp only[Aj,List.getElem?_map,Gx g ht,Option.map_some]
  have hmx:∀t,t<16->((g t:Nat):Int)<=m:=fun t ht=>by rw[←hgv t ht];exact hge t ht
  rw[e16] at c1 c2 ⊢
  refine AK IJ Aq (by simp) fun hwf=>?_
  rw[AW];unfold FL
  (try (simp -implicitDefEqProofs only[go_sem]));repeat' first|(with_reducible first|exact tI|refine aI ?_ ?_|intro _)|((first|with_reducible refine AM ?_ ?_<;>intro _|(with_reducible refine isCall ?_);first|refine AE c1 ?_|refine AE c2 ?_)<;>try (simp -implicitDefEqProofs only[go_sem]))|simp (disch:=omega) only[An]|((with_reducible refine Ao ?_);refine⟨_,rfl,?_,?_⟩)
  all_goals first|omega|(simp;done)|(simp;omega)|skip
  refine AY (α:=Nat) (l0:=?l3) (m0:=?m3) (fun x=>[(5,.d (.int .i64 (x:Int)))]) (fun x=>[]) (fun x=>f<=x/\x<=15/\∀t,x<t->t<16->((g t:Nat):Int)≠m) (fun x=>x) 15 ?h03 ?he3 ?he23 ?hI3 ?step3
  case h03=>(simp -implicitDefEqProofs only[go_sem];rfl)
  case he3=>rfl
  case he23=>rfl
  case' step3=>(rintro l hI;try dsimp only at hI)
  case' hI3=>try dsimp only
  · exact⟨by omega,Nat.le_refl _,fun t h1 h2=>by omega⟩
  · obtain⟨l1,l2,l3⟩:=hI
    have hl':(l:Int)<16:=by omega
    have hgl:=hlg l (by omega)
    by_cases hv:((g l:Nat):Int)=m
    · by_cases hm0:m=0
      · have hw:Mq g=none:=aw fun s hs h0=>by have:=hmx s hs;omega
        rw[hw]
        (try (simp -implicitDefEqProofs only[go_sem,hl',hgl,hv,hm0]));repeat' first|(with_reducible first|exact tI|refine aI ?_ ?_|intro _)|((first|with_reducible refine AM ?_ ?_<;>intro _)<;>try (simp -implicitDefEqProofs only[go_sem,hl',hgl,hv,hm0]))|simp (disch:=omega) only[An]|((with_reducible refine Ao ?_);refine⟨_,rfl,?_,?_⟩)
        all_goals first|omega|(simp;done)|(simp;omega)|skip
        all_goals first|rfl|skip
      · by_cases hfl:f=l
        · subst hfl
          have hw:Mq g=some f:=av f1 (by omega) fun t ht=>by
            by_cases e:t=f
            · exact .inl e
            · right
              have h1:=hmx t ht
              rcases Nat.lt_or_gt_of_ne e with h|h
              · have:=f3 t h;omega
              · have:=l3 t h ht;omega
          rw[hw]
          (try (simp -implicitDefEqProofs only[go_sem,hl',hgl,hv,hm0]));repeat' first|(with_reducible first|exact tI|refine aI ?_ ?_|intro _)|((first|with_reducible refine AM ?_ ?_<;>intro _)<;>try (simp -implicitDefEqProofs only[go_sem,hl',hgl,hv,hm0]))|simp (disch:=omega) only[An]|((with_reducible refine Ao ?_);refine⟨_,rfl,?_,?_⟩)
          all_goals first|omega|(simp;done)|(simp;omega)|skip
          all_goals first|rfl|skip
        · have hw:Mq g=none:=aw fun s hs h0=>by
            have h1:=hmx s hs
            by_cases e:s=f
            · exact⟨l,by omega,by omega,by omega⟩
            · exact⟨f,f1,fun e'=>e e'.symm,by omega⟩
          have hfl':¬(f:Int)=(l:Int):=by omega
          rw[hw]
          (try (simp -implicitDefEqProofs only[go_sem,hl',hgl,hv,hm0,hfl']));repeat' first|(with_reducible first|exact tI|refine aI ?_ ?_|intro _)|((first|with_reducible refine AM ?_ ?_<;>intro _)<;>try (simp -implicitDefEqProofs only[go_sem,hl',hgl,hv,hm0,hfl']))|simp (disch:=omega) only[An]|((with_reducible refine Ao ?_);refine⟨_,rfl,?_,?_⟩)
          all_goals first|omega|(simp;done)|(simp;omega)|skip
          all_goals first|rfl|skip
    · have hlf:f≠l:=fun e=>hv (by rw[←e];exact f2.symm)
      have hwl:IntKind.i64.wrap ((l:Int)-1)=((l-1:Nat):Int):=by rw[Ak _ (by omega)];omega
      (try (simp -implicitDefEqProofs only[go_sem,hl',hgl,hv,hwl]));repeat' first|(with_reducible first|exact tI|refine aI ?_ ?_|intro _)|((first|with_reducible refine AM ?_ ?_<;>intro _)<;>try (simp -implicitDefEqProofs only[go_sem,hl',hgl,hv,hwl]))|simp (disch:=omega) only[An]|((with_reducible refine Ao ?_);refine⟨_,rfl,?_,?_⟩)
      all_goals first|omega|(simp;done)|(simp;omega)|skip
      all_goals first
        |(
           rename_i t h1 h2
           by_cases e:t=l
           · rw[e];exact hv
           · exact l3 t (by have:l-1<t:=h1;omega) h2)
        |skip
end
section
def vD (n:Nat) (f:Nat->Nat->Nat):List D:=(List.range n).map fun i=>.agg (Aj (Je (f i)))
theorem Px (n:Nat) (f:Nat->Nat->Nat):(vD n f).length=n:=by simp[vD]
theorem Py {n:Nat}(f:Nat->Nat->Nat) {i:Nat}(h:i<n):(vD n f)[i]?=some (.agg (Aj (Je (f i)))):=by simp[vD,h]
theorem Pz {n:Nat}{f g:Nat->Nat->Nat}(h:∀i,i<n->∀s,s<16->f i s=g i s):vD n f=vD n g:=by
 unfold vD
 refine List.map_congr_left fun i hi=>?_
 rw[List.mem_range] at hi
 have:Je (f i)=Je (g i):=by
  unfold Je
  refine List.map_congr_left fun s hs=>?_
  rw[List.mem_range] at hs
  rw[h i hi s hs]
 rw[this]
theorem fV (n:Nat):List.replicate n (.agg [.int .i64 0,.int .i64 0,.int .i64 0,.int .i64 0,.int .i64 0,.int .i64 0,.int .i64 0,.int .i64 0,.int .i64 0,.int .i64 0,.int .i64 0,.int .i64 0,.int .i64 0,.int .i64 0,.int .i64 0,.int .i64 0])=vD n fun _ _=>0:=by
 unfold vD
 rw[List.map_const',List.length_range];rfl
theorem jw {n:Nat}{f f':Nat->Nat->Nat}{i s:Nat}(hi:i<n) (hs:s<16) (h1:f' i s=f i s+1) (h2:∀j t,¬(j=i/\t=s)->f' j t=f j t) :
  (vD n f).set i (.agg (Aj ((Je (f i)).take s++[((f i s:Nat):Int)+1]++(Je (f i)).drop (s+1))))=vD n f':=by
 have hv:(Je (f i)).take s++[((f i s:Nat):Int)+1]++(Je (f i)).drop (s+1)=Je (f' i):=by
  apply List.ext_getElem?
  intro t
  have hl:=Ms (f i)
  rw[List.append_assoc]
  rcases Nat.lt_trichotomy t s with h|h|h
  ·rw[List.getElem?_append_left (by rw[List.length_take];omega),List.getElem?_take,if_pos h,Gx _ (by omega),Gx _ (by omega),h2 i t (by omega)]
  ·subst h
   rw[List.getElem?_append_right (by rw[List.length_take];omega),List.length_take,Gx _ hs,h1,show t-min t (Je (f i)).length=0 by omega]
   simp
  ·by_cases ht:t<16
   ·rw[List.getElem?_append_right (by rw[List.length_take];omega),List.length_take,List.getElem?_append_right (by simp;omega),List.getElem?_drop,show s+1+(t-min s (Je (f i)).length-[((f i s:Nat):Int)+1].length)=t by simp;omega,Gx _ ht,Gx _ ht,h2 i t (by omega)]
   ·rw[List.getElem?_eq_none (by simp[hl];omega),List.getElem?_eq_none (by rw[Ms];omega)]
 rw[hv]
 apply List.ext_getElem?
 intro j
 rw[List.getElem?_set,Px]
 by_cases e:i=j
 ·subst e
  rw[if_pos rfl,if_pos hi,Py _ hi]
 ·rw[if_neg e]
  by_cases hj:j<n
  ·rw[Py _ hj,Py _ hj]
   have:Je (f j)=Je (f' j):=by
    unfold Je
    refine List.map_congr_left fun t _=>?_
    rw[h2 j t (by omega)]
   rw[this]
  ·rw[List.getElem?_eq_none (by rw[Px];omega),List.getElem?_eq_none (by rw[Px];omega)]
def Gg (c:AX) (bits:List Int) (i:Nat):Option Nat:=match c.find bits with
 |some a=>(c.syL bits a)[i]?.getD none
 |none=>none
theorem bM {c:AX}{bits:List Int}{a:Nat}:∀i,i<(c.syL bits a).length->∀s,(c.syL bits a)[i]?.getD none=some s->s<16:=fun i hi s hs=>by
 rw[LT] at hi
 simp[AX.syL,hi] at hs
 exact(G7 hs).1
theorem Xt {c:AX}{bits:List Int}{i s:Nat}(h:Gg c bits i=some s):s<16:=by
 unfold Gg at h
 split at h
 ·rename_i a _
  by_cases hi:i<(c.syL bits a).length
  ·exact bM i hi s h
  ·rw[List.getElem?_eq_none (by omega)] at h;cases h
 ·cases h
def RJ (c:AX) (rs:List (List Int)):Nat->Nat->Nat->Nat
 |0,_,_=>0
 |k+1,i,s=>RJ c rs k i s+if Gg c (rs[k]?.getD []) i=some s then 1 else 0
theorem a7 (c:AX) (rs:List (List Int)):∀k i s,RJ c rs k i s<=k
 |0,_,_=>Nat.le_refl _
 |k+1,i,s=>by have:=a7 c rs k i s;unfold RJ;split<;>omega
def N5 (c:AX) (rs:List (List Int)) (k j:Nat):Nat->Nat->Nat:=fun i s=>RJ c rs k i s+if i<j/\Gg c (rs[k]?.getD []) i=some s then 1 else 0
theorem l8 (c:AX) (rs:List (List Int)) (k n:Nat):vD n (N5 c rs k 0)=vD n (RJ c rs k):=Pz fun i _ s _=>by unfold N5;rw[if_neg (by omega),Nat.add_zero]
theorem fT (c:AX) (rs:List (List Int)) (k n m:Nat) (h:∀i,m<=i->i<n->Gg c (rs[k]?.getD []) i=none):vD n (N5 c rs k m)=vD n (RJ c rs (k+1)):=Pz fun i hi s _=>by
 show _=RJ c rs k i s+if Gg c (rs[k]?.getD []) i=some s then 1 else 0
 unfold N5
 by_cases hm:i<m
 ·by_cases hs:Gg c (rs[k]?.getD []) i=some s
  ·rw[if_pos ⟨hm,hs⟩,if_pos hs]
  ·rw[if_neg fun hh=>hs hh.2,if_neg hs]
 ·rw[if_neg fun hh=>hm hh.1,if_neg (by rw[h i (by omega) hi];exact fun e=>by cases e)]
theorem jv {c:AX}{rs:List (List Int)}{k j n:Nat}(h:Gg c (rs[k]?.getD []) j=none):vD n (N5 c rs k (j+1))=vD n (N5 c rs k j):=Pz fun i hi s _=>by
 unfold N5
 by_cases e:i=j
 ·subst e
  have n1:¬(i<i+1/\Gg c (rs[k]?.getD []) i=some s):=fun hh=>by rw[h] at hh;cases hh.2
  have n2:¬(i<i/\Gg c (rs[k]?.getD []) i=some s):=fun hh=>by omega
  rw[if_neg n1,if_neg n2]
 ·by_cases hs:i<j/\Gg c (rs[k]?.getD []) i=some s
  ·rw[if_pos ⟨by omega,hs.2⟩,if_pos hs]
  ·rw[if_neg fun hh=>hs ⟨by omega,hh.2⟩,if_neg hs]
theorem T4 (c:AX) (rs:List (List Int)) (k j s:Nat):N5 c rs k j j s=RJ c rs k j s:=by unfold N5;rw[if_neg (by omega)];rfl
theorem fS {c:AX}{rs:List (List Int)}{k j n x:Nat}(hj:j<n) (h:Gg c (rs[k]?.getD []) j=some x) :
  (vD n (N5 c rs k j)).set j (.agg (Aj ((Je (N5 c rs k j j)).take x++[((N5 c rs k j j x:Nat):Int)+1]++(Je (N5 c rs k j j)).drop (x+1))))=vD n (N5 c rs k (j+1)):=by
 refine jw hj (Xt h) ?_ fun i t hne=>?_
 ·rw[T4];unfold N5;rw[if_pos ⟨by omega,h⟩]
 ·unfold N5
  by_cases e:i=j
  ·subst e
   have n1:¬(i<i+1/\Gg c (rs[k]?.getD []) i=some t):=fun hh=>by rw[h] at hh;exact hne ⟨rfl,(Option.some.inj hh.2).symm⟩
   have n2:¬(i<i/\Gg c (rs[k]?.getD []) i=some t):=fun hh=>by omega
   rw[if_neg n1,if_neg n2]
  ·by_cases hs:i<j/\Gg c (rs[k]?.getD []) i=some t
   ·rw[if_pos ⟨by omega,hs.2⟩,if_pos hs]
   ·rw[if_neg fun hh=>hs ⟨by omega,hh.2⟩,if_neg hs]
def U9 (c:AX) (rs:List (List Int)):List (Option Nat):=(List.range c.syms).map fun i=>Mq (RJ c rs rs.length i)
theorem LZ (c:AX) (rs:List (List Int)):(U9 c rs).length=c.syms:=by simp[U9]
theorem dQ (c:AX) (rs:List (List Int)) {i:Nat}(h:i<c.syms):(N1 (U9 c rs)).take i++[RS (Mq (RJ c rs rs.length i))]=(N1 (U9 c rs)).take (i+1):=by
 rw[List.take_add_one,List.getElem?_eq_getElem (by rw[FV,LZ];exact h)]
 simp[N1,U9]
noncomputable def ne (c:AX) (rs:List (List Int)):Int:=if c.ok=true then if 1<=rs.length/\rs.length<=6 then if rs.all Gh=true then Zg c (U9 c rs) else 131 else 1 else 130
noncomputable def nM (c:AX) (rs:List (List Int)):List Int:=if c.ok=true then if 1<=rs.length/\rs.length<=6 then if rs.all Gh=true then af c (U9 c rs) else [] else [] else []
noncomputable def lC (c:AX) (rs:List (List Int)):D:=.tup [.list (nM c rs).isEmpty (Aj (nM c rs)),.int .i64 (ne c rs)]
theorem Vj:Bp E0.P Du=true:=by kernel_rfl
theorem fB {rs:List (List Int)}(h:rs.findIdx? (fun r=>!Gh r)=none):rs.all Gh=true:=by
 rw[List.findIdx?_eq_none_iff] at h
 rw[List.all_eq_true]
 intro x hx
 have:=h x hx
 simpa using this
theorem fA {rs:List (List Int)}{i:Nat}(h:rs.findIdx? (fun r=>!Gh r)=some i):rs.all Gh=false:=by
 rw[List.findIdx?_eq_some_iff_getElem] at h
 cases ha:rs.all Gh with
 |false=>rfl
 |true =>
  rw[List.all_eq_true] at ha
  have h2:=h.2.1
  rw[ha _ (List.getElem_mem h.1)] at h2
  cases h2
theorem eE (c:AX) (bits:List Int):∃(a:Int) (nl2:Bool) (sgs:List Int) (b:Bool),H3 c bits=.tup [.int .i64 a,.list nl2 (Aj sgs),.bool b]/\sgs.length<=c.syms/\(∀j,j<sgs.length->sgs[j]?.getD 0=RS (Gg c bits j))/\∀j,sgs.length<=j->j<c.syms->Gg c bits j=none:=by
 unfold H3 Gg
 cases c.find bits with
 |none=>exact⟨0,true,[],false,rfl,by simp,fun j hj=>by simp at hj,fun _ _ _=>rfl⟩
 |some a =>
  have hl:=LT c bits a
  refine⟨a,false,N1 (c.syL bits a),true,rfl,by rw[FV,hl];exact Nat.le_refl _,fun j hj=>?_,fun j h1 h2=>?_⟩
  ·rw[FV] at hj
   simp[N1,hj]
  ·rw[FV,hl] at h1;omega
theorem gB (s:Nat):RS (some s)=(s:Int):=rfl
theorem gA:RS none=-1:=rfl
attribute [local congr] Bh A7 A8 Au Bi Az A1 A0 Ar Ai Ab AZ Aw Ad Ax BF BJ BH BI BG BK BC Ag Ay Ah BA BS Af BD BE BB A_ A' A6 Bj A9 Av Ae
attribute [local irreducible] IntKind.wrap A5 Option.getD and or
theorem Mk (r:List Int):CI E0 Du [.list false (Aj r)] (.bool (!Gh r)):=by
 have c1:=Gv false r
 obtain⟨b,hb⟩:∃b,Gh r=b:=⟨_,rfl⟩
 rw[hb] at c1 ⊢
 refine AK MZ Aq (by simp) fun hwf=>?_
 rw[AW];unfold Hx
 cases b <;>
 ·(try (simp -implicitDefEqProofs only[go_sem]));repeat' first|(with_reducible first|exact tI|refine aI ?_ ?_|intro _)|((first|with_reducible refine AM ?_ ?_<;>intro _|(with_reducible refine isCall ?_);first|refine AE c1 ?_)<;>try (simp -implicitDefEqProofs only[go_sem]))|simp (disch:=omega) only[An]
  all_goals first|rfl|skip
theorem KI (rs:List (List Int)) (hlen:rs.length<=1000):CI E0 DH [.list false (V4 rs),.fn Du []] (.bool (!rs.all Gh)):=by
 have c1:=HY rs hlen Du [] (fun r=>!Gh r) Vj rfl fun x _=>Mk x
 refine AK Ev Aq (by simp) fun hwf=>?_
 rw[AW];unfold C6
 cases hf:rs.findIdx? (fun r=>!Gh r) with
 |none =>
  rw[hf] at c1
  rw[fB hf]
  (try (simp -implicitDefEqProofs only[go_sem]));repeat' first|(with_reducible first|exact tI|refine aI ?_ ?_|intro _)|((first|with_reducible refine AM ?_ ?_<;>intro _|(with_reducible refine isCall ?_);first|refine AE c1 ?_)<;>try (simp -implicitDefEqProofs only[go_sem]))|simp (disch:=omega) only[An]
  all_goals first|rfl|skip
 |some k =>
  rw[hf] at c1
  rw[fA hf]
  have h0:(0:Int)<=(k:Int):=by omega
  (try (simp -implicitDefEqProofs only[go_sem,h0]));repeat' first|(with_reducible first|exact tI|refine aI ?_ ?_|intro _)|((first|with_reducible refine AM ?_ ?_<;>intro _|(with_reducible refine isCall ?_);first|refine AE c1 ?_)<;>try (simp -implicitDefEqProofs only[go_sem,h0]))|simp (disch:=omega) only[An]
  all_goals first|rfl|skip
theorem Ok (c:AX) (rs:List (List Int)):CI E0 LO [Fj c,.list rs.isEmpty (V4 rs)] (lC c rs):=by
 have c1:=Eh c
 obtain⟨r,hr⟩:∃r,fN c=r:=⟨_,rfl⟩
 rw[hr] at c1
 refine AK Oe Aq (by simp) fun hwf=>?_
 rw[AW];unfold Jv lC nM ne
 rcases hok:c.ok with _|_
 ·have:=H_ hok
  rw[hr] at this
  rw[this.1,this.2] at c1
  simp only[Bool.false_eq_true,if_false]
  (try (simp -implicitDefEqProofs only[go_sem,AO,AN]));repeat' first|(with_reducible first|exact tI|refine aI ?_ ?_|intro _)|((first|with_reducible refine AM ?_ ?_<;>intro _|(with_reducible refine isCall ?_);first|refine AE c1 ?_)<;>try (simp -implicitDefEqProofs only[go_sem,AO,AN]))|simp (disch:=omega) only[An]|((with_reducible refine Am ?_);refine⟨(_,_),rfl,?_,?_⟩)|((with_reducible refine Ao ?_);refine⟨_,rfl,?_,?_⟩)
  all_goals first|rfl|skip
 ·have:=JN hok
  have hk:=FD hok
  rw[hr] at this
  rw[this.1,this.2] at c1
  simp only[if_true]
  by_cases h1:rs.length<1
  ·have h1':(rs.length:Int)<1:=by omega
   have hc:¬(1<=rs.length/\rs.length<=6):=by omega
   rw[if_neg hc,if_neg hc]
   (try (simp -implicitDefEqProofs only[go_sem,AO,AN,h1']));repeat' first|(with_reducible first|exact tI|refine aI ?_ ?_|intro _)|((first|with_reducible refine AM ?_ ?_<;>intro _|(with_reducible refine isCall ?_);first|refine AE c1 ?_)<;>try (simp -implicitDefEqProofs only[go_sem,AO,AN,h1']))|simp (disch:=omega) only[An]|((with_reducible refine Am ?_);refine⟨(_,_),rfl,?_,?_⟩)|((with_reducible refine Ao ?_);refine⟨_,rfl,?_,?_⟩)
   all_goals first|rfl|skip
  by_cases h6:6<rs.length
  ·have h1':¬(rs.length:Int)<1:=by omega
   have h6':6<(rs.length:Int):=by omega
   have hc:¬(1<=rs.length/\rs.length<=6):=by omega
   rw[if_neg hc,if_neg hc]
   (try (simp -implicitDefEqProofs only[go_sem,AO,AN,h1',h6']));repeat' first|(with_reducible first|exact tI|refine aI ?_ ?_|intro _)|((first|with_reducible refine AM ?_ ?_<;>intro _|(with_reducible refine isCall ?_);first|refine AE c1 ?_)<;>try (simp -implicitDefEqProofs only[go_sem,AO,AN,h1',h6']))|simp (disch:=omega) only[An]|((with_reducible refine Am ?_);refine⟨(_,_),rfl,?_,?_⟩)|((with_reducible refine Ao ?_);refine⟨_,rfl,?_,?_⟩)
   all_goals first|rfl|skip
  have h1':¬(rs.length:Int)<1:=by omega
  have h6':¬6<(rs.length:Int):=by omega
  have hc:1<=rs.length/\rs.length<=6:=by omega
  rw[if_pos hc,if_pos hc]
  have hre:rs.isEmpty=false:=by cases rs with
   |nil=>simp at h1
   |cons _ _=>rfl
  rw[hre]
  have c2:=KI rs (by omega)
  cases ha:rs.all Gh with
  |false =>
   rw[ha] at c2
   simp only[Bool.not_false,Bool.false_eq_true,if_false] at c2 ⊢
   (try (simp -implicitDefEqProofs only[go_sem,AO,AN,h1',h6']));repeat' first|(with_reducible first|exact tI|refine aI ?_ ?_|intro _)|((first|with_reducible refine AM ?_ ?_<;>intro _|(with_reducible refine isCall ?_);first|refine AE c1 ?_|refine AE c2 ?_)<;>try (simp -implicitDefEqProofs only[go_sem,AO,AN,h1',h6']))|simp (disch:=omega) only[An]|((with_reducible refine Am ?_);refine⟨(_,_),rfl,?_,?_⟩)|((with_reducible refine Ao ?_);refine⟨_,rfl,?_,?_⟩)
   all_goals first|rfl|skip
  |true =>
   rw[ha] at c2
   simp only[Bool.not_true,if_true] at c2 ⊢
   have hrd:∀k,k<rs.length->Gh (rs[k]?.getD [])=true:=fun k hk=>by
    rw[List.all_eq_true] at ha
    exact ha _ (by rw[List.getElem?_eq_getElem hk,Option.getD_some];exact List.getElem_mem hk)
   have cS:=Ew c (Fx c.code) hk.wev
   have hs:=hk.syms
   rw[hs.2.2] at cS
   have hsy:((c.syms:Nat):Int)<=1073741824:=by omega
   have hzr:=fV c.syms
   (try (simp -implicitDefEqProofs only[go_sem,AO,AN,h1',h6',hsy,hzr]));repeat' first|(with_reducible first|exact tI|refine aI ?_ ?_|intro _)|((first|with_reducible refine AM ?_ ?_<;>intro _|(with_reducible refine isCall ?_);first|refine AE c1 ?_|refine AE c2 ?_|refine AE cS ?_)<;>try (simp -implicitDefEqProofs only[go_sem,AO,AN,h1',h6',hsy,hzr]))|simp (disch:=omega) only[An]|((with_reducible refine Am ?_);refine⟨(_,_),rfl,?_,?_⟩)|((with_reducible refine Ao ?_);refine⟨_,rfl,?_,?_⟩)
   all_goals first|omega|(simp;done)|(simp;omega)|skip
   refine AY (α:=Nat) (l0:=?l1) (m0:=?m1) (fun x=>[(45,.d (.int .i64 (x:Int)))]) (fun x=>[(42,.row 94 16 false (vD c.syms (RJ c rs x)))]) (fun x=>x<=rs.length) (fun x=>rs.length-x) 0 ?h01 ?he1 ?he21 ?hI1 ?step1
   case h01=>(simp -implicitDefEqProofs only[go_sem];rfl)
   case he1=>rfl
   case he21=>rfl
   case' step1=>(rintro k hI;try dsimp only at hI)
   case' hI1=>try dsimp only
   ·exact Nat.zero_le _
   ·have hvl:=Px c.syms (RJ c rs k)
    by_cases hkr:k<rs.length
    ·have hk':(k:Int)<(rs.length:Int):=by omega
     have hwk:IntKind.i64.wrap ((k:Int)+1)=((k+1:Nat):Int):=by rw[Ak _ (by omega)];omega
     have hrk:=hrd k hkr
     obtain⟨bits,hbits⟩:∃bits,rs[k]?.getD []=bits:=⟨_,rfl⟩
     rw[hbits] at hrk
     have c3:=I3 c hk false bits hrk (fun h=>by cases h)
     obtain⟨a,nl2,sgs,b,q1,q2,q3,q4⟩:=eE c bits
     rw[q1] at c3
     have hV0:=l8 c rs k c.syms
     have hVe:=fT c rs k c.syms sgs.length (by rw[hbits];exact q4)
     (try (simp -implicitDefEqProofs only[go_sem,hk',hkr,hbits]));repeat' first|(with_reducible first|exact tI|refine aI ?_ ?_|intro _)|((first|with_reducible refine AM ?_ ?_<;>intro _|(with_reducible refine isCall ?_);first|refine AE c3 ?_)<;>try (simp -implicitDefEqProofs only[go_sem,hk',hkr,hbits]))|simp (disch:=omega) only[An]|((with_reducible refine Am ?_);refine⟨(_,_),rfl,?_,?_⟩)|((with_reducible refine Ao ?_);refine⟨_,rfl,?_,?_⟩)
     all_goals first|omega|(simp;done)|(simp;omega)|skip
     rw[←hV0]
     refine AY (α:=Nat) (l0:=?l2) (m0:=?m2) (fun x=>[(58,.d (.int .i64 (x:Int)))]) (fun x=>[(42,.row 94 16 false (vD c.syms (N5 c rs k x)))]) (fun x=>x<=sgs.length) (fun x=>sgs.length-x) 0 ?h02 ?he2 ?he22 ?hI2 ?step2
     case h02=>(simp -implicitDefEqProofs only[go_sem];rfl)
     case he2=>rfl
     case he22=>rfl
     case' step2=>(rintro j hI2;try dsimp only at hI2)
     case' hI2=>try dsimp only
     ·exact Nat.zero_le _
     ·have hvl2:=Px c.syms (N5 c rs k j)
      by_cases hj:j<sgs.length
      ·have hj':(j:Int)<(sgs.length:Int):=by omega
       have hwj:IntKind.i64.wrap ((j:Int)+1)=((j+1:Nat):Int):=by rw[Ak _ (by omega)];omega
       have hg:=q3 j hj
       have hjs:j<c.syms:=by omega
       have hjv:j<(vD c.syms (N5 c rs k j)).length:=by omega
       cases hsv:Gg c bits j with
       |none =>
        rw[hsv,gA] at hg
        have hno:=jv (c:=c) (rs:=rs) (k:=k) (n:=c.syms) (by rw[hbits];exact hsv)
        (try (simp -implicitDefEqProofs only[go_sem,hj',hj,hwj,hg]));repeat' first|(with_reducible first|exact tI|refine aI ?_ ?_|intro _)|((first|with_reducible refine AM ?_ ?_<;>intro _)<;>try (simp -implicitDefEqProofs only[go_sem,hj',hj,hwj,hg]))|simp (disch:=omega) only[An]|((with_reducible refine Am ?_);refine⟨(_,_),rfl,?_,?_⟩)|((with_reducible refine Ao ?_);refine⟨_,rfl,?_,?_⟩)
        all_goals first|omega|(simp;done)|(simp;omega)|skip
        rw[←hno]
        exact⟨j+1,rfl,hj,by omega⟩
       |some x =>
        rw[hsv,gB] at hg
        have hx:=Xt hsv
        have hx':(x:Int)<16:=by omega
        have hne:¬(x:Int)=-1:=by omega
        have hy:=fS (c:=c) (rs:=rs) (k:=k) (n:=c.syms) hjs (by rw[hbits];exact hsv)
        have hgv:=Py (N5 c rs k j) hjs
        have hvx:=Gx (N5 c rs k j j) hx
        have hl16:=Ms (N5 c rs k j j)
        have hble:N5 c rs k j j x<=k:=by rw[T4];exact a7 ..
        have hwx:IntKind.i64.wrap (((N5 c rs k j j x:Nat):Int)+1)=((N5 c rs k j j x:Nat):Int)+1:=Ak _ (by omega)
        have hvx2:(Je (N5 c rs k j j))[x]?.getD 0=((N5 c rs k j j x:Nat):Int):=by rw[hvx];exact UX _
        have hx16:x<16:=hx
        (try (simp -implicitDefEqProofs only[go_sem,hj',hj,hwj,hg,hne,hvl2,hjs,hx',hgv,hvx2,hl16,hx16,hwx,hy]));repeat' first|(with_reducible first|exact tI|refine aI ?_ ?_|intro _)|((first|with_reducible refine AM ?_ ?_<;>intro _)<;>try (simp -implicitDefEqProofs only[go_sem,hj',hj,hwj,hg,hne,hvl2,hjs,hx',hgv,hvx2,hl16,hx16,hwx,hy]))|simp (disch:=omega) only[An]|((with_reducible refine Am ?_);refine⟨(_,_),rfl,?_,?_⟩)|((with_reducible refine Ao ?_);refine⟨_,rfl,?_,?_⟩)
        all_goals first|omega|(simp;done)|(simp;omega)|skip
        all_goals exact⟨j+1,rfl,hj,by omega⟩
      ·have hj':¬(j:Int)<(sgs.length:Int):=by omega
       have hje:j=sgs.length:=by omega
       subst hje
       rw[hVe]
       (try (simp -implicitDefEqProofs only[go_sem,hj',hwk]));repeat' first|(with_reducible first|exact tI|refine aI ?_ ?_|intro _)|((first|with_reducible refine AM ?_ ?_<;>intro _)<;>try (simp -implicitDefEqProofs only[go_sem,hj',hwk]))|simp (disch:=omega) only[An]|((with_reducible refine Am ?_);refine⟨(_,_),rfl,?_,?_⟩)|((with_reducible refine Ao ?_);refine⟨_,rfl,?_,?_⟩)
       all_goals first|omega|(simp;done)|(simp;omega)|skip
       all_goals exact⟨k+1,rfl,hkr,by omega⟩
    ·have hk':¬(k:Int)<(rs.length:Int):=by omega
     have hke:k=rs.length:=by omega
     subst hke
     (try (simp -implicitDefEqProofs only[go_sem,hk',hvl]));repeat' first|(with_reducible first|exact tI|refine aI ?_ ?_|intro _)|((first|with_reducible refine AM ?_ ?_<;>intro _)<;>try (simp -implicitDefEqProofs only[go_sem,hk',hvl]))|simp (disch:=omega) only[An]|((with_reducible refine Am ?_);refine⟨(_,_),rfl,?_,?_⟩)|((with_reducible refine Ao ?_);refine⟨_,rfl,?_,?_⟩)
     all_goals first|omega|(simp;done)|(simp;omega)|skip
     refine AY (α:=Nat×Bool) (l0:=?l3) (m0:=?m3) (fun x=>[(78,.d (.int .i64 (x.1:Int)))]) (fun x=>[(86,.row 3 1 x.2 (Aj ((N1 (U9 c rs)).take x.1)))]) (fun x=>x.1<=c.syms/\x.2=decide (x.1=0)) (fun x=>c.syms-x.1) (0,true) ?h03 ?he3 ?he23 ?hI3 ?step3
     case h03=>(simp -implicitDefEqProofs only[go_sem];rfl)
     case he3=>rfl
     case he23=>rfl
     case' step3=>(rintro⟨i,f⟩ hI3;try dsimp only at hI3)
     case' hI3=>try dsimp only
     ·exact⟨Nat.zero_le _,rfl⟩
     ·obtain⟨i1,i2⟩:=hI3
      change f=decide (i=0) at i2
      by_cases hi:i<c.syms
      ·have hi':(i:Int)<((c.syms:Nat):Int):=by omega
       have hwi:IntKind.i64.wrap ((i:Int)+1)=((i+1:Nat):Int):=by rw[Ak _ (by omega)];omega
       have hgv:=Py (RJ c rs rs.length) hi
       have cW:=Mj (RJ c rs rs.length i)
       rw[Sj] at hgv cW
       have hst:=dQ c rs hi
       have hl32:((N1 (U9 c rs)).take i).length<=32:=by rw[List.length_take,FV,LZ];omega
       have hfe:false=decide (i+1=0):=by simp
       (try (simp -implicitDefEqProofs only[go_sem,hi',hwi,hvl,hi,hgv,hst]));repeat' first|(with_reducible first|exact tI|refine aI ?_ ?_|intro _)|((first|with_reducible refine AM ?_ ?_<;>intro _|(with_reducible refine isCall ?_);first|refine AE cW ?_)<;>try (simp -implicitDefEqProofs only[go_sem,hi',hwi,hvl,hi,hgv,hst]))|simp (disch:=omega) only[An]|((with_reducible refine Am ?_);refine⟨(_,_),rfl,?_,?_⟩)|((with_reducible refine Ao ?_);refine⟨_,rfl,?_,?_⟩)
       all_goals first|omega|(simp;done)|(simp;omega)|skip
       all_goals exact⟨(i+1,false),rfl,⟨by show i+1<=c.syms;omega,hfe⟩,by show c.syms-(i+1)<c.syms-i;omega⟩
      ·have hi':¬(i:Int)<((c.syms:Nat):Int):=by omega
       have hie:i=c.syms:=by omega
       subst hie
       have htk:(N1 (U9 c rs)).take c.syms=N1 (U9 c rs):=List.take_of_length_le (by rw[FV,LZ];omega)
       have hf0:f=false:=by rw[i2];exact decide_eq_false (by omega)
       rw[htk,hf0]
       have cG:=HU c hk (U9 c rs) (LZ c rs)
       (try (simp -implicitDefEqProofs only[go_sem,hi',hvl]));repeat' first|(with_reducible first|exact tI|refine aI ?_ ?_|intro _)|((first|with_reducible refine AM ?_ ?_<;>intro _|(with_reducible refine isCall ?_);first|refine AE cG ?_)<;>try (simp -implicitDefEqProofs only[go_sem,hi',hvl]))|simp (disch:=omega) only[An]|((with_reducible refine Am ?_);refine⟨(_,_),rfl,?_,?_⟩)|((with_reducible refine Ao ?_);refine⟨_,rfl,?_,?_⟩)
       all_goals first|omega|(simp;done)|(simp;omega)|skip
       all_goals first|rfl|skip
end
end Go.Pw
