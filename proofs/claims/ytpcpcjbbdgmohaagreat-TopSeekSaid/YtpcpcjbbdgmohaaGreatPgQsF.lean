/- A part of the proof. -/
import Derived.Test.YtpcpcjbbdgmohaaGreatPgQsT
set_option linter.all false
section
open Go Go.Pw Go.Proofs
namespace Go.Pw
set_option maxRecDepth 100000
set_option maxHeartbeats 1600000
theorem Fz:BC E0.P Ed=true:=by kernel_rfl
theorem PW {l:List Int}{v:Int}(h:∀j,j<l.length->l[j]?.getD 0≠v):l.contains v=false:=by
 rw[List.contains_eq_any_beq,List.any_eq_false]
 intro x hx
 obtain⟨j,hj,rfl⟩:=List.getElem_of_mem hx
 have:=h j hj
 rw[List.getElem?_eq_getElem hj,Option.getD_some] at this
 simp;exact fun h=>this h.symm
theorem Ny {l:List Int}{v:Int}{j:Nat}(hj:j<l.length) (h:l[j]?.getD 0=v):l.contains v=true:=by
 rw[List.getElem?_eq_getElem hj,Option.getD_some] at h
 rw[List.contains_eq_any_beq,List.any_eq_true]
 exact⟨l[j],List.getElem_mem hj,by simp[h]⟩
attribute [local congr] DX B3 B4 Bc DZ Bj Bl Bk Bb BN BF A6 Be BG Bg CD CE CF Cd Ce B9 Bf BL Bi BM B8 Cf BK CB CC B_ B6 B7 B2 DY B5 Bd BI BH BJ Bh CA
attribute [local irreducible] IntKind.wrap CK Option.getD and or
theorem O7 (nl:Bool) (l:List Int) (v:Int) (hl:l.length<=1000):Ca E0 Em [.list nl (Bs l),.int .i64 v] (.bool (l.contains v)):=by
 have cI:∃r,Ca E0 FY [.list nl (Bs l),.int .i64 v] (.int .i64 r)/\(l.contains v=true/\0<=r\/l.contains v=false/\r<0):=by
  cases hc:l.contains v with
  |false =>
   refine⟨-1,?_,.inr ⟨rfl,by omega⟩⟩
   refine AW E4 Aq (by simp) fun hwf=>?_
   rw[AZ];unfold Dn
   (try (simp -implicitDefEqProofs only[go_sem]));repeat' first|(with_reducible first|exact tI|refine aI ?_ ?_|intro _)|((first|with_reducible refine AU ?_ ?_<;>intro _)<;>try (simp -implicitDefEqProofs only[go_sem]))|simp (disch:=omega) only[Al]|((with_reducible refine A5 ?_);refine⟨_,rfl,?_,?_⟩)
   all_goals first|omega|(simp<;>omega)|skip
   refine Ao (α:=Nat) (l0:=?l1) (m0:=?m1) (fun x=>[(8,.d (.int .i64 (x:Int)))]) (fun x=>[]) (fun x=>x<=l.length) (fun x=>l.length-x) 0 ?h01 ?he1 ?he21 ?hI1 ?step1
   case h01=>(simp -implicitDefEqProofs only[go_sem];rfl)
   case he1=>rfl
   case he21=>rfl
   case' step1=>(rintro i hI;try dsimp only at hI)
   case' hI1=>try dsimp only
   ·omega
   ·by_cases hi:i<l.length
    ·have hi':(i:Int)<(l.length:Int):=by omega
     have wi:IntKind.i64.wrap ((i:Int)+1)=((i+1:Nat):Int):=by rw[Ad _ (by omega)];omega
     have hne:¬v=l[i]?.getD 0:=fun h=>by rw[Ny hi h.symm] at hc;cases hc
     (try (simp -implicitDefEqProofs only[go_sem,hi',hi,wi,hne]));repeat' first|(with_reducible first|exact tI|refine aI ?_ ?_|intro _)|((first|with_reducible refine AU ?_ ?_<;>intro _)<;>try (simp -implicitDefEqProofs only[go_sem,hi',hi,wi,hne]))|simp (disch:=omega) only[Al]|((with_reducible refine A5 ?_);refine⟨_,rfl,?_,?_⟩)
     all_goals first|omega|rfl|exact .inl True.intro|trace_state
    ·have hi':¬(i:Int)<(l.length:Int):=by omega
     (try (simp -implicitDefEqProofs only[go_sem,hi']));repeat' first|(with_reducible first|exact tI|refine aI ?_ ?_|intro _)|((first|with_reducible refine AU ?_ ?_<;>intro _)<;>try (simp -implicitDefEqProofs only[go_sem,hi']))|simp (disch:=omega) only[Al]|((with_reducible refine A5 ?_);refine⟨_,rfl,?_,?_⟩)
     all_goals first|omega|rfl|exact .inl True.intro|trace_state
  |true =>
   have hex:∃i,i<l.length/\l[i]?.getD 0=v/\∀j,j<i->l[j]?.getD 0≠v:=by
    by_cases h:∃j,j<l.length/\l[j]?.getD 0=v
    ·have hdec:∀j,Decidable (j<l.length/\l[j]?.getD 0=v):=fun _=>inferInstance
     have:∀n,(∃j,j<n/\(j<l.length/\l[j]?.getD 0=v))->∃i,i<l.length/\l[i]?.getD 0=v/\∀j,j<i->l[j]?.getD 0≠v:=by
      intro n
      induction n with
      |zero=>rintro⟨j,hj,_⟩;omega
      |succ n ih =>
       rintro⟨j,hj,hj2⟩
       by_cases hb:∃j,j<n/\(j<l.length/\l[j]?.getD 0=v)
       ·exact ih hb
       ·have hjn:j=n:=by
         by_cases h:j=n
         ·exact h
         ·exact absurd ⟨j,by omega,hj2⟩ hb
        subst hjn
        exact⟨j,hj2.1,hj2.2,fun i hi hv=>hb ⟨i,hi,by omega,hv⟩⟩
     obtain⟨j,h1,h2⟩:=h
     exact this (j+1) ⟨j,by omega,h1,h2⟩
    ·rw[PW (fun j hj hv=>h ⟨j,hj,hv⟩)] at hc;cases hc
   obtain⟨p,hp1,hp2,hp3⟩:=hex
   refine⟨p,?_,.inl ⟨rfl,by omega⟩⟩
   refine AW E4 Aq (by simp) fun hwf=>?_
   rw[AZ];unfold Dn
   (try (simp -implicitDefEqProofs only[go_sem]));repeat' first|(with_reducible first|exact tI|refine aI ?_ ?_|intro _)|((first|with_reducible refine AU ?_ ?_<;>intro _)<;>try (simp -implicitDefEqProofs only[go_sem]))|simp (disch:=omega) only[Al]|((with_reducible refine A5 ?_);refine⟨_,rfl,?_,?_⟩)
   all_goals first|omega|(simp<;>omega)|skip
   refine Ao (α:=Nat) (l0:=?l2) (m0:=?m2) (fun x=>[(8,.d (.int .i64 (x:Int)))]) (fun x=>[]) (fun x=>x<=p) (fun x=>p-x) 0 ?h02 ?he2 ?he22 ?hI2 ?step2
   case h02=>(simp -implicitDefEqProofs only[go_sem];rfl)
   case he2=>rfl
   case he22=>rfl
   case' step2=>(rintro i hI2;try dsimp only at hI2)
   case' hI2=>try dsimp only
   ·omega
   ·have hi:i<l.length:=by omega
    have hi':(i:Int)<(l.length:Int):=by omega
    have wi:IntKind.i64.wrap ((i:Int)+1)=((i+1:Nat):Int):=by rw[Ad _ (by omega)];omega
    by_cases hip:i=p
    ·subst hip
     (try (simp -implicitDefEqProofs only[go_sem,hi',hi,wi,hp2]));repeat' first|(with_reducible first|exact tI|refine aI ?_ ?_|intro _)|((first|with_reducible refine AU ?_ ?_<;>intro _)<;>try (simp -implicitDefEqProofs only[go_sem,hi',hi,wi,hp2]))|simp (disch:=omega) only[Al]|((with_reducible refine A5 ?_);refine⟨_,rfl,?_,?_⟩)
     all_goals first|omega|rfl|exact .inl True.intro|trace_state
    ·have hne:¬v=l[i]?.getD 0:=fun h=>hp3 i (by omega) h.symm
     (try (simp -implicitDefEqProofs only[go_sem,hi',hi,wi,hne]));repeat' first|(with_reducible first|exact tI|refine aI ?_ ?_|intro _)|((first|with_reducible refine AU ?_ ?_<;>intro _)<;>try (simp -implicitDefEqProofs only[go_sem,hi',hi,wi,hne]))|simp (disch:=omega) only[Al]|((with_reducible refine A5 ?_);refine⟨_,rfl,?_,?_⟩)
     all_goals first|omega|rfl|exact .inl True.intro|trace_state
 obtain⟨r,c1,hr⟩:=cI
 refine AW Gg Aq (by simp) fun hwf=>?_
 rw[AZ];unfold EU
 rcases hr with⟨h1,h2⟩|⟨h1,h2⟩
 ·rw[h1]
  (try (simp -implicitDefEqProofs only[go_sem,h2]));repeat' first|(with_reducible first|exact tI|refine aI ?_ ?_|intro _)|((first|with_reducible refine AU ?_ ?_<;>intro _|(with_reducible refine isCall ?_);first|refine AF c1 ?_)<;>try (simp -implicitDefEqProofs only[go_sem,h2]))|simp (disch:=omega) only[Al]|((with_reducible refine A5 ?_);refine⟨_,rfl,?_,?_⟩)
  all_goals first|omega|rfl|exact .inl True.intro|trace_state
 ·rw[h1]
  have h2':¬0<=r:=by omega
  (try (simp -implicitDefEqProofs only[go_sem,h2']));repeat' first|(with_reducible first|exact tI|refine aI ?_ ?_|intro _)|((first|with_reducible refine AU ?_ ?_<;>intro _|(with_reducible refine isCall ?_);first|refine AF c1 ?_)<;>try (simp -implicitDefEqProofs only[go_sem,h2']))|simp (disch:=omega) only[Al]|((with_reducible refine A5 ?_);refine⟨_,rfl,?_,?_⟩)
  all_goals first|omega|rfl|exact .inl True.intro|trace_state
theorem ai (nl:Bool) (bf:List Int) (hl:bf.length<=1000) (r n:Int):Ca E0 Ed [.int .i64 n,.ptr [.int .i64 r],.ptr [.list nl (Bs bf)]] (.bool (decide (n<r) && !bf.contains n)):=by
 refine AW JF Aq (by simp) fun hwf=>?_
 have c1:=O7 nl bf n hl
 rw[AZ];unfold Fi
 by_cases h:n<r
 ·rw[decide_eq_true h,Bool.true_and]
  (try (simp -implicitDefEqProofs only[go_sem,h]));repeat' first|(with_reducible first|exact tI|refine aI ?_ ?_|intro _)|((first|with_reducible refine AU ?_ ?_<;>intro _|(with_reducible refine isCall ?_);first|refine AF c1 ?_)<;>try (simp -implicitDefEqProofs only[go_sem,h]))|simp (disch:=omega) only[Al]
  all_goals first|omega|rfl|(simp_all;done)|trace_state
 ·rw[decide_eq_false h,Bool.false_and]
  (try (simp -implicitDefEqProofs only[go_sem,h]));repeat' first|(with_reducible first|exact tI|refine aI ?_ ?_|intro _)|((first|with_reducible refine AU ?_ ?_<;>intro _|(with_reducible refine isCall ?_);first|refine AF c1 ?_)<;>try (simp -implicitDefEqProofs only[go_sem,h]))|simp (disch:=omega) only[Al]
  all_goals first|omega|rfl|trace_state
theorem Qx (q:GQ) (g:q.Good) (nl:Bool) (bf:List Int) (hl:bf.length<=6) (r:Int) (hr:0<=r/\r<q.rq.length):Ca E0 HM [Hy q,.list nl (Bs bf),.int .i64 r] (.bool (RL q bf r)):=by
 refine AW Ko Aq (by simp) fun hwf=>?_
 have hrl:=g.rl;have hpas:=g.pas
 obtain⟨R,hR⟩:∃R,q.req r=R:=⟨_,rfl⟩
 have hR':q.rq[r.toNat]?.getD default=R:=hR
 have hrt:r.toNat<q.rq.length:=by omega
 rw[AZ];unfold GU
 (try (simp -implicitDefEqProofs only[go_sem,Ai,AN,AL,Fz]));repeat' first|(with_reducible first|exact tI|refine aI ?_ ?_|intro _)|((first|with_reducible refine AU ?_ ?_<;>intro _)<;>try (simp -implicitDefEqProofs only[go_sem,Ai,AN,AL,Fz]))|simp (disch:=omega) only[Al]|((with_reducible refine A0 ?_);refine⟨(_,_),rfl,?_,?_⟩)|((with_reducible refine A5 ?_);refine⟨_,rfl,?_,?_⟩)
 all_goals first|omega|(simp<;>omega)|skip
 refine Ao (α:=Nat) (l0:=?l3) (m0:=?m3) (fun x=>[(18,.d (.int .i64 (x:Int)))]) (fun x=>[]) (fun x=>x<=q.rq.length/\∀j,j<x->UZ q bf r j=true) (fun x=>q.rq.length-x) 0 ?h03 ?he3 ?he23 ?hI3 ?step3
 case h03=>(simp -implicitDefEqProofs only[go_sem,AN,AL];rfl)
 case he3=>rfl
 case he23=>rfl
 case' step3=>(rintro i hI;try dsimp only at hI)
 case' hI3=>try dsimp only
 ·exact⟨by omega,fun j h=>absurd h (Nat.not_lt_zero j)⟩
 ·obtain⟨h1,h2⟩:=hI
  by_cases hi:i<q.rq.length
  ·have hi':(i:Int)<(q.rq.length:Int):=by omega
   have wi:IntKind.i64.wrap ((i:Int)+1)=((i+1:Nat):Int):=by rw[Ad _ (by omega)];omega
   obtain⟨S,hS⟩:∃S,q.rq[i]?.getD default=S:=⟨_,rfl⟩
   have c1:=ai nl bf (by omega) r i
   have hnx:UZ q bf r i=true->∀j,j<i+1->UZ q bf r j=true:=fun hh j hj=>by
    by_cases hji:j=i
    ·subst hji;exact hh
    ·exact h2 j (by omega)
   cases hsk:(decide ((i:Int)<r) && !bf.contains (i:Int)) with
   |false =>
    rw[hsk] at c1
    have hnx:=hnx (by unfold UZ cX;rw[hsk];simp)
    (try (simp -implicitDefEqProofs only[go_sem,AN,AL,Az,Av,Bn,Bo,hi',hi,hS,wi,Fz]));repeat' first|(with_reducible first|exact tI|refine aI ?_ ?_|intro _)|((first|with_reducible refine AU ?_ ?_<;>intro _|(with_reducible refine isCall ?_);first|refine AF c1 ?_)<;>try (simp -implicitDefEqProofs only[go_sem,AN,AL,Az,Av,Bn,Bo,hi',hi,hS,wi,Fz]))|simp (disch:=omega) only[Al]|((with_reducible refine A0 ?_);refine⟨(_,_),rfl,?_,?_⟩)|((with_reducible refine A5 ?_);refine⟨_,rfl,?_,?_⟩)
    all_goals first|omega|rfl|exact .inl True.intro|exact hnx|exact hnx _ (by assumption)|trace_state
   |true =>
    rw[hsk] at c1
    have hf1:UZ q bf r i=!(decide (q.pas<H2 bf i bf.length) || (S.ord || R.ord)):=by unfold UZ cX;rw[hsk,hS,hR];simp
    (try (simp -implicitDefEqProofs only[go_sem,AN,AL,Az,Av,Bn,Bo,hi',hi,hS,wi,Fz]));repeat' first|(with_reducible first|exact tI|refine aI ?_ ?_|intro _)|((first|with_reducible refine AU ?_ ?_<;>intro _|(with_reducible refine isCall ?_);first|refine AF c1 ?_)<;>try (simp -implicitDefEqProofs only[go_sem,AN,AL,Az,Av,Bn,Bo,hi',hi,hS,wi,Fz]))|simp (disch:=omega) only[Al]|((with_reducible refine A0 ?_);refine⟨(_,_),rfl,?_,?_⟩)|((with_reducible refine A5 ?_);refine⟨_,rfl,?_,?_⟩)
    all_goals first|omega|(simp<;>omega)|skip
    refine Ao (α:=Nat×Int) (l0:=?l4) (m0:=?m4) (fun x=>[(29,.d (.int .i64 (x.1:Int))),(10,.d (.int .i64 x.2))]) (fun x=>[]) (fun x=>x.1<=bf.length/\x.2=H2 bf i x.1) (fun x=>bf.length-x.1) (0,1) ?h04 ?he4 ?he24 ?hI4 ?step4
    case h04=>(simp -implicitDefEqProofs only[go_sem,AN,AL];rfl)
    case he4=>rfl
    case he24=>rfl
    case' step4=>(rintro⟨k,t⟩ hI2;try dsimp only at hI2)
    case' hI4=>try dsimp only
    ·exact⟨by omega,by unfold H2;simp⟩
    ·obtain⟨k1,k2⟩:=hI2
     have hbd:=aL bf i k
     by_cases hk:k<bf.length
     ·have hk':(k:Int)<(bf.length:Int):=by omega
      have wk:IntKind.i64.wrap ((k:Int)+1)=((k+1:Nat):Int):=by rw[Ad _ (by omega)];omega
      have wt:IntKind.i64.wrap (t+1)=t+1:=Ad _ (by omega)
      have hs:=dv i hk
      obtain⟨B,hB⟩:∃B,bf[k]?.getD 0=B:=⟨_,rfl⟩
      rw[hB,←k2] at hs
      by_cases hlt:(i:Int)<B
      ·rw[if_pos hlt] at hs
       (try (simp -implicitDefEqProofs only[go_sem,AN,AL,hk',hk,hB,wk,wt,hlt]));repeat' first|(with_reducible first|exact tI|refine aI ?_ ?_|intro _)|((first|with_reducible refine AU ?_ ?_<;>intro _)<;>try (simp -implicitDefEqProofs only[go_sem,AN,AL,hk',hk,hB,wk,wt,hlt]))|simp (disch:=omega) only[Al]|((with_reducible refine A0 ?_);refine⟨(_,_),rfl,?_,?_⟩)|((with_reducible refine A5 ?_);refine⟨_,rfl,?_,?_⟩)
       all_goals first|omega|rfl|exact .inl True.intro|exact hs.symm|trace_state
      ·rw[if_neg hlt] at hs
       (try (simp -implicitDefEqProofs only[go_sem,AN,AL,hk',hk,hB,wk,wt,hlt]));repeat' first|(with_reducible first|exact tI|refine aI ?_ ?_|intro _)|((first|with_reducible refine AU ?_ ?_<;>intro _)<;>try (simp -implicitDefEqProofs only[go_sem,AN,AL,hk',hk,hB,wk,wt,hlt]))|simp (disch:=omega) only[Al]|((with_reducible refine A0 ?_);refine⟨(_,_),rfl,?_,?_⟩)|((with_reducible refine A5 ?_);refine⟨_,rfl,?_,?_⟩)
       all_goals first|omega|rfl|exact .inl True.intro|exact(by rw[hs];omega)|trace_state
     ·have hk':¬(k:Int)<(bf.length:Int):=by omega
      have hke:k=bf.length:=by omega
      rw[hke] at k2
      rw[←k2] at hf1
      by_cases hp:q.pas<t
      ·rw[decide_eq_true hp,Bool.true_or] at hf1
       rw[RK hi hf1]
       (try (simp -implicitDefEqProofs only[go_sem,AN,AL,Az,Av,Bn,Bo,hk',hp]));repeat' first|(with_reducible first|exact tI|refine aI ?_ ?_|intro _)|((first|with_reducible refine AU ?_ ?_<;>intro _)<;>try (simp -implicitDefEqProofs only[go_sem,AN,AL,Az,Av,Bn,Bo,hk',hp]))|simp (disch:=omega) only[Al]|((with_reducible refine A0 ?_);refine⟨(_,_),rfl,?_,?_⟩)|((with_reducible refine A5 ?_);refine⟨_,rfl,?_,?_⟩)
       all_goals first|omega|rfl|exact .inl True.intro|trace_state
      ·rw[decide_eq_false hp,Bool.false_or] at hf1
       cases hso:S.ord with
       |true =>
        rw[hso,Bool.true_or] at hf1
        rw[RK hi hf1]
        (try (simp -implicitDefEqProofs only[go_sem,AN,AL,Az,Av,Bn,Bo,hk',hp,hso]));repeat' first|(with_reducible first|exact tI|refine aI ?_ ?_|intro _)|((first|with_reducible refine AU ?_ ?_<;>intro _)<;>try (simp -implicitDefEqProofs only[go_sem,AN,AL,Az,Av,Bn,Bo,hk',hp,hso]))|simp (disch:=omega) only[Al]|((with_reducible refine A0 ?_);refine⟨(_,_),rfl,?_,?_⟩)|((with_reducible refine A5 ?_);refine⟨_,rfl,?_,?_⟩)
        all_goals first|omega|rfl|exact .inl True.intro|trace_state
       |false =>
        rw[hso,Bool.false_or] at hf1
        cases hro:R.ord with
        |true =>
         rw[hro] at hf1
         rw[RK hi hf1]
         (try (simp -implicitDefEqProofs only[go_sem,AN,AL,Az,Av,Bn,Bo,hk',hp,hso,hR',hrt,hr,hro]));repeat' first|(with_reducible first|exact tI|refine aI ?_ ?_|intro _)|((first|with_reducible refine AU ?_ ?_<;>intro _)<;>try (simp -implicitDefEqProofs only[go_sem,AN,AL,Az,Av,Bn,Bo,hk',hp,hso,hR',hrt,hr,hro]))|simp (disch:=omega) only[Al]|((with_reducible refine A0 ?_);refine⟨(_,_),rfl,?_,?_⟩)|((with_reducible refine A5 ?_);refine⟨_,rfl,?_,?_⟩)
         all_goals first|omega|rfl|exact .inl True.intro|trace_state
        |false =>
         rw[hro] at hf1
         have hnx:=hnx hf1
         (try (simp -implicitDefEqProofs only[go_sem,AN,AL,Az,Av,Bn,Bo,hk',hp,hso,hR',hrt,hr,hro,wi]));repeat' first|(with_reducible first|exact tI|refine aI ?_ ?_|intro _)|((first|with_reducible refine AU ?_ ?_<;>intro _)<;>try (simp -implicitDefEqProofs only[go_sem,AN,AL,Az,Av,Bn,Bo,hk',hp,hso,hR',hrt,hr,hro,wi]))|simp (disch:=omega) only[Al]|((with_reducible refine A0 ?_);refine⟨(_,_),rfl,?_,?_⟩)|((with_reducible refine A5 ?_);refine⟨_,rfl,?_,?_⟩)
         all_goals first|omega|rfl|exact .inl True.intro|exact hnx|exact hnx _ (by assumption)|trace_state
  ·have hi':¬(i:Int)<(q.rq.length:Int):=by omega
   rw[eg (fun j hj=>h2 j (by omega))]
   (try (simp -implicitDefEqProofs only[go_sem,AN,AL,hi']));repeat' first|(with_reducible first|exact tI|refine aI ?_ ?_|intro _)|((first|with_reducible refine AU ?_ ?_<;>intro _)<;>try (simp -implicitDefEqProofs only[go_sem,AN,AL,hi']))|simp (disch:=omega) only[Al]|((with_reducible refine A0 ?_);refine⟨(_,_),rfl,?_,?_⟩)|((with_reducible refine A5 ?_);refine⟨_,rfl,?_,?_⟩)
   all_goals first|omega|rfl|exact .inl True.intro|trace_state
end Go.Pw
end
section
open Go Go.Pw Go.Proofs
namespace Go.Pw
set_option maxRecDepth 100000
set_option maxHeartbeats 3200000
theorem O3:BC E0.P Ch=true:=by kernel_rfl
theorem WS:C6.noR=true:=by rfl
theorem iY:D3.noR=true:=by rfl
def mc (q:GQ) (ord:List Int):List D:=[.list false (Bs ord),.list false (Bs (q.outN true ord ord.length))]
def bQ (q:GQ) (ord:List Int):D:=.agg (mc q ord)
theorem Y' (q:GQ) (ord:List Int):bQ q ord=.agg [.list false (Bs ord),.list false (Bs (q.outN true ord ord.length))]:=rfl
def ga (q:GQ):Nat->AV
 |0=>.undef
 |k+1=>.ablk false [.fn Ch [.d (.ptr (XV q)),.ablk false [.own 900001 0] 0,ga q k]] 0
theorem i8 (q:GQ) (k:Nat):ga q (k+1)=.ablk false [.fn Ch [.d (.ptr (XV q)),.ablk false [.own 900001 0] 0,ga q k]] 0:=rfl
theorem RC (q:GQ):∀k,(ga q k).onlyH 900001=true
 |0=>by simp[ga,AV.onlyH]
 |k+1=>by simp[ga,AV.onlyH,AV.onlyH.allH,RC q k]
theorem CW {q:GQ}{k:Nat}{els:List (List D)}{m:Nat}{st:Bool}{os:List Nat}{L:List (Nat×Nat×Ae)}(h:os.contains 900001=true):AV.nrm ⟨A7 ((900001,0,.hist els m st)::L),fun _=>1⟩ os (ga q k)=ga q k:=by
 have hl:AV.nrm.live ⟨A7 ((900001,0,.hist els m st)::L),fun _=>1⟩ os 900001 0=true:=by rw[Y3,h];rfl
 induction k with
 |zero=>rfl
 |succ k ih=>simp only[i8,AV.nrm,AV.nrm.nrmL,hl,ih,if_true,List.all_cons,List.all_nil,AV.one,Bool.and_self]
def my (n m:Nat) (n1:Nat) (st1:Bool) (r:D):Prop:=(st1=false/\n1=n+m/\r=.bool true)\/(st1=true/\r=.bool false)
theorem OH {E:CU}{f:FuncId}{cs xs:List AV}{V:AO}{K:AV->Bp->Prop}(hb:BC E.P f=true) (o:Nat) (els:List (List D)) (n:Nat) (Post:Nat->Bool->D->Prop) (h1:V.get o 0=some (.hist els n false)) (h2:AV.onlyH.allH o (xs++cs)=true)
 (h3:fO E f o (xs++cs) els n Post) (h4:∀n1 st1 r,Post n1 st1 r->r.flat=true/\K (up r) (.keep o 0 (.hist els n1 st1))):MI E (.fn f cs) xs V K:=⟨hb,o,els,n,Post,h1,h2,h3,h4⟩
theorem KF {E:CU} {rs o els Post s}:cm E rs o els Post .ret s=Ev E s rs (fun vs=>∃r,HS s.V r vs/\Vy els Post r (s.V.ob o)):=rfl
theorem FC {E:CU} {rs o els Post s}:cm E rs o els Post .normal s=Ev E s rs (fun vs=>∃r,HS s.V r vs/\Vy els Post r (s.V.ob o)):=rfl
theorem HW {els Post r g e n st}:Vy els Post r (some (g,.hist e n st))=(e=els/\Post n st r):=rfl
theorem KD {E:CU}{l:List (D6×List Nat)}{s:A3}{K:A3->Prop}:My E l [] s K=OT E 0 (l.flatMap (·.2)) l [] s K:=UE (rec:=[]) (recE:=[]) (fun j hj=>hj) fun j hj=>by simp[Jm]
theorem Gm:Bs []=[]:=rfl
def aP (q:GQ) (ord:List Int):Prop:=∀i,i<ord.length->0<=ord[i]?.getD 0/\ord[i]?.getD 0<q.rq.length
theorem TR {q:GQ}{ord:List Int}(h:aP q ord) {i:Nat}(hi:i<q.rq.length):aP q (ord++[(i:Int)]):=fun j hj=>by
 by_cases hjl:j<ord.length
 ·rw[List.getElem?_append_left hjl];exact h j hjl
 ·have:j=ord.length:=by simp at hj;omega
  subst this
  simp;omega
attribute [local congr] DX B3 B4 Bc DZ Bj Bl Bk Bb BN BF A6 Be BG Bg CD CE CF Cd Ce B9 Bf BL Bi BM B8 Cf BK CB CC B_ B6 B7 B2 DY B5 Bd BI BH BJ Bh CA
attribute [local irreducible] IntKind.wrap CK Option.getD and or
theorem Nx (q:GQ) (g:q.Good) (h4:q.rq.length<=4) (hz:q.d.size<=200) (els:List (List D)):∀(k j:Nat) (nl:Bool) (ord:List Int),k<=j->ord.length+k=q.rq.length->aP q ord->((nl=true/\ord=[])\/(nl=false/\ord≠[])) ->
  ∀n,Ky els n (fun o=>[bQ q o]) (Fb q k ord)->fO E0 Ch 900001 [.d (.list nl (Bs ord)),.d (.ptr (XV q)),.ablk false [.own 900001 0] 0,ga q j] els n (my n (Fb q k ord).length)
 |0,j,nl,ord,hkj,hlen,hin,hO,n,hl=>by
  refine Qq Ek Aq WS (by simp) ?_
  have c1:=G2 q g true FZ Th KJ hz nl ord (by omega) hin
  have hel:=hl 0 ord (by simp[Fb])
  change els[n]?=some [bQ q ord] at hel
  rw[Y'] at hel
  have k1:(ord.length:Int)=(q.rq.length:Int):=by omega
  rw[Ai] at c1
  rw[Dv];unfold C6
  (try (simp -implicitDefEqProofs only[go_sem,KD,AN,AL,k1,hel,KF,FC,HW]));repeat' first|(with_reducible first|exact tI|refine aI ?_ ?_|intro _)|((first|with_reducible refine AU ?_ ?_<;>intro _|(with_reducible refine isCall ?_);first|refine AF c1 ?_)<;>try (simp -implicitDefEqProofs only[go_sem,KD,AN,AL,k1,hel,KF,FC,HW]))|simp (disch:=omega) only[Al]|((with_reducible refine A0 ?_);refine⟨(_,_),rfl,?_,?_⟩)|((with_reducible refine A5 ?_);refine⟨_,rfl,?_,?_⟩)
  all_goals first|omega|exact⟨_,rfl,.inl ⟨rfl,rfl,rfl⟩⟩|exact⟨_,rfl,.inr ⟨rfl,rfl⟩⟩|trace_state
 |k+1,j,nl,ord,hkj,hlen,hin,hO,n,hl=>by
  obtain⟨j,rfl⟩:∃j',j=j'+1:=⟨j-1,by omega⟩
  refine Qq Ek Aq WS (by simp) ?_
  have hne:¬(ord.length:Int)=(q.rq.length:Int):=by omega
  have hon:=RC q j
  rw[i8]
  rw[Dv];unfold C6
  (try (simp -implicitDefEqProofs only[go_sem,CW,AN,AL,hne]));repeat' first|(with_reducible first|exact tI|refine aI ?_ ?_|intro _)|((first|with_reducible refine AU ?_ ?_<;>intro _)<;>try (simp -implicitDefEqProofs only[go_sem,CW,AN,AL,hne]))|simp (disch:=omega) only[Al]|((with_reducible refine A0 ?_);refine⟨(_,_),rfl,?_,?_⟩)|((with_reducible refine A5 ?_);refine⟨_,rfl,?_,?_⟩)
  all_goals first|omega|(simp<;>omega)|skip
  refine Ao (α:=Nat×Nat) (l0:=?l1) (m0:=?m1) (fun x=>[(29,.d (.int .i64 (x.1:Int)))]) (fun x=>[(900001,.hist els x.2 false)]) (fun x=>x.1<=q.rq.length/\x.2=n+(Qg q k ord x.1).length) (fun x=>q.rq.length-x.1) (0,n) ?h01 ?he1 ?he21 ?hI1 ?step1
  case h01=>(simp -implicitDefEqProofs only[go_sem,CW,AN,AL];rfl)
  case he1=>rfl
  case he21=>rfl
  case' step1=>(rintro⟨i,m⟩ hI;try dsimp only at hI)
  case' hI1=>try dsimp only
  ·exact⟨by omega,rfl⟩
  ·obtain⟨h1,h2⟩:=hI
   by_cases hi:i<q.rq.length
   ·have hi':(i:Int)<(q.rq.length:Int):=by omega
    have wi:IntKind.i64.wrap ((i:Int)+1)=((i+1:Nat):Int):=by rw[Ad _ (by omega)];omega
    have hsN:=W8 q k ord i
    (try (simp -implicitDefEqProofs only[go_sem,CW,AN,AL,hi']));repeat' first|(with_reducible first|exact tI|refine aI ?_ ?_|intro _)|((first|with_reducible refine AU ?_ ?_<;>intro _)<;>try (simp -implicitDefEqProofs only[go_sem,CW,AN,AL,hi']))|simp (disch:=omega) only[Al]|((with_reducible refine A0 ?_);refine⟨(_,_),rfl,?_,?_⟩)|((with_reducible refine A5 ?_);refine⟨_,rfl,?_,?_⟩)
    all_goals first|omega|(simp<;>omega)|skip
    refine Ao (α:=Nat) (l0:=?l2) (m0:=?m2) (fun x=>[(34,.d (.int .i64 (x:Int)))]) (fun x=>[]) (fun x=>x<=ord.length/\∀t,t<x->ord[t]?.getD 0≠(i:Int)) (fun x=>ord.length-x) 0 ?h02 ?he2 ?he22 ?hI2 ?step2
    case h02=>(simp -implicitDefEqProofs only[go_sem,CW,AN,AL];rfl)
    case he2=>rfl
    case he22=>rfl
    case' step2=>(rintro p hI2;try dsimp only at hI2)
    case' hI2=>try dsimp only
    ·exact⟨by omega,fun t h=>absurd h (Nat.not_lt_zero t)⟩
    ·obtain⟨p1,p2⟩:=hI2
     by_cases hp:p<ord.length
     ·have hp':(p:Int)<(ord.length:Int):=by omega
      have wp:IntKind.i64.wrap ((p:Int)+1)=((p+1:Nat):Int):=by rw[Ad _ (by omega)];omega
      obtain⟨y,hy⟩:∃y,ord[p]?.getD 0=y:=⟨_,rfl⟩
      by_cases hyi:y=(i:Int)
      ·have hno:R' q ord i=false:=by unfold R';rw[Ny hp (by rw[hy,hyi]),Bool.not_true,Bool.false_and]
       rw[hno,if_neg (by simp),List.append_nil] at hsN
       have hm:m=n+(Qg q k ord (i+1)).length:=by rw[hsN];exact h2
       have hyT:(y=(i:Int))=True:=eq_true hyi
       (try (simp -implicitDefEqProofs only[go_sem,CW,AN,AL,hp',hp,hy,hyT,wi]));repeat' first|(with_reducible first|exact tI|refine aI ?_ ?_|intro _)|((first|with_reducible refine AU ?_ ?_<;>intro _)<;>try (simp -implicitDefEqProofs only[go_sem,CW,AN,AL,hp',hp,hy,hyT,wi]))|simp (disch:=omega) only[Al]|((with_reducible refine A0 ?_);refine⟨(_,_),rfl,?_,?_⟩)|((with_reducible refine A5 ?_);refine⟨_,rfl,?_,?_⟩)
       all_goals first|omega|rfl|exact .inl True.intro|exact hm|trace_state
      ·have hnx:∀t,t<p+1->ord[t]?.getD 0≠(i:Int):=fun t ht=>by
        by_cases htp:t=p
        ·subst htp;rw[hy];exact hyi
        ·exact p2 t (by omega)
       (try (simp -implicitDefEqProofs only[go_sem,CW,AN,AL,hp',hp,hy,hyi,wp]));repeat' first|(with_reducible first|exact tI|refine aI ?_ ?_|intro _)|((first|with_reducible refine AU ?_ ?_<;>intro _)<;>try (simp -implicitDefEqProofs only[go_sem,CW,AN,AL,hp',hp,hy,hyi,wp]))|simp (disch:=omega) only[Al]|((with_reducible refine A0 ?_);refine⟨(_,_),rfl,?_,?_⟩)|((with_reducible refine A5 ?_);refine⟨_,rfl,?_,?_⟩)
       all_goals first|omega|rfl|exact .inl True.intro|exact hnx|exact hnx _ (by assumption)|trace_state
     ·have hp':¬(p:Int)<(ord.length:Int):=by omega
      have hc:ord.contains (i:Int)=false:=PW fun t ht=>p2 t (by omega)
      have c1:=Qx q g nl ord (by omega) i (by omega)
      rw[Ai] at c1
      cases hf:RL q ord i with
      |false =>
       rw[hf] at c1
       have hno:R' q ord i=false:=by unfold R';rw[hf,Bool.and_false]
       rw[hno,if_neg (by simp),List.append_nil] at hsN
       have hm:m=n+(Qg q k ord (i+1)).length:=by rw[hsN];exact h2
       (try (simp -implicitDefEqProofs only[go_sem,KD,CW,AN,AL,hp',wi]));repeat' first|(with_reducible first|exact tI|refine aI ?_ ?_|intro _)|((first|with_reducible refine AU ?_ ?_<;>intro _|(with_reducible refine isCall ?_);first|refine AF c1 ?_)<;>try (simp -implicitDefEqProofs only[go_sem,KD,CW,AN,AL,hp',wi]))|simp (disch:=omega) only[Al]|((with_reducible refine A0 ?_);refine⟨(_,_),rfl,?_,?_⟩)|((with_reducible refine A5 ?_);refine⟨_,rfl,?_,?_⟩)
       all_goals first|omega|rfl|exact .inl True.intro|exact hm|trace_state
      |true =>
       rw[hf] at c1
       have hyes:R' q ord i=true:=by unfold R';rw[hf,hc];simp
       rw[hyes,if_pos rfl] at hsN
       have hch:=Xu hl hi hyes
       rw[←h2] at hch
       have ih:=Nx q g h4 hz els k j false (ord++[(i:Int)]) (by omega) (by rw[List.length_append];simp;omega) (TR hin hi) (.inr ⟨rfl,by simp⟩) m hch
       have hm:∀m',m'=m+(Fb q k (ord++[(i:Int)])).length->m'=n+(Qg q k ord (i+1)).length:=fun m' h=>by rw[h,h2,hsN,List.length_append];omega
       rcases hO with⟨rfl,rfl⟩|⟨rfl,hne0⟩
       ·replace hp':¬(p:Int)<((0:Nat):Int):=hp'
        (try (simp -implicitDefEqProofs only[go_sem,KD,CW,AN,AL,hp',Gm]));repeat' first|(with_reducible first|exact tI|refine aI ?_ ?_|intro _)|((first|with_reducible refine AU ?_ ?_<;>intro _|(with_reducible refine isCall ?_);first|refine AF c1 ?_)<;>try (simp -implicitDefEqProofs only[go_sem,KD,CW,AN,AL,hp',Gm]))|simp (disch:=omega) only[Al]|((with_reducible refine A0 ?_);refine⟨(_,_),rfl,?_,?_⟩)|((with_reducible refine A5 ?_);refine⟨_,rfl,?_,?_⟩)
        all_goals first|omega|rfl|skip
        refine OH O3 900001 els m _ rfl (by simp[AV.onlyH,AV.onlyH.allH,hon]) ih fun n1 st1 r hp=>?_
        rcases hp with⟨rfl,rfl,rfl⟩|⟨rfl,rfl⟩
        ·refine⟨rfl,?_⟩
         have hm:=hm _ rfl
         (try (simp -implicitDefEqProofs only[go_sem,CW,AN,AL,wi,Gm]));repeat' first|(with_reducible first|exact tI|refine aI ?_ ?_|intro _)|((first|with_reducible refine AU ?_ ?_<;>intro _)<;>try (simp -implicitDefEqProofs only[go_sem,CW,AN,AL,wi,Gm]))|simp (disch:=omega) only[Al]|((with_reducible refine A0 ?_);refine⟨(_,_),rfl,?_,?_⟩)|((with_reducible refine A5 ?_);refine⟨_,rfl,?_,?_⟩)
         all_goals first|omega|rfl|exact .inl True.intro|exact hm|trace_state
        ·refine⟨rfl,?_⟩
         (try (simp -implicitDefEqProofs only[go_sem,CW,AN,AL,KF,FC,HW]));repeat' first|(with_reducible first|exact tI|refine aI ?_ ?_|intro _)|((first|with_reducible refine AU ?_ ?_<;>intro _)<;>try (simp -implicitDefEqProofs only[go_sem,CW,AN,AL,KF,FC,HW]))|simp (disch:=omega) only[Al]|((with_reducible refine A0 ?_);refine⟨(_,_),rfl,?_,?_⟩)|((with_reducible refine A5 ?_);refine⟨_,rfl,?_,?_⟩)
         all_goals first|omega|exact⟨_,rfl,.inr ⟨rfl,rfl⟩⟩|trace_state
       ·(try (simp -implicitDefEqProofs only[go_sem,KD,CW,AN,AL,hp',List.take_length]));repeat' first|(with_reducible first|exact tI|refine aI ?_ ?_|intro _)|((first|with_reducible refine AU ?_ ?_<;>intro _|(with_reducible refine isCall ?_);first|refine AF c1 ?_)<;>try (simp -implicitDefEqProofs only[go_sem,KD,CW,AN,AL,hp',List.take_length]))|simp (disch:=omega) only[Al]|((with_reducible refine A0 ?_);refine⟨(_,_),rfl,?_,?_⟩)|((with_reducible refine A5 ?_);refine⟨_,rfl,?_,?_⟩)
        all_goals first|omega|rfl|skip
        refine OH O3 900001 els m _ rfl (by simp[AV.onlyH,AV.onlyH.allH,hon]) ih fun n1 st1 r hp=>?_
        rcases hp with⟨rfl,rfl,rfl⟩|⟨rfl,rfl⟩
        ·refine⟨rfl,?_⟩
         have hm:=hm _ rfl
         (try (simp -implicitDefEqProofs only[go_sem,CW,AN,AL,wi,Gm]));repeat' first|(with_reducible first|exact tI|refine aI ?_ ?_|intro _)|((first|with_reducible refine AU ?_ ?_<;>intro _)<;>try (simp -implicitDefEqProofs only[go_sem,CW,AN,AL,wi,Gm]))|simp (disch:=omega) only[Al]|((with_reducible refine A0 ?_);refine⟨(_,_),rfl,?_,?_⟩)|((with_reducible refine A5 ?_);refine⟨_,rfl,?_,?_⟩)
         all_goals first|omega|rfl|exact .inl True.intro|exact hm|trace_state
        ·refine⟨rfl,?_⟩
         (try (simp -implicitDefEqProofs only[go_sem,CW,AN,AL,KF,FC,HW]));repeat' first|(with_reducible first|exact tI|refine aI ?_ ?_|intro _)|((first|with_reducible refine AU ?_ ?_<;>intro _)<;>try (simp -implicitDefEqProofs only[go_sem,CW,AN,AL,KF,FC,HW]))|simp (disch:=omega) only[Al]|((with_reducible refine A0 ?_);refine⟨(_,_),rfl,?_,?_⟩)|((with_reducible refine A5 ?_);refine⟨_,rfl,?_,?_⟩)
         all_goals first|omega|exact⟨_,rfl,.inr ⟨rfl,rfl⟩⟩|trace_state
   ·have hi':¬(i:Int)<(q.rq.length:Int):=by omega
    have hie:i=q.rq.length:=by omega
    have hm:m=n+(Fb q (k+1) ord).length:=by rw[h2,cM,hie]
    (try (simp -implicitDefEqProofs only[go_sem,CW,AN,AL,hi',KF,FC,HW]));repeat' first|(with_reducible first|exact tI|refine aI ?_ ?_|intro _)|((first|with_reducible refine AU ?_ ?_<;>intro _)<;>try (simp -implicitDefEqProofs only[go_sem,CW,AN,AL,hi',KF,FC,HW]))|simp (disch:=omega) only[Al]|((with_reducible refine A0 ?_);refine⟨(_,_),rfl,?_,?_⟩)|((with_reducible refine A5 ?_);refine⟨_,rfl,?_,?_⟩)
    all_goals first|omega|exact⟨_,rfl,.inl ⟨rfl,hm,rfl⟩⟩|trace_state
end Go.Pw
end
section
namespace Go.Pw
def RG (q:GQ) (e:List Int) (n:Nat):Bool:=decide (0<=(q.rq[n]?.getD default).due) && decide ((q.rq[n]?.getD default).due<e[n]?.getD 0)
def NZ (q:GQ) (e:List Int) (n:Nat):Int:=(((List.range n).filter (RG q e)).length:Int)
theorem gk (q:GQ) (e:List Int) (n:Nat):NZ q e (n+1)=NZ q e n+(if RG q e n then 1 else 0):=by
 unfold NZ
 rw[List.range_succ,List.filter_append]
 cases h:RG q e n<;>simp[h]
theorem dw (q:GQ) (e:List Int) (n:Nat):0<=NZ q e n/\NZ q e n<=n:=by
 have:=List.length_filter_le (RG q e) (List.range n)
 rw[List.length_range] at this
 unfold NZ;omega
def bI (o e:List Int):Int:=if o.length=0 then 0 else e[(o[o.length-1]?.getD 0).toNat]?.getD 0
def oE (q:GQ) (o:List Int):List Int:=q.outN true o o.length
def TJ (q:GQ) (o:List Int):Int:=NZ q (oE q o) q.rq.length
def ep (q:GQ) (o:List Int):Int:=bI o (oE q o)
def eA (q:GQ) (l n:Int) (o:List Int):Bool:=decide (TJ q o<l) || (decide (TJ q o=l) && decide (ep q o<n))
def N1 (q:GQ) (L:List (List Int)):Nat->(Bool×List Int)×(Int×Int)
 |0=>((true,[]),((q.rq.length:Int)+1,0))
 |n+1=>if eA q (N1 q L n).2.1 (N1 q L n).2.2 (L[n]?.getD []) then ((false,L[n]?.getD []),(TJ q (L[n]?.getD []),ep q (L[n]?.getD []))) else N1 q L n
def ei:AG:=⟨2,60,false,[(2,6),(1,5)],10,25,4,12,20,30⟩
def ke:GQ:=⟨ei,0,2,false,[(0,0),(10,40),(15,30)],false,[⟨30,2,0,-1,false⟩,⟨0,3,0,100,false⟩,⟨14,1,5,150,false⟩,⟨1,2,10,-1,true⟩]⟩
theorem TW:ke.check=0/\ke.d.size=34:=by decide +kernel
theorem eh:N1 ke (Fb ke 4 []) (Fb ke 4 []).length=((false,[1,2,0,3]),(0,330)):=by decide +kernel
end Go.Pw
end
