/- A part of the proof. -/
import Derived.Test.YtibkjeolahobbaaGreatDoorPgChrBk
import Derived.Test.YtibkjeolahobbaaGreatDoorPgChG
set_option linter.all false
section
open Go Go.Pw Go.Proofs
namespace Go.Pw
set_option linter.unusedSimpArgs false
set_option linter.unusedVariables false
set_option maxRecDepth 100000
set_option maxHeartbeats 3200000
theorem am {α:Type} (l:List α) (x:α):false=(l++[x]).isEmpty:=by cases l<;>rfl
attribute [local congr] Bh A_ A' Ap Bi Av Ax Aw Ao Ah Ab AZ Ar Ac As BI BM BK BL BJ BN BF Af Au Ag BD BQ Ae BG BH BE BB BC A9 BA Aq Ad
attribute [local irreducible] IntKind.wrap A5 Option.getD and or
theorem MG (L P Q:Int) (n n2:Bool) (xs ms:List Int) (hxl:xs.length≤1000):CF E0 Iq [.agg [.int .i64 L,.int .i64 P,.int .i64 Q],.list n (Ai xs),.list n2 (Ai ms)] (.tup [.list (k8 L P Q xs ms).isEmpty (Ai (k8 L P Q xs ms)),.int .i64 (lc L P Q xs ms)]):=by
 refine AO LK Am (by simp) fun hwf=>?_
 rw [AW];unfold Gw k8 lc
 cases hw:Ct L P Q with
 |false =>
  have c1:=Dh L P Q n xs C_ (if DP L P=true then L else 0) VE (by
   split
   ·rename_i hc;have:=GF hc;omega
   ·omega) fun hc=>by rw [if_pos hc];exact Je L P
  unfold jB at c1
  rw [hw] at c1
  simp only [Bool.false_eq_true,if_false] at c1 ⊢
  rw [Pp] at c1
  (try (simp -implicitDefEqProofs only [go_sem]));repeat' first|(with_reducible first|exact True.intro|refine And.intro ?_ ?_|intro _)|(((with_reducible refine isCall ?_);first|refine AF (c1) rfl ?_ ?_|refine AE (c1) rfl ?_|refine AB (c1) rfl ?_ ?_|refine AG (c1) rfl rfl ?_)<;>try (simp -implicitDefEqProofs only [go_sem]))|(((with_reducible refine AS ?_ ?_)<;>intro _)<;>try (simp -implicitDefEqProofs only [go_sem]))|simp (disch:=omega) only [AC,AH,AP,AJ,AD,AQ,AI,AA]|((with_reducible refine BW ?_);refine⟨(_,_,_),rfl,?_,?_⟩)|((with_reducible refine An ?_);refine⟨(_,_),rfl,?_,?_⟩)
  all_goals first|rfl|(simp;done)|skip
 |true =>
  obtain⟨l,p,q,rfl,rfl,rfl,b1,b2,b3,b4,b5,b6,b7,hc⟩:=Ix hw
  have c1:=Dh l p q n xs C_ (l:Int) VE (by omega) fun hc=>Je l p
  unfold jB at c1
  rw [hw] at c1
  simp only [if_true] at c1 ⊢
  cases hs:CG xs ((q:Int) * (l:Int)) with
  |false =>
   rw [hs] at c1
   simp only [Bool.false_eq_true,if_false] at c1 ⊢
   rw [WA] at c1
   (try (simp -implicitDefEqProofs only [go_sem]));repeat' first|(with_reducible first|exact True.intro|refine And.intro ?_ ?_|intro _)|(((with_reducible refine isCall ?_);first|refine AF (c1) rfl ?_ ?_|refine AE (c1) rfl ?_|refine AB (c1) rfl ?_ ?_|refine AG (c1) rfl rfl ?_)<;>try (simp -implicitDefEqProofs only [go_sem]))|(((with_reducible refine AS ?_ ?_)<;>intro _)<;>try (simp -implicitDefEqProofs only [go_sem]))|simp (disch:=omega) only [AC,AH,AP,AJ,AD,AQ,AI,AA]|((with_reducible refine BW ?_);refine⟨(_,_,_),rfl,?_,?_⟩)|((with_reducible refine An ?_);refine⟨(_,_),rfl,?_,?_⟩)
   all_goals first|rfl|(simp;done)|skip
  |true =>
   rw [hs] at c1
   simp only [if_true] at c1 ⊢
   rw [Xg] at c1
   have cp:=MC n2 ms xs.length
   cases hm:D9 ms xs.length with
   |false =>
    rw [hm] at cp
    simp only [Bool.false_eq_true,if_false]
    (try (simp -implicitDefEqProofs only [go_sem]));repeat' first|(with_reducible first|exact True.intro|refine And.intro ?_ ?_|intro _)|(((with_reducible refine isCall ?_);first|refine AF (c1) rfl ?_ ?_|refine AE (c1) rfl ?_|refine AB (c1) rfl ?_ ?_|refine AG (c1) rfl rfl ?_|refine AF (cp) rfl ?_ ?_|refine AE (cp) rfl ?_|refine AB (cp) rfl ?_ ?_|refine AG (cp) rfl rfl ?_)<;>try (simp -implicitDefEqProofs only [go_sem]))|(((with_reducible refine AS ?_ ?_)<;>intro _)<;>try (simp -implicitDefEqProofs only [go_sem]))|simp (disch:=omega) only [AC,AH,AP,AJ,AD,AQ,AI,AA]|((with_reducible refine BW ?_);refine⟨(_,_,_),rfl,?_,?_⟩)|((with_reducible refine An ?_);refine⟨(_,_),rfl,?_,?_⟩)
    all_goals first|rfl|(simp;done)|skip
   |true =>
    rw [hm] at cp
    simp only [if_true]
    obtain⟨hl,hf⟩:=PR hs
    obtain⟨d,hd⟩:∃d,fs xs=d:=⟨_,rfl⟩
    rw [hd] at hf ⊢
    subst hf
    have hmk:=kI hm
    have hmf:=lQ hm
    obtain⟨mk,hMK⟩:∃mk,nt ms=mk:=⟨_,rfl⟩
    rw [hMK] at hmk hmf ⊢
    subst hmf
    rw [I8] at hl hmk hxl cp
    have hdl:=Sk hl
    rw [hdl] at hmk
    have hmq:=bv b2 b7
    have hml:=bw hmk
    simp only [Int.toNat_natCast]
    have c2:=fun k hk=>Ia l p q l k n d (by omega) (by omega) b7 hk hdl
    have hpm:=fun k=>@Si l q k (by omega) mk hmk
    have c3:=fun k b=>ME l p false b (CH l q k d) (OU q k mk) b2 (by omega) b3 (by omega) (CN ..) (hpm k) (by have:=bw (hpm k);omega) rfl
    have hO:∀k,MA l p (CH l q k d) (OU q k mk)=Xs l p q d mk k:=fun k=>rfl
    simp only [hO] at c3
    have c4:=Ft l p (by omega)
    have w1:(l:Int) - (p:Int)=((l - p:Nat):Int):=by omega
    rw [w1] at c4
    have hst:=fun k hk=>@TQ q (aC l p q d mk) k hk
    have hwl:=O4 q (aC l p q d mk)
    (try (simp -implicitDefEqProofs only [go_sem]));repeat' first|(with_reducible first|exact True.intro|refine And.intro ?_ ?_|intro _)|(((with_reducible refine isCall ?_);first|refine AF (c1) rfl ?_ ?_|refine AE (c1) rfl ?_|refine AB (c1) rfl ?_ ?_|refine AG (c1) rfl rfl ?_|refine AF (cp) rfl ?_ ?_|refine AE (cp) rfl ?_|refine AB (cp) rfl ?_ ?_|refine AG (cp) rfl rfl ?_)<;>try (simp -implicitDefEqProofs only [go_sem]))|(((with_reducible refine AS ?_ ?_)<;>intro _)<;>try (simp -implicitDefEqProofs only [go_sem]))|simp (disch:=omega) only [AC,AH,AP,AJ,AD,AQ,AI,AA]|((with_reducible refine BW ?_);refine⟨(_,_,_),rfl,?_,?_⟩)|((with_reducible refine An ?_);refine⟨(_,_),rfl,?_,?_⟩)
    all_goals first|omega|(simp;done)|(simp;omega)|skip
    refine AY (α:=Nat×Bool) (l0:=?l1) (m0:=?m1) (fun x=>[(33,.d (.int .i64 (x.1:Int)))]) (fun x=>[(76,.row 110 1 x.2 (eQ ((Va q (aC l p q d mk)).take x.1)))]) (fun x=>x.1≤q∧x.2=decide (x.1=0)∧∀i,i < x.1→(Xs l p q d mk i).isSome=true) (fun x=>q - x.1) (0,true) ?h01 ?he1 ?he21 ?hI1 ?step1
    case h01=>(simp -implicitDefEqProofs only [go_sem];rfl)
    case he1=>rfl
    case he21=>rfl
    case' step1=>(rintro⟨k,e⟩ hI;try dsimp only at hI)
    case' hI1=>try dsimp only
    ·exact⟨Nat.zero_le _,rfl,fun i hi=>absurd hi (by omega)⟩
    ·obtain⟨k1,k2,k3⟩:=hI
     change e=decide (k=0) at k2
     subst k2
     by_cases hk:k < q
     ·have hk':(k:Int) < (q:Int):=by omega
      have hwk:IntKind.i64.wrap ((k:Int)+1)=((k+1:Nat):Int):=by rw [AC _ (by omega)];omega
      have hq0:¬(q:Int)=0:=by omega
      (try (simp -implicitDefEqProofs only [go_sem,hk']));repeat' first|(with_reducible first|exact True.intro|refine And.intro ?_ ?_|intro _)|(((with_reducible refine AS ?_ ?_)<;>intro _)<;>try (simp -implicitDefEqProofs only [go_sem,hk']))|simp (disch:=omega) only [AC,AH,AP,AJ,AD,AQ,AI,AA]|((with_reducible refine BW ?_);refine⟨(_,_,_),rfl,?_,?_⟩)|((with_reducible refine An ?_);refine⟨(_,_),rfl,?_,?_⟩)
      all_goals first|omega|(simp;done)|(simp;omega)|skip
      refine AY (α:=Nat×Bool×(List Nat)) (l0:=?l2) (m0:=?m2) (fun x=>[(38,.d (.int .i64 (x.1:Int)))]) (fun x=>[(54,.row 3 1 x.2.1 (Ai (ni x.2.2)))]) (fun x=>x.1≤mk.length∧x.2.1=x.2.2.isEmpty∧x.2.2=OU q k (mk.take x.1)) (fun x=>mk.length - x.1) (0,true,[]) ?h02 ?he2 ?he22 ?hI2 ?step2
      case h02=>(simp -implicitDefEqProofs only [go_sem];rfl)
      case he2=>rfl
      case he22=>rfl
      case' step2=>(rintro⟨i,e,mm⟩ hI2;try dsimp only at hI2)
      case' hI2=>try dsimp only
      ·exact⟨Nat.zero_le _,rfl,rfl⟩
      ·obtain⟨i1,i2,i3⟩:=hI2
       change e=mm.isEmpty at i2
       have hmml:mm.length≤1000:=by
        have h1:mm.length≤(mk.take i).length:=by
         rw [i3];unfold OU;rw [List.length_map];exact List.length_filter_le ..
        rw [List.length_take] at h1;omega
       by_cases hi:i < mk.length
       ·have hi':(i:Int) < (mk.length:Int):=by omega
        have hwi:IntKind.i64.wrap ((i:Int)+1)=((i+1:Nat):Int):=by rw [AC _ (by omega)];omega
        have hx:=bx q k i mk hi
        have hxl2:=hmk.lt (mk[i]?.getD 0) (get_mem hi)
        obtain⟨x,hxx⟩:∃x,mk[i]?.getD 0=x:=⟨_,rfl⟩
        rw [hxx] at hx hxl2
        have t1:Int.tmod (x:Int) (q:Int)=((x % q:Nat):Int):=ab x q
        have t2:Int.tdiv (x:Int) (q:Int)=((x / q:Nat):Int):=ae x q
        have hdv:=Nat.div_le_self x q
        by_cases hxk:x % q=k
        ·have hxk':((x % q:Nat):Int)=(k:Int):=by omega
         rw [if_pos hxk,←i3] at hx
         have hse:=am mm (x / q)
         obtain⟨y,hy⟩:∃y,x / q=y:=⟨_,rfl⟩
         rw [hy] at t2 hx hdv hse
         have w2:IntKind.i64.wrap (y:Int)=(y:Int):=AC _ (by omega)
         (try (simp -implicitDefEqProofs only [go_sem,hi',hi,hwi,hxx,t1,t2,w2,hxk',hq0]));repeat' first|(with_reducible first|exact True.intro|refine And.intro ?_ ?_|intro _)|(((with_reducible refine AS ?_ ?_)<;>intro _)<;>try (simp -implicitDefEqProofs only [go_sem,hi',hi,hwi,hxx,t1,t2,w2,hxk',hq0]))|simp (disch:=omega) only [AC,AH,AP,AJ,AD,AQ,AI,AA]|((with_reducible refine BW ?_);refine⟨(_,_,_),rfl,?_,?_⟩)|((with_reducible refine An ?_);refine⟨(_,_),rfl,?_,?_⟩)
         all_goals first|omega|(simp;done)|(simp;omega)|skip
         all_goals first|exact⟨hse,hx.symm⟩|exact hx.symm|exact hse|skip
        ·have hxk':¬((x % q:Nat):Int)=(k:Int):=by omega
         rw [if_neg hxk,←i3] at hx
         (try (simp -implicitDefEqProofs only [go_sem,hi',hi,hwi,hxx,t1,t2,hxk',hq0]));repeat' first|(with_reducible first|exact True.intro|refine And.intro ?_ ?_|intro _)|(((with_reducible refine AS ?_ ?_)<;>intro _)<;>try (simp -implicitDefEqProofs only [go_sem,hi',hi,hwi,hxx,t1,t2,hxk',hq0]))|simp (disch:=omega) only [AC,AH,AP,AJ,AD,AQ,AI,AA]|((with_reducible refine BW ?_);refine⟨(_,_,_),rfl,?_,?_⟩)|((with_reducible refine An ?_);refine⟨(_,_),rfl,?_,?_⟩)
         all_goals first|omega|(simp;done)|(simp;omega)|skip
         all_goals first|exact⟨i2,hx.symm⟩|exact hx.symm|exact i2|skip
       ·have hi':¬(i:Int) < (mk.length:Int):=by omega
        have htk:mk.take i=mk:=List.take_of_length_le (by omega)
        rw [htk] at i3
        subst i3
        have c5:=c2 k hk
        have c6:=c3 k e
        rw [Bm] at c6
        have hsome:=fun r=>@Mt l p q d mk k r
        have hno:=@kU l p q d mk k hk
        have hdec:=fun r h=>@M1 l p (CH l q k d) r (OU q k mk) (CN ..) (hpm k) h
        simp only [hO] at hdec
        have hst2:=hst k hk
        obtain⟨O,hOO⟩:∃O,Xs l p q d mk k=O:=⟨_,rfl⟩
        rw [hOO] at c6 hsome hno hdec
        cases O with
        |none =>
         rw [Rs] at c6
         rw [hno rfl,f6,f4]
         (try (simp -implicitDefEqProofs only [go_sem,hi']));repeat' first|(with_reducible first|exact True.intro|refine And.intro ?_ ?_|intro _)|(((with_reducible refine isCall ?_);first|refine AF (c5) rfl ?_ ?_|refine AE (c5) rfl ?_|refine AB (c5) rfl ?_ ?_|refine AG (c5) rfl rfl ?_|refine AF (c6) rfl ?_ ?_|refine AE (c6) rfl ?_|refine AB (c6) rfl ?_ ?_|refine AG (c6) rfl rfl ?_)<;>try (simp -implicitDefEqProofs only [go_sem,hi']))|(((with_reducible refine AS ?_ ?_)<;>intro _)<;>try (simp -implicitDefEqProofs only [go_sem,hi']))|simp (disch:=omega) only [AC,AH,AP,AJ,AD,AQ,AI,AA]|((with_reducible refine BW ?_);refine⟨(_,_,_),rfl,?_,?_⟩)|((with_reducible refine An ?_);refine⟨(_,_),rfl,?_,?_⟩)
         all_goals first|rfl|omega|(simp;done)|skip
        |some r =>
         rw [Rr] at c6
         have hrl:=(hdec r rfl).2.1
         have hWr:=hsome r rfl
         rw [hWr] at hst2
         have hk3:∀i,i < k+1→(Xs l p q d mk i).isSome=true:=fun i hi=>by
          rcases Nat.lt_succ_iff_lt_or_eq.1 hi with hi|rfl
          ·exact k3 i hi
          ·rw [hOO];rfl
         have hle:l - p≤r.length:=by omega
         (try (simp -implicitDefEqProofs only [go_sem,hi',hwk,hst2,hle]));repeat' first|(with_reducible first|exact True.intro|refine And.intro ?_ ?_|intro _)|(((with_reducible refine isCall ?_);first|refine AF (c5) rfl ?_ ?_|refine AE (c5) rfl ?_|refine AB (c5) rfl ?_ ?_|refine AG (c5) rfl rfl ?_|refine AF (c6) rfl ?_ ?_|refine AE (c6) rfl ?_|refine AB (c6) rfl ?_ ?_|refine AG (c6) rfl rfl ?_|refine AF (c4) rfl ?_ ?_|refine AE (c4) rfl ?_|refine AB (c4) rfl ?_ ?_|refine AG (c4) rfl rfl ?_)<;>try (simp -implicitDefEqProofs only [go_sem,hi',hwk,hst2,hle]))|(((with_reducible refine AS ?_ ?_)<;>intro _)<;>try (simp -implicitDefEqProofs only [go_sem,hi',hwk,hst2,hle]))|simp (disch:=omega) only [AC,AH,AP,AJ,AD,AQ,AI,AA]|((with_reducible refine BW ?_);refine⟨(_,_,_),rfl,?_,?_⟩)|((with_reducible refine An ?_);refine⟨(_,_),rfl,?_,?_⟩)
         all_goals first|omega|(simp;done)|(simp;omega)|skip
         all_goals first|exact hk3|exact hk3 _ (by assumption)|skip
     ·have hk':¬(k:Int) < (q:Int):=by omega
      have hke:k=q:=by omega
      have hk0:decide (k=0)=false:=decide_eq_false (by omega)
      have htk:(Va q (aC l p q d mk)).take k=Va q (aC l p q d mk):=List.take_of_length_le (by omega)
      have hgs:=@Wd l p q d mk fun i hi=>k3 i (by omega)
      rw [hk0,htk,hgs,f5,fz]
      have hWl:∀i,i < q→(aC l p q d mk i).length=l - p:=fun i hi=>by
       have h1:=k3 i (by omega)
       obtain⟨O,hOO⟩:∃O,Xs l p q d mk i=O:=⟨_,rfl⟩
       rw [hOO] at h1
       cases O with
       |none=>cases h1
       |some r =>
        rw [Mt hOO,List.length_take,(M1 (CN ..) (hpm i) hOO).2.1];omega
      have c7:=Ib (.agg [.int .i64 (l:Int),.int .i64 (p:Int),.int .i64 (q:Int)]) q (l - p) (aC l p q d mk) (by omega) (by omega) b7 b6 hWl ⟨_,_,_,rfl⟩
      have hB:0 < (HT (l - p) q (aC l p q d mk)).length:=by rw [HE];exact Nat.mul_pos (by omega) (by omega)
      rw [Px hB]
      (try (simp -implicitDefEqProofs only [go_sem,hk']));repeat' first|(with_reducible first|exact True.intro|refine And.intro ?_ ?_|intro _)|(((with_reducible refine isCall ?_);first|refine AF (c7) rfl ?_ ?_|refine AE (c7) rfl ?_|refine AB (c7) rfl ?_ ?_|refine AG (c7) rfl rfl ?_)<;>try (simp -implicitDefEqProofs only [go_sem,hk']))|(((with_reducible refine AS ?_ ?_)<;>intro _)<;>try (simp -implicitDefEqProofs only [go_sem,hk']))|simp (disch:=omega) only [AC,AH,AP,AJ,AD,AQ,AI,AA]|((with_reducible refine BW ?_);refine⟨(_,_,_),rfl,?_,?_⟩)|((with_reducible refine An ?_);refine⟨(_,_),rfl,?_,?_⟩)
      all_goals first|rfl|omega|(simp;done)|skip
end Go.Pw
end
section
open Go Go.Pw Go.Proofs
namespace Go.Pw
set_option linter.unusedSimpArgs false
set_option linter.unusedVariables false
set_option maxRecDepth 100000
set_option maxHeartbeats 3200000
theorem E2 (sy:List (Option Nat)):(MR sy).length=sy.length:=by simp [MR]
def Rl (sy:List (Option Nat)) (k:Nat):List Int:=(MR sy).take k++(SV sy).drop k
theorem Xp (sy:List (Option Nat)) (k:Nat):(Rl sy k).length=sy.length:=by
 unfold Rl;rw [List.length_append,List.length_take,List.length_drop,E2,MW];omega
theorem lV (sy:List (Option Nat)):Rl sy 0=SV sy:=rfl
theorem gU (sy:List (Option Nat)):Rl sy sy.length=MR sy:=by
 unfold Rl
 rw [List.take_of_length_le (by rw [E2];omega),List.drop_eq_nil_of_le (by rw [MW];omega),List.append_nil]
theorem gT (sy:List (Option Nat)) {k:Nat} (h:k < sy.length):(Rl sy k)[k]?.getD 0=ap sy[k]:=by
 unfold Rl
 rw [List.getElem?_append_right (by rw [List.length_take,E2];omega),List.length_take,E2,Nat.min_eq_left (by omega),Nat.sub_self,List.getElem?_drop]
 simp [SV,h]
theorem Ub (sy:List (Option Nat)) {k:Nat} (h:k < sy.length):Rl sy (k+1)=(MR sy).take k++(((sy[k].getD 0:Nat):Int) :: (SV sy).drop (k+1)):=by
 unfold Rl
 rw [List.take_add_one,List.append_assoc]
 congr 1
 simp [MR,h]
theorem Uc (sy:List (Option Nat)) {k:Nat} (h:k < sy.length):Rl sy k=(MR sy).take k++(ap sy[k] :: (SV sy).drop (k+1)):=by
 unfold Rl
 rw [List.drop_eq_getElem_cons (by rw [MW];exact h)]
 simp [SV]
theorem cN (sy:List (Option Nat)) {k s:Nat} (h:k < sy.length) (hs:sy[k]=some s):Rl sy (k+1)=Rl sy k:=by
 rw [Ub sy h,Uc sy h,hs];rfl
theorem cO (sy:List (Option Nat)) {k:Nat} (h:k < sy.length) (hs:sy[k]=none):(Rl sy k).set k 0=Rl sy (k+1):=by
 rw [Ub sy h,Uc sy h,hs]
 rw [List.set_append_right _ _ (by rw [List.length_take,E2];omega),List.length_take,E2,Nat.min_eq_left (by omega),Nat.sub_self];rfl
def WM (sy:List (Option Nat)) (k:Nat):List Nat:=(List.range k).filter fun i=>(sy[i]?.getD none).isNone
theorem gH (sy:List (Option Nat)):WM sy sy.length=Y6 sy:=rfl
theorem bz (sy:List (Option Nat)) {k s:Nat} (h:k < sy.length) (hs:sy[k]=some s):WM sy (k+1)=WM sy k:=by
 unfold WM;rw [List.range_succ,List.filter_append]
 simp [h,hs]
theorem b8 (sy:List (Option Nat)) {k:Nat} (h:k < sy.length) (hs:sy[k]=none):WM sy (k+1)=WM sy k++[k]:=by
 unfold WM;rw [List.range_succ,List.filter_append]
 simp [h,hs]
theorem kJ (sy:List (Option Nat)) (k:Nat):(WM sy k).length≤k:=by
 have:=List.length_filter_le (fun i=>(sy[i]?.getD none).isNone) (List.range k)
 rw [List.length_range] at this;exact this
theorem bq (l:List Nat) (k:Nat):ni l++[(k:Int)]=ni (l++[k]):=by simp [ni]
theorem gA (l:List Nat):(ni l).length=l.length:=by simp [ni]
def _root_.Go.Pw.D.NOK1:D→Prop
 |.list nl xs=>nl=true→xs=[]
 |_=>True
def _root_.Go.Pw.D.NOK:D→Prop
 |.agg cs=>∀c,c∈cs→c.NOK1
 |d=>d.NOK1
theorem f9 {w:World} {fb:Nat→Prop} {d:D} {v:Value} (h:Ay w fb d v):d.NOK1:=by
 cases h with
 |nil=>exact fun _=>rfl
 |empty=>exact fun h=>by cases h
 |list=>exact fun h=>by cases h
 |_=>trivial
theorem kB {w:World} {fb:Nat→Prop} {d:D} {v:Value} (h:Ay w fb d v):d.NOK:=by
 cases h with
 |nil=>exact fun _=>rfl
 |empty=>exact fun h=>by cases h
 |list=>exact fun h=>by cases h
 |agg cs vs hl h1 hh =>
  intro c hc
  obtain⟨i,hi⟩:=List.getElem?_of_mem hc
  have hlt:i < vs.size:=by rw [hl];exact(List.getElem?_eq_some_iff.1 hi).1
  exact f9 (hh i c _ hi (Array.getElem?_eq_getElem hlt))
 |_=>trivial
theorem Xc {E:Ci} {f:FuncId} {ds:List D} {r:D} (h:(∀d,d∈ds→d.NOK)→CF E f ds r):CF E f ds r:=fun w fb vs hfb hg hl hd =>
 h (fun d hdm=>by
  obtain⟨i,hi⟩:=List.getElem?_of_mem hdm
  have hlt:i < vs.size:=by rw [hl];exact(List.getElem?_eq_some_iff.1 hi).1
  exact kB (hd i d _ hi (Array.getElem?_eq_getElem hlt))) w fb vs hfb hg hl hd
theorem iM {c:AX} (h:(FT c).NOK) (hm:1≤c.mark.length):c.nm=false:=by
 have h1:=h (.list c.nm (Ai c.mark)) (by simp [VA])
 cases hn:c.nm with
 |false=>rfl
 |true =>
  have h2:Ai c.mark=[]:=h1 hn
  have h3:=congrArg List.length h2
  rw [Bx] at h3
  change c.mark.length=0 at h3
  omega
theorem gQ {nl:Bool} {xs:List Int} (h:(D.list nl (Ai xs)).NOK):nl=true→xs=[]:=fun hn=>by
 have h2:Ai xs=[]:=h hn
 have h3:=congrArg List.length h2
 rw [Bx] at h3
 exact List.length_eq_zero_iff.1 (by simpa using h3)
theorem O8 {c:AX} (h:Ct c.L c.P c.Q=true) {d:List Int} (he:spE c.L c.P c.Q d=0):(TN c.L c.P c.Q d).length=c.syms:=by
 unfold spE at he
 rw [if_pos h] at he
 have hs:CG d (c.Q * (c.L - c.P))=true:=by
  cases hs:CG d (c.Q * (c.L - c.P)) with
  |true=>rfl
  |false=>rw [hs] at he;simp at he
 unfold TN
 rw [if_pos h,if_pos hs,I8,SL]
 have h2:=SC h
 have h3:=O6 h
 have:((c.L.toNat * c.Q.toNat:Nat):Int)=c.Q * c.L:=by push_cast;rw [Int.toNat_of_nonneg (by omega),Int.toNat_of_nonneg (by omega),Int.mul_comm]
 omega
theorem XC (c:AX) (X:List Int) {k:Nat} (h:k < X.length):c.flat (X.take k)++c.code.stm (X[k]?.getD 0).toNat=c.flat (X.take (k+1)):=by
 rw [List.take_add_one,List.getElem?_eq_getElem h]
 unfold AX.flat
 rw [List.flatMap_append]
 simp
attribute [local congr] Bh A_ A' Ap Bi Av Ax Aw Ao Ah Ab AZ Ar Ac As BI BM BK BL BJ BN BF Af Au Ag BD BQ Ae BG BH BE BB BC A9 BA Aq Ad
attribute [local irreducible] IntKind.wrap A5 Option.getD and or
theorem Lq (nl:Bool) (xs:List Int) (hl:xs.length≤1000) (hne:0 < xs.length) (hnl:nl=false):Hq E0 FY [] [.d (.list nl (Ai xs))] [(7,1,.row 3 1 false (Ai xs))] (.own 7 1):=by
 subst hnl
 refine DQ Hv Am (by simp) (by simp [Ol,CI,EF]) (by simp [Eh]) fun hwf hwo=>?_
 rw [D2];unfold E7
 have hn:¬xs=[]:=by intro h;rw [h] at hne;simp at hne
 (try (simp -implicitDefEqProofs only [go_sem,hn]));repeat' first|(with_reducible first|exact True.intro|refine And.intro ?_ ?_|intro _)|(((with_reducible refine AS ?_ ?_)<;>intro _)<;>try (simp -implicitDefEqProofs only [go_sem,hn]))|simp (disch:=omega) only [AC,AH,AP,AJ,AD,AQ,AI,AA]
 all_goals first|omega|rfl
theorem ML (c:AX) (hk:GL c) (sy:List (Option Nat)) (hl:sy.length=c.syms) :
  CF E0 Ez [.ptr (Q8 c (Fr c.code)),.list false (Ai (SV sy))] (.tup [.list (Ug c sy).isEmpty (Ai (Ug c sy)),.int .i64 (Ql c sy)]):=by
 have hs:=hk.syms
 have hsl:=MW sy
 have cC:=Lq false (SV sy) (by omega) (by omega) rfl
 have h0l:(Rl sy 0).length=sy.length:=Xp sy 0
 refine AO Gi Am (by simp) fun hwf=>?_
 rw [AW];unfold EQ
 (try (simp -implicitDefEqProofs only [go_sem]));repeat' first|(with_reducible first|exact True.intro|refine And.intro ?_ ?_|intro _)|(((with_reducible refine isCall ?_);first|(refine Ei ([]) ([((7,1),(11,0))]) (cC) (by repeat' first|exact True.intro|exact rfl|refine And.intro ?_ ?_) (by simp [Handed,DU.get,Aa.ren,AV.ren,AV.ren.renL,AN.get,BS,B6,Dj,AN.reach,AV.sites,AV.sites.sitesL,AN.osites]) (by simp [CD,Eh,CI,DU.get,Dj,EF,B9]) (by rfl) (by simp only [Dk,DU.get,Aa.ren,AV.ren,AV.ren.renL,and_self,and_true,true_and,if_true,reduceIte];rfl) ?_))<;>try (simp -implicitDefEqProofs only [go_sem]))|(((with_reducible refine AS ?_ ?_)<;>intro _)<;>try (simp -implicitDefEqProofs only [go_sem]))|simp (disch:=omega) only [AC,AH,AP,AJ,AD,AQ,AI,AA]|((with_reducible refine An ?_);refine⟨(_,_),rfl,?_,?_⟩)
 all_goals first|omega|(simp;done)|(simp;omega)|skip
 rw [←lV]
 refine AY (α:=Nat×Bool) (l0:=?l1) (m0:=?m1) (fun x=>[(14,.d (.int .i64 (x.1:Int)))]) (fun x=>[(11,.row 3 1 false (Ai (Rl sy x.1))),(24,.row 3 1 x.2 (Ai (ni (WM sy x.1))))]) (fun x=>x.1≤sy.length∧x.2=(WM sy x.1).isEmpty) (fun x=>sy.length - x.1) (0,true) ?h01 ?he1 ?he21 ?hI1 ?step1
 case h01=>(simp -implicitDefEqProofs only [go_sem];rfl)
 case he1=>rfl
 case he21=>rfl
 case' step1=>(rintro⟨k,e⟩ hI;try dsimp only at hI)
 case' hI1=>try dsimp only
 ·exact⟨Nat.zero_le _,rfl⟩
 ·obtain⟨k1,k2⟩:=hI
  change e=(WM sy k).isEmpty at k2
  have hkl:=Xp sy k
  by_cases hks:k < sy.length
  ·have hk':(k:Int) < (sy.length:Int):=by omega
   have hg:=gT sy hks
   have hwk:IntKind.i64.wrap ((k:Int)+1)=((k+1:Nat):Int):=by rw [AC _ (by omega)];omega
   have hmk:=kJ sy k
   have hml:=gA (WM sy k)
   cases hsy:sy[k] with
   |none =>
    rw [hsy] at hg
    change (Rl sy k)[k]?.getD 0=-1 at hg
    have h1:=cO sy hks hsy
    have h2:=b8 sy hks hsy
    have h3:=bq (WM sy k) k
    have h4:false=(WM sy k++[k]).isEmpty:=by cases WM sy k<;>rfl
    (try (simp -implicitDefEqProofs only [go_sem,hk',hks,hg,hwk,hkl,hml,h1,h3]));repeat' first|(with_reducible first|exact True.intro|refine And.intro ?_ ?_|intro _)|(((with_reducible refine AS ?_ ?_)<;>intro _)<;>try (simp -implicitDefEqProofs only [go_sem,hk',hks,hg,hwk,hkl,hml,h1,h3]))|simp (disch:=omega) only [AC,AH,AP,AJ,AD,AQ,AI,AA]|((with_reducible refine An ?_);refine⟨(_,_),rfl,?_,?_⟩)
    all_goals first|omega|(simp;done)|(simp;omega)|skip
    rw [←h2] at h4 ⊢
    exact⟨(k+1,false),rfl,⟨by show k+1≤sy.length;omega,h4⟩,by show sy.length - (k+1) < sy.length - k;omega⟩
   |some s =>
    rw [hsy] at hg
    change (Rl sy k)[k]?.getD 0=(s:Int) at hg
    have hne:¬(s:Int)=-1:=by omega
    have h1:=cN sy hks hsy
    have h2:=bz sy hks hsy
    (try (simp -implicitDefEqProofs only [go_sem,hk',hks,hg,hwk,hkl,hml,hne]));repeat' first|(with_reducible first|exact True.intro|refine And.intro ?_ ?_|intro _)|(((with_reducible refine AS ?_ ?_)<;>intro _)<;>try (simp -implicitDefEqProofs only [go_sem,hk',hks,hg,hwk,hkl,hml,hne]))|simp (disch:=omega) only [AC,AH,AP,AJ,AD,AQ,AI,AA]|((with_reducible refine An ?_);refine⟨(_,_),rfl,?_,?_⟩)
    all_goals first|omega|(simp;done)|(simp;omega)|skip
    rw [←h2] at k2 ⊢
    rw [←h1]
    exact⟨(k+1,e),rfl,⟨by show k+1≤sy.length;omega,k2⟩,by show sy.length - (k+1) < sy.length - k;omega⟩
  ·have hke:k=sy.length:=by omega
   subst hke
   have hk':¬(sy.length:Int) < ((Rl sy 0).length:Int):=by omega
   have hkn:=E2 sy
   have c1:=GG c (Fr c.code) false (MR sy) hk.seed (by omega) (by omega)
   have c2:=MG c.L c.P c.Q false e (Ck c.seed (MR sy)) (ni (Y6 sy)) (by rw [Db];omega)
   have h1:=gU sy
   have h2:=gH sy
   unfold Ug Ql
   (try (simp -implicitDefEqProofs only [go_sem,A3,hk',h1,h2]));repeat' first|(with_reducible first|exact True.intro|refine And.intro ?_ ?_|intro _)|(((with_reducible refine isCall ?_);first|refine AF (c1) rfl ?_ ?_|refine AE (c1) rfl ?_|refine AB (c1) rfl ?_ ?_|refine AG (c1) rfl rfl ?_|refine AF (c2) rfl ?_ ?_|refine AE (c2) rfl ?_|refine AB (c2) rfl ?_ ?_|refine AG (c2) rfl rfl ?_)<;>try (simp -implicitDefEqProofs only [go_sem,A3,hk',h1,h2]))|(((with_reducible refine AS ?_ ?_)<;>intro _)<;>try (simp -implicitDefEqProofs only [go_sem,A3,hk',h1,h2]))|simp (disch:=omega) only [AC,AH,AP,AJ,AD,AQ,AI,AA]|((with_reducible refine An ?_);refine⟨(_,_),rfl,?_,?_⟩)
   all_goals first|rfl|skip
theorem Hl (c:AX) (nl:Bool) (d:List Int):CF E0 Jq [FT c,.list nl (Ai d)] (.tup [.list (aM c d).isEmpty (Ai (aM c d)),.int .i64 (kz c d)]):=by
 refine Xc fun hnok=>?_
 have c1:=Fu c
 obtain⟨r,hr⟩:∃r,fw c=r:=⟨_,rfl⟩
 rw [hr] at c1
 refine AO NF Am (by simp) fun hwf=>?_
 rw [AW];unfold IT
 unfold aM kz
 rcases hok:c.ok with _|_
 ·have:=I5 hok
  rw [hr] at this
  rw [this.1,this.2] at c1
  simp only [Bool.false_eq_true,if_false]
  (try (simp -implicitDefEqProofs only [go_sem,AL,AK]));repeat' first|(with_reducible first|exact True.intro|refine And.intro ?_ ?_|intro _)|(((with_reducible refine isCall ?_);first|refine AF (c1) rfl ?_ ?_|refine AE (c1) rfl ?_|refine AB (c1) rfl ?_ ?_|refine AG (c1) rfl rfl ?_)<;>try (simp -implicitDefEqProofs only [go_sem,AL,AK]))|(((with_reducible refine AS ?_ ?_)<;>intro _)<;>try (simp -implicitDefEqProofs only [go_sem,AL,AK]))|simp (disch:=omega) only [AC,AH,AP,AJ,AD,AQ,AI,AA]|((with_reducible refine A4 ?_);refine⟨_,rfl,?_,?_⟩)
  all_goals first|rfl|skip
 ·have:=KO hok
  have hk:=FU hok
  have hm:=hk.markl
  have hs:=hk.syms
  have hnm:=iM (hnok _ (by simp)) hm.1
  rw [hr] at this
  rw [this.1,this.2] at c1
  have c2:=MF c.L c.P c.Q nl d
  simp only [if_true]
  by_cases hsp:spE c.L c.P c.Q d=0
  ·have hbl:=O8 hk.wev hsp
   rw [hsp] at c2 ⊢
   simp only [if_true]
   unfold I3
   obtain⟨B,hB⟩:∃B,TN c.L c.P c.Q d=B:=⟨_,rfl⟩
   rw [hB] at c2 hbl ⊢
   have hBe:B.isEmpty=false:=Gn fun e=>by rw [e] at hbl;simp at hbl;omega
   rw [hBe] at c2
   have c3:=GG c (Fr c.code) false B hk.seed (by omega) (by omega)
   have hX:=H9 B c.seed
   have hXl:=Db B c.seed
   obtain⟨X,hXe⟩:∃X,Ck c.seed B=X:=⟨_,rfl⟩
   rw [hXe] at c3 hX hXl ⊢
   have cM:=Lq c.nm c.mark (by omega) (by omega) hnm
   have hne:(c.mark++c.flat X).isEmpty=false:=Gn fun e=>by have:=congrArg List.length e;simp at this;rw [this.1] at hm;simp at hm
   rw [hne]
   (try (simp -implicitDefEqProofs only [go_sem,AL,AK,A3]));repeat' first|(with_reducible first|exact True.intro|refine And.intro ?_ ?_|intro _)|(((with_reducible refine isCall ?_);first|refine AF (c1) rfl ?_ ?_|refine AE (c1) rfl ?_|refine AB (c1) rfl ?_ ?_|refine AG (c1) rfl rfl ?_|refine AF (c2) rfl ?_ ?_|refine AE (c2) rfl ?_|refine AB (c2) rfl ?_ ?_|refine AG (c2) rfl rfl ?_|refine AF (c3) rfl ?_ ?_|refine AE (c3) rfl ?_|refine AB (c3) rfl ?_ ?_|refine AG (c3) rfl rfl ?_|(refine Ei ([]) ([((7,1),(37,0))]) (cM) (by repeat' first|exact True.intro|exact rfl|refine And.intro ?_ ?_) (by simp [Handed,DU.get,Aa.ren,AV.ren,AV.ren.renL,AN.get,BS,B6,Dj,AN.reach,AV.sites,AV.sites.sitesL,AN.osites]) (by simp [CD,Eh,CI,DU.get,Dj,EF,B9]) (by rfl) (by simp only [Dk,DU.get,Aa.ren,AV.ren,AV.ren.renL,and_self,and_true,true_and,if_true,reduceIte];rfl) ?_))<;>try (simp -implicitDefEqProofs only [go_sem,AL,AK,A3]))|(((with_reducible refine AS ?_ ?_)<;>intro _)<;>try (simp -implicitDefEqProofs only [go_sem,AL,AK,A3]))|simp (disch:=omega) only [AC,AH,AP,AJ,AD,AQ,AI,AA]|((with_reducible refine A4 ?_);refine⟨_,rfl,?_,?_⟩)
   all_goals first|omega|(simp;done)|(simp;omega)|skip
   have hf0:c.mark=c.mark++c.flat (X.take 0):=by simp [AX.flat]
   rw [show Ai c.mark=Ai (c.mark++c.flat (X.take 0)) from congrArg Ai hf0]
   refine AY (α:=Nat) (l0:=?l2) (m0:=?m2) (fun x=>[(42,.d (.int .i64 (x:Int)))]) (fun x=>[(37,.row 3 1 false (Ai (c.mark++c.flat (X.take x))))]) (fun x=>x≤X.length) (fun x=>X.length - x) 0 ?h02 ?he2 ?he22 ?hI2 ?step2
   case h02=>(simp -implicitDefEqProofs only [go_sem];rfl)
   case he2=>rfl
   case he22=>rfl
   case' step2=>(rintro k hI;try dsimp only at hI)
   case' hI2=>try dsimp only
   ·exact Nat.zero_le _
   ·by_cases hks:k < X.length
    ·have hk':(k:Int) < (X.length:Int):=by omega
     have hwk:IntKind.i64.wrap ((k:Int)+1)=((k+1:Nat):Int):=by rw [AC _ (by omega)];omega
     have hxm:=hX _ (Df hks)
     have hst:=XC c X hks
     obtain⟨x,hx⟩:∃x,X[k]?.getD 0=x:=⟨_,rfl⟩
     rw [hx] at hxm hst
     have hg:=PT c.code (s:=x.toNat) (by omega)
     have hx0:0≤x:=hxm.1
     have hx1:x < 16:=by omega
     have hz:=Gt hk.code
     have hsl:=K8 c.code x.toNat
     have hfl:(c.flat (X.take k)).length≤32 * 20:=by rw [OD,List.length_take];exact Nat.mul_le_mul (by omega) hz.2
     have hne0:=Vm hk.code x.toNat
     (try (simp -implicitDefEqProofs only [go_sem,A3,hk',hks,hwk,hx,hx0,hx1,P0,hg,hsl]));repeat' first|(with_reducible first|exact True.intro|refine And.intro ?_ ?_|intro _)|(((with_reducible refine AS ?_ ?_)<;>intro _)<;>try (simp -implicitDefEqProofs only [go_sem,A3,hk',hks,hwk,hx,hx0,hx1,P0,hg,hsl]))|simp (disch:=omega) only [AC,AH,AP,AJ,AD,AQ,AI,AA]|((with_reducible refine A4 ?_);refine⟨_,rfl,?_,?_⟩)
     all_goals first|omega|(simp;done)|(simp;omega)|skip
     rw [List.append_assoc c.mark,hst]
     exact⟨k+1,rfl,hks,by omega⟩
    ·have hk':¬(k:Int) < (X.length:Int):=by omega
     have htk:X.take k=X:=List.take_of_length_le (by omega)
     rw [htk]
     (try (simp -implicitDefEqProofs only [go_sem,hk']));repeat' first|(with_reducible first|exact True.intro|refine And.intro ?_ ?_|intro _)|(((with_reducible refine AS ?_ ?_)<;>intro _)<;>try (simp -implicitDefEqProofs only [go_sem,hk']))|simp (disch:=omega) only [AC,AH,AP,AJ,AD,AQ,AI,AA]|((with_reducible refine A4 ?_);refine⟨_,rfl,?_,?_⟩)
     all_goals first|omega|(simp;done)|(simp;omega)|skip
     all_goals first|rfl|skip
  ·rw [if_neg hsp,if_neg hsp]
   obtain⟨B,hB⟩:∃B,TN c.L c.P c.Q d=B:=⟨_,rfl⟩
   rw [hB] at c2
   (try (simp -implicitDefEqProofs only [go_sem,AL,AK,A3,hsp]));repeat' first|(with_reducible first|exact True.intro|refine And.intro ?_ ?_|intro _)|(((with_reducible refine isCall ?_);first|refine AF (c1) rfl ?_ ?_|refine AE (c1) rfl ?_|refine AB (c1) rfl ?_ ?_|refine AG (c1) rfl rfl ?_|refine AF (c2) rfl ?_ ?_|refine AE (c2) rfl ?_|refine AB (c2) rfl ?_ ?_|refine AG (c2) rfl rfl ?_)<;>try (simp -implicitDefEqProofs only [go_sem,AL,AK,A3,hsp]))|(((with_reducible refine AS ?_ ?_)<;>intro _)<;>try (simp -implicitDefEqProofs only [go_sem,AL,AK,A3,hsp]))|simp (disch:=omega) only [AC,AH,AP,AJ,AD,AQ,AI,AA]|((with_reducible refine A4 ?_);refine⟨_,rfl,?_,?_⟩)
   all_goals first|rfl|skip
noncomputable def UH (c:AX) (bits:List Int):D:=.tup [.list (Rc c bits).isEmpty (Ai (Rc c bits)),.int .i64 (UJ c bits),.int .i64 (UI c bits)]
theorem lZ {c:AX} {sy:List (Option Nat)} (h:¬Ql c sy=0):Ug c sy=[]:=by
 unfold Ql lc at h
 unfold Ug k8
 split
 ·rename_i h1
  rw [if_pos h1] at h
  split
  ·rename_i h2
   rw [if_pos h2] at h
   split
   ·rename_i h3
    rw [if_pos h3] at h
    cases hg:We c.L.toNat c.P.toNat c.Q.toNat (fs (Ck c.seed (MR sy))) (nt (ni (Y6 sy))) with
    |none=>rfl
    |some r=>rw [hg] at h;exact absurd rfl h
   ·rfl
  ·rfl
 ·rfl
theorem Ic (c:AX) (nl:Bool) (bits:List Int):CF E0 K3 [FT c,.list nl (Ai bits)] (UH c bits):=by
 refine Xc fun hnok=>?_
 have hnb:=gQ (hnok (.list nl (Ai bits)) (by simp))
 have c1:=Fu c
 obtain⟨r,hr⟩:∃r,fw c=r:=⟨_,rfl⟩
 rw [hr] at c1
 refine AO N' Am (by simp) fun hwf=>?_
 rw [AW];unfold Jb UH Rc UJ UI
 rcases hok:c.ok with _|_
 ·have:=I5 hok
  rw [hr] at this
  rw [this.1,this.2] at c1
  simp only [Bool.false_eq_true,if_false]
  (try (simp -implicitDefEqProofs only [go_sem,AL,AK]));repeat' first|(with_reducible first|exact True.intro|refine And.intro ?_ ?_|intro _)|(((with_reducible refine isCall ?_);first|refine AF (c1) rfl ?_ ?_|refine AE (c1) rfl ?_|refine AB (c1) rfl ?_ ?_|refine AG (c1) rfl rfl ?_)<;>try (simp -implicitDefEqProofs only [go_sem,AL,AK]))|(((with_reducible refine AS ?_ ?_)<;>intro _)<;>try (simp -implicitDefEqProofs only [go_sem,AL,AK]))|simp (disch:=omega) only [AC,AH,AP,AJ,AD,AQ,AI,AA]
  all_goals first|rfl|skip
 ·have:=KO hok
  have hk:=FU hok
  rw [hr] at this
  rw [this.1,this.2] at c1
  have c2:=LS nl bits
  simp only [if_true]
  cases hb:Nq bits with
  |false =>
   rw [hb] at c2
   simp only [Bool.false_eq_true,if_false]
   (try (simp -implicitDefEqProofs only [go_sem,AL,AK]));repeat' first|(with_reducible first|exact True.intro|refine And.intro ?_ ?_|intro _)|(((with_reducible refine isCall ?_);first|refine AF (c1) rfl ?_ ?_|refine AE (c1) rfl ?_|refine AB (c1) rfl ?_ ?_|refine AG (c1) rfl rfl ?_|refine AF (c2) rfl ?_ ?_|refine AE (c2) rfl ?_|refine AB (c2) rfl ?_ ?_|refine AG (c2) rfl rfl ?_)<;>try (simp -implicitDefEqProofs only [go_sem,AL,AK]))|(((with_reducible refine AS ?_ ?_)<;>intro _)<;>try (simp -implicitDefEqProofs only [go_sem,AL,AK]))|simp (disch:=omega) only [AC,AH,AP,AJ,AD,AQ,AI,AA]
   all_goals first|rfl|skip
  |true =>
   rw [hb] at c2
   simp only [if_true]
   have c3:=OC c hk nl bits hb hnb
   unfold LD at c3
   cases hf:c.find bits with
   |none =>
    rw [hf] at c3
    simp only at c3 ⊢
    (try (simp -implicitDefEqProofs only [go_sem,AL,AK]));repeat' first|(with_reducible first|exact True.intro|refine And.intro ?_ ?_|intro _)|(((with_reducible refine isCall ?_);first|refine AF (c1) rfl ?_ ?_|refine AE (c1) rfl ?_|refine AB (c1) rfl ?_ ?_|refine AG (c1) rfl rfl ?_|refine AF (c2) rfl ?_ ?_|refine AE (c2) rfl ?_|refine AB (c2) rfl ?_ ?_|refine AG (c2) rfl rfl ?_|refine AF (c3) rfl ?_ ?_|refine AE (c3) rfl ?_|refine AB (c3) rfl ?_ ?_|refine AG (c3) rfl rfl ?_)<;>try (simp -implicitDefEqProofs only [go_sem,AL,AK]))|(((with_reducible refine AS ?_ ?_)<;>intro _)<;>try (simp -implicitDefEqProofs only [go_sem,AL,AK]))|simp (disch:=omega) only [AC,AH,AP,AJ,AD,AQ,AI,AA]
    all_goals first|rfl|skip
   |some a =>
    rw [hf] at c3
    simp only at c3 ⊢
    have c4:=ML c hk (c.syL bits a) (K7 c bits a)
    by_cases he:Ql c (c.syL bits a)=0
    ·rw [he] at c4 ⊢
     simp only [if_true]
     (try (simp -implicitDefEqProofs only [go_sem,AL,AK]));repeat' first|(with_reducible first|exact True.intro|refine And.intro ?_ ?_|intro _)|(((with_reducible refine isCall ?_);first|refine AF (c1) rfl ?_ ?_|refine AE (c1) rfl ?_|refine AB (c1) rfl ?_ ?_|refine AG (c1) rfl rfl ?_|refine AF (c2) rfl ?_ ?_|refine AE (c2) rfl ?_|refine AB (c2) rfl ?_ ?_|refine AG (c2) rfl rfl ?_|refine AF (c3) rfl ?_ ?_|refine AE (c3) rfl ?_|refine AB (c3) rfl ?_ ?_|refine AG (c3) rfl rfl ?_|refine AF (c4) rfl ?_ ?_|refine AE (c4) rfl ?_|refine AB (c4) rfl ?_ ?_|refine AG (c4) rfl rfl ?_)<;>try (simp -implicitDefEqProofs only [go_sem,AL,AK]))|(((with_reducible refine AS ?_ ?_)<;>intro _)<;>try (simp -implicitDefEqProofs only [go_sem,AL,AK]))|simp (disch:=omega) only [AC,AH,AP,AJ,AD,AQ,AI,AA]
     all_goals first|rfl|skip
    ·rw [if_neg he]
     have hl:=lZ he
     rw [hl] at c4 ⊢
     (try (simp -implicitDefEqProofs only [go_sem,AL,AK,he]));repeat' first|(with_reducible first|exact True.intro|refine And.intro ?_ ?_|intro _)|(((with_reducible refine isCall ?_);first|refine AF (c1) rfl ?_ ?_|refine AE (c1) rfl ?_|refine AB (c1) rfl ?_ ?_|refine AG (c1) rfl rfl ?_|refine AF (c2) rfl ?_ ?_|refine AE (c2) rfl ?_|refine AB (c2) rfl ?_ ?_|refine AG (c2) rfl rfl ?_|refine AF (c3) rfl ?_ ?_|refine AE (c3) rfl ?_|refine AB (c3) rfl ?_ ?_|refine AG (c3) rfl rfl ?_|refine AF (c4) rfl ?_ ?_|refine AE (c4) rfl ?_|refine AB (c4) rfl ?_ ?_|refine AG (c4) rfl rfl ?_)<;>try (simp -implicitDefEqProofs only [go_sem,AL,AK,he]))|(((with_reducible refine AS ?_ ?_)<;>intro _)<;>try (simp -implicitDefEqProofs only [go_sem,AL,AK,he]))|simp (disch:=omega) only [AC,AH,AP,AJ,AD,AQ,AI,AA]
     all_goals first|rfl|skip
end Go.Pw
end
