/- A part of the proof. -/
import Derived.Test.YtlmkpaimjpdhiaaDoorPgCorrectBw
set_option linter.all false
section
open Go Go.Pw Go.Proofs
namespace Go.Pw
set_option linter.unusedSimpArgs false
set_option linter.unusedVariables false
set_option maxRecDepth 100000
set_option maxHeartbeats 3200000
theorem Rd {α:Type} (l:List α) (x:α):false=(l++[x]).isEmpty:=by cases l<;>rfl
attribute [local congr] Cf BG BH A0 Cg A5 A7 A6 Az Ar Am Ai A2 An A3 BP BT BR BS BQ BU BM Ap A4 Aq BK Bk Ao BN BO BL BI BJ
attribute [local irreducible] IntKind.wrap A_ Option.getD and or
theorem GW (L P Q:Int) (n n2:Bool) (xs ms:List Int) (hxl:xs.length≤1000):B5 E0 EA [.agg [.int .i64 L,.int .i64 P,.int .i64 Q],.list n (AY xs),.list n2 (AY ms)] (.tup [.list (bt L P Q xs ms).isEmpty (AY (bt L P Q xs ms)),.int .i64 (dz L P Q xs ms)]):=by
 refine AQ J8 Af (by simp) fun hwf=>?_
 rw [AR];unfold GH bt dz
 cases hw:CH L P Q with
 |false =>
  have c1:=DH L P Q n xs Ck (if BE L P=true then L else 0) SV (by
   split
   ·rename_i hc;have:=C0 hc;omega
   ·omega) fun hc=>by rw [if_pos hc];exact Ib L P
  unfold bm at c1
  rw [hw] at c1
  simp only [Bool.false_eq_true,if_false] at c1 ⊢
  rw [Nq] at c1
  (try (simp -implicitDefEqProofs only [go_sem]));repeat' first|(with_reducible first|exact True.intro|refine And.intro ?_ ?_|intro _)|(((with_reducible refine isCall ?_);first|refine AG (c1) rfl ?_ ?_|refine AE (c1) rfl ?_|refine AB (c1) rfl ?_ ?_|refine AF (c1) rfl rfl ?_)<;>try (simp -implicitDefEqProofs only [go_sem]))|(((with_reducible refine AM ?_ ?_)<;>intro _)<;>try (simp -implicitDefEqProofs only [go_sem]))|simp (disch:=omega) only [AC,AH,AK,AJ,AD,AL,AI,AA]|((with_reducible refine AU ?_);refine⟨(_,_,_),rfl,?_,?_⟩)|((with_reducible refine Aa ?_);refine⟨(_,_),rfl,?_,?_⟩)
  all_goals first|rfl|(simp;done)|skip
 |true =>
  obtain⟨l,p,q,rfl,rfl,rfl,b1,b2,b3,b4,b5,b6,b7,hc⟩:=NF hw
  have c1:=DH l p q n xs Ck (l:Int) SV (by omega) fun hc=>Ib l p
  unfold bm at c1
  rw [hw] at c1
  simp only [if_true] at c1 ⊢
  cases hs:Au xs ((q:Int) * (l:Int)) with
  |false =>
   rw [hs] at c1
   simp only [Bool.false_eq_true,if_false] at c1 ⊢
   rw [TL] at c1
   (try (simp -implicitDefEqProofs only [go_sem]));repeat' first|(with_reducible first|exact True.intro|refine And.intro ?_ ?_|intro _)|(((with_reducible refine isCall ?_);first|refine AG (c1) rfl ?_ ?_|refine AE (c1) rfl ?_|refine AB (c1) rfl ?_ ?_|refine AF (c1) rfl rfl ?_)<;>try (simp -implicitDefEqProofs only [go_sem]))|(((with_reducible refine AM ?_ ?_)<;>intro _)<;>try (simp -implicitDefEqProofs only [go_sem]))|simp (disch:=omega) only [AC,AH,AK,AJ,AD,AL,AI,AA]|((with_reducible refine AU ?_);refine⟨(_,_,_),rfl,?_,?_⟩)|((with_reducible refine Aa ?_);refine⟨(_,_),rfl,?_,?_⟩)
   all_goals first|rfl|(simp;done)|skip
  |true =>
   rw [hs] at c1
   simp only [if_true] at c1 ⊢
   rw [Uo] at c1
   have cp:=GR n2 ms xs.length
   cases hm:CY ms xs.length with
   |false =>
    rw [hm] at cp
    simp only [Bool.false_eq_true,if_false]
    (try (simp -implicitDefEqProofs only [go_sem]));repeat' first|(with_reducible first|exact True.intro|refine And.intro ?_ ?_|intro _)|(((with_reducible refine isCall ?_);first|refine AG (c1) rfl ?_ ?_|refine AE (c1) rfl ?_|refine AB (c1) rfl ?_ ?_|refine AF (c1) rfl rfl ?_|refine AG (cp) rfl ?_ ?_|refine AE (cp) rfl ?_|refine AB (cp) rfl ?_ ?_|refine AF (cp) rfl rfl ?_)<;>try (simp -implicitDefEqProofs only [go_sem]))|(((with_reducible refine AM ?_ ?_)<;>intro _)<;>try (simp -implicitDefEqProofs only [go_sem]))|simp (disch:=omega) only [AC,AH,AK,AJ,AD,AL,AI,AA]|((with_reducible refine AU ?_);refine⟨(_,_,_),rfl,?_,?_⟩)|((with_reducible refine Aa ?_);refine⟨(_,_),rfl,?_,?_⟩)
    all_goals first|rfl|(simp;done)|skip
   |true =>
    rw [hm] at cp
    simp only [if_true]
    obtain⟨hl,hf⟩:=C_ hs
    obtain⟨d,hd⟩:∃d,fs xs=d:=⟨_,rfl⟩
    rw [hd] at hf ⊢
    subst hf
    have hmk:=TW hm
    have hmf:=X5 hm
    obtain⟨mk,hMK⟩:∃mk,nt ms=mk:=⟨_,rfl⟩
    rw [hMK] at hmk hmf ⊢
    subst hmf
    rw [DF] at hl hmk hxl cp
    have hdl:=NO hl
    rw [hdl] at hmk
    have hmq:=Mk b2 b7
    have hml:=Nv hmk
    simp only [Int.toNat_natCast]
    have c2:=fun k hk=>Hk l p q l k n d (by omega) (by omega) b7 hk hdl
    have hpm:=fun k=>@NN l q k (by omega) mk hmk
    have c3:=fun k b=>EV l p false b (Bd l q k d) (L0 q k mk) b2 (by omega) b3 (by omega) (Bi ..) (hpm k) (by have:=Nv (hpm k);omega) rfl
    have hO:∀k,Cn l p (Bd l q k d) (L0 q k mk)=Tv l p q d mk k:=fun k=>rfl
    simp only [hO] at c3
    have c4:=FM l p (by omega)
    have w1:(l:Int) - (p:Int)=((l - p:Nat):Int):=by omega
    rw [w1] at c4
    have hst:=fun k hk=>@RF q (WB l p q d mk) k hk
    have hwl:=NE q (WB l p q d mk)
    (try (simp -implicitDefEqProofs only [go_sem]));repeat' first|(with_reducible first|exact True.intro|refine And.intro ?_ ?_|intro _)|(((with_reducible refine isCall ?_);first|refine AG (c1) rfl ?_ ?_|refine AE (c1) rfl ?_|refine AB (c1) rfl ?_ ?_|refine AF (c1) rfl rfl ?_|refine AG (cp) rfl ?_ ?_|refine AE (cp) rfl ?_|refine AB (cp) rfl ?_ ?_|refine AF (cp) rfl rfl ?_)<;>try (simp -implicitDefEqProofs only [go_sem]))|(((with_reducible refine AM ?_ ?_)<;>intro _)<;>try (simp -implicitDefEqProofs only [go_sem]))|simp (disch:=omega) only [AC,AH,AK,AJ,AD,AL,AI,AA]|((with_reducible refine AU ?_);refine⟨(_,_,_),rfl,?_,?_⟩)|((with_reducible refine Aa ?_);refine⟨(_,_),rfl,?_,?_⟩)
    all_goals first|omega|(simp;done)|(simp;omega)|skip
    refine AS (α:=Nat×Bool) (l0:=?l1) (m0:=?m1) (fun x=>[(33,.d (.int .i64 (x.1:Int)))]) (fun x=>[(76,.row 67 1 x.2 (Zb ((So q (WB l p q d mk)).take x.1)))]) (fun x=>x.1≤q∧x.2=decide (x.1=0)∧∀i,i < x.1→(Tv l p q d mk i).isSome=true) (fun x=>q - x.1) (0,true) ?h01 ?he1 ?he21 ?hI1 ?step1
    case h01=>(simp -implicitDefEqProofs only [go_sem];rfl)
    case he1=>rfl
    case he21=>rfl
    case' step1=>(rintro⟨k,e⟩ hI;try dsimp only at hI)
    case' hI1=>try dsimp only
    ·exact⟨Nat.zero_le _,rfl,fun i hi=>absurd hi (by omega)⟩
    ·obtain⟨k1,k2,k3⟩:=hI
     change e=decide (k=0) at k2
     subst k2
     by_cases hk:k < q
     ·have hk':(k:Int) < (q:Int):=by omega
      have hwk:IntKind.i64.wrap ((k:Int)+1)=((k+1:Nat):Int):=by rw [AC _ (by omega)];omega
      have hq0:¬(q:Int)=0:=by omega
      (try (simp -implicitDefEqProofs only [go_sem,hk']));repeat' first|(with_reducible first|exact True.intro|refine And.intro ?_ ?_|intro _)|(((with_reducible refine AM ?_ ?_)<;>intro _)<;>try (simp -implicitDefEqProofs only [go_sem,hk']))|simp (disch:=omega) only [AC,AH,AK,AJ,AD,AL,AI,AA]|((with_reducible refine AU ?_);refine⟨(_,_,_),rfl,?_,?_⟩)|((with_reducible refine Aa ?_);refine⟨(_,_),rfl,?_,?_⟩)
      all_goals first|omega|(simp;done)|(simp;omega)|skip
      refine AS (α:=Nat×Bool×(List Nat)) (l0:=?l2) (m0:=?m2) (fun x=>[(38,.d (.int .i64 (x.1:Int)))]) (fun x=>[(54,.row 3 1 x.2.1 (AY (ni x.2.2)))]) (fun x=>x.1≤mk.length∧x.2.1=x.2.2.isEmpty∧x.2.2=L0 q k (mk.take x.1)) (fun x=>mk.length - x.1) (0,true,[]) ?h02 ?he2 ?he22 ?hI2 ?step2
      case h02=>(simp -implicitDefEqProofs only [go_sem];rfl)
      case he2=>rfl
      case he22=>rfl
      case' step2=>(rintro⟨i,e,mm⟩ hI2;try dsimp only at hI2)
      case' hI2=>try dsimp only
      ·exact⟨Nat.zero_le _,rfl,rfl⟩
      ·obtain⟨i1,i2,i3⟩:=hI2
       change e=mm.isEmpty at i2
       have hmml:mm.length≤1000:=by
        have h1:mm.length≤(mk.take i).length:=by
         rw [i3];unfold L0;rw [List.length_map];exact List.length_filter_le ..
        rw [List.length_take] at h1;omega
       by_cases hi:i < mk.length
       ·have hi':(i:Int) < (mk.length:Int):=by omega
        have hwi:IntKind.i64.wrap ((i:Int)+1)=((i+1:Nat):Int):=by rw [AC _ (by omega)];omega
        have hx:=Rx q k i mk hi
        have hxl2:=hmk.lt (mk[i]?.getD 0) (get_mem hi)
        obtain⟨x,hxx⟩:∃x,mk[i]?.getD 0=x:=⟨_,rfl⟩
        rw [hxx] at hx hxl2
        have t1:Int.tmod (x:Int) (q:Int)=((x % q:Nat):Int):=Iw x q
        have t2:Int.tdiv (x:Int) (q:Int)=((x / q:Nat):Int):=EJ x q
        have hdv:=Nat.div_le_self x q
        by_cases hxk:x % q=k
        ·have hxk':((x % q:Nat):Int)=(k:Int):=by omega
         rw [if_pos hxk,←i3] at hx
         have hse:=Rd mm (x / q)
         obtain⟨y,hy⟩:∃y,x / q=y:=⟨_,rfl⟩
         rw [hy] at t2 hx hdv hse
         have w2:IntKind.i64.wrap (y:Int)=(y:Int):=AC _ (by omega)
         (try (simp -implicitDefEqProofs only [go_sem,hi',hi,hwi,hxx,t1,t2,w2,hxk',hq0]));repeat' first|(with_reducible first|exact True.intro|refine And.intro ?_ ?_|intro _)|(((with_reducible refine AM ?_ ?_)<;>intro _)<;>try (simp -implicitDefEqProofs only [go_sem,hi',hi,hwi,hxx,t1,t2,w2,hxk',hq0]))|simp (disch:=omega) only [AC,AH,AK,AJ,AD,AL,AI,AA]|((with_reducible refine AU ?_);refine⟨(_,_,_),rfl,?_,?_⟩)|((with_reducible refine Aa ?_);refine⟨(_,_),rfl,?_,?_⟩)
         all_goals first|omega|(simp;done)|(simp;omega)|skip
         all_goals first|exact⟨hse,hx.symm⟩|exact hx.symm|exact hse|skip
        ·have hxk':¬((x % q:Nat):Int)=(k:Int):=by omega
         rw [if_neg hxk,←i3] at hx
         (try (simp -implicitDefEqProofs only [go_sem,hi',hi,hwi,hxx,t1,t2,hxk',hq0]));repeat' first|(with_reducible first|exact True.intro|refine And.intro ?_ ?_|intro _)|(((with_reducible refine AM ?_ ?_)<;>intro _)<;>try (simp -implicitDefEqProofs only [go_sem,hi',hi,hwi,hxx,t1,t2,hxk',hq0]))|simp (disch:=omega) only [AC,AH,AK,AJ,AD,AL,AI,AA]|((with_reducible refine AU ?_);refine⟨(_,_,_),rfl,?_,?_⟩)|((with_reducible refine Aa ?_);refine⟨(_,_),rfl,?_,?_⟩)
         all_goals first|omega|(simp;done)|(simp;omega)|skip
         all_goals first|exact⟨i2,hx.symm⟩|exact hx.symm|exact i2|skip
       ·have hi':¬(i:Int) < (mk.length:Int):=by omega
        have htk:mk.take i=mk:=List.take_of_length_le (by omega)
        rw [htk] at i3
        subst i3
        have c5:=c2 k hk
        have c6:=c3 k e
        rw [Aj] at c6
        have hsome:=fun r=>@LV l p q d mk k r
        have hno:=@Yc l p q d mk k hk
        have hdec:=fun r h=>@E2 l p (Bd l q k d) r (L0 q k mk) (Bi ..) (hpm k) h
        simp only [hO] at hdec
        have hst2:=hst k hk
        obtain⟨O,hOO⟩:∃O,Tv l p q d mk k=O:=⟨_,rfl⟩
        rw [hOO] at c6 hsome hno hdec
        cases O with
        |none =>
         rw [Jw] at c6
         rw [hno rfl,QQ,QP]
         (try (simp -implicitDefEqProofs only [go_sem,hi']));repeat' first|(with_reducible first|exact True.intro|refine And.intro ?_ ?_|intro _)|(((with_reducible refine isCall ?_);first|refine AG (c5) rfl ?_ ?_|refine AE (c5) rfl ?_|refine AB (c5) rfl ?_ ?_|refine AF (c5) rfl rfl ?_|refine AG (c6) rfl ?_ ?_|refine AE (c6) rfl ?_|refine AB (c6) rfl ?_ ?_|refine AF (c6) rfl rfl ?_)<;>try (simp -implicitDefEqProofs only [go_sem,hi']))|(((with_reducible refine AM ?_ ?_)<;>intro _)<;>try (simp -implicitDefEqProofs only [go_sem,hi']))|simp (disch:=omega) only [AC,AH,AK,AJ,AD,AL,AI,AA]|((with_reducible refine AU ?_);refine⟨(_,_,_),rfl,?_,?_⟩)|((with_reducible refine Aa ?_);refine⟨(_,_),rfl,?_,?_⟩)
         all_goals first|rfl|omega|(simp;done)|skip
        |some r =>
         rw [Jv] at c6
         have hrl:=(hdec r rfl).2.1
         have hWr:=hsome r rfl
         rw [hWr] at hst2
         have hk3:∀i,i < k+1→(Tv l p q d mk i).isSome=true:=fun i hi=>by
          rcases Nat.lt_succ_iff_lt_or_eq.1 hi with hi|rfl
          ·exact k3 i hi
          ·rw [hOO];rfl
         have hle:l - p≤r.length:=by omega
         (try (simp -implicitDefEqProofs only [go_sem,hi',hwk,hst2,hle]));repeat' first|(with_reducible first|exact True.intro|refine And.intro ?_ ?_|intro _)|(((with_reducible refine isCall ?_);first|refine AG (c5) rfl ?_ ?_|refine AE (c5) rfl ?_|refine AB (c5) rfl ?_ ?_|refine AF (c5) rfl rfl ?_|refine AG (c6) rfl ?_ ?_|refine AE (c6) rfl ?_|refine AB (c6) rfl ?_ ?_|refine AF (c6) rfl rfl ?_|refine AG (c4) rfl ?_ ?_|refine AE (c4) rfl ?_|refine AB (c4) rfl ?_ ?_|refine AF (c4) rfl rfl ?_)<;>try (simp -implicitDefEqProofs only [go_sem,hi',hwk,hst2,hle]))|(((with_reducible refine AM ?_ ?_)<;>intro _)<;>try (simp -implicitDefEqProofs only [go_sem,hi',hwk,hst2,hle]))|simp (disch:=omega) only [AC,AH,AK,AJ,AD,AL,AI,AA]|((with_reducible refine AU ?_);refine⟨(_,_,_),rfl,?_,?_⟩)|((with_reducible refine Aa ?_);refine⟨(_,_),rfl,?_,?_⟩)
         all_goals first|omega|(simp;done)|(simp;omega)|skip
         all_goals first|exact hk3|exact hk3 _ (by assumption)|skip
     ·have hk':¬(k:Int) < (q:Int):=by omega
      have hke:k=q:=by omega
      have hk0:decide (k=0)=false:=decide_eq_false (by omega)
      have htk:(So q (WB l p q d mk)).take k=So q (WB l p q d mk):=List.take_of_length_le (by omega)
      have hgs:=@Tu l p q d mk fun i hi=>k3 i (by omega)
      rw [hk0,htk,hgs,Ev,Eu]
      have hWl:∀i,i < q→(WB l p q d mk i).length=l - p:=fun i hi=>by
       have h1:=k3 i (by omega)
       obtain⟨O,hOO⟩:∃O,Tv l p q d mk i=O:=⟨_,rfl⟩
       rw [hOO] at h1
       cases O with
       |none=>cases h1
       |some r =>
        rw [LV hOO,List.length_take,(E2 (Bi ..) (hpm i) hOO).2.1];omega
      have c7:=Hl (.agg [.int .i64 (l:Int),.int .i64 (p:Int),.int .i64 (q:Int)]) q (l - p) (WB l p q d mk) (by omega) (by omega) b7 b6 hWl ⟨_,_,_,rfl⟩
      have hB:0 < (FN (l - p) q (WB l p q d mk)).length:=by rw [E4];exact Nat.mul_pos (by omega) (by omega)
      rw [Bq hB]
      (try (simp -implicitDefEqProofs only [go_sem,hk']));repeat' first|(with_reducible first|exact True.intro|refine And.intro ?_ ?_|intro _)|(((with_reducible refine isCall ?_);first|refine AG (c7) rfl ?_ ?_|refine AE (c7) rfl ?_|refine AB (c7) rfl ?_ ?_|refine AF (c7) rfl rfl ?_)<;>try (simp -implicitDefEqProofs only [go_sem,hk']))|(((with_reducible refine AM ?_ ?_)<;>intro _)<;>try (simp -implicitDefEqProofs only [go_sem,hk']))|simp (disch:=omega) only [AC,AH,AK,AJ,AD,AL,AI,AA]|((with_reducible refine AU ?_);refine⟨(_,_,_),rfl,?_,?_⟩)|((with_reducible refine Aa ?_);refine⟨(_,_),rfl,?_,?_⟩)
      all_goals first|rfl|omega|(simp;done)|skip
end Go.Pw
end
section
open Go Go.Pw Go.Proofs
namespace Go.Pw
set_option linter.unusedSimpArgs false
set_option linter.unusedVariables false
set_option maxRecDepth 100000
set_option maxHeartbeats 3200000
theorem XG (r:List F) (n j:Nat) (h:j < n):(r.take n)[j]?.getD 0=r[j]?.getD 0:=by rw [List.getElem?_take,if_pos h]
attribute [local congr] Cf BG BH A0 Cg A5 A7 A6 Az Ar Am Ai A2 An A3 BP BT BR BS BQ BU BM Ap A4 Aq BK Bk Ao BN BO BL BI BJ
attribute [local irreducible] IntKind.wrap A_ Option.getD and or
theorem L_ (L P Q:Int) (n n2:Bool) (xs ms:List Int) (hxl:xs.length≤1000):B5 E0 Gh [.agg [.int .i64 L,.int .i64 P,.int .i64 Q],.list n (AY xs),.list n2 (AY ms)] (.tup [.list (bt L P Q xs ms).isEmpty (AY (bt L P Q xs ms)),.int .i64 (dz L P Q xs ms)]):=by
 have c1:=Dz L P Q
 refine AQ Lb Af (by simp) fun hwf=>?_
 rw [AR];unfold HV bt dz
 cases hw:CH L P Q with
 |false =>
  rw [hw] at c1
  simp only [Bool.false_eq_true,if_false] at c1 ⊢
  (try (simp -implicitDefEqProofs only [go_sem]));repeat' first|(with_reducible first|exact True.intro|refine And.intro ?_ ?_|intro _)|(((with_reducible refine isCall ?_);first|refine AG (c1) rfl ?_ ?_|refine AE (c1) rfl ?_|refine AB (c1) rfl ?_ ?_|refine AF (c1) rfl rfl ?_)<;>try (simp -implicitDefEqProofs only [go_sem]))|(((with_reducible refine AM ?_ ?_)<;>intro _)<;>try (simp -implicitDefEqProofs only [go_sem]))|simp (disch:=omega) only [AC,AH,AK,AJ,AD,AL,AI,AA]|((with_reducible refine AU ?_);refine⟨(_,_,_),rfl,?_,?_⟩)|((with_reducible refine AW ?_);refine⟨_,rfl,?_,?_⟩)
  all_goals first|rfl|(simp;done)|skip
 |true =>
  rw [hw] at c1
  simp only [if_true] at c1 ⊢
  obtain⟨l,p,q,rfl,rfl,rfl,b1,b2,b3,b4,b5,b6,b7,hc⟩:=NF hw
  have w0:IntKind.i64.wrap ((l:Int) - (p:Int))=((l - p:Nat):Int):=by rw [AC _ (by omega)];omega
  have hql:q * l≤8 * 15:=Nat.mul_le_mul b7 b2
  have hqlp:q * (l - p)≤8 * 15:=Nat.mul_le_mul b7 (by omega)
  have w1:IntKind.i64.wrap ((q:Int) * (l:Int))=(q:Int) * (l:Int):=by rw [show (q:Int) * (l:Int)=((q * l:Nat):Int) by push_cast;rfl];exact AC _ (by omega)
  have w2:IntKind.i64.wrap ((q:Int) * ((l - p:Nat):Int))=(((l - p) * q:Nat):Int):=by rw [show (q:Int) * ((l - p:Nat):Int)=((q * (l - p):Nat):Int) by push_cast;rfl,Nat.mul_comm (l - p) q];exact AC _ (by omega)
  have c2:=Al n xs ((q:Int) * (l:Int))
  cases hs:Au xs ((q:Int) * (l:Int)) with
  |false =>
   rw [hs] at c2
   simp only [Bool.false_eq_true,if_false]
   (try (simp -implicitDefEqProofs only [go_sem,w0,w1]));repeat' first|(with_reducible first|exact True.intro|refine And.intro ?_ ?_|intro _)|(((with_reducible refine isCall ?_);first|refine AG (c1) rfl ?_ ?_|refine AE (c1) rfl ?_|refine AB (c1) rfl ?_ ?_|refine AF (c1) rfl rfl ?_|refine AG (c2) rfl ?_ ?_|refine AE (c2) rfl ?_|refine AB (c2) rfl ?_ ?_|refine AF (c2) rfl rfl ?_)<;>try (simp -implicitDefEqProofs only [go_sem,w0,w1]))|(((with_reducible refine AM ?_ ?_)<;>intro _)<;>try (simp -implicitDefEqProofs only [go_sem,w0,w1]))|simp (disch:=omega) only [AC,AH,AK,AJ,AD,AL,AI,AA]|((with_reducible refine AU ?_);refine⟨(_,_,_),rfl,?_,?_⟩)|((with_reducible refine AW ?_);refine⟨_,rfl,?_,?_⟩)
   all_goals first|rfl|(simp;done)|skip
  |true =>
   rw [hs] at c2
   simp only [if_true]
   have cp:=Ki n2 ms xs.length (by omega)
   cases hm:CY ms xs.length with
   |false =>
    rw [hm] at cp
    simp only [Bool.false_eq_true,if_false]
    (try (simp -implicitDefEqProofs only [go_sem,w0,w1]));repeat' first|(with_reducible first|exact True.intro|refine And.intro ?_ ?_|intro _)|(((with_reducible refine isCall ?_);first|refine AG (c1) rfl ?_ ?_|refine AE (c1) rfl ?_|refine AB (c1) rfl ?_ ?_|refine AF (c1) rfl rfl ?_|refine AG (c2) rfl ?_ ?_|refine AE (c2) rfl ?_|refine AB (c2) rfl ?_ ?_|refine AF (c2) rfl rfl ?_|refine AG (cp) rfl ?_ ?_|refine AE (cp) rfl ?_|refine AB (cp) rfl ?_ ?_|refine AF (cp) rfl rfl ?_)<;>try (simp -implicitDefEqProofs only [go_sem,w0,w1]))|(((with_reducible refine AM ?_ ?_)<;>intro _)<;>try (simp -implicitDefEqProofs only [go_sem,w0,w1]))|simp (disch:=omega) only [AC,AH,AK,AJ,AD,AL,AI,AA]|((with_reducible refine AU ?_);refine⟨(_,_,_),rfl,?_,?_⟩)|((with_reducible refine AW ?_);refine⟨_,rfl,?_,?_⟩)
    all_goals first|rfl|(simp;done)|skip
   |true =>
    rw [hm] at cp
    simp only [if_true]
    obtain⟨hl,hf⟩:=C_ hs
    obtain⟨d,hd⟩:∃d,fs xs=d:=⟨_,rfl⟩
    rw [hd] at hf ⊢
    subst hf
    have hmk:=TW hm
    have hmf:=X5 hm
    obtain⟨mk,hMK⟩:∃mk,nt ms=mk:=⟨_,rfl⟩
    rw [hMK] at hmk hmf ⊢
    subst hmf
    rw [DF] at hl hmk hxl cp
    have hdl:=NO hl
    rw [hdl] at hmk
    have hmq:=Mk b2 b7
    have hml:=Nv hmk
    simp only [Int.toNat_natCast]
    have c3:=fun k hk=>I5 q l k n d (by omega) (by omega) b7 hk hdl
    have hpm:=fun k=>@NN l q k (by omega) mk hmk
    have c4:=fun k b=>HU l p false b (Bd l q k d) (L0 q k mk) b2 (by omega) b3 b4 (Bi ..) (hpm k)
    have hO:∀k,Cn l p (Bd l q k d) (L0 q k mk)=Tv l p q d mk k:=fun k=>rfl
    simp only [hO] at c4
    obtain⟨m,hm2⟩:∃m,l - p=m:=⟨_,rfl⟩
    have hm1:1≤m:=by omega
    have hm15:m≤15:=by omega
    have hsome:=fun k r=>@LV l p q d mk k r
    have hno:=fun k hk=>@Yc l p q d mk k hk
    have hok:=@Tu l p q d mk
    rw [hm2] at w0 w2 hok
    simp only [hm2] at hsome
    have hlq:m * q≤120:=Mk hm15 b7
    have hlq1:0 < m * q:=Nat.mul_pos (by omega) (by omega)
    obtain⟨N,hN⟩:∃N,m * q=N:=⟨_,rfl⟩
    rw [hN] at w2 hlq hlq1
    obtain⟨W,hW⟩:∃W,WB l p q d mk=W:=⟨_,rfl⟩
    rw [hW] at hok hsome
    have hf0:=U4 m q W
    rw [hN] at hf0
    (try (simp -implicitDefEqProofs only [go_sem,w0,w1,w2,DR]));repeat' first|(with_reducible first|exact True.intro|refine And.intro ?_ ?_|intro _)|(((with_reducible refine isCall ?_);first|refine AG (c1) rfl ?_ ?_|refine AE (c1) rfl ?_|refine AB (c1) rfl ?_ ?_|refine AF (c1) rfl rfl ?_|refine AG (c2) rfl ?_ ?_|refine AE (c2) rfl ?_|refine AB (c2) rfl ?_ ?_|refine AF (c2) rfl rfl ?_|refine AG (cp) rfl ?_ ?_|refine AE (cp) rfl ?_|refine AB (cp) rfl ?_ ?_|refine AF (cp) rfl rfl ?_)<;>try (simp -implicitDefEqProofs only [go_sem,w0,w1,w2,DR]))|(((with_reducible refine AM ?_ ?_)<;>intro _)<;>try (simp -implicitDefEqProofs only [go_sem,w0,w1,w2,DR]))|simp (disch:=omega) only [AC,AH,AK,AJ,AD,AL,AI,AA]|((with_reducible refine AU ?_);refine⟨(_,_,_),rfl,?_,?_⟩)|((with_reducible refine AW ?_);refine⟨_,rfl,?_,?_⟩)
    all_goals first|omega|(simp;done)|(simp;omega)|skip
    rw [←hf0]
    refine AS (α:=Nat) (l0:=?l1) (m0:=?m1) (fun x=>[(10,.d (.int .i64 (x:Int)))]) (fun x=>[(44,.row 3 1 false (AY (iv (FE m q W x 0))))]) (fun x=>x≤q∧∀i,i < x→(Tv l p q d mk i).isSome=true) (fun x=>q - x) 0 ?h01 ?he1 ?he21 ?hI1 ?step1
    case h01=>(simp -implicitDefEqProofs only [go_sem];rfl)
    case he1=>rfl
    case he21=>rfl
    case' step1=>(rintro k hI;try dsimp only at hI)
    case' hI1=>try dsimp only
    ·exact⟨Nat.zero_le _,fun i hi=>absurd hi (by omega)⟩
    ·obtain⟨k1,k3⟩:=hI
     by_cases hk:k < q
     ·have hk':(k:Int) < (q:Int):=by omega
      have hwk:IntKind.i64.wrap ((k:Int)+1)=((k+1:Nat):Int):=by rw [AC _ (by omega)];omega
      have hq0:¬(q:Int)=0:=by omega
      (try (simp -implicitDefEqProofs only [go_sem,hk']));repeat' first|(with_reducible first|exact True.intro|refine And.intro ?_ ?_|intro _)|(((with_reducible refine AM ?_ ?_)<;>intro _)<;>try (simp -implicitDefEqProofs only [go_sem,hk']))|simp (disch:=omega) only [AC,AH,AK,AJ,AD,AL,AI,AA]|((with_reducible refine AU ?_);refine⟨(_,_,_),rfl,?_,?_⟩)|((with_reducible refine AW ?_);refine⟨_,rfl,?_,?_⟩)
      all_goals first|omega|(simp;done)|(simp;omega)|skip
      refine AS (α:=Nat×Bool×(List Nat)) (l0:=?l2) (m0:=?m2) (fun x=>[(12,.d (.int .i64 (x.1:Int)))]) (fun x=>[(75,.row 3 1 x.2.1 (AY (ni x.2.2)))]) (fun x=>x.1≤mk.length∧x.2.1=x.2.2.isEmpty∧x.2.2=L0 q k (mk.take x.1)) (fun x=>mk.length - x.1) (0,true,[]) ?h02 ?he2 ?he22 ?hI2 ?step2
      case h02=>(simp -implicitDefEqProofs only [go_sem];rfl)
      case he2=>rfl
      case he22=>rfl
      case' step2=>(rintro⟨i,e,mm⟩ hI2;try dsimp only at hI2)
      case' hI2=>try dsimp only
      ·exact⟨Nat.zero_le _,rfl,rfl⟩
      ·obtain⟨i1,i2,i3⟩:=hI2
       change e=mm.isEmpty at i2
       have hmml:mm.length≤1000:=by
        have h1:mm.length≤(mk.take i).length:=by
         rw [i3];unfold L0;rw [List.length_map];exact List.length_filter_le ..
        rw [List.length_take] at h1;omega
       by_cases hi:i < mk.length
       ·have hi':(i:Int) < (mk.length:Int):=by omega
        have hwi:IntKind.i64.wrap ((i:Int)+1)=((i+1:Nat):Int):=by rw [AC _ (by omega)];omega
        have hx:=Rx q k i mk hi
        have hxl2:=hmk.lt (mk[i]?.getD 0) (get_mem hi)
        obtain⟨x,hxx⟩:∃x,mk[i]?.getD 0=x:=⟨_,rfl⟩
        rw [hxx] at hx hxl2
        have t1:Int.tmod (x:Int) (q:Int)=((x % q:Nat):Int):=Iw x q
        have t2:Int.tdiv (x:Int) (q:Int)=((x / q:Nat):Int):=EJ x q
        have hdv:=Nat.div_le_self x q
        by_cases hxk:x % q=k
        ·have hxk':((x % q:Nat):Int)=(k:Int):=by omega
         rw [if_pos hxk,←i3] at hx
         have hse:=Rd mm (x / q)
         obtain⟨y,hy⟩:∃y,x / q=y:=⟨_,rfl⟩
         rw [hy] at t2 hx hdv hse
         have w2:IntKind.i64.wrap (y:Int)=(y:Int):=AC _ (by omega)
         (try (simp -implicitDefEqProofs only [go_sem,hi',hi,hwi,hxx,t1,t2,w2,hxk',hq0]));repeat' first|(with_reducible first|exact True.intro|refine And.intro ?_ ?_|intro _)|(((with_reducible refine AM ?_ ?_)<;>intro _)<;>try (simp -implicitDefEqProofs only [go_sem,hi',hi,hwi,hxx,t1,t2,w2,hxk',hq0]))|simp (disch:=omega) only [AC,AH,AK,AJ,AD,AL,AI,AA]|((with_reducible refine AU ?_);refine⟨(_,_,_),rfl,?_,?_⟩)|((with_reducible refine AW ?_);refine⟨_,rfl,?_,?_⟩)
         all_goals first|omega|(simp;done)|(simp;omega)|skip
         all_goals first|exact⟨hse,hx.symm⟩|exact hx.symm|exact hse|skip
        ·have hxk':¬((x % q:Nat):Int)=(k:Int):=by omega
         rw [if_neg hxk,←i3] at hx
         (try (simp -implicitDefEqProofs only [go_sem,hi',hi,hwi,hxx,t1,t2,hxk',hq0]));repeat' first|(with_reducible first|exact True.intro|refine And.intro ?_ ?_|intro _)|(((with_reducible refine AM ?_ ?_)<;>intro _)<;>try (simp -implicitDefEqProofs only [go_sem,hi',hi,hwi,hxx,t1,t2,hxk',hq0]))|simp (disch:=omega) only [AC,AH,AK,AJ,AD,AL,AI,AA]|((with_reducible refine AU ?_);refine⟨(_,_,_),rfl,?_,?_⟩)|((with_reducible refine AW ?_);refine⟨_,rfl,?_,?_⟩)
         all_goals first|omega|(simp;done)|(simp;omega)|skip
         all_goals first|exact⟨i2,hx.symm⟩|exact hx.symm|exact i2|skip
       ·have hi':¬(i:Int) < (mk.length:Int):=by omega
        have htk:mk.take i=mk:=List.take_of_length_le (by omega)
        rw [htk] at i3
        subst i3
        have c5:=c3 k hk
        have c6:=c4 k e
        rw [Aj] at c6
        have hsk:=hsome k
        have hnk:=hno k hk
        have hdec:=fun r h=>@E2 l p (Bd l q k d) r (L0 q k mk) (Bi ..) (hpm k) h
        simp only [hO] at hdec
        obtain⟨O,hOO⟩:∃O,Tv l p q d mk k=O:=⟨_,rfl⟩
        rw [hOO] at c6 hsk hnk hdec
        cases O with
        |none =>
         rw [Lk] at c6
         rw [hnk rfl,QQ,QP]
         (try (simp -implicitDefEqProofs only [go_sem,hi']));repeat' first|(with_reducible first|exact True.intro|refine And.intro ?_ ?_|intro _)|(((with_reducible refine isCall ?_);first|refine AG (c5) rfl ?_ ?_|refine AE (c5) rfl ?_|refine AB (c5) rfl ?_ ?_|refine AF (c5) rfl rfl ?_|refine AG (c6) rfl ?_ ?_|refine AE (c6) rfl ?_|refine AB (c6) rfl ?_ ?_|refine AF (c6) rfl rfl ?_)<;>try (simp -implicitDefEqProofs only [go_sem,hi']))|(((with_reducible refine AM ?_ ?_)<;>intro _)<;>try (simp -implicitDefEqProofs only [go_sem,hi']))|simp (disch:=omega) only [AC,AH,AK,AJ,AD,AL,AI,AA]|((with_reducible refine AU ?_);refine⟨(_,_,_),rfl,?_,?_⟩)|((with_reducible refine AW ?_);refine⟨_,rfl,?_,?_⟩)
         all_goals first|rfl|omega|(simp;done)|skip
        |some r =>
         rw [OB] at c6
         have hrl:=(hdec r rfl).2.1
         have hWr:=hsk r rfl
         have hk3:∀i,i < k+1→(Tv l p q d mk i).isSome=true:=fun i hi=>by
          rcases Nat.lt_succ_iff_lt_or_eq.1 hi with hi|rfl
          ·exact k3 i hi
          ·rw [hOO];rfl
         have hnx:=N0 (m:=m) (k:=k) W (show 0 < q by omega)
         (try (simp -implicitDefEqProofs only [go_sem,hi']));repeat' first|(with_reducible first|exact True.intro|refine And.intro ?_ ?_|intro _)|(((with_reducible refine isCall ?_);first|refine AG (c5) rfl ?_ ?_|refine AE (c5) rfl ?_|refine AB (c5) rfl ?_ ?_|refine AF (c5) rfl rfl ?_|refine AG (c6) rfl ?_ ?_|refine AE (c6) rfl ?_|refine AB (c6) rfl ?_ ?_|refine AF (c6) rfl rfl ?_)<;>try (simp -implicitDefEqProofs only [go_sem,hi']))|(((with_reducible refine AM ?_ ?_)<;>intro _)<;>try (simp -implicitDefEqProofs only [go_sem,hi']))|simp (disch:=omega) only [AC,AH,AK,AJ,AD,AL,AI,AA]|((with_reducible refine AU ?_);refine⟨(_,_,_),rfl,?_,?_⟩)|((with_reducible refine AW ?_);refine⟨_,rfl,?_,?_⟩)
         all_goals first|omega|(simp;done)|(simp;omega)|skip
         refine AS (α:=Nat) (l0:=?l3) (m0:=?m3) (fun x=>[(15,.d (.int .i64 (x:Int)))]) (fun x=>[(44,.row 3 1 false (AY (iv (FE m q W k x))))]) (fun x=>x≤m) (fun x=>m - x) 0 ?h03 ?he3 ?he23 ?hI3 ?step3
         case h03=>(simp -implicitDefEqProofs only [go_sem];rfl)
         case he3=>rfl
         case he23=>rfl
         case' step3=>(rintro j hI3;try dsimp only at hI3)
         case' hI3=>try dsimp only
         ·exact Nat.zero_le _
         ·have hfl:=PW m q W k j
          rw [hN] at hfl
          by_cases hj:j < m
          ·have hj':(j:Int) < (m:Int):=by omega
           have hwj:IntKind.i64.wrap ((j:Int)+1)=((j+1:Nat):Int):=by rw [AC _ (by omega)];omega
           have hlt:=N6 hk hj
           rw [hN] at hlt
           have hst:=PV (W:=W) hk hj
           rw [hWr,XG r m j hj] at hst
           have hmj:IntKind.i64.wrap ((j:Int) * (q:Int))=((j * q:Nat):Int):=by rw [show (j:Int) * (q:Int)=((j * q:Nat):Int) by push_cast;rfl];exact AC _ (by omega)
           obtain⟨s,hs⟩:∃s,j * q=s:=⟨_,rfl⟩
           rw [hs] at hmj hst hlt
           have hma:IntKind.i64.wrap ((s:Int)+(k:Int))=((s+k:Nat):Int):=by rw [AC _ (by omega)];omega
           have hjl:j < r.length:=by omega
           (try (simp -implicitDefEqProofs only [go_sem,hj',hwj,hmj,hma,hlt,hfl,hst,hjl]));repeat' first|(with_reducible first|exact True.intro|refine And.intro ?_ ?_|intro _)|(((with_reducible refine AM ?_ ?_)<;>intro _)<;>try (simp -implicitDefEqProofs only [go_sem,hj',hwj,hmj,hma,hlt,hfl,hst,hjl]))|simp (disch:=omega) only [AC,AH,AK,AJ,AD,AL,AI,AA]|((with_reducible refine AU ?_);refine⟨(_,_,_),rfl,?_,?_⟩)|((with_reducible refine AW ?_);refine⟨_,rfl,?_,?_⟩)
           all_goals first|omega|(simp;done)|(simp;omega)|skip
           all_goals first|rfl|skip
          ·have hj':¬(j:Int) < (m:Int):=by omega
           have hje:j=m:=by omega
           rw [hje,hnx]
           (try (simp -implicitDefEqProofs only [go_sem,Int.lt_irrefl,hwk]));repeat' first|(with_reducible first|exact True.intro|refine And.intro ?_ ?_|intro _)|(((with_reducible refine AM ?_ ?_)<;>intro _)<;>try (simp -implicitDefEqProofs only [go_sem,Int.lt_irrefl,hwk]))|simp (disch:=omega) only [AC,AH,AK,AJ,AD,AL,AI,AA]|((with_reducible refine AU ?_);refine⟨(_,_,_),rfl,?_,?_⟩)|((with_reducible refine AW ?_);refine⟨_,rfl,?_,?_⟩)
           all_goals first|omega|(simp;done)|(simp;omega)|skip
           all_goals first|exact hk3|exact hk3 _ (by assumption)|skip
     ·have hk':¬(k:Int) < (q:Int):=by omega
      have hke:k=q:=by omega
      have hgs:=hok fun i hi=>k3 i (by omega)
      have hfe:=PX (m:=m) W (show 0 < q by omega)
      have hB:0 < (FN m q W).length:=by rw [E4,hN];exact hlq1
      rw [hgs,Ev,Eu,Bq hB]
      rw [hke,hfe]
      (try (simp -implicitDefEqProofs only [go_sem,Int.lt_irrefl]));repeat' first|(with_reducible first|exact True.intro|refine And.intro ?_ ?_|intro _)|(((with_reducible refine AM ?_ ?_)<;>intro _)<;>try (simp -implicitDefEqProofs only [go_sem,Int.lt_irrefl]))|simp (disch:=omega) only [AC,AH,AK,AJ,AD,AL,AI,AA]|((with_reducible refine AU ?_);refine⟨(_,_,_),rfl,?_,?_⟩)|((with_reducible refine AW ?_);refine⟨_,rfl,?_,?_⟩)
      all_goals first|rfl|omega|(simp;done)|skip
end Go.Pw
end
section
open Go Go.Pw Go.Proofs
namespace Go.Pw
set_option linter.unusedSimpArgs false
set_option linter.unusedVariables false
set_option maxRecDepth 100000
set_option maxHeartbeats 3200000
attribute [local congr] Cf BG BH A0 Cg A5 A7 A6 Az Ar Am Ai A2 An A3 BP BT BR BS BQ BU BM Ap A4 Aq BK Bk Ao BN BO BL BI BJ
attribute [local irreducible] IntKind.wrap A_ Option.getD and or
theorem Lz (L P Q:Int) (n1 n2 n3:Bool) (d ws ms:List Int):B5 E0 FF [.agg [.int .i64 L,.int .i64 P,.int .i64 Q],.agg [.list n1 (AY d),.list n2 (AY ws),.list n3 (AY ms)]] (.bool true):=by
 have c0:=CQ
 have c1:=HG L P
 refine AQ Hg Af (by simp) fun hwf=>?_
 rw [AR];unfold Eo
 obtain⟨fr,hfr⟩:∃fr,(BE L P && (decide (10 < L) || decide (6 < P)))=fr:=⟨_,rfl⟩
 rw [hfr] at c1
 clear hfr
 have k1:=Cz L P Q
 have k2:=Mx L P Q
 have k3:=GU L P Q false d
 have k4:=L8 L P Q n1 d
 obtain⟨x1,hx1⟩:∃x1,(if CH L P Q=true then (0:Int) else 50)=x1:=⟨_,rfl⟩
 obtain⟨x6,hx6⟩:∃x6,(if CH L P Q=true then Q * (P / 2) else 0)=x6:=⟨_,rfl⟩
 obtain⟨x7,hx7⟩:∃x7,(if CH L P Q=true then Q * P else 0)=x7:=⟨_,rfl⟩
 obtain⟨x2,hx2⟩:∃x2,bl L P Q d=x2:=⟨_,rfl⟩
 obtain⟨x3,hx3⟩:∃x3,dv L P Q d=x3:=⟨_,rfl⟩
 obtain⟨x4,hx4⟩:∃x4,bt L P Q ws ms=x4:=⟨_,rfl⟩
 obtain⟨x5,hx5⟩:∃x5,dz L P Q ws ms=x5:=⟨_,rfl⟩
 rw [hx1,hx6,hx7] at k1 k2
 rw [hx2,hx3] at k3 k4
 have k5:¬100 < (ws.length:Int)→B5 E0 EA [.agg [.int .i64 L,.int .i64 P,.int .i64 Q],.list false (AY ws),.list false (AY ms)] (.tup [.list x4.isEmpty (AY x4),.int .i64 x5]):=fun h=>by
  have:=GW L P Q false false ws ms (by omega)
  rw [hx4,hx5] at this;exact this
 have k6:¬100 < (ws.length:Int)→B5 E0 Gh [.agg [.int .i64 L,.int .i64 P,.int .i64 Q],.list n2 (AY ws),.list n3 (AY ms)] (.tup [.list x4.isEmpty (AY x4),.int .i64 x5]):=fun h=>by
  have:=L_ L P Q n2 n3 ws ms (by omega)
  rw [hx4,hx5] at this;exact this
 clear hx1 hx2 hx3 hx4 hx5 hx6 hx7
 have k7:=BV x2.isEmpty x2.isEmpty x2 x2
 have k8:=BV x4.isEmpty x4.isEmpty x4 x4
 rw [decide_eq_true rfl] at k7 k8
 cases fr with
 |true =>
  (try (simp -implicitDefEqProofs only [go_sem]));repeat' first|(with_reducible first|exact True.intro|refine And.intro ?_ ?_|intro _)|(((with_reducible refine isCall ?_);first|refine AG (c0) rfl ?_ ?_|refine AE (c0) rfl ?_|refine AB (c0) rfl ?_ ?_|refine AF (c0) rfl rfl ?_|refine AG (c1) rfl ?_ ?_|refine AE (c1) rfl ?_|refine AB (c1) rfl ?_ ?_|refine AF (c1) rfl rfl ?_)<;>try (simp -implicitDefEqProofs only [go_sem]))|(((with_reducible refine AM ?_ ?_)<;>intro _)<;>try (simp -implicitDefEqProofs only [go_sem]))|simp (disch:=omega) only [AC,AH,AK,AJ,AD,AL,AI,AA]
  all_goals first|rfl|omega|(simp;done)|skip
 |false =>
  (try (simp -implicitDefEqProofs only [go_sem]));repeat' first|(with_reducible first|exact True.intro|refine And.intro ?_ ?_|intro _)|(((with_reducible refine isCall ?_);first|refine AG (c1) rfl ?_ ?_|refine AE (c1) rfl ?_|refine AB (c1) rfl ?_ ?_|refine AF (c1) rfl rfl ?_|refine AG (c0) rfl ?_ ?_|refine AE (c0) rfl ?_|refine AB (c0) rfl ?_ ?_|refine AF (c0) rfl rfl ?_|refine AG (k1) rfl ?_ ?_|refine AE (k1) rfl ?_|refine AB (k1) rfl ?_ ?_|refine AF (k1) rfl rfl ?_|refine AG (k2) rfl ?_ ?_|refine AE (k2) rfl ?_|refine AB (k2) rfl ?_ ?_|refine AF (k2) rfl rfl ?_|refine AG (k3) rfl ?_ ?_|refine AE (k3) rfl ?_|refine AB (k3) rfl ?_ ?_|refine AF (k3) rfl rfl ?_|refine AG (k4) rfl ?_ ?_|refine AE (k4) rfl ?_|refine AB (k4) rfl ?_ ?_|refine AF (k4) rfl rfl ?_|refine AG (k5 (by omega)) rfl ?_ ?_|refine AE (k5 (by omega)) rfl ?_|refine AB (k5 (by omega)) rfl ?_ ?_|refine AF (k5 (by omega)) rfl rfl ?_|refine AG (k6 (by omega)) rfl ?_ ?_|refine AE (k6 (by omega)) rfl ?_|refine AB (k6 (by omega)) rfl ?_ ?_|refine AF (k6 (by omega)) rfl rfl ?_|refine AG (k7) rfl ?_ ?_|refine AE (k7) rfl ?_|refine AB (k7) rfl ?_ ?_|refine AF (k7) rfl rfl ?_|refine AG (k8) rfl ?_ ?_|refine AE (k8) rfl ?_|refine AB (k8) rfl ?_ ?_|refine AF (k8) rfl rfl ?_)<;>try (simp -implicitDefEqProofs only [go_sem]))|(((with_reducible refine AM ?_ ?_)<;>intro _)<;>try (simp -implicitDefEqProofs only [go_sem]))|simp (disch:=omega) only [AC,AH,AK,AJ,AD,AL,AI,AA]
  all_goals first|rfl|omega|(simp;done)|skip
end Go.Pw
end
