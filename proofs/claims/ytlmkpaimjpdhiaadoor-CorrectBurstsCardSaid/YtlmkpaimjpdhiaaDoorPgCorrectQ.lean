/- A part of the proof. -/
import Derived.Test.YtlmkpaimjpdhiaaDoorPgCorrectN
set_option linter.all false
section
open Go Go.Pw Go.Proofs
namespace Go.Pw
set_option linter.unusedSimpArgs false
set_option linter.unusedVariables false
set_option maxRecDepth 100000
set_option maxHeartbeats 3200000
theorem Ti (w:List F):(iv w).isEmpty=w.isEmpty:=by cases w<;>rfl
theorem Gt {w:List F} (h:0 < w.length):w.isEmpty=false:=by cases w<;>simp_all
theorem Bs {w:List F} (h:0 < w.length):(iv w).isEmpty=false:=by rw [Ti];exact Gt h
theorem Xb {a b:List Int} {i:Nat} (h:∀j:Nat,j < i→a[j]?.getD 0=b[j]?.getD 0) (he:a[i]?.getD 0=b[i]?.getD 0):∀j:Nat,j < i+1→a[j]?.getD 0=b[j]?.getD 0:=fun j hj=>by
 rcases Nat.lt_succ_iff_lt_or_eq.1 hj with h1|rfl
 ·exact h j h1
 ·exact he
theorem Yv {a b:List Int} (hl:a.length=b.length) (h:∀j:Nat,j < a.length→a[j]?.getD 0=b[j]?.getD 0):a=b:=by
 apply List.ext_getElem hl
 intro i h1 h2
 have:=h i h1
 rwa [List.getElem?_eq_getElem h1,List.getElem?_eq_getElem h2,Option.getD_some,Option.getD_some] at this
theorem aI {L:Nat} {r w:List F} (hr:r.length=L) (hw:w.length=L) (hL:0 < L) (hw0:w.set 0 (w[0]?.getD 0)=w) (h:(Em L r w []).length≤1):∃j,j < L∧∃v,r=w.set j v:=by
 have hs:=H9 L r w []
 have ho:=fun j=>@Ju L r w [] hr hw j
 cases hd:Em L r w [] with
 |nil =>
  refine⟨0,hL,w[0]?.getD 0,?_⟩
  rw [hw0]
  exact Kn (by omega) fun j hj=>ho j (by rw [hd];simp)
 |cons j l =>
  rw [hd] at h hs
  have hl:l=[]:=by cases l with
   |nil=>rfl
   |cons=>simp at h
  subst hl
  refine⟨j,hs.lt j (by simp),r[j]?.getD 0,Kn (by simp;omega) fun k hk=>?_⟩
  show r[k]?.getD 0=(w.set j (r[j]?.getD 0))[k]?.getD 0
  by_cases hkj:k=j
  ·subst hkj
   rw [List.getElem?_set_self (by omega)];rfl
  ·rw [List.getElem?_set_ne (fun e=>hkj e.symm)]
   exact ho k (by rw [hd];simpa using hkj)
theorem dX:UU 5 2 [1,2,3,4,4]:=by
 have:=JQ 2 [1,2,3]
 rwa [show CU 2 [1,2,3]=[1,2,3,4,4] by decide +kernel] at this
theorem dW:∀j:Fin 5,∀v:F,¬(EK (([0,0,3,4,4]:List F).set j.val v) (L1 5 0)=0∧EK (([0,0,3,4,4]:List F).set j.val v) (L1 5 1)=0):=by decide +kernel
theorem Ey (L:Nat):UR L []:=⟨.nil,by simp⟩
theorem Yw:Cq 5 2 [0,0,3,4,4] []=none:=by
 cases h:Cq 5 2 [0,0,3,4,4] [] with
 |none=>rfl
 |some r =>
  exfalso
  obtain⟨h1,h2,h3⟩:=E3 (L:=5) rfl (Ey 5) h
  obtain⟨j,hj,v,hv⟩:=aI (w:=[0,0,3,4,4]) h2 rfl (by omega) rfl (by have:([]:List Nat).length=0:=rfl;omega)
  have a0:=h1 0 (by omega)
  have a1:=h1 1 (by omega)
  rw [show Dd (Ej 5 2 r) 0=EK r (L1 5 0) from FV _ _ _ _ (by omega),hv] at a0
  rw [show Dd (Ej 5 2 r) 1=EK r (L1 5 1) from FV _ _ _ _ (by omega),hv] at a1
  exact dW ⟨j,hj⟩ v ⟨a0,a1⟩
theorem Yx:Cq 5 2 [1,2,7,4,4] []=some [1,2,3,4,4] :=
 N_ (by omega) rfl rfl (Ey 5) dX (by decide +kernel)
theorem eS:Qi 5 2 [1,2,3]=[1,2,3,4,4]:=by decide +kernel
theorem eR:Qj 5 2 [1,2,3]=0:=by decide +kernel
theorem eU:b8 5 2 [1,2,7,4,4] []=[1,2,3,4,4]:=by
 unfold b8
 rw [if_pos (by decide),if_pos (by decide),if_pos (by decide)]
 show iv (oL (Cq 5 2 [1,2,7,4,4] []))=_
 rw [Yx];rfl
theorem eT:di 5 2 [1,2,7,4,4] []=0:=by
 unfold di
 rw [if_pos (by decide),if_pos (by decide),if_pos (by decide)]
 show oE (Cq 5 2 [1,2,7,4,4] [])=_
 rw [Yx];rfl
theorem eQ:b8 5 2 [0,0,3,4,4] []=[]:=by
 unfold b8
 rw [if_pos (by decide),if_pos (by decide),if_pos (by decide)]
 show iv (oL (Cq 5 2 [0,0,3,4,4] []))=_
 rw [Yw];rfl
theorem eP:di 5 2 [0,0,3,4,4] []=52:=by
 unfold di
 rw [if_pos (by decide),if_pos (by decide),if_pos (by decide)]
 show oE (Cq 5 2 [0,0,3,4,4] [])=_
 rw [Yw];rfl
theorem bw:fS 5 2=19∧fR 5 2=64:=by decide +kernel
attribute [local congr] Ch BI BJ A0 Ci A5 A7 A6 Az Ar Am Ai A2 An A3 BR BV BT BU BS BW BO Ap A4 Aq BM Bm Ao BP BQ BN BK BL
attribute [local irreducible] IntKind.wrap A_ Option.getD and or
theorem GY (L P:Int) (n1:Bool) (xs:List Int):B7 E0 FP [.agg [.int .i64 L,.int .i64 P],.list n1 (AY xs)] (.tup [.list (Qi L P xs).isEmpty (AY (Qi L P xs)),.int .i64 (Qj L P xs)]):=by
 have c1:=CN L P
 refine AQ Kv Af (by simp) fun hwf=>?_
 simp only [F8,FR,FQ,En,HD,HC,KD,HB,Cg,C4,C5,FT,Dh,List.length_map,Da,true_and,and_true] at hwf
 rw [AR];unfold Gz Qi Qj
 cases hc:BG L P with
 |false =>
  rw [hc] at c1
  simp only [Bool.false_eq_true,if_false] at c1
  (try (simp -implicitDefEqProofs only [go_sem,hc]));repeat' first|(with_reducible first|exact True.intro|refine And.intro ?_ ?_|intro _)|(((with_reducible refine isCall ?_);first|refine AG (c1) rfl ?_ ?_|refine AE (c1) rfl ?_|refine AB (c1) rfl ?_ ?_|refine AF (c1) rfl rfl ?_)<;>try (simp -implicitDefEqProofs only [go_sem,hc]))|(((with_reducible refine AM ?_ ?_)<;>intro _)<;>try (simp -implicitDefEqProofs only [go_sem,hc]))|simp (disch:=omega) only [AC,AH,AK,AJ,AD,AL,AI,AA]
  all_goals first|rfl|(simp;done)|skip
 |true =>
  have hb:=C3 hc
  have hw:IntKind.i64.wrap (L - P)=L - P:=AC _ (by omega)
  have c2:=EU n1 xs (L - P)
  rw [hc] at c1
  simp only [if_true] at c1 ⊢
  cases hs:Au xs (L - P) with
  |false =>
   rw [hs] at c2
   (try (simp -implicitDefEqProofs only [go_sem,hw]));repeat' first|(with_reducible first|exact True.intro|refine And.intro ?_ ?_|intro _)|(((with_reducible refine isCall ?_);first|refine AG (c1) rfl ?_ ?_|refine AE (c1) rfl ?_|refine AB (c1) rfl ?_ ?_|refine AF (c1) rfl rfl ?_|refine AG (c2) rfl ?_ ?_|refine AE (c2) rfl ?_|refine AB (c2) rfl ?_ ?_|refine AF (c2) rfl rfl ?_)<;>try (simp -implicitDefEqProofs only [go_sem,hw]))|(((with_reducible refine AM ?_ ?_)<;>intro _)<;>try (simp -implicitDefEqProofs only [go_sem,hw]))|simp (disch:=omega) only [AC,AH,AK,AJ,AD,AL,AI,AA]
   all_goals first|rfl|(simp;done)|skip
  |true =>
   rw [hs] at c2
   obtain⟨hl,hf⟩:=DC hs
   obtain⟨w,hW⟩:∃w,fs xs=w:=⟨_,rfl⟩
   rw [hW] at hf ⊢
   subst hf
   rw [DI] at hl
   obtain⟨l,p,rfl,rfl,b1,b2,b3,b4,b5⟩:=Dj hc
   have hwl:w.length+p=l:=by omega
   have c3:=Iz n1 w (by omega)
   rw [Gt (show 0 < w.length by omega)] at c3
   have c4:=GT l p false w b2 b3 hwl (by omega) rfl
   rw [Aj] at c4
   have c5:=JG false (CU p w) (by rw [CF];omega)
   rw [Gt (show 0 < (CU p w).length by rw [CF];omega)] at c5
   have he:=Bs (show 0 < (CU p w).length by rw [CF];omega)
   rw [Int.toNat_natCast]
   simp only [if_true]
   rw [he]
   (try (simp -implicitDefEqProofs only [go_sem,hw]));repeat' first|(with_reducible first|exact True.intro|refine And.intro ?_ ?_|intro _)|(((with_reducible refine isCall ?_);first|refine AG (c1) rfl ?_ ?_|refine AE (c1) rfl ?_|refine AB (c1) rfl ?_ ?_|refine AF (c1) rfl rfl ?_|refine AG (c2) rfl ?_ ?_|refine AE (c2) rfl ?_|refine AB (c2) rfl ?_ ?_|refine AF (c2) rfl rfl ?_|refine AG (c3) rfl ?_ ?_|refine AE (c3) rfl ?_|refine AB (c3) rfl ?_ ?_|refine AF (c3) rfl rfl ?_|refine AG (c4) rfl ?_ ?_|refine AE (c4) rfl ?_|refine AB (c4) rfl ?_ ?_|refine AF (c4) rfl rfl ?_|refine AG (c5) rfl ?_ ?_|refine AE (c5) rfl ?_|refine AB (c5) rfl ?_ ?_|refine AF (c5) rfl rfl ?_)<;>try (simp -implicitDefEqProofs only [go_sem,hw]))|(((with_reducible refine AM ?_ ?_)<;>intro _)<;>try (simp -implicitDefEqProofs only [go_sem,hw]))|simp (disch:=omega) only [AC,AH,AK,AJ,AD,AL,AI,AA]
   all_goals first|rfl|(simp;done)|skip
theorem EY (L P:Int) (n1 n2:Bool) (ws ms:List Int):B7 E0 ED [.agg [.int .i64 L,.int .i64 P],.list n1 (AY ws),.list n2 (AY ms)] (.tup [.list (b8 L P ws ms).isEmpty (AY (b8 L P ws ms)),.int .i64 (di L P ws ms)]):=by
 have c1:=CN L P
 refine AQ Kw Af (by simp) fun hwf=>?_
 rw [AR];unfold G1 b8 di fA
 cases hc:BG L P with
 |false =>
  rw [hc] at c1
  simp only [Bool.false_eq_true,if_false] at c1
  (try (simp -implicitDefEqProofs only [go_sem,hc]));repeat' first|(with_reducible first|exact True.intro|refine And.intro ?_ ?_|intro _)|(((with_reducible refine isCall ?_);first|refine AG (c1) rfl ?_ ?_|refine AE (c1) rfl ?_|refine AB (c1) rfl ?_ ?_|refine AF (c1) rfl rfl ?_)<;>try (simp -implicitDefEqProofs only [go_sem,hc]))|(((with_reducible refine AM ?_ ?_)<;>intro _)<;>try (simp -implicitDefEqProofs only [go_sem,hc]))|simp (disch:=omega) only [AC,AH,AK,AJ,AD,AL,AI,AA]
  all_goals first|rfl|(simp;done)|skip
 |true =>
  have c2:=EU n1 ws L
  rw [hc] at c1
  simp only [if_true] at c1 ⊢
  cases hs:Au ws L with
  |false =>
   rw [hs] at c2
   (try (simp -implicitDefEqProofs only [go_sem]));repeat' first|(with_reducible first|exact True.intro|refine And.intro ?_ ?_|intro _)|(((with_reducible refine isCall ?_);first|refine AG (c1) rfl ?_ ?_|refine AE (c1) rfl ?_|refine AB (c1) rfl ?_ ?_|refine AF (c1) rfl rfl ?_|refine AG (c2) rfl ?_ ?_|refine AE (c2) rfl ?_|refine AB (c2) rfl ?_ ?_|refine AF (c2) rfl rfl ?_)<;>try (simp -implicitDefEqProofs only [go_sem]))|(((with_reducible refine AM ?_ ?_)<;>intro _)<;>try (simp -implicitDefEqProofs only [go_sem]))|simp (disch:=omega) only [AC,AH,AK,AJ,AD,AL,AI,AA]
   all_goals first|rfl|(simp;done)|skip
  |true =>
   rw [hs] at c2
   have c6:=GR n2 ms L
   simp only [if_true]
   cases hm:Ca ms L with
   |false =>
    rw [hm] at c6
    (try (simp -implicitDefEqProofs only [go_sem]));repeat' first|(with_reducible first|exact True.intro|refine And.intro ?_ ?_|intro _)|(((with_reducible refine isCall ?_);first|refine AG (c1) rfl ?_ ?_|refine AE (c1) rfl ?_|refine AB (c1) rfl ?_ ?_|refine AF (c1) rfl rfl ?_|refine AG (c2) rfl ?_ ?_|refine AE (c2) rfl ?_|refine AB (c2) rfl ?_ ?_|refine AF (c2) rfl rfl ?_|refine AG (c6) rfl ?_ ?_|refine AE (c6) rfl ?_|refine AB (c6) rfl ?_ ?_|refine AF (c6) rfl rfl ?_)<;>try (simp -implicitDefEqProofs only [go_sem]))|(((with_reducible refine AM ?_ ?_)<;>intro _)<;>try (simp -implicitDefEqProofs only [go_sem]))|simp (disch:=omega) only [AC,AH,AK,AJ,AD,AL,AI,AA]
    all_goals first|rfl|(simp;done)|skip
   |true =>
    rw [hm] at c6
    simp only [if_true]
    obtain⟨hl,hf⟩:=DC hs
    obtain⟨w,hW⟩:∃w,fs ws=w:=⟨_,rfl⟩
    rw [hW] at hf ⊢
    subst hf
    rw [DI] at hl
    obtain⟨l,p,rfl,rfl,b1,b2,b3,b4,b5⟩:=Dj hc
    have hmk:=TW hm
    have hmf:=X5 hm
    obtain⟨mk,hMK⟩:∃mk,nt ms=mk:=⟨_,rfl⟩
    rw [hMK] at hmk hmf ⊢
    subst hmf
    have hwl:w.length=l:=by omega
    have hml:=Nv hmk
    have c3:=Iz n1 w (by omega)
    rw [Gt (show 0 < w.length by omega)] at c3
    have c4:=EX l p false n2 w mk b2 (by omega) b3 (by omega) hwl hmk (by omega) rfl
    rw [Aj] at c4
    simp only [Int.toNat_natCast]
    obtain⟨O,hr⟩:∃O,Cq l p w mk=O:=⟨_,rfl⟩
    rw [hr] at c4 ⊢
    cases O with
    |none =>
     rw [Jw] at c4
     rw [QQ,QP]
     (try (simp -implicitDefEqProofs only [go_sem]));repeat' first|(with_reducible first|exact True.intro|refine And.intro ?_ ?_|intro _)|(((with_reducible refine isCall ?_);first|refine AG (c1) rfl ?_ ?_|refine AE (c1) rfl ?_|refine AB (c1) rfl ?_ ?_|refine AF (c1) rfl rfl ?_|refine AG (c2) rfl ?_ ?_|refine AE (c2) rfl ?_|refine AB (c2) rfl ?_ ?_|refine AF (c2) rfl rfl ?_|refine AG (c3) rfl ?_ ?_|refine AE (c3) rfl ?_|refine AB (c3) rfl ?_ ?_|refine AF (c3) rfl rfl ?_|refine AG (c4) rfl ?_ ?_|refine AE (c4) rfl ?_|refine AB (c4) rfl ?_ ?_|refine AF (c4) rfl rfl ?_|refine AG (c6) rfl ?_ ?_|refine AE (c6) rfl ?_|refine AB (c6) rfl ?_ ?_|refine AF (c6) rfl rfl ?_)<;>try (simp -implicitDefEqProofs only [go_sem]))|(((with_reducible refine AM ?_ ?_)<;>intro _)<;>try (simp -implicitDefEqProofs only [go_sem]))|simp (disch:=omega) only [AC,AH,AK,AJ,AD,AL,AI,AA]
     all_goals first|rfl|(simp;done)|skip
    |some r =>
     rw [Jv] at c4
     rw [Ew,Ev]
     have hrl:=(E3 hwl hmk hr).2.1
     have c5:=JG false r (by omega)
     rw [Gt (show 0 < r.length by omega)] at c5
     rw [Bs (show 0 < r.length by omega)]
     (try (simp -implicitDefEqProofs only [go_sem]));repeat' first|(with_reducible first|exact True.intro|refine And.intro ?_ ?_|intro _)|(((with_reducible refine isCall ?_);first|refine AG (c1) rfl ?_ ?_|refine AE (c1) rfl ?_|refine AB (c1) rfl ?_ ?_|refine AF (c1) rfl rfl ?_|refine AG (c2) rfl ?_ ?_|refine AE (c2) rfl ?_|refine AB (c2) rfl ?_ ?_|refine AF (c2) rfl rfl ?_|refine AG (c3) rfl ?_ ?_|refine AE (c3) rfl ?_|refine AB (c3) rfl ?_ ?_|refine AF (c3) rfl rfl ?_|refine AG (c4) rfl ?_ ?_|refine AE (c4) rfl ?_|refine AB (c4) rfl ?_ ?_|refine AF (c4) rfl rfl ?_|refine AG (c5) rfl ?_ ?_|refine AE (c5) rfl ?_|refine AB (c5) rfl ?_ ?_|refine AF (c5) rfl rfl ?_|refine AG (c6) rfl ?_ ?_|refine AE (c6) rfl ?_|refine AB (c6) rfl ?_ ?_|refine AF (c6) rfl rfl ?_)<;>try (simp -implicitDefEqProofs only [go_sem]))|(((with_reducible refine AM ?_ ?_)<;>intro _)<;>try (simp -implicitDefEqProofs only [go_sem]))|simp (disch:=omega) only [AC,AH,AK,AJ,AD,AL,AI,AA]
     all_goals first|rfl|(simp;done)|skip
theorem LS:B7 E0 Ib [] (.agg [.int .i64 5,.int .i64 2]):=by
 refine AQ Lc Af (by simp) fun hwf=>?_
 rw [AR];unfold HW
 (try (simp -implicitDefEqProofs only [go_sem]));repeat' first|(with_reducible first|exact True.intro|refine And.intro ?_ ?_|intro _)|(((with_reducible refine AM ?_ ?_)<;>intro _)<;>try (simp -implicitDefEqProofs only [go_sem]))|simp (disch:=omega) only [AC,AH,AK,AJ,AD,AL,AI,AA]
 all_goals first|rfl|skip
theorem BX (n1 n2:Bool) (a b:List Int):B7 E0 Hr [.list n1 (AY a),.list n2 (AY b)] (.bool (decide (a=b))):=by
 refine AQ Kr Af (by simp) fun hwf=>?_
 simp only [F8,FR,FQ,En,HD,HC,KD,HB,Cg,C4,C5,FT,Dh,List.length_map,Da,true_and,and_true] at hwf
 rw [AR];unfold Gv
 by_cases hl:a.length=b.length
 ·have hl2:(a.length:Int)=b.length:=by omega
  (try (simp -implicitDefEqProofs only [go_sem,eq_true hl2]));repeat' first|(with_reducible first|exact True.intro|refine And.intro ?_ ?_|intro _)|(((with_reducible refine AM ?_ ?_)<;>intro _)<;>try (simp -implicitDefEqProofs only [go_sem,eq_true hl2]))|simp (disch:=omega) only [AC,AH,AK,AJ,AD,AL,AI,AA]|((with_reducible refine AW ?_);refine⟨_,rfl,?_,?_⟩)
  all_goals first|omega|(simp;done)|(simp;omega)|skip
  refine AS (α:=Int) (l0:=?l1) (m0:=?m1) (fun x=>[(5,.d (.int .i64 x))]) (fun x=>[]) (fun x=>(0≤x∧x≤a.length)∧∀j:Nat,j < x.toNat→a[j]?.getD 0=b[j]?.getD 0) (fun x=>(a.length - x).toNat) ?a1_0 ?h01 ?he1 ?he21 ?hI1 ?step1
  case h01=>(simp -implicitDefEqProofs only [go_sem];rfl)
  case he1=>rfl
  case he21=>rfl
  case' step1=>(rintro i hI;try dsimp only at hI)
  case' hI1=>try dsimp only
  ·exact⟨⟨by omega,by omega⟩,fun j hj=>by omega⟩
  ·obtain⟨⟨q1,q2⟩,q3⟩:=hI
   by_cases hi:i < a.length
   ·have hib:i < b.length:=by omega
    have w1:IntKind.i64.wrap (i+1)=i+1:=AC _ (by omega)
    by_cases he:a[i.toNat]?.getD 0=b[i.toNat]?.getD 0
    ·have hn:=Xb q3 he
     rw [show i.toNat+1=(i+1).toNat by omega] at hn
     (try (simp -implicitDefEqProofs only [go_sem,hi,hib,q1,w1,eq_true he]));repeat' first|(with_reducible first|exact True.intro|refine And.intro ?_ ?_|intro _)|(((with_reducible refine AM ?_ ?_)<;>intro _)<;>try (simp -implicitDefEqProofs only [go_sem,hi,hib,q1,w1,eq_true he]))|simp (disch:=omega) only [AC,AH,AK,AJ,AD,AL,AI,AA]|((with_reducible refine AW ?_);refine⟨_,rfl,?_,?_⟩)
     all_goals first|omega|(apply hn;assumption)|skip
    ·have hne:¬a=b:=fun h=>he (by rw [h])
     rw [decide_eq_false hne]
     (try (simp -implicitDefEqProofs only [go_sem,hi,hib,q1,w1,he]));repeat' first|(with_reducible first|exact True.intro|refine And.intro ?_ ?_|intro _)|(((with_reducible refine AM ?_ ?_)<;>intro _)<;>try (simp -implicitDefEqProofs only [go_sem,hi,hib,q1,w1,he]))|simp (disch:=omega) only [AC,AH,AK,AJ,AD,AL,AI,AA]|((with_reducible refine AW ?_);refine⟨_,rfl,?_,?_⟩)
     all_goals first|omega|(simp;done)|(simp;omega)|skip
   ·have he:a=b:=Yv hl fun j hj=>q3 j (by omega)
    rw [decide_eq_true he]
    (try (simp -implicitDefEqProofs only [go_sem,hi]));repeat' first|(with_reducible first|exact True.intro|refine And.intro ?_ ?_|intro _)|(((with_reducible refine AM ?_ ?_)<;>intro _)<;>try (simp -implicitDefEqProofs only [go_sem,hi]))|simp (disch:=omega) only [AC,AH,AK,AJ,AD,AL,AI,AA]|((with_reducible refine AW ?_);refine⟨_,rfl,?_,?_⟩)
 ·have hl2:¬(a.length:Int)=b.length:=by omega
  have hne:¬a=b:=fun h=>hl (by rw [h])
  rw [decide_eq_false hne]
  (try (simp -implicitDefEqProofs only [go_sem,hl2]));repeat' first|(with_reducible first|exact True.intro|refine And.intro ?_ ?_|intro _)|(((with_reducible refine AM ?_ ?_)<;>intro _)<;>try (simp -implicitDefEqProofs only [go_sem,hl2]))|simp (disch:=omega) only [AC,AH,AK,AJ,AD,AL,AI,AA]|((with_reducible refine AW ?_);refine⟨_,rfl,?_,?_⟩)
  all_goals first|omega|(simp;done)|(simp;omega)|skip
theorem CS:B7 E0 KU [] (.bool true):=by
 have c1:=LS
 have c2:=GY 5 2 false [1,2,3]
 rw [eS,eR] at c2
 have c3:=EY 5 2 false true [1,2,7,4,4] []
 rw [eU,eT] at c3
 have c4:=EY 5 2 false true [0,0,3,4,4] []
 rw [eQ,eP] at c4
 have c5:=Kz 5 2
 rw [bw.1,bw.2,show BG 5 2=true by decide,if_pos rfl] at c5
 have c6:=BX false false [1,2,3,4,4] [1,2,3,4,4]
 rw [decide_eq_true rfl] at c6
 refine AQ M_ Af (by simp) fun hwf=>?_
 rw [AR];unfold JC
 (try (simp -implicitDefEqProofs only [go_sem]));repeat' first|(with_reducible first|exact True.intro|refine And.intro ?_ ?_|intro _)|(((with_reducible refine isCall ?_);first|refine AG (c1) rfl ?_ ?_|refine AE (c1) rfl ?_|refine AB (c1) rfl ?_ ?_|refine AF (c1) rfl rfl ?_|refine AG (c2) rfl ?_ ?_|refine AE (c2) rfl ?_|refine AB (c2) rfl ?_ ?_|refine AF (c2) rfl rfl ?_|refine AG (c3) rfl ?_ ?_|refine AE (c3) rfl ?_|refine AB (c3) rfl ?_ ?_|refine AF (c3) rfl rfl ?_|refine AG (c4) rfl ?_ ?_|refine AE (c4) rfl ?_|refine AB (c4) rfl ?_ ?_|refine AF (c4) rfl rfl ?_|refine AG (c5) rfl ?_ ?_|refine AE (c5) rfl ?_|refine AB (c5) rfl ?_ ?_|refine AF (c5) rfl rfl ?_|refine AG (c6) rfl ?_ ?_|refine AE (c6) rfl ?_|refine AB (c6) rfl ?_ ?_|refine AF (c6) rfl rfl ?_)<;>try (simp -implicitDefEqProofs only [go_sem]))|(((with_reducible refine AM ?_ ?_)<;>intro _)<;>try (simp -implicitDefEqProofs only [go_sem]))|simp (disch:=omega) only [AC,AH,AK,AJ,AD,AL,AI,AA]
 all_goals first|rfl|(simp;done)|(simp_all;done)|skip
end Go.Pw
end
section
open Go Go.Pw Go.Proofs
namespace Go.Pw
set_option linter.unusedSimpArgs false
set_option linter.unusedVariables false
set_option maxRecDepth 100000
set_option maxHeartbeats 3200000
def CJ (L P Q:Int):Bool:=BG L P && decide (1≤Q∧Q≤8)
theorem Iv {L P Q:Int} (h:CJ L P Q=true):BG L P=true∧1≤Q∧Q≤8:=by simpa [CJ] using h
def bm (L P Q:Int) (xs:List Int) (m:Int):Int:=if CJ L P Q=true then if Au xs (Q * m)=true then 0 else 51 else 50
def ey (L P Q:Int) (e:Int):D:=if e=0 then .agg [.int .i64 L,.int .i64 P,.int .i64 Q] else .agg [.int .i64 0,.int .i64 0,.int .i64 0]
theorem Uo (L P Q:Int):ey L P Q 0=.agg [.int .i64 L,.int .i64 P,.int .i64 Q]:=rfl
theorem TL (L P Q:Int):ey L P Q 51=.agg [.int .i64 0,.int .i64 0,.int .i64 0]:=rfl
theorem Nq (L P Q:Int):ey L P Q 50=.agg [.int .i64 0,.int .i64 0,.int .i64 0]:=rfl
theorem SV:B0 E0.P Cm=true:=by kernel_rfl
theorem Pk:B0 E0.P CY=true:=by kernel_rfl
theorem Qx:B0 E0.P Dw=true:=by kernel_rfl
theorem VN:Au [] 0=true:=rfl
theorem U1 {L P n:Int} (h:BG L P=true) (hn:0≤n∧n≤L):av L P n=0:=by unfold av;rw [if_pos h,if_pos hn]
theorem U2 {L P n:Int} (h:BG L P=true) (hn:0≤n∧n≤L):aw L P n=decide (P < n+P / 2):=by unfold aw;rw [h,decide_eq_true hn];rfl
attribute [local congr] Ch BI BJ A0 Ci A5 A7 A6 Az Ar Am Ai A2 An A3 BR BV BT BU BS BW BO Ap A4 Aq BM Bm Ao BP BQ BN BK BL
attribute [local irreducible] IntKind.wrap A_ Option.getD and or
theorem Ia (L P:Int):B7 E0 Cm [.agg [.int .i64 L,.int .i64 P]] (.int .i64 L):=by
 refine AQ JV Af (by simp) fun hwf=>?_
 rw [AR];unfold Fw
 (try (simp -implicitDefEqProofs only [go_sem]));repeat' first|(with_reducible first|exact True.intro|refine And.intro ?_ ?_|intro _)|(((with_reducible refine AM ?_ ?_)<;>intro _)<;>try (simp -implicitDefEqProofs only [go_sem]))|simp (disch:=omega) only [AC,AH,AK,AJ,AD,AL,AI,AA]
theorem FM (L P:Int) (h:-1000≤L∧L≤1000∧-1000≤P∧P≤1000):B7 E0 CY [.agg [.int .i64 L,.int .i64 P]] (.int .i64 (L - P)):=by
 refine AQ Ip Af (by simp) fun hwf=>?_
 rw [AR];unfold Fc
 have hw:IntKind.i64.wrap (L - P)=L - P:=AC _ (by omega)
 (try (simp -implicitDefEqProofs only [go_sem,hw]));repeat' first|(with_reducible first|exact True.intro|refine And.intro ?_ ?_|intro _)|(((with_reducible refine AM ?_ ?_)<;>intro _)<;>try (simp -implicitDefEqProofs only [go_sem,hw]))|simp (disch:=omega) only [AC,AH,AK,AJ,AD,AL,AI,AA]
theorem KA (L P:Int):B7 E0 Dw [.agg [.int .i64 L,.int .i64 P]] (.int .i64 0):=by
 refine AQ J9 Af (by simp) fun hwf=>?_
 rw [AR];unfold GI
 (try (simp -implicitDefEqProofs only [go_sem]));repeat' first|(with_reducible first|exact True.intro|refine And.intro ?_ ?_|intro _)|(((with_reducible refine AM ?_ ?_)<;>intro _)<;>try (simp -implicitDefEqProofs only [go_sem]))|simp (disch:=omega) only [AC,AH,AK,AJ,AD,AL,AI,AA]
theorem DK (L P Q:Int) (nl:Bool) (xs:List Int) (f:FuncId) (m:Int) (hb:B0 E0.P f=true) (hm:0≤m∧m≤1000) (h:BG L P=true→B7 E0 f [.agg [.int .i64 L,.int .i64 P]] (.int .i64 m)) :
  B7 E0 Je [.agg [.int .i64 L,.int .i64 P,.int .i64 Q],.list nl (AY xs),.fn f []] (.tup [ey L P Q (bm L P Q xs m),.int .i64 (bm L P Q xs m)]):=by
 have c1:=CN L P
 refine AQ MP Af (by simp) fun hwf=>?_
 rw [AR];unfold IY bm CJ
 cases hc:BG L P with
 |false =>
  rw [hc] at c1
  simp only [Bool.false_eq_true,if_false,Bool.false_and] at c1 ⊢
  rw [Nq]
  (try (simp -implicitDefEqProofs only [go_sem]));repeat' first|(with_reducible first|exact True.intro|refine And.intro ?_ ?_|intro _)|(((with_reducible refine isCall ?_);first|refine AG (c1) rfl ?_ ?_|refine AE (c1) rfl ?_|refine AB (c1) rfl ?_ ?_|refine AF (c1) rfl rfl ?_)<;>try (simp -implicitDefEqProofs only [go_sem]))|(((with_reducible refine AM ?_ ?_)<;>intro _)<;>try (simp -implicitDefEqProofs only [go_sem]))|simp (disch:=omega) only [AC,AH,AK,AJ,AD,AL,AI,AA]
  all_goals first|rfl|(simp;done)|skip
 |true =>
  rw [hc] at c1
  simp only [if_true,Bool.true_and] at c1 ⊢
  by_cases hD:1≤Q∧Q≤8
  ·have h1:¬Q < 1:=by omega
   have h2:¬8 < Q:=by omega
   have hDm:0≤Q * m∧Q * m≤8000:=by
    constructor
    ·exact Int.mul_nonneg (by omega) (by omega)
    ·exact Int.le_trans (Int.mul_le_mul_of_nonneg_left hm.2 (by omega)) (by omega)
   have hw:IntKind.i64.wrap (Q * m)=Q * m:=AC _ (by omega)
   rw [decide_eq_true hD]
   simp only [if_true]
   have c2:=EU nl xs (Q * m)
   have c3:=h hc
   cases hs:Au xs (Q * m) with
   |false =>
    rw [hs] at c2
    simp only [Bool.false_eq_true,if_false]
    rw [TL]
    (try (simp -implicitDefEqProofs only [go_sem,h1,h2,hw,hb]));repeat' first|(with_reducible first|exact True.intro|refine And.intro ?_ ?_|intro _)|(((with_reducible refine isCall ?_);first|refine AG (c1) rfl ?_ ?_|refine AE (c1) rfl ?_|refine AB (c1) rfl ?_ ?_|refine AF (c1) rfl rfl ?_|refine AG (c2) rfl ?_ ?_|refine AE (c2) rfl ?_|refine AB (c2) rfl ?_ ?_|refine AF (c2) rfl rfl ?_|refine AG (c3) rfl ?_ ?_|refine AE (c3) rfl ?_|refine AB (c3) rfl ?_ ?_|refine AF (c3) rfl rfl ?_)<;>try (simp -implicitDefEqProofs only [go_sem,h1,h2,hw,hb]))|(((with_reducible refine AM ?_ ?_)<;>intro _)<;>try (simp -implicitDefEqProofs only [go_sem,h1,h2,hw,hb]))|simp (disch:=omega) only [AC,AH,AK,AJ,AD,AL,AI,AA]
    all_goals first|rfl|(simp;done)|skip
   |true =>
    rw [hs] at c2
    simp only [if_true]
    rw [Uo]
    (try (simp -implicitDefEqProofs only [go_sem,h1,h2,hw,hb]));repeat' first|(with_reducible first|exact True.intro|refine And.intro ?_ ?_|intro _)|(((with_reducible refine isCall ?_);first|refine AG (c1) rfl ?_ ?_|refine AE (c1) rfl ?_|refine AB (c1) rfl ?_ ?_|refine AF (c1) rfl rfl ?_|refine AG (c2) rfl ?_ ?_|refine AE (c2) rfl ?_|refine AB (c2) rfl ?_ ?_|refine AF (c2) rfl rfl ?_|refine AG (c3) rfl ?_ ?_|refine AE (c3) rfl ?_|refine AB (c3) rfl ?_ ?_|refine AF (c3) rfl rfl ?_)<;>try (simp -implicitDefEqProofs only [go_sem,h1,h2,hw,hb]))|(((with_reducible refine AM ?_ ?_)<;>intro _)<;>try (simp -implicitDefEqProofs only [go_sem,h1,h2,hw,hb]))|simp (disch:=omega) only [AC,AH,AK,AJ,AD,AL,AI,AA]
    all_goals first|rfl|(simp;done)|skip
  ·rw [decide_eq_false hD]
   simp only [Bool.false_eq_true,if_false]
   rw [Nq]
   by_cases h1:Q < 1
   ·(try (simp -implicitDefEqProofs only [go_sem,h1]));repeat' first|(with_reducible first|exact True.intro|refine And.intro ?_ ?_|intro _)|(((with_reducible refine isCall ?_);first|refine AG (c1) rfl ?_ ?_|refine AE (c1) rfl ?_|refine AB (c1) rfl ?_ ?_|refine AF (c1) rfl rfl ?_)<;>try (simp -implicitDefEqProofs only [go_sem,h1]))|(((with_reducible refine AM ?_ ?_)<;>intro _)<;>try (simp -implicitDefEqProofs only [go_sem,h1]))|simp (disch:=omega) only [AC,AH,AK,AJ,AD,AL,AI,AA]
    all_goals first|rfl|(simp;done)|skip
   ·have h2:8 < Q:=by omega
    (try (simp -implicitDefEqProofs only [go_sem,h1,h2]));repeat' first|(with_reducible first|exact True.intro|refine And.intro ?_ ?_|intro _)|(((with_reducible refine isCall ?_);first|refine AG (c1) rfl ?_ ?_|refine AE (c1) rfl ?_|refine AB (c1) rfl ?_ ?_|refine AF (c1) rfl rfl ?_)<;>try (simp -implicitDefEqProofs only [go_sem,h1,h2]))|(((with_reducible refine AM ?_ ?_)<;>intro _)<;>try (simp -implicitDefEqProofs only [go_sem,h1,h2]))|simp (disch:=omega) only [AC,AH,AK,AJ,AD,AL,AI,AA]
    all_goals first|rfl|(simp;done)|skip
theorem C2 (L P Q:Int):B7 E0 Ig [.agg [.int .i64 L,.int .i64 P,.int .i64 Q]] (.tup [.int .i64 (if CJ L P Q=true then Q * (P / 2) else 0),.int .i64 (if CJ L P Q=true then Q * P else 0),.int .i64 (if CJ L P Q=true then 0 else 50)]):=by
 have c1:=DK L P Q true [] Dw 0 Qx (by omega) fun _=>KA L P
 refine AQ Lg Af (by simp) fun hwf=>?_
 rw [AR];unfold Ha
 unfold bm at c1
 cases hw:CJ L P Q with
 |false =>
  rw [hw] at c1
  simp only [Bool.false_eq_true,if_false] at c1 ⊢
  rw [Nq] at c1
  (try (simp -implicitDefEqProofs only [go_sem]));repeat' first|(with_reducible first|exact True.intro|refine And.intro ?_ ?_|intro _)|(((with_reducible refine isCall ?_);first|refine AG (c1) rfl ?_ ?_|refine AE (c1) rfl ?_|refine AB (c1) rfl ?_ ?_|refine AF (c1) rfl rfl ?_)<;>try (simp -implicitDefEqProofs only [go_sem]))|(((with_reducible refine AM ?_ ?_)<;>intro _)<;>try (simp -implicitDefEqProofs only [go_sem]))|simp (disch:=omega) only [AC,AH,AK,AJ,AD,AL,AI,AA]
  all_goals first|rfl|(simp;done)|skip
 |true =>
  obtain⟨hc,hD⟩:=Iv hw
  have hb:=C3 hc
  rw [hw,show Au [] (Q * 0)=true by rw [Int.mul_zero];exact VN] at c1
  simp only [if_true] at c1 ⊢
  rw [Uo] at c1
  have hd:P.tdiv 2=P / 2:=Int.tdiv_eq_ediv_of_nonneg (by omega)
  have w1:IntKind.i64.wrap (P / 2)=P / 2:=AC _ (by omega)
  have b1:0≤Q * (P / 2)∧Q * (P / 2)≤8 * 8:=⟨Int.mul_nonneg (by omega) (by omega),Int.mul_le_mul hD.2 (by omega) (by omega) (by omega)⟩
  have b2:0≤Q * P∧Q * P≤8 * 8:=⟨Int.mul_nonneg (by omega) (by omega),Int.mul_le_mul hD.2 (by omega) (by omega) (by omega)⟩
  have w2:IntKind.i64.wrap (Q * (P / 2))=Q * (P / 2):=AC _ (by omega)
  have w3:IntKind.i64.wrap (Q * P)=Q * P:=AC _ (by omega)
  (try (simp -implicitDefEqProofs only [go_sem,hd,w1,w2,w3]));repeat' first|(with_reducible first|exact True.intro|refine And.intro ?_ ?_|intro _)|(((with_reducible refine isCall ?_);first|refine AG (c1) rfl ?_ ?_|refine AE (c1) rfl ?_|refine AB (c1) rfl ?_ ?_|refine AF (c1) rfl rfl ?_)<;>try (simp -implicitDefEqProofs only [go_sem,hd,w1,w2,w3]))|(((with_reducible refine AM ?_ ?_)<;>intro _)<;>try (simp -implicitDefEqProofs only [go_sem,hd,w1,w2,w3]))|simp (disch:=omega) only [AC,AH,AK,AJ,AD,AL,AI,AA]
  all_goals first|rfl|(simp;done)|skip
end Go.Pw
end
