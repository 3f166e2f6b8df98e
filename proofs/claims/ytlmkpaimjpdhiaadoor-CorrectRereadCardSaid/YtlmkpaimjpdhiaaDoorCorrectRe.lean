/- A part of the proof. -/
import Derived.Test.YtlmkpaimjpdhiaaDoorCorrectRd
set_option linter.all false
open Go Go.Pw Go.Proofs
namespace Go.Pw
set_option linter.unusedSimpArgs false
set_option linter.unusedVariables false
set_option maxRecDepth 100000
set_option maxHeartbeats 3200000
def FZ (rs:List (Bool×List Int)):List (Bool×List Int):=rs.map fun r=>(false,r.2)
theorem Jn (rs:List (Bool×List Int)):(FZ rs).length=rs.length:=by simp [FZ]
theorem TF (rs:List (Bool×List Int)) (i:Nat) (h:i < rs.length):(FZ rs).take i++[(false,(rs[i]?.getD (true,[])).2)]=(FZ rs).take (i+1):=by
 have:=Ak (FZ rs) (true,[]) i (by rw [Jn];exact h)
 rw [←this]
 congr 2
 simp [FZ,h]
theorem O0 (rs:List (Bool×List Int)):Q7 (FZ rs)=Q7 rs:=by simp [Q7,FZ]
theorem PD (rs:List (Bool×List Int)) (L:Int):((FZ rs).all fun r=>Au r.2 L)=rs.all fun r=>Au r.2 L:=by
 unfold FZ;rw [List.all_map];rfl
theorem Vh (L P:Int) (rs:List (Bool×List Int)):ZZ L P (FZ rs)=ZZ L P rs:=by
 unfold ZZ;rw [Jn,O0,PD]
theorem Vg (L P:Int) (rs:List (Bool×List Int)):Ws L P (FZ rs)=Ws L P rs:=by
 unfold Ws;rw [Jn,O0,PD]
theorem Ue {l p:Nat} (hl:l≤15) {W:List F} (hW:W.length=l) (hc:UQ l p W):∀(Rs:List (List F)) (o:Option (List F)),(∀R,R∈Rs→R.length=l∧(Em l W R []).length+p / 2≤p)→(o=none∨o=some W) →
  Mb l p Rs o=(0,W)∨(Mb l p Rs o=(52,[])∧o=none∧∀R,R∈Rs→¬2 * (Em l W R []).length≤p)
 |[],o,_,ho=>by
  rcases ho with rfl|rfl
  ·exact .inr ⟨rfl,rfl,by simp⟩
  ·exact .inl rfl
 |R :: Rs,o,hR,ho=>by
  obtain⟨h1,h2⟩:=hR R (by simp)
  have ih:=fun o=>Ue hl hW hc Rs o fun R hR'=>hR R (by simp [hR'])
  cases hd:Cp l p R [] with
  |none =>
   rw [Nc hd]
   rcases ih o ho with h|⟨h,h3,h4⟩
   ·exact .inl h
   ·refine .inr ⟨h,h3,fun R' hR'=>?_⟩
    rcases List.mem_cons.1 hR' with rfl|hR'
    ·intro hle
     rw [N4 hl h1 hW (Ez l) hc (by simpa using hle)] at hd
     cases hd
    ·exact h4 R' hR'
  |some w =>
   have hw:=Yq hl hW h1 hc hd h2
   subst hw
   rcases ho with rfl|rfl
   ·rw [L2 hd]
    rcases ih _ (.inr rfl) with h|⟨_,h,_⟩
    ·exact .inl h
    ·cases h
   ·rw [Nb hd]
    rcases ih _ (.inr rfl) with h|⟨_,h,_⟩
    ·exact .inl h
    ·cases h
attribute [local congr] Ch BG BH A0 Ci A5 A7 A6 Az Ar Am Ai A2 An A3 BP BT BR BS BQ BU BM Ap A4 Aq BK Bk Ao BN BO BL BI BJ
attribute [local irreducible] IntKind.wrap A_ Option.getD and or
theorem MP (L P:Int) (nl:Bool) (rs:List (Bool×List Int)):B7 E0 Fk [.agg [.int .i64 L,.int .i64 P],.list nl (TW rs)] (.bool true):=by
 have c0:=CS
 have c1:=HG L P
 refine AP H' Af (by simp) fun hwf=>?_
 rw [AR];unfold FD
 obtain⟨fr,hfr⟩:∃fr,(BE L P && (decide (10 < L) || decide (6 < P)))=fr:=⟨_,rfl⟩
 rw [hfr] at c1
 clear hfr
 cases fr with
 |true =>
  (try (simp -implicitDefEqProofs only [go_sem]));repeat' first|(with_reducible first|exact True.intro|refine And.intro ?_ ?_|intro _)|(((with_reducible refine isCall ?_);first|refine AG (c0) rfl ?_ ?_|refine AE (c0) rfl ?_|refine AB (c0) rfl ?_ ?_|refine AF (c0) rfl rfl ?_|refine AG (c1) rfl ?_ ?_|refine AE (c1) rfl ?_|refine AB (c1) rfl ?_ ?_|refine AF (c1) rfl rfl ?_)<;>try (simp -implicitDefEqProofs only [go_sem]))|(((with_reducible refine AM ?_ ?_)<;>intro _)<;>try (simp -implicitDefEqProofs only [go_sem]))|simp (disch:=omega) only [AC,AH,AK,AJ,AD,AL,AI,AA]|((with_reducible refine Aa ?_);refine⟨(_,_),rfl,?_,?_⟩)
  all_goals first|rfl|(simp;done)|skip
 |false =>
  by_cases h1:20 < (rs.length:Int)
  ·(try (simp -implicitDefEqProofs only [go_sem,h1]));repeat' first|(with_reducible first|exact True.intro|refine And.intro ?_ ?_|intro _)|(((with_reducible refine isCall ?_);first|refine AG (c0) rfl ?_ ?_|refine AE (c0) rfl ?_|refine AB (c0) rfl ?_ ?_|refine AF (c0) rfl rfl ?_|refine AG (c1) rfl ?_ ?_|refine AE (c1) rfl ?_|refine AB (c1) rfl ?_ ?_|refine AF (c1) rfl rfl ?_)<;>try (simp -implicitDefEqProofs only [go_sem,h1]))|(((with_reducible refine AM ?_ ?_)<;>intro _)<;>try (simp -implicitDefEqProofs only [go_sem,h1]))|simp (disch:=omega) only [AC,AH,AK,AJ,AD,AL,AI,AA]|((with_reducible refine Aa ?_);refine⟨(_,_),rfl,?_,?_⟩)
   all_goals first|rfl|(simp;done)|skip
  have hpl:=Jn rs
  (try (simp -implicitDefEqProofs only [go_sem,h1]));repeat' first|(with_reducible first|exact True.intro|refine And.intro ?_ ?_|intro _)|(((with_reducible refine isCall ?_);first|refine AG (c1) rfl ?_ ?_|refine AE (c1) rfl ?_|refine AB (c1) rfl ?_ ?_|refine AF (c1) rfl rfl ?_)<;>try (simp -implicitDefEqProofs only [go_sem,h1]))|(((with_reducible refine AM ?_ ?_)<;>intro _)<;>try (simp -implicitDefEqProofs only [go_sem,h1]))|simp (disch:=omega) only [AC,AH,AK,AJ,AD,AL,AI,AA]|((with_reducible refine Aa ?_);refine⟨(_,_),rfl,?_,?_⟩)
  all_goals first|omega|(simp;done)|(simp;omega)|skip
  refine AS (α:=Nat×Bool) (l0:=?l1) (m0:=?m1) (fun x=>[(6,.d (.int .i64 (x.1:Int)))]) (fun x=>[(40,.row 24 1 x.2 (TW ((FZ rs).take x.1)))]) (fun x=>x.1≤rs.length∧x.2=decide (x.1=0)) (fun x=>rs.length - x.1) (0,true) ?h01 ?he1 ?he21 ?hI1 ?step1
  case h01=>(simp -implicitDefEqProofs only [go_sem];rfl)
  case he1=>rfl
  case he21=>rfl
  case' step1=>(rintro⟨i,b⟩ hI;try dsimp only at hI)
  case' hI1=>try dsimp only
  ·exact⟨Nat.zero_le _,rfl⟩
  ·obtain⟨q1,q2⟩:=hI
   change b=decide (i=0) at q2
   subst q2
   by_cases hi:i < rs.length
   ·have hi':(i:Int) < (rs.length:Int):=by omega
    have w1:IntKind.i64.wrap ((i:Int)+1)=((i+1:Nat):Int):=by rw [AC _ (by omega)];omega
    have hk:=TF rs i hi
    obtain⟨r,hr⟩:∃r,rs[i]?.getD (true,[])=r:=⟨_,rfl⟩
    rw [hr] at hk
    by_cases h30:30 < (r.2.length:Int)
    ·(try (simp -implicitDefEqProofs only [go_sem,hi',hi,hr,h30]));repeat' first|(with_reducible first|exact True.intro|refine And.intro ?_ ?_|intro _)|(((with_reducible refine isCall ?_);first|refine AG (c0) rfl ?_ ?_|refine AE (c0) rfl ?_|refine AB (c0) rfl ?_ ?_|refine AF (c0) rfl rfl ?_)<;>try (simp -implicitDefEqProofs only [go_sem,hi',hi,hr,h30]))|(((with_reducible refine AM ?_ ?_)<;>intro _)<;>try (simp -implicitDefEqProofs only [go_sem,hi',hi,hr,h30]))|simp (disch:=omega) only [AC,AH,AK,AJ,AD,AL,AI,AA]|((with_reducible refine Aa ?_);refine⟨(_,_),rfl,?_,?_⟩)
     all_goals first|omega|(simp;done)|(simp;omega)|skip
     all_goals first|rfl|(simp;done)|skip
    ·rcases Ki r.2 with he|he
     ·rw [he] at hk
      have hz:¬(30:Int) < 0:=by decide
      have hz':¬(30:Int) < ((0:Nat):Int):=by decide
      (try (simp -implicitDefEqProofs only [go_sem,hi',hi,hr,he,w1,hk,hz,hz']));repeat' first|(with_reducible first|exact True.intro|refine And.intro ?_ ?_|intro _)|(((with_reducible refine AM ?_ ?_)<;>intro _)<;>try (simp -implicitDefEqProofs only [go_sem,hi',hi,hr,he,w1,hk,hz,hz']))|simp (disch:=omega) only [AC,AH,AK,AJ,AD,AL,AI,AA]|((with_reducible refine Aa ?_);refine⟨(_,_),rfl,?_,?_⟩)
      all_goals first|omega|(simp;done)|(simp;omega)|skip
      all_goals first|rfl|skip
     ·(try (simp -implicitDefEqProofs only [go_sem,hi',hi,hr,h30,he,w1,hk]));repeat' first|(with_reducible first|exact True.intro|refine And.intro ?_ ?_|intro _)|(((with_reducible refine AM ?_ ?_)<;>intro _)<;>try (simp -implicitDefEqProofs only [go_sem,hi',hi,hr,h30,he,w1,hk]))|simp (disch:=omega) only [AC,AH,AK,AJ,AD,AL,AI,AA]|((with_reducible refine Aa ?_);refine⟨(_,_),rfl,?_,?_⟩)
      all_goals first|omega|(simp;done)|(simp;omega)|skip
      all_goals first|rfl|skip
   ·have hi':¬(i:Int) < (rs.length:Int):=by omega
    have htk:(FZ rs).take i=FZ rs:=List.take_of_length_le (by omega)
    have k1:=fun b=>GV L P b (FZ rs)
    have k2:=L5 L P nl rs
    rw [Vh,Vg] at k1
    obtain⟨x4,hx4⟩:∃x4,Ws L P rs=x4:=⟨_,rfl⟩
    obtain⟨x5,hx5⟩:∃x5,ZZ L P rs=x5:=⟨_,rfl⟩
    rw [hx4,hx5] at k1 k2
    have k8:=BV x4.isEmpty x4.isEmpty x4 x4
    rw [decide_eq_true rfl] at k8
    clear hx4 hx5
    rw [htk]
    by_cases hi0:i=0
    ·rw [decide_eq_true hi0]
     have hnil:FZ rs=[]:=List.eq_nil_of_length_eq_zero (by omega)
     rw [hnil] at k1 ⊢
     have k1':B7 E0 FP [.agg [.int .i64 L,.int .i64 P],.list true []] (.tup [.list x4.isEmpty (AY x4),.int .i64 x5]):=k1 true
     (try (simp -implicitDefEqProofs only [go_sem,hi']));repeat' first|(with_reducible first|exact True.intro|refine And.intro ?_ ?_|intro _)|(((with_reducible refine isCall ?_);first|refine AG (k1') rfl ?_ ?_|refine AE (k1') rfl ?_|refine AB (k1') rfl ?_ ?_|refine AF (k1') rfl rfl ?_|refine AG (k2) rfl ?_ ?_|refine AE (k2) rfl ?_|refine AB (k2) rfl ?_ ?_|refine AF (k2) rfl rfl ?_|refine AG (k8) rfl ?_ ?_|refine AE (k8) rfl ?_|refine AB (k8) rfl ?_ ?_|refine AF (k8) rfl rfl ?_|refine AG (c0) rfl ?_ ?_|refine AE (c0) rfl ?_|refine AB (c0) rfl ?_ ?_|refine AF (c0) rfl rfl ?_)<;>try (simp -implicitDefEqProofs only [go_sem,hi']))|(((with_reducible refine AM ?_ ?_)<;>intro _)<;>try (simp -implicitDefEqProofs only [go_sem,hi']))|simp (disch:=omega) only [AC,AH,AK,AJ,AD,AL,AI,AA]|((with_reducible refine Aa ?_);refine⟨(_,_),rfl,?_,?_⟩)
     all_goals first|rfl|omega|(simp;done)|skip
    ·rw [decide_eq_false hi0]
     (try (simp -implicitDefEqProofs only [go_sem,hi']));repeat' first|(with_reducible first|exact True.intro|refine And.intro ?_ ?_|intro _)|(((with_reducible refine isCall ?_);first|refine AG (k1 _) rfl ?_ ?_|refine AE (k1 _) rfl ?_|refine AB (k1 _) rfl ?_ ?_|refine AF (k1 _) rfl rfl ?_|refine AG (k2) rfl ?_ ?_|refine AE (k2) rfl ?_|refine AB (k2) rfl ?_ ?_|refine AF (k2) rfl rfl ?_|refine AG (k8) rfl ?_ ?_|refine AE (k8) rfl ?_|refine AB (k8) rfl ?_ ?_|refine AF (k8) rfl rfl ?_|refine AG (c0) rfl ?_ ?_|refine AE (c0) rfl ?_|refine AB (c0) rfl ?_ ?_|refine AF (c0) rfl rfl ?_)<;>try (simp -implicitDefEqProofs only [go_sem,hi']))|(((with_reducible refine AM ?_ ?_)<;>intro _)<;>try (simp -implicitDefEqProofs only [go_sem,hi']))|simp (disch:=omega) only [AC,AH,AK,AJ,AD,AL,AI,AA]|((with_reducible refine Aa ?_);refine⟨(_,_),rfl,?_,?_⟩)
     all_goals first|rfl|omega|(simp;done)|skip
theorem Ls (L P:Int) (n1 nl:Bool) (d:List Int) (rs:List (Bool×List Int)):B7 E0 FG [.agg [.int .i64 L,.int .i64 P],.list n1 (AY d),.list nl (TW rs)] (.bool true):=by
 have c0:=CS
 have c1:=DY L P
 refine AP Hg Af (by simp) fun hwf=>?_
 rw [AR];unfold Er
 cases hr:QC L P with
 |false =>
  rw [hr] at c1
  (try (simp -implicitDefEqProofs only [go_sem]));repeat' first|(with_reducible first|exact True.intro|refine And.intro ?_ ?_|intro _)|(((with_reducible refine isCall ?_);first|refine AG (c0) rfl ?_ ?_|refine AE (c0) rfl ?_|refine AB (c0) rfl ?_ ?_|refine AF (c0) rfl rfl ?_|refine AG (c1) rfl ?_ ?_|refine AE (c1) rfl ?_|refine AB (c1) rfl ?_ ?_|refine AF (c1) rfl rfl ?_)<;>try (simp -implicitDefEqProofs only [go_sem]))|(((with_reducible refine AM ?_ ?_)<;>intro _)<;>try (simp -implicitDefEqProofs only [go_sem]))|simp (disch:=omega) only [AC,AH,AK,AJ,AD,AL,AI,AA]|((with_reducible refine A8 ?_);refine⟨(_,_,_,_),rfl,?_,?_⟩)
  all_goals first|rfl|(simp;done)|skip
 |true =>
  rw [hr] at c1
  obtain⟨hc,r1,r2⟩:=QB hr
  obtain⟨l,p,rfl,rfl,b1,b2,b3,b4,b5⟩:=Di hc
  have hwlp:IntKind.i64.wrap ((l:Int) - (p:Int))=(l:Int) - (p:Int):=AC _ (by omega)
  have c2:=Al n1 d ((l:Int) - (p:Int))
  cases hs1:Au d ((l:Int) - (p:Int)) with
  |false =>
   rw [hs1] at c2
   (try (simp -implicitDefEqProofs only [go_sem,hwlp]));repeat' first|(with_reducible first|exact True.intro|refine And.intro ?_ ?_|intro _)|(((with_reducible refine isCall ?_);first|refine AG (c0) rfl ?_ ?_|refine AE (c0) rfl ?_|refine AB (c0) rfl ?_ ?_|refine AF (c0) rfl rfl ?_|refine AG (c1) rfl ?_ ?_|refine AE (c1) rfl ?_|refine AB (c1) rfl ?_ ?_|refine AF (c1) rfl rfl ?_|refine AG (c2) rfl ?_ ?_|refine AE (c2) rfl ?_|refine AB (c2) rfl ?_ ?_|refine AF (c2) rfl rfl ?_)<;>try (simp -implicitDefEqProofs only [go_sem,hwlp]))|(((with_reducible refine AM ?_ ?_)<;>intro _)<;>try (simp -implicitDefEqProofs only [go_sem,hwlp]))|simp (disch:=omega) only [AC,AH,AK,AJ,AD,AL,AI,AA]|((with_reducible refine A8 ?_);refine⟨(_,_,_,_),rfl,?_,?_⟩)
   all_goals first|rfl|(simp;done)|skip
  |true =>
   rw [hs1] at c2
   by_cases h1:(rs.length:Int) < 1
   ·(try (simp -implicitDefEqProofs only [go_sem,hwlp,h1]));repeat' first|(with_reducible first|exact True.intro|refine And.intro ?_ ?_|intro _)|(((with_reducible refine isCall ?_);first|refine AG (c0) rfl ?_ ?_|refine AE (c0) rfl ?_|refine AB (c0) rfl ?_ ?_|refine AF (c0) rfl rfl ?_|refine AG (c1) rfl ?_ ?_|refine AE (c1) rfl ?_|refine AB (c1) rfl ?_ ?_|refine AF (c1) rfl rfl ?_|refine AG (c2) rfl ?_ ?_|refine AE (c2) rfl ?_|refine AB (c2) rfl ?_ ?_|refine AF (c2) rfl rfl ?_)<;>try (simp -implicitDefEqProofs only [go_sem,hwlp,h1]))|(((with_reducible refine AM ?_ ?_)<;>intro _)<;>try (simp -implicitDefEqProofs only [go_sem,hwlp,h1]))|simp (disch:=omega) only [AC,AH,AK,AJ,AD,AL,AI,AA]|((with_reducible refine A8 ?_);refine⟨(_,_,_,_),rfl,?_,?_⟩)
    all_goals first|rfl|(simp;done)|skip
   by_cases h2:4 < (rs.length:Int)
   ·(try (simp -implicitDefEqProofs only [go_sem,hwlp,h1,h2]));repeat' first|(with_reducible first|exact True.intro|refine And.intro ?_ ?_|intro _)|(((with_reducible refine isCall ?_);first|refine AG (c0) rfl ?_ ?_|refine AE (c0) rfl ?_|refine AB (c0) rfl ?_ ?_|refine AF (c0) rfl rfl ?_|refine AG (c1) rfl ?_ ?_|refine AE (c1) rfl ?_|refine AB (c1) rfl ?_ ?_|refine AF (c1) rfl rfl ?_|refine AG (c2) rfl ?_ ?_|refine AE (c2) rfl ?_|refine AB (c2) rfl ?_ ?_|refine AF (c2) rfl rfl ?_)<;>try (simp -implicitDefEqProofs only [go_sem,hwlp,h1,h2]))|(((with_reducible refine AM ?_ ?_)<;>intro _)<;>try (simp -implicitDefEqProofs only [go_sem,hwlp,h1,h2]))|simp (disch:=omega) only [AC,AH,AK,AJ,AD,AL,AI,AA]|((with_reducible refine A8 ?_);refine⟨(_,_,_,_),rfl,?_,?_⟩)
    all_goals first|rfl|(simp;done)|skip
   obtain⟨q1,q2⟩:=DC hs1
   have hdl:=Ya d
   obtain⟨u,hu⟩:∃u,fs d=u:=⟨_,rfl⟩
   rw [hu] at q2 hdl
   subst q2
   have hul:u.length+p=l:=by omega
   have c3:=Wq (l:=l) (p:=p) n1 hc hul
   have hWl:(CU p u).length=l:=by rw [CF];exact hul
   have hWc:UQ l p (CU p u):=by rw [←hul];exact JO p u
   obtain⟨W,hW⟩:∃W,CU p u=W:=⟨_,rfl⟩
   rw [hW] at c3 hWl hWc
   have hlW:(W.length:Int)=(l:Int):=by omega
   (try (simp -implicitDefEqProofs only [go_sem,hwlp,h1,h2,hlW]));repeat' first|(with_reducible first|exact True.intro|refine And.intro ?_ ?_|intro _)|(((with_reducible refine isCall ?_);first|refine AG (c1) rfl ?_ ?_|refine AE (c1) rfl ?_|refine AB (c1) rfl ?_ ?_|refine AF (c1) rfl rfl ?_|refine AG (c2) rfl ?_ ?_|refine AE (c2) rfl ?_|refine AB (c2) rfl ?_ ?_|refine AF (c2) rfl rfl ?_|refine AG (c3) rfl ?_ ?_|refine AE (c3) rfl ?_|refine AB (c3) rfl ?_ ?_|refine AF (c3) rfl rfl ?_)<;>try (simp -implicitDefEqProofs only [go_sem,hwlp,h1,h2,hlW]))|(((with_reducible refine AM ?_ ?_)<;>intro _)<;>try (simp -implicitDefEqProofs only [go_sem,hwlp,h1,h2,hlW]))|simp (disch:=omega) only [AC,AH,AK,AJ,AD,AL,AI,AA]|((with_reducible refine A8 ?_);refine⟨(_,_,_,_),rfl,?_,?_⟩)
   all_goals first|omega|(simp;done)|(simp;omega)|skip
   refine AS (α:=Nat×Bool×(List (Bool×List Int))×Bool) (l0:=?l2) (m0:=?m2) (fun x=>[(11,.d (.int .i64 (x.1:Int))),(10,.d (.bool x.2.2.2))]) (fun x=>[(102,.row 24 1 x.2.1 (TW x.2.2.1))]) (fun x=>x.1≤rs.length∧x.2.1=decide (x.1=0)∧x.2.2.1.length=x.1∧(∃Rs:List (List F),x.2.2.1=Rs.map (fun R=>(false,iv R))∧(∀R,R∈Rs→R.length=l∧(Em l W R []).length+p / 2≤p)∧(x.2.2.2=true→∃R,R∈Rs∧2 * (Em l W R []).length≤p))) (fun x=>rs.length - x.1) (0,true,[],false) ?h02 ?he2 ?he22 ?hI2 ?step2
   case h02=>(simp -implicitDefEqProofs only [go_sem];rfl)
   case he2=>rfl
   case he22=>rfl
   case' step2=>(rintro⟨i,b,acc,su⟩ hI;try dsimp only at hI)
   case' hI2=>try dsimp only
   ·exact⟨Nat.zero_le _,rfl,rfl,[],rfl,by simp,by simp⟩
   ·obtain⟨i1,i2,i3,Rs,i4,i5,i6⟩:=hI
    change b=decide (i=0) at i2
    change acc=_ at i4
    subst i2
    by_cases hi:i < rs.length
    ·have hi':(i:Int) < (rs.length:Int):=by omega
     have w1:IntKind.i64.wrap ((i:Int)+1)=((i+1:Nat):Int):=by rw [AC _ (by omega)];omega
     obtain⟨r,hr⟩:∃r,rs[i]?.getD (true,[])=r:=⟨_,rfl⟩
     have c4:=Al r.1 r.2 l
     cases hsr:Au r.2 l with
     |false =>
      rw [hsr] at c4
      (try (simp -implicitDefEqProofs only [go_sem,hi',hi,hr]));repeat' first|(with_reducible first|exact True.intro|refine And.intro ?_ ?_|intro _)|(((with_reducible refine isCall ?_);first|refine AG (c0) rfl ?_ ?_|refine AE (c0) rfl ?_|refine AB (c0) rfl ?_ ?_|refine AF (c0) rfl rfl ?_|refine AG (c4) rfl ?_ ?_|refine AE (c4) rfl ?_|refine AB (c4) rfl ?_ ?_|refine AF (c4) rfl rfl ?_)<;>try (simp -implicitDefEqProofs only [go_sem,hi',hi,hr]))|(((with_reducible refine AM ?_ ?_)<;>intro _)<;>try (simp -implicitDefEqProofs only [go_sem,hi',hi,hr]))|simp (disch:=omega) only [AC,AH,AK,AJ,AD,AL,AI,AA]|((with_reducible refine A8 ?_);refine⟨(_,_,_,_),rfl,?_,?_⟩)
      all_goals first|omega|(simp;done)|(simp;omega)|skip
      all_goals first|rfl|(simp;done)|skip
     |true =>
      rw [hsr] at c4
      obtain⟨q3,q4⟩:=DC hsr
      have hrl:=Ya r.2
      obtain⟨a,ha⟩:∃a,fs r.2=a:=⟨_,rfl⟩
      rw [ha] at q4 hrl
      have c6:=Mv false r.1 W a (by omega) (by omega)
      have hRl:(TO W a).length=l:=by rw [Un (by omega)];exact hWl
      obtain⟨R,hR⟩:∃R,TO W a=R:=⟨_,rfl⟩
      rw [hR,Gt (show 0 < W.length by omega),q4] at c6
      rw [hR] at hRl
      have hdlen:=bD l W R
      have c8:=MR false false hWl hRl (by omega)
      obtain⟨n,hnn⟩:∃n,(Em l W R []).length=n:=⟨_,rfl⟩
      rw [hnn] at c8 hdlen
      have cf:=GX l p n
      rw [Uy hc (by omega),Ux hc (by omega)] at cf
      by_cases hfo:(p:Int) < (n:Int)+(p:Int) / 2
      ·rw [decide_eq_true hfo] at cf
       (try (simp -implicitDefEqProofs only [go_sem,hi',hi,hr]));repeat' first|(with_reducible first|exact True.intro|refine And.intro ?_ ?_|intro _)|(((with_reducible refine isCall ?_);first|refine AG (c0) rfl ?_ ?_|refine AE (c0) rfl ?_|refine AB (c0) rfl ?_ ?_|refine AF (c0) rfl rfl ?_|refine AG (c4) rfl ?_ ?_|refine AE (c4) rfl ?_|refine AB (c4) rfl ?_ ?_|refine AF (c4) rfl rfl ?_|refine AG (c6) rfl ?_ ?_|refine AE (c6) rfl ?_|refine AB (c6) rfl ?_ ?_|refine AF (c6) rfl rfl ?_|refine AG (c8) rfl ?_ ?_|refine AE (c8) rfl ?_|refine AB (c8) rfl ?_ ?_|refine AF (c8) rfl rfl ?_|refine AG (cf) rfl ?_ ?_|refine AE (cf) rfl ?_|refine AB (cf) rfl ?_ ?_|refine AF (cf) rfl rfl ?_)<;>try (simp -implicitDefEqProofs only [go_sem,hi',hi,hr]))|(((with_reducible refine AM ?_ ?_)<;>intro _)<;>try (simp -implicitDefEqProofs only [go_sem,hi',hi,hr]))|simp (disch:=omega) only [AC,AH,AK,AJ,AD,AL,AI,AA]|((with_reducible refine A8 ?_);refine⟨(_,_,_,_),rfl,?_,?_⟩)
       all_goals first|omega|(simp;done)|(simp;omega)|skip
       all_goals first|rfl|(simp;done)|skip
      ·rw [decide_eq_false hfo] at cf
       have hw2:IntKind.i64.wrap (2 * (n:Int))=2 * (n:Int):=AC _ (by omega)
       have hacc:acc++[(false,iv R)]=(Rs++[R]).map fun R=>(false,iv R):=by rw [i4,List.map_append];rfl
       have hal:(acc++[(false,iv R)]).length=i+1:=by rw [List.length_append,i3];rfl
       have hfew:∀R',R'∈Rs++[R]→R'.length=l∧(Em l W R' []).length+p / 2≤p:=fun R' h=>by
        rcases List.mem_append.1 h with h|h
        ·exact i5 R' h
        ·rw [List.mem_singleton] at h
         subst h
         exact⟨hRl,by omega⟩
       have hds:decide (i+1=0)=false:=decide_eq_false (by omega)
       cases su with
       |true =>
        obtain⟨R',hR'1,hR'2⟩:=i6 rfl
        have hsu:∃R',R'∈Rs++[R]∧2 * (Em l W R' []).length≤p:=⟨R',by simp [hR'1],hR'2⟩
        (try (simp -implicitDefEqProofs only [go_sem,hi',hi,hr,w1]));repeat' first|(with_reducible first|exact True.intro|refine And.intro ?_ ?_|intro _)|(((with_reducible refine isCall ?_);first|refine AG (c4) rfl ?_ ?_|refine AE (c4) rfl ?_|refine AB (c4) rfl ?_ ?_|refine AF (c4) rfl rfl ?_|refine AG (c6) rfl ?_ ?_|refine AE (c6) rfl ?_|refine AB (c6) rfl ?_ ?_|refine AF (c6) rfl rfl ?_|refine AG (c8) rfl ?_ ?_|refine AE (c8) rfl ?_|refine AB (c8) rfl ?_ ?_|refine AF (c8) rfl rfl ?_|refine AG (cf) rfl ?_ ?_|refine AE (cf) rfl ?_|refine AB (cf) rfl ?_ ?_|refine AF (cf) rfl rfl ?_)<;>try (simp -implicitDefEqProofs only [go_sem,hi',hi,hr,w1]))|(((with_reducible refine AM ?_ ?_)<;>intro _)<;>try (simp -implicitDefEqProofs only [go_sem,hi',hi,hr,w1]))|simp (disch:=omega) only [AC,AH,AK,AJ,AD,AL,AI,AA]|((with_reducible refine A8 ?_);refine⟨(_,_,_,_),rfl,?_,?_⟩)
        all_goals first|omega|(simp;done)|(simp;omega)|skip
        exact⟨Rs++[R],hacc,hfew,fun _=>hsu⟩
       |false =>
        by_cases hle:2 * (n:Int)≤(p:Int)
        ·have hsu:∃R',R'∈Rs++[R]∧2 * (Em l W R' []).length≤p:=⟨R,by simp,by omega⟩
         (try (simp -implicitDefEqProofs only [go_sem,hi',hi,hr,w1,hw2,hle]));repeat' first|(with_reducible first|exact True.intro|refine And.intro ?_ ?_|intro _)|(((with_reducible refine isCall ?_);first|refine AG (c4) rfl ?_ ?_|refine AE (c4) rfl ?_|refine AB (c4) rfl ?_ ?_|refine AF (c4) rfl rfl ?_|refine AG (c6) rfl ?_ ?_|refine AE (c6) rfl ?_|refine AB (c6) rfl ?_ ?_|refine AF (c6) rfl rfl ?_|refine AG (c8) rfl ?_ ?_|refine AE (c8) rfl ?_|refine AB (c8) rfl ?_ ?_|refine AF (c8) rfl rfl ?_|refine AG (cf) rfl ?_ ?_|refine AE (cf) rfl ?_|refine AB (cf) rfl ?_ ?_|refine AF (cf) rfl rfl ?_)<;>try (simp -implicitDefEqProofs only [go_sem,hi',hi,hr,w1,hw2,hle]))|(((with_reducible refine AM ?_ ?_)<;>intro _)<;>try (simp -implicitDefEqProofs only [go_sem,hi',hi,hr,w1,hw2,hle]))|simp (disch:=omega) only [AC,AH,AK,AJ,AD,AL,AI,AA]|((with_reducible refine A8 ?_);refine⟨(_,_,_,_),rfl,?_,?_⟩)
         all_goals first|omega|(simp;done)|(simp;omega)|skip
         exact⟨Rs++[R],hacc,hfew,fun _=>hsu⟩
        ·(try (simp -implicitDefEqProofs only [go_sem,hi',hi,hr,w1,hw2,hle]));repeat' first|(with_reducible first|exact True.intro|refine And.intro ?_ ?_|intro _)|(((with_reducible refine isCall ?_);first|refine AG (c4) rfl ?_ ?_|refine AE (c4) rfl ?_|refine AB (c4) rfl ?_ ?_|refine AF (c4) rfl rfl ?_|refine AG (c6) rfl ?_ ?_|refine AE (c6) rfl ?_|refine AB (c6) rfl ?_ ?_|refine AF (c6) rfl rfl ?_|refine AG (c8) rfl ?_ ?_|refine AE (c8) rfl ?_|refine AB (c8) rfl ?_ ?_|refine AF (c8) rfl rfl ?_|refine AG (cf) rfl ?_ ?_|refine AE (cf) rfl ?_|refine AB (cf) rfl ?_ ?_|refine AF (cf) rfl rfl ?_)<;>try (simp -implicitDefEqProofs only [go_sem,hi',hi,hr,w1,hw2,hle]))|(((with_reducible refine AM ?_ ?_)<;>intro _)<;>try (simp -implicitDefEqProofs only [go_sem,hi',hi,hr,w1,hw2,hle]))|simp (disch:=omega) only [AC,AH,AK,AJ,AD,AL,AI,AA]|((with_reducible refine A8 ?_);refine⟨(_,_,_,_),rfl,?_,?_⟩)
         all_goals first|omega|(simp;done)|(simp;omega)|skip
         exact⟨Rs++[R],hacc,hfew,fun h=>by cases h⟩
    ·have hi':¬(i:Int) < (rs.length:Int):=by omega
     have hi0:decide (i=0)=false:=decide_eq_false (by omega)
     rw [hi0]
     have hz:=Ue (by omega) hWl hWc Rs none i5 (.inl rfl)
     have hRl:Rs.length=i:=by rw [←i3,i4,List.length_map]
     have hws:Q7 acc=Rs:=by
      rw [i4];unfold Q7;rw [List.map_map]
      exact List.map_id'' (fun x=>PN x) Rs
     have hall:(acc.all fun r=>Au r.2 (l:Int))=true:=by
      rw [i4,List.all_map,List.all_eq_true]
      intro x hx
      show Au (iv x) l=true
      rw [HQ,decide_eq_true_eq,(i5 x hx).1]
     have hle:ZZ l p acc=(Mb l p Rs none).1:=by
      unfold ZZ
      rw [if_pos hc,if_pos (by omega),if_pos hall,hws];rfl
     have hll:Ws l p acc=iv (Mb l p Rs none).2:=by
      unfold Ws
      rw [if_pos hc,if_pos (by omega),if_pos hall,hws];rfl
     have k1:=GV l p false acc
     rw [hle,hll] at k1
     have k2:=BV false false (iv W) (iv W)
     rw [decide_eq_true rfl] at k2
     have hWe:=Br (show 0 < W.length by omega)
     clear hle hll
     rcases hz with hz|⟨hz,_,hz2⟩
     ·rw [hz] at k1
      dsimp only at k1
      rw [hWe] at k1
      (try (simp -implicitDefEqProofs only [go_sem,hi']));repeat' first|(with_reducible first|exact True.intro|refine And.intro ?_ ?_|intro _)|(((with_reducible refine isCall ?_);first|refine AG (k1) rfl ?_ ?_|refine AE (k1) rfl ?_|refine AB (k1) rfl ?_ ?_|refine AF (k1) rfl rfl ?_|refine AG (k2) rfl ?_ ?_|refine AE (k2) rfl ?_|refine AB (k2) rfl ?_ ?_|refine AF (k2) rfl rfl ?_|refine AG (c0) rfl ?_ ?_|refine AE (c0) rfl ?_|refine AB (c0) rfl ?_ ?_|refine AF (c0) rfl rfl ?_)<;>try (simp -implicitDefEqProofs only [go_sem,hi']))|(((with_reducible refine AM ?_ ?_)<;>intro _)<;>try (simp -implicitDefEqProofs only [go_sem,hi']))|simp (disch:=omega) only [AC,AH,AK,AJ,AD,AL,AI,AA]|((with_reducible refine A8 ?_);refine⟨(_,_,_,_),rfl,?_,?_⟩)
      all_goals first|rfl|omega|(simp;done)|skip
     ·rw [hz] at k1
      have hsu:su=false:=by
       cases su with
       |false=>rfl
       |true =>
        obtain⟨R,h3,h4⟩:=i6 rfl
        exact absurd h4 (hz2 R h3)
      subst hsu
      (try (simp -implicitDefEqProofs only [go_sem,hi']));repeat' first|(with_reducible first|exact True.intro|refine And.intro ?_ ?_|intro _)|(((with_reducible refine isCall ?_);first|refine AG (k1) rfl ?_ ?_|refine AE (k1) rfl ?_|refine AB (k1) rfl ?_ ?_|refine AF (k1) rfl rfl ?_|refine AG (k2) rfl ?_ ?_|refine AE (k2) rfl ?_|refine AB (k2) rfl ?_ ?_|refine AF (k2) rfl rfl ?_|refine AG (c0) rfl ?_ ?_|refine AE (c0) rfl ?_|refine AB (c0) rfl ?_ ?_|refine AF (c0) rfl rfl ?_)<;>try (simp -implicitDefEqProofs only [go_sem,hi']))|(((with_reducible refine AM ?_ ?_)<;>intro _)<;>try (simp -implicitDefEqProofs only [go_sem,hi']))|simp (disch:=omega) only [AC,AH,AK,AJ,AD,AL,AI,AA]|((with_reducible refine A8 ?_);refine⟨(_,_,_,_),rfl,?_,?_⟩)
      all_goals first|rfl|omega|(simp;done)|skip
end Go.Pw
