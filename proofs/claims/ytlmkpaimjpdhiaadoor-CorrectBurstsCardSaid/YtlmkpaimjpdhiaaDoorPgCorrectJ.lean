/- A part of the proof. -/
import Derived.Test.YtlmkpaimjpdhiaaDoorCorrectI
set_option linter.all false
section
open Go Go.Pw Go.Proofs
namespace Go.Pw
set_option linter.unusedSimpArgs false
set_option linter.unusedVariables false
set_option maxRecDepth 100000
set_option maxHeartbeats 3200000
theorem ZJ (S:List F) (i n:Nat) (h:i < n) (hS:S.length=n):(S.take i++List.replicate (n - i) (0:F))[i]?.getD 0=0:=by
 rw [List.getElem?_append_right (by simp;omega)]
 simp only [List.length_take,List.getElem?_replicate]
 split<;>rfl
theorem ZI (S:List F) (i n:Nat) (h:i < n) (hS:S.length=n):(S.take i++List.replicate (n - i) (0:F)).set i (S[i]?.getD 0)=S.take (i+1)++List.replicate (n - (i+1)) 0:=by
 have h1:(S.take i).length=i:=by simp;omega
 rw [List.set_append_right _ _ (by omega),h1,Nat.sub_self,show n - i=(n - (i+1))+1 by omega,List.replicate_succ,List.set_cons_zero,←Ak S 0 i (by omega),List.append_assoc]
 rfl
theorem XQ (l:List F) (i:Nat) (h:i < l.length):l.set i (l[i]?.getD 0)=l:=by
 rw [List.getElem?_eq_getElem h];simp
theorem Uc (l:List F) (i:Nat) (x:F) (h:i < l.length):(l.set i x)[i]?.getD 0=x:=by simp [h]
def Bh:List F→List Nat→List F→List F
 |w,j :: js,x :: xs=>Bh (w.set j x) js xs
 |w,_,_=>w
theorem D_:∀(at_:List Nat) (w xs:List F),(Bh w at_ xs).length=w.length
 |[],w,xs=>by cases xs<;>rfl
 |j :: js,w,[]=>rfl
 |j :: js,w,x :: xs=>by show (Bh (w.set j x) js xs).length=_;rw [D_];simp
theorem Ka (j:Nat) (y:F):∀(at_:List Nat) (w xs:List F),at_.length=xs.length→Bh w (at_++[j]) (xs++[y])=(Bh w at_ xs).set j y
 |[],w,[],_=>rfl
 |k :: js,w,z :: xs,h=>by
  show Bh (w.set k z) (js++[j]) (xs++[y])=_
  rw [Ka j y js (w.set k z) xs (by simpa using h)];rfl
theorem L2 (w xs:List F):Bh w [] xs=w:=by cases xs<;>rfl
theorem FI:∀(at_:List Nat) (w xs:List F) (j:Nat),j∉at_→(Bh w at_ xs)[j]?.getD 0=w[j]?.getD 0
 |[],w,xs,j,_=>by rw [L2]
 |k :: js,w,[],j,_=>rfl
 |k :: js,w,x :: xs,j,h=>by
  show (Bh (w.set k x) js xs)[j]?.getD 0=_
  rw [FI js _ xs j (fun e=>h (by simp [e])),List.getElem?_set_ne (fun e=>h (by simp [e]))]
theorem MY {α β:Type} (a:List α) (b:List β) (i:Nat) (h:a.length=b.length):(a.take i).length=(b.take i).length:=by simp [h]
attribute [local congr] Ch BI BJ A0 Ci A5 A7 A6 Az Ar Am Ai A2 An A3 BR BV BT BU BS BW BO Ap A4 Aq BM Bm Ao BP BQ BN BK BL
attribute [local irreducible] IntKind.wrap A_ Option.getD and or
theorem MQ (L P:Nat) (n1:Bool) (w:List F) (hL:L≤15) (hL1:1≤L) (hP:1≤P) (hP2:P≤15) (hw:w.length=L):B7 E0 Fy [MR L P,.list n1 (us w)] (.list false (us (Ej L P w))):=by
 obtain⟨S,hS⟩:∃S,Ej L P w=S:=⟨_,rfl⟩
 have hSl:S.length=P:=by rw [←hS];exact NZ L P w
 rw [hS]
 refine AQ Io Af (by simp) fun hwf=>?_
 rw [AR];unfold Fb
 (try (simp -implicitDefEqProofs only [go_sem,Aj,List.length_replicate]));repeat' first|(with_reducible first|exact True.intro|refine And.intro ?_ ?_|intro _)|(((with_reducible refine AM ?_ ?_)<;>intro _)<;>try (simp -implicitDefEqProofs only [go_sem,Aj,List.length_replicate]))|simp (disch:=omega) only [AC,AH,AK,AJ,AD,AL,AI,AA]|((with_reducible refine Aa ?_);refine⟨(_,_),rfl,?_,?_⟩)|((with_reducible refine AW ?_);refine⟨_,rfl,?_,?_⟩)
 all_goals first|omega|(simp;done)|(simp;omega)|skip
 refine AS (α:=Nat) (l0:=?l1) (m0:=?m1) (fun x=>[(15,.d (.int .i64 (x:Int)))]) (fun x=>[(12,.row 89 1 false (us (S.take x++List.replicate (P - x) 0)))]) (fun x=>x≤P) (fun x=>P - x) 0 ?h01 ?he1 ?he21 ?hI1 ?step1
 case h01=>(simp -implicitDefEqProofs only [go_sem];rfl)
 case he1=>rfl
 case he21=>rfl
 case' step1=>(rintro i hI;try dsimp only at hI)
 case' hI1=>try dsimp only
 ·exact Nat.zero_le _
 ·have hbl:(S.take i++List.replicate (P - i) (0:F)).length=P:=by simp;omega
  by_cases h:i < P
  ·have h':(i:Int) < (P:Int):=by omega
   have hwi:IntKind.i64.wrap ((i:Int)+1)=((i+1:Nat):Int):=by rw [AC _ (by omega)];omega
   have hbg:=ZJ S i P h hSl
   have hbs:=ZI S i P h hSl
   obtain⟨B,hB⟩:∃B,S.take i++List.replicate (P - i) (0:F)=B:=⟨_,rfl⟩
   rw [hB] at hbl hbg hbs ⊢
   have hB0:B.set i 0=B:=by have:=XQ B i (by omega);rwa [hbg] at this
   have hUR:us B=us (B.set i 0):=by rw [hB0]
   (try (simp -implicitDefEqProofs only [go_sem,h',Aj,hbl,List.length_replicate]));repeat' first|(with_reducible first|exact True.intro|refine And.intro ?_ ?_|intro _)|(((with_reducible refine AM ?_ ?_)<;>intro _)<;>try (simp -implicitDefEqProofs only [go_sem,h',Aj,hbl,List.length_replicate]))|simp (disch:=omega) only [AC,AH,AK,AJ,AD,AL,AI,AA]|((with_reducible refine Aa ?_);refine⟨(_,_),rfl,?_,?_⟩)|((with_reducible refine AW ?_);refine⟨_,rfl,?_,?_⟩)
   all_goals first|omega|(simp;done)|(simp;omega)|skip
   rw [hUR]
   refine AS (α:=Nat×F) (l0:=?l2) (m0:=?m2) (fun x=>[(20,.d (.int .i64 (x.1:Int)))]) (fun x=>[(12,.row 89 1 false (us (B.set i x.2)))]) (fun x=>x.1≤L∧x.2=EK (w.take x.1) ((L1 L i).take x.1)) (fun x=>L - x.1) (0,0) ?h02 ?he2 ?he22 ?hI2 ?step2
   case h02=>(simp -implicitDefEqProofs only [go_sem];rfl)
   case he2=>rfl
   case he22=>rfl
   case' step2=>(rintro⟨j,acc⟩ hI2;try dsimp only at hI2)
   case' hI2=>try dsimp only
   ·exact⟨by omega,rfl⟩
   ·obtain⟨q1,q2⟩:=hI2
    by_cases hj:j < L
    ·have hj':(j:Int) < (w.length:Int):=by omega
     have hwj:IntKind.i64.wrap ((j:Int)+1)=((j+1:Nat):Int):=by rw [AC _ (by omega)];omega
     have c1:=GS L P i j (by omega) (by omega) hj
     have c2:=C1 (w[j]?.getD 0) (gp (i * (L - 1 - j)))
     have hk:fa acc (fm (w[j]?.getD 0) (gp (i * (L - 1 - j))))=EK (w.take (j+1)) ((L1 L i).take (j+1)):=by
      rw [q2,←SL w (L1 L i) j (by omega) (by rw [Jx];omega),NU L i j hj];rfl
     have hsg:(B.set i acc)[i]?.getD 0=acc:=Uc B i acc (by omega)
     have hss:∀y,(B.set i acc).set i y=B.set i y:=fun y=>List.set_set ..
     rw [Aj] at c1
     (try (simp -implicitDefEqProofs only [go_sem,hj',hwj,hsg,hss,List.length_set,hbl,h]));repeat' first|(with_reducible first|exact True.intro|refine And.intro ?_ ?_|intro _)|(((with_reducible refine isCall ?_);first|refine AG (c1) rfl ?_ ?_|refine AE (c1) rfl ?_|refine AB (c1) rfl ?_ ?_|refine AF (c1) rfl rfl ?_|refine AG (c2) rfl ?_ ?_|refine AE (c2) rfl ?_|refine AB (c2) rfl ?_ ?_|refine AF (c2) rfl rfl ?_)<;>try (simp -implicitDefEqProofs only [go_sem,hj',hwj,hsg,hss,List.length_set,hbl,h]))|(((with_reducible refine AM ?_ ?_)<;>intro _)<;>try (simp -implicitDefEqProofs only [go_sem,hj',hwj,hsg,hss,List.length_set,hbl,h]))|simp (disch:=omega) only [AC,AH,AK,AJ,AD,AL,AI,AA]|((with_reducible refine Aa ?_);refine⟨(_,_),rfl,?_,?_⟩)|((with_reducible refine AW ?_);refine⟨_,rfl,?_,?_⟩)
     all_goals first|omega|(simp;done)|(simp;omega)|skip
     all_goals first|exact hk|(simp at *;done)|(simp at *;omega)|skip
    ·have hj':¬(j:Int) < (w.length:Int):=by omega
     have hje:j=L:=by omega
     have hacc:acc=S[i]?.getD 0:=by
      rw [q2,hje,←hS,FV L P w i h,List.take_of_length_le (by omega),List.take_of_length_le (by rw [Jx];omega)]
     rw [hacc]
     (try (simp -implicitDefEqProofs only [go_sem,hj',hwi,hbs]));repeat' first|(with_reducible first|exact True.intro|refine And.intro ?_ ?_|intro _)|(((with_reducible refine AM ?_ ?_)<;>intro _)<;>try (simp -implicitDefEqProofs only [go_sem,hj',hwi,hbs]))|simp (disch:=omega) only [AC,AH,AK,AJ,AD,AL,AI,AA]|((with_reducible refine Aa ?_);refine⟨(_,_),rfl,?_,?_⟩)|((with_reducible refine AW ?_);refine⟨_,rfl,?_,?_⟩)
     all_goals first|omega|(simp;done)|(simp;omega)|skip
     all_goals first|rfl|omega|skip
  ·have h':¬(i:Int) < (P:Int):=by omega
   have hie:i=P:=by omega
   subst hie
   have hfin:S.take i++List.replicate (i - i) (0:F)=S:=by rw [List.take_of_length_le (by omega)];simp
   rw [hfin]
   (try (simp -implicitDefEqProofs only [go_sem,h',List.length_replicate,hSl]));repeat' first|(with_reducible first|exact True.intro|refine And.intro ?_ ?_|intro _)|(((with_reducible refine AM ?_ ?_)<;>intro _)<;>try (simp -implicitDefEqProofs only [go_sem,h',List.length_replicate,hSl]))|simp (disch:=omega) only [AC,AH,AK,AJ,AD,AL,AI,AA]|((with_reducible refine Aa ?_);refine⟨(_,_),rfl,?_,?_⟩)|((with_reducible refine AW ?_);refine⟨_,rfl,?_,?_⟩)
   all_goals first|omega|(simp;done)|(simp;omega)|skip
   all_goals first|rfl|skip
theorem GA (n1 n2 n3:Bool) (w:List F) (at_:List Nat) (xs:List F) (hw:w.length≤1000) (hw1:1≤w.length) (hl:at_.length=xs.length) (hlt:∀j,j∈at_→j < w.length) :
  B7 E0 Ls [.list n1 (AY (iv w)),.list n2 (AY (ni at_)),.list n3 (AY (iv xs))] (.list false (AY (iv (Bh w at_ xs)))):=by
 refine AQ N7 Af (by simp) fun hwf=>?_
 simp only [F8,FR,FQ,En,HD,HC,KD,HB,Cg,C4,C5,FT,Dh,List.length_map,Da,true_and,and_true,DI,Fo] at hwf
 rw [AR];unfold KG
 have hne:¬iv w=[]:=by
  intro e
  have h0:(iv w).length=0:=by rw [e];rfl
  rw [DI] at h0;omega
 (try (simp -implicitDefEqProofs only [go_sem,hne,List.nil_append]));repeat' first|(with_reducible first|exact True.intro|refine And.intro ?_ ?_|intro _)|(((with_reducible refine AM ?_ ?_)<;>intro _)<;>try (simp -implicitDefEqProofs only [go_sem,hne,List.nil_append]))|simp (disch:=omega) only [AC,AH,AK,AJ,AD,AL,AI,AA]|((with_reducible refine AW ?_);refine⟨_,rfl,?_,?_⟩)
 all_goals first|omega|(simp;done)|(simp;omega)|skip
 refine AS (α:=Nat) (l0:=?l3) (m0:=?m3) (fun x=>[(8,.d (.int .i64 (x:Int)))]) (fun x=>[(11,.row 3 1 false (AY (iv (Bh w (at_.take x) (xs.take x)))))]) (fun x=>x≤at_.length) (fun x=>at_.length - x) 0 ?h03 ?he3 ?he23 ?hI3 ?step3
 case h03=>(simp -implicitDefEqProofs only [go_sem];rfl)
 case he3=>rfl
 case he23=>rfl
 case' step3=>(rintro i hI;try dsimp only at hI)
 case' hI3=>try dsimp only
 ·exact Nat.zero_le _
 ·have hW:=D_ (at_.take i) w (xs.take i)
  by_cases h:i < at_.length
  ·have h':(i:Int) < (at_.length:Int):=by omega
   have hwi:IntKind.i64.wrap ((i:Int)+1)=((i+1:Nat):Int):=by rw [AC _ (by omega)];omega
   have hj:=hlt (at_[i]?.getD 0) (by rw [Nu _ _ h];exact List.getElem_mem h)
   have hk:(Bh w (at_.take i) (xs.take i)).set (at_[i]?.getD 0) (xs[i]?.getD 0)=Bh w (at_.take (i+1)) (xs.take (i+1)):=by
    rw [←Ka _ _ _ _ _ (MY at_ xs i hl),Ak at_ 0 i h,Ak xs 0 i (by omega)]
   have hi2:i < xs.length:=by omega
   (try (simp -implicitDefEqProofs only [go_sem,h',hwi,hW,hj,hk]));repeat' first|(with_reducible first|exact True.intro|refine And.intro ?_ ?_|intro _)|(((with_reducible refine AM ?_ ?_)<;>intro _)<;>try (simp -implicitDefEqProofs only [go_sem,h',hwi,hW,hj,hk]))|simp (disch:=omega) only [AC,AH,AK,AJ,AD,AL,AI,AA]|((with_reducible refine AW ?_);refine⟨_,rfl,?_,?_⟩)
   all_goals first|omega|(simp;done)|(simp;omega)|skip
   all_goals first|rfl|skip
  ·have h':¬(i:Int) < (at_.length:Int):=by omega
   have hie:i=at_.length:=by omega
   have hfin:Bh w (at_.take i) (xs.take i)=Bh w at_ xs:=by rw [List.take_of_length_le (by omega),List.take_of_length_le (by omega)]
   rw [hfin]
   (try (simp -implicitDefEqProofs only [go_sem,h']));repeat' first|(with_reducible first|exact True.intro|refine And.intro ?_ ?_|intro _)|(((with_reducible refine AM ?_ ?_)<;>intro _)<;>try (simp -implicitDefEqProofs only [go_sem,h']))|simp (disch:=omega) only [AC,AH,AK,AJ,AD,AL,AI,AA]|((with_reducible refine AW ?_);refine⟨_,rfl,?_,?_⟩)
   all_goals first|omega|(simp;done)|(simp;omega)|skip
   all_goals first|rfl|skip
end Go.Pw
end
section
open Go Go.Pw Go.Proofs
namespace Go.Pw
set_option linter.unusedSimpArgs false
set_option linter.unusedVariables false
set_option maxRecDepth 100000
set_option maxHeartbeats 3200000
def vv (b:Bool) (o:List F) (fnd:Bool):List (Nat×Nat×AX):=[(900004,0,.cells [.d (.list b (us o))]),(901004,0,.cells [.d (.bool fnd)])]
def vh (b:Bool) (o:List F) (fnd:Bool) (r:Option (List F)):List (Nat×Nat×AX):=match r with|some z=>vv false z true|none=>vv b o fnd
theorem Hz (b:Bool) (o:List F) (fnd:Bool) (z:List F):vh b o fnd (some z)=vv false z true:=rfl
theorem H0 (b:Bool) (o:List F) (fnd:Bool):vh b o fnd none=vv b o fnd:=rfl
def FA (w:List F) (at_:List Nat) (v:List F):List F:=List.zipWith (fun j x=>fa (w[j]?.getD 0) x) at_ v
theorem Fh (w:List F) (at_:List Nat) (v:List F) (h:at_.length=v.length):(FA w at_ v).length=at_.length:=by simp [FA,h]
theorem Si (w:List F) (at_:List Nat) (v:List F) (i:Nat) (h:i < at_.length) (hl:at_.length=v.length):(FA w at_ v)[i]?.getD 0=fa (w[at_[i]?.getD 0]?.getD 0) (v[i]?.getD 0):=by
 unfold FA
 rw [List.getElem?_zipWith,List.getElem?_eq_getElem h,List.getElem?_eq_getElem (by omega)];rfl
noncomputable def hit (L P:Nat) (w:List F) (mk:List Nat) (l:List Nat):Option (List F) :=
 (F0 L P (mk++l) (Ej L P w)).map fun v=>Bh w (mk++l) (FA w (mk++l) v)
theorem TU (l:List Nat) (i:Nat) (h:i < l.length) (hn:l.Nodup):l[i]?.getD 0∉l.take i:=by
 intro hm
 rw [Nu _ _ h] at hm
 obtain⟨j,hj,he⟩:=List.getElem_of_mem hm
 have hj2:j < i:=by simp at hj;omega
 rw [List.getElem_take] at he
 have:=(List.getElem_inj hn).1 he
 omega
attribute [local congr] Ch BI BJ A0 Ci A5 A7 A6 Az Ar Am Ai A2 An A3 BR BV BT BU BS BW BO Ap A4 Aq BM Bm Ao BP BQ BN BK BL
attribute [local irreducible] IntKind.wrap A_ Option.getD and or
theorem Qr (L P:Nat) (n1 n2 n3 b fnd:Bool) (o w:List F) (mk l:List Nat) (hL:L≤15) (hL1:1≤L) (hP:1≤P) (hP2:P≤15) (hw:w.length=L) (hp:RD L (mk++l)) (hm:(mk++l).length≤P) (hn3:n3=false) :
  Hw E0 CP (vv b o fnd) [.d (.list n1 (AY (ni l))),.d (.ptr [.list n2 (AY (ni mk))]),.d (.ptr [.int .i64 L,.int .i64 P]),.d (.ptr [.list false (us (Ej L P w))]),.d (.ptr [.list n3 (us w)]),.ptr 900004 0 0,.ptr 901004 0 0]
   (vh b o fnd (hit L P w mk l)) (.d (.bool (hit L P w mk l).isNone)):=by
 subst hn3
 obtain⟨S,hS⟩:∃S,Ej L P w=S:=⟨_,rfl⟩
 have hSl:S.length=P:=by rw [←hS];exact NZ L P w
 have c1:=Od n2 n1 (ni mk) (ni l) (by rw [Fo];simp at hm;omega) (by rw [Fo];simp at hm;omega)
 rw [X7] at c1
 obtain⟨A,hA⟩:∃A,mk++l=A:=⟨_,rfl⟩
 have c2:=fun nl=>Ll L P false nl S A hL hP hP2 hSl (by rw [←hA];exact hp) (by rw [←hA];exact hm)
 rw [hA] at c1 hp hm
 unfold hit
 rw [hS,hA]
 unfold vh vv
 refine DQ Gn Af (by simp) (by cases F0 L P A S<;>simp [Nr,CD,D5,AX.isHist]) (by cases F0 L P A S<;>simp [Ek]) fun hwf hwo=>?_
 rw [Ee];unfold EN
 cases hs:F0 L P A S with
 |none =>
  rw [hs,L3,Aj] at c2
  simp only [Option.map_none,Option.isNone_none]
  (try (simp -implicitDefEqProofs only [go_sem]));repeat' first|(with_reducible first|exact True.intro|refine And.intro ?_ ?_|intro _)|(((with_reducible refine isCall ?_);first|refine AG (c1) rfl ?_ ?_|refine AE (c1) rfl ?_|refine AB (c1) rfl ?_ ?_|refine AF (c1) rfl rfl ?_|refine AG (c2 _) rfl ?_ ?_|refine AE (c2 _) rfl ?_|refine AB (c2 _) rfl ?_ ?_|refine AF (c2 _) rfl rfl ?_)<;>try (simp -implicitDefEqProofs only [go_sem]))|(((with_reducible refine AM ?_ ?_)<;>intro _)<;>try (simp -implicitDefEqProofs only [go_sem]))|simp (disch:=omega) only [AC,AH,AK,AJ,AD,AL,AI,AA]|((with_reducible refine AW ?_);refine⟨_,rfl,?_,?_⟩)
  all_goals first|omega|(simp;done)|(simp;omega)|skip
  all_goals first|rfl|skip
 |some v =>
  rw [hs,Jj,Aj] at c2
  simp only [Option.map_some,Option.isNone_some]
  have hvl:=(FL hs).1
  have c3:=HP false w (by omega) (by omega) rfl
  (try (simp -implicitDefEqProofs only [go_sem]));repeat' first|(with_reducible first|exact True.intro|refine And.intro ?_ ?_|intro _)|(((with_reducible refine isCall ?_);first|refine AG (c1) rfl ?_ ?_|refine AE (c1) rfl ?_|refine AB (c1) rfl ?_ ?_|refine AF (c1) rfl rfl ?_|refine AG (c2 _) rfl ?_ ?_|refine AE (c2 _) rfl ?_|refine AB (c2 _) rfl ?_ ?_|refine AF (c2 _) rfl rfl ?_|(refine E4 ([]) ([((7,1),(27,1))]) (c3) (by repeat' first|exact True.intro|exact rfl|refine And.intro ?_ ?_) (by simp [Handed,DN.get,AX.ren,AV.ren,AV.ren.renL,AN.get,Bg,B3,Dx,AN.reach,AV.sites,AV.sites.sitesL,AN.osites]) (by simp [B9,Ek,CD,DN.get,Dx,D5,B2]) (by rfl) (by simp only [Dv,DN.get,AX.ren,AV.ren,AV.ren.renL,and_self,and_true,true_and,if_true,reduceIte];rfl) ?_))<;>try (simp -implicitDefEqProofs only [go_sem]))|(((with_reducible refine AM ?_ ?_)<;>intro _)<;>try (simp -implicitDefEqProofs only [go_sem]))|simp (disch:=omega) only [AC,AH,AK,AJ,AD,AL,AI,AA]|((with_reducible refine AW ?_);refine⟨_,rfl,?_,?_⟩)
  all_goals first|omega|(simp;done)|(simp;omega)|skip
  refine AS (α:=Nat) (l0:=?l1) (m0:=?m1) (fun x=>[(30,.d (.int .i64 (x:Int)))]) (fun x=>[(27,.row 89 1 false (us (Bh w (A.take x) ((FA w A v).take x))))]) (fun x=>x≤A.length) (fun x=>A.length - x) 0 ?h01 ?he1 ?he21 ?hI1 ?step1
  case h01=>(simp -implicitDefEqProofs only [go_sem];rfl)
  case he1=>rfl
  case he21=>rfl
  case' step1=>(rintro i hI;try dsimp only at hI)
  case' hI1=>try dsimp only
  ·exact Nat.zero_le _
  ·have hW:=D_ (A.take i) w ((FA w A v).take i)
   have hYl:=Fh w A v hvl.symm
   by_cases h:i < A.length
   ·have h':(i:Int) < (A.length:Int):=by omega
    have hwi:IntKind.i64.wrap ((i:Int)+1)=((i+1:Nat):Int):=by rw [AC _ (by omega)];omega
    have hj:=hp.lt (A[i]?.getD 0) (by rw [Nu _ _ h];exact List.getElem_mem h)
    have hg:(Bh w (A.take i) ((FA w A v).take i))[A[i]?.getD 0]?.getD 0=w[A[i]?.getD 0]?.getD 0:=FI _ _ _ _ (TU A i h hp.nd)
    have hk:(Bh w (A.take i) ((FA w A v).take i)).set (A[i]?.getD 0) (fa (w[A[i]?.getD 0]?.getD 0) (v[i]?.getD 0))=Bh w (A.take (i+1)) ((FA w A v).take (i+1)):=by
     rw [←Si w A v i h hvl.symm,←Ka _ _ _ _ _ (MY A _ i hYl.symm),Ak A 0 i h,Ak _ 0 i (by omega)]
    have hi2:i < v.length:=by omega
    have hj2:A[i]?.getD 0 < w.length:=by omega
    (try (simp -implicitDefEqProofs only [go_sem,h',hwi,hW,hj2,hg,hk,hi2]));repeat' first|(with_reducible first|exact True.intro|refine And.intro ?_ ?_|intro _)|(((with_reducible refine AM ?_ ?_)<;>intro _)<;>try (simp -implicitDefEqProofs only [go_sem,h',hwi,hW,hj2,hg,hk,hi2]))|simp (disch:=omega) only [AC,AH,AK,AJ,AD,AL,AI,AA]|((with_reducible refine AW ?_);refine⟨_,rfl,?_,?_⟩)
    all_goals first|omega|(simp;done)|(simp;omega)|skip
    all_goals first|rfl|skip
   ·have h':¬(i:Int) < (A.length:Int):=by omega
    have hie:i=A.length:=by omega
    have hfin:Bh w (A.take i) ((FA w A v).take i)=Bh w A (FA w A v):=by rw [List.take_of_length_le (by omega),List.take_of_length_le (by omega)]
    rw [hfin]
    (try (simp -implicitDefEqProofs only [go_sem,h']));repeat' first|(with_reducible first|exact True.intro|refine And.intro ?_ ?_|intro _)|(((with_reducible refine AM ?_ ?_)<;>intro _)<;>try (simp -implicitDefEqProofs only [go_sem,h']))|simp (disch:=omega) only [AC,AH,AK,AJ,AD,AL,AI,AA]|((with_reducible refine AW ?_);refine⟨_,rfl,?_,?_⟩)
    all_goals first|omega|(simp;done)|(simp;omega)|skip
    all_goals first|rfl|skip
end Go.Pw
end
