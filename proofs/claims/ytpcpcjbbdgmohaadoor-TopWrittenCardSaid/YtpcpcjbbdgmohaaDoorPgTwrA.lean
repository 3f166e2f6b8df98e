/- A part of the proof. -/
import Derived.Test.YtpcpcjbbdgmohaaDoorTwPC
import Derived.Test.YtpcpcjbbdgmohaaDoorCorrectSpec
set_option linter.all false
section
open Go Go.Pw Go.Proofs
namespace Go.Pw
set_option maxRecDepth 100000
set_option maxHeartbeats 1600000
theorem XK (n:Nat):(Int.tmod (n:Int) 15)=((n%15:Nat):Int):=by rw[Int.tmod_eq_emod_of_nonneg (by omega)];omega
def gT:Nat->F->Nat->F->F
 |0,_,_,n=>n
 |k+1,a,b,n=>gT k (fm 2 a) (b/2) (if b%2=1 then fa n a else n)
attribute [local congr] Bx A9 A_ Au Bz A0 A2 A1 Ar An Ai Ab Av Aj Ax BG BK BI BJ BH BL BD Ay Aw Al Az Am BB BT Ak BE BF BC A' BA B1
attribute [local irreducible] IntKind.wrap BM Option.getD and or
theorem ED (n:Nat) (hn:n<=1000000):DE E0 I0 [.int .i64 n] (.int .u8 ((gp n).val:Int)):=by
 refine AP Lp A5 (by simp) fun hwf=>?_
 rw[AU];unfold Hc
 (try (simp -implicitDefEqProofs only[go_sem,XK,Uo]));repeat' first|(with_reducible first|exact tI|refine aI ?_ ?_|intro _)|((first|with_reducible refine AN ?_ ?_<;>intro _)<;>try (simp -implicitDefEqProofs only[go_sem,XK,Uo]))|simp (disch:=omega) only[Ap]
 all_goals first|omega|(simp<;>omega)|skip
theorem KI (a:F):DE E0 Ep [.int .u8 (a.val:Int)] (.int .u8 ((fi a).val:Int)):=by
 refine AP Gd A5 (by simp) fun hwf=>?_
 rw[AU];unfold Eb fi
 have hl:=YT a
 have hv:=QA a
 have hw:IntKind.i64.wrap (15-(lg a:Int))=((15-lg a:Nat):Int):=by rw[Af _ (by omega)];omega
 have c1:=ED (15-lg a) (by omega)
 (try (simp -implicitDefEqProofs only[go_sem,hw]));repeat' first|(with_reducible first|exact tI|refine aI ?_ ?_|intro _)|((first|with_reducible refine AN ?_ ?_<;>intro _|(with_reducible refine isCall ?_);first|refine AG c1 ?_)<;>try (simp -implicitDefEqProofs only[go_sem,hw]))|simp (disch:=omega) only[Ap]
 all_goals first|omega|(simp<;>omega)|skip
theorem DV (a b:F):DE E0 FP [.int .u8 (a.val:Int),.int .u8 (b.val:Int)] (.int .u8 ((fm a b).val:Int)):=by
 refine AP HO A5 (by simp) fun hwf=>?_
 rw[AU];unfold E1
 have hl:=YT a
 have hl2:=YT b
 have hv:=QA a
 have hv2:=QA b
 have hw:IntKind.i64.wrap ((lg a:Int)+(lg b:Int))=((lg a+lg b:Nat):Int):=by rw[Af _ (by omega)];omega
 have c1:=ED (lg a+lg b) (by omega)
 by_cases ha:a=0
 ·subst ha
  (try (simp -implicitDefEqProofs only[go_sem,CP]));repeat' first|(with_reducible first|exact tI|refine aI ?_ ?_|intro _)|((first|with_reducible refine AN ?_ ?_<;>intro _)<;>try (simp -implicitDefEqProofs only[go_sem,CP]))|simp (disch:=omega) only[Ap]
  all_goals first|rfl|(simp at *;done)
 ·by_cases hb:b=0
  ·subst hb
   (try (simp -implicitDefEqProofs only[go_sem,De,ha]));repeat' first|(with_reducible first|exact tI|refine aI ?_ ?_|intro _)|((first|with_reducible refine AN ?_ ?_<;>intro _)<;>try (simp -implicitDefEqProofs only[go_sem,De,ha]))|simp (disch:=omega) only[Ap]
   all_goals first|rfl|(simp at *;done)
  ·have hf:fm a b=gp (lg a+lg b):=by unfold fm;rw[if_neg (by simp[ha,hb])]
   (try (simp -implicitDefEqProofs only[go_sem,hw,ha,hb,hf]));repeat' first|(with_reducible first|exact tI|refine aI ?_ ?_|intro _)|((first|with_reducible refine AN ?_ ?_<;>intro _|(with_reducible refine isCall ?_);first|refine AG c1 ?_)<;>try (simp -implicitDefEqProofs only[go_sem,hw,ha,hb,hf]))|simp (disch:=omega) only[Ap]
   all_goals first|omega|(simp<;>omega)|skip
   all_goals first|rfl|(simp at *;done)
end Go.Pw
end
section
open Go Go.Pw Go.Proofs
namespace Go.Pw
set_option maxRecDepth 100000
set_option maxHeartbeats 1600000
def Qz (L P:Nat):D:=.agg [.int .i64 L,.int .i64 P]
theorem Bj (L P:Nat):Qz L P=.agg [.int .i64 L,.int .i64 P]:=rfl
attribute [local congr] Bx A9 A_ Au Bz A0 A2 A1 Ar An Ai Ab Av Aj Ax BG BK BI BJ BH BL BD Ay Aw Al Az Am BB BT Ak BE BF BC A' BA B1
attribute [local irreducible] IntKind.wrap BM Option.getD and or
theorem Gg (L P i j:Nat) (hL:L<=100) (hi:i<=100) (hj:j<L):DE E0 FY [Qz L P,.int .i64 i,.int .i64 j] (.int .u8 ((gp (i*(L-1-j))).val:Int)):=by
 refine AP Hn A5 (by simp) fun hwf=>?_
 rw[AU];unfold FE
 have hb:i*(L-1-j)<=100*100:=Nat.mul_le_mul hi (by omega)
 have hw1:IntKind.i64.wrap ((L:Int)-1)=((L-1:Nat):Int):=by rw[Af _ (by omega)];omega
 have hw2:IntKind.i64.wrap (((L-1:Nat):Int)-(j:Int))=((L-1-j:Nat):Int):=by rw[Af _ (by omega)];omega
 have hw3:IntKind.i64.wrap ((i:Int)*((L-1-j:Nat):Int))=((i*(L-1-j):Nat):Int):=by rw[←Int.natCast_mul,Af _ (by omega)]
 have c1:=ED (i*(L-1-j)) (by omega)
 (try (simp -implicitDefEqProofs only[go_sem,Bj,hw1,hw2,hw3]));repeat' first|(with_reducible first|exact tI|refine aI ?_ ?_|intro _)|((first|with_reducible refine AN ?_ ?_<;>intro _|(with_reducible refine isCall ?_);first|refine AG c1 ?_)<;>try (simp -implicitDefEqProofs only[go_sem,Bj,hw1,hw2,hw3]))|simp (disch:=omega) only[Ap]
 all_goals first|omega|(simp<;>omega)|skip
end Go.Pw
end
section
open Go Go.Pw Go.Proofs
namespace Go.Pw
set_option maxRecDepth 100000
set_option maxHeartbeats 1600000
def ov (a b:F):F:=if b=0 then 0 else fm a (fi b)
def DI (L P:Int):Bool:=decide (2<=L/\L<=15/\1<=P/\P<=8/\P<L)
def JG (n:Int):Bool:=decide (0<=n/\n<=15)
def CX (l:List Int) (m:Int):Bool:=decide ((l.length:Int)=m) && l.all JG
def a6 (l:List Int) (m:Int) (i:Nat):Bool:=decide (0<=l[i]?.getD 0/\l[i]?.getD 0<m/\(0<i->l[i-1]?.getD 0<l[i]?.getD 0))
def ER (l:List Int) (m:Int):Bool:=(List.range l.length).all (a6 l m)
theorem Zd {α:Type}{p:α->Bool}{l:List α}{i:Nat}{d:α}(hi:i<l.length) (h:p (l[i]?.getD d)=false):l.all p=false:=by
 rw[List.all_eq_false]
 refine⟨l[i]?.getD d,?_,by simp[h]⟩
 rw[List.getElem?_eq_getElem hi];simp
theorem cM {α:Type}{p:α->Bool}{l:List α}{d:α}(h:∀i,i<l.length->p (l[i]?.getD d)=true):l.all p=true:=by
 rw[List.all_eq_true]
 intro x hx
 obtain⟨i,hi,rfl⟩:=List.getElem_of_mem hx
 have:=h i hi
 rwa [List.getElem?_eq_getElem hi] at this
theorem YP {l:List Int}{m:Int}{i:Nat}(hi:i<l.length) (h:a6 l m i=false):ER l m=false:=by
 unfold ER;rw[List.all_eq_false];exact⟨i,by simpa using hi,by simp[h]⟩
theorem Pk {l:List Int}{m:Int}(h:∀i,i<l.length->a6 l m i=true):ER l m=true:=by
 unfold ER;rw[List.all_eq_true];intro i hi;exact h i (by simpa using hi)
def bN (l:List Int) (n:Int):Bool:=l.contains n
theorem dz {l:List Int}{n:Int}(h:∀i,i<l.length->l[i]?.getD 0≠n):bN l n=false:=by
 unfold bN
 rw[List.contains_eq_any_beq,List.any_eq_false]
 intro x hx
 obtain⟨i,hi,rfl⟩:=List.getElem_of_mem hx
 have:=h i hi
 rw[List.getElem?_eq_getElem hi] at this
 simpa using fun e=>this e.symm
theorem bM {l:List Int}{n:Int}{i:Nat}(hi:i<l.length) (h:l[i]?.getD 0=n):bN l n=true:=by
 unfold bN
 rw[List.contains_iff_mem,←h,List.getElem?_eq_getElem hi];simp
theorem Ud:∀a:F,IntKind.u8.wrap (a.val:Int)=(a.val:Int):=by decide +kernel
theorem P':∀a:F,IntKind.i64.wrap (a.val:Int)=(a.val:Int):=by decide +kernel
attribute [local congr] Bx A9 A_ Au Bz A0 A2 A1 Ar An Ai Ab Av Aj Ax BG BK BI BJ BH BL BD Ay Aw Al Az Am BB BT Ak BE BF BC A' BA B1
attribute [local irreducible] IntKind.wrap BM Option.getD and or
theorem Fb (n lo hi:Int):DE E0 Gq [.int .i64 n,.int .i64 lo,.int .i64 hi] (.bool (decide (lo<=n/\n<=hi))):=by
 refine AP MS A5 (by simp) fun hwf=>?_
 rw[AU];unfold Ie
 (try (simp -implicitDefEqProofs only[go_sem]));repeat' first|(with_reducible first|exact tI|refine aI ?_ ?_|intro _)|((first|with_reducible refine AN ?_ ?_<;>intro _)<;>try (simp -implicitDefEqProofs only[go_sem]))|simp (disch:=omega) only[Ap]
 all_goals first|omega|(simp_all;done)|(simp_all;omega)
theorem HC (L P:Int):DE E0 I1 [.agg [.int .i64 L,.int .i64 P]] (.int .i64 (if DI L P then 0 else 50)):=by
 refine AP Lr A5 (by simp) fun hwf=>?_
 rw[AU];unfold He DI
 (try (simp -implicitDefEqProofs only[go_sem]));repeat' first|(with_reducible first|exact tI|refine aI ?_ ?_|intro _)|((first|with_reducible refine AN ?_ ?_<;>intro _)<;>try (simp -implicitDefEqProofs only[go_sem]))|simp (disch:=omega) only[Ap]
 all_goals first|omega|(simp_all;done)|(simp_all;omega)|grind
theorem Ib (L P:Int):DE E0 KZ [.agg [.int .i64 L,.int .i64 P]] (.int .i64 (if DI L P then 0 else 50)):=by
 refine AP NA A5 (by simp) fun hwf=>?_
 rw[AU];unfold JO DI
 have c1:=Fb
 (try (simp -implicitDefEqProofs only[go_sem]));repeat' first|(with_reducible first|exact tI|refine aI ?_ ?_|intro _)|((first|with_reducible refine AN ?_ ?_<;>intro _|(with_reducible refine isCall ?_);first|refine AG (c1 _ _ _) ?_)<;>try (simp -implicitDefEqProofs only[go_sem]))|simp (disch:=omega) only[Ap]
 all_goals first|omega|(simp_all;done)|(simp_all;omega)|grind
theorem L1 (n:Int):DE E0 D4 [.int .i64 n] (.bool (!JG n)):=by
 refine AP Lq A5 (by simp) fun hwf=>?_
 rw[AU];unfold Hd JG
 (try (simp -implicitDefEqProofs only[go_sem]));repeat' first|(with_reducible first|exact tI|refine aI ?_ ?_|intro _)|((first|with_reducible refine AN ?_ ?_<;>intro _)<;>try (simp -implicitDefEqProofs only[go_sem]))|simp (disch:=omega) only[Ap]
 all_goals first|omega|(simp_all;done)|(simp_all;omega)|grind
theorem UU:Bq E0.P D4=true:=by kernel_rfl
theorem Jl:Bq E0.P Dh=true:=by kernel_rfl
theorem Jk:Bq E0.P Dg=true:=by kernel_rfl
theorem L5:Bq E0.P C2=true:=by kernel_rfl
theorem L_ (nl:Bool) (xs:List Int) (f:FuncId) (cs:List D) (p:Int->Bool) (hb:Bq E0.P f=true) (hcs:A3 AV.toD1 (cs.map .d)=some cs) (h:∀x,x∈xs->DE E0 f (.int .i64 x::cs) (.bool (p x))) :
  DE E0 DA [.list nl (A4 xs),.fn f cs] (.int .i64 (match xs.findIdx? p with|some i=>i|none=>-1)):=by
 refine AP D2 A5 (by simp) fun hwf=>?_
 simp only[Dt,DM,DL,DC,EK,EJ,Fk,EI,Be,Br,Bs,DD,CC,List.length_map,CK,true_and,and_true] at hwf
 rw[AU];unfold Cw
 simp -implicitDefEqProofs only[go_sem]
 refine AX (α:=Int) (l0:=?l1) (m0:=?m1) (fun x=>[(8,.d (.int .i64 x))]) (fun x=>[]) (fun x=>0<=x/\x<=xs.length/\∀(j:Nat) (hj:j<xs.length),(j:Int)<x->p xs[j]=false) (fun x=>(xs.length-x).toNat) ?a1_0 ?h01 ?he1 ?he21 ?hI1 ?step1
 case h01=>(simp -implicitDefEqProofs only[go_sem];rfl)
 case he1=>rfl
 case he21=>rfl
 case' step1=>(rintro i hI;try dsimp only at hI)
 case' hI1=>try dsimp only
 ·simp
  omega
 ·(try (simp -implicitDefEqProofs only[go_sem]));repeat' first|(with_reducible first|exact tI|refine aI ?_ ?_|intro _)|((first|with_reducible refine AN ?_ ?_<;>intro _)<;>try (simp -implicitDefEqProofs only[go_sem]))|simp (disch:=omega) only[Ap]|((with_reducible refine Ae ?_);refine⟨_,rfl,?_,?_⟩)
  all_goals first|omega|(simp<;>omega)|skip
  ·have hx:xs[i.toNat]?.getD 0=xs[i.toNat]'(by omega):=by rw[List.getElem?_eq_getElem (by omega),Option.getD_some]
   rw[hx]
   refine Mc (h _ (List.getElem_mem _)) (Mz rfl hcs) (fun hp=>?_) (fun hp=>?_)
   ·simp -implicitDefEqProofs only[go_sem]
    have:xs.findIdx? p=some i.toNat:=by rw[List.findIdx?_eq_some_iff_getElem];exact⟨by omega,hp,fun j hj=>by simp[hI.2.2 j (by omega) (by omega)]⟩
    rw[this];simp;omega
   ·(try (simp -implicitDefEqProofs only[go_sem]));repeat' first|(with_reducible first|exact tI|refine aI ?_ ?_|intro _)|((first|with_reducible refine AN ?_ ?_<;>intro _)<;>try (simp -implicitDefEqProofs only[go_sem]))|simp (disch:=omega) only[Ap]|((with_reducible refine Ae ?_);refine⟨_,rfl,?_,?_⟩)
    all_goals first|omega|(simp<;>omega)|skip
    rename_i j hj hlt
    by_cases hjk:j=i.toNat
    ·subst hjk;exact hp
    ·exact hI.2.2 j hj (by omega)
  ·have:xs.findIdx? p=none:=by
    rw[List.findIdx?_eq_none_iff];intro x hx;obtain⟨j,hj,rfl⟩:=List.getElem_of_mem hx;exact hI.2.2 j hj (by omega)
   rw[this]
theorem Ju (nl:Bool) (xs:List Int) (f:FuncId) (cs:List D) (p:Int->Bool) (hb:Bq E0.P f=true) (hcs:A3 AV.toD1 (cs.map .d)=some cs) (h:∀x,x∈xs->DE E0 f (.int .i64 x::cs) (.bool (p x))) :
  DE E0 B2 [.list nl (A4 xs),.fn f cs] (.bool (xs.any p)):=by
 refine AP Da A5 (by simp) fun hwf=>?_
 rw[AU];unfold CU
 simp -implicitDefEqProofs only[go_sem]
 refine Ew (L_ nl xs f cs p hb hcs h) rfl ?_
 simp -implicitDefEqProofs only[go_sem]
 have key:(0:Int)<=(match xs.findIdx? p with|some i=>(i:Int)|none=>-1)↔xs.any p=true:=by
  cases hf:xs.findIdx? p with
  |none=>rw[List.findIdx?_eq_none_iff] at hf;simp;intro x hx;simp[hf x hx]
  |some i=>rw[List.findIdx?_eq_some_iff_getElem] at hf;simp;exact⟨_,List.getElem_mem hf.1,hf.2.1⟩
 grind
theorem cL (xs:List Int) (p:Int->Bool):(!xs.any fun n=>!p n)=xs.all p:=by
 rw[List.all_eq_not_any_not]
theorem It (nl:Bool) (xs:List Int) (m:Int):DE E0 Kb [.list nl (A4 xs),.int .i64 m] (.bool (CX xs m)):=by
 refine AP NC A5 (by simp) fun hwf=>?_
 rw[AU];unfold JQ
 have c1:DE E0 B2 [.list nl (A4 xs),.fn D4 []] (.bool (xs.any fun n=>!JG n)) :=
  Ju nl xs D4 [] (fun n=>!JG n) UU rfl fun x _=>L1 x
 have ha:=cL xs JG
 by_cases hm:(xs.length:Int)=m
 ·have hs:CX xs m=xs.all JG:=by unfold CX;simp[hm]
  rw[hs]
  cases hx:xs.any fun n=>!JG n with
  |true =>
   rw[hx] at c1 ha
   (try (simp -implicitDefEqProofs only[go_sem,hm]));repeat' first|(with_reducible first|exact tI|refine aI ?_ ?_|intro _)|((first|with_reducible refine AN ?_ ?_<;>intro _|(with_reducible refine isCall ?_);first|refine AG c1 ?_)<;>try (simp -implicitDefEqProofs only[go_sem,hm]))|simp (disch:=omega) only[Ap]
   all_goals first|(rw[←ha];done)|(rw[←ha];rfl)|(simp at *;done)|omega
  |false =>
   rw[hx] at c1 ha
   (try (simp -implicitDefEqProofs only[go_sem,hm]));repeat' first|(with_reducible first|exact tI|refine aI ?_ ?_|intro _)|((first|with_reducible refine AN ?_ ?_<;>intro _|(with_reducible refine isCall ?_);first|refine AG c1 ?_)<;>try (simp -implicitDefEqProofs only[go_sem,hm]))|simp (disch:=omega) only[Ap]
   all_goals first|(rw[←ha];done)|(rw[←ha];rfl)|(simp at *;done)|omega
 ·have hs:CX xs m=false:=by unfold CX;simp[hm]
  rw[hs]
  (try (simp -implicitDefEqProofs only[go_sem,hm]));repeat' first|(with_reducible first|exact tI|refine aI ?_ ?_|intro _)|((first|with_reducible refine AN ?_ ?_<;>intro _)<;>try (simp -implicitDefEqProofs only[go_sem,hm]))|simp (disch:=omega) only[Ap]
  all_goals first|rfl|(simp at *;done)|omega
theorem DQ (nl:Bool) (xs:List Int) (m:Int):DE E0 Gs [.list nl (A4 xs),.int .i64 m] (.bool (CX xs m)):=by
 refine AP Je A5 (by simp) fun hwf=>?_
 simp only[Dt,DM,DL,DC,EK,EJ,Fk,EI,Be,Br,Bs,DD,CC,List.length_map,CK,true_and,and_true] at hwf
 rw[AU];unfold GD
 (try (simp -implicitDefEqProofs only[go_sem]));repeat' first|(with_reducible first|exact tI|refine aI ?_ ?_|intro _)|((first|with_reducible refine AN ?_ ?_<;>intro _)<;>try (simp -implicitDefEqProofs only[go_sem]))|simp (disch:=omega) only[Ap]|((with_reducible refine Ae ?_);refine⟨_,rfl,?_,?_⟩)
 refine AX (α:=Nat) (l0:=?l2) (m0:=?m2) (fun x=>[(5,.d (.int .i64 (x:Int)))]) (fun x=>[]) (fun x=>x<=xs.length/\∀j,j<x->JG (xs[j]?.getD 0)=true) (fun x=>xs.length-x) 0 ?h02 ?he2 ?he22 ?hI2 ?step2
 case h02=>(simp -implicitDefEqProofs only[go_sem];rfl)
 case he2=>rfl
 case he22=>rfl
 case' step2=>(rintro i hI;try dsimp only at hI)
 case' hI2=>try dsimp only
 ·exact⟨by omega,fun j hj=>absurd hj (by omega)⟩
 ·obtain⟨h1,h2⟩:=hI
  by_cases h:i<xs.length
  ·have h':(i:Int)<(xs.length:Int):=by omega
   have hw:IntKind.i64.wrap ((i:Int)+1)=((i+1:Nat):Int):=by rw[Af _ (by omega)];omega
   have c1:DE E0 Gq [.int .i64 (xs[i]?.getD 0),.int .i64 0,.int .i64 15] (.bool (JG (xs[i]?.getD 0))):=Fb _ _ _
   cases hb:JG (xs[i]?.getD 0) with
   |true =>
    rw[hb] at c1
    (try (simp -implicitDefEqProofs only[go_sem,h',hw]));repeat' first|(with_reducible first|exact tI|refine aI ?_ ?_|intro _)|((first|with_reducible refine AN ?_ ?_<;>intro _|(with_reducible refine isCall ?_);first|refine AG c1 ?_)<;>try (simp -implicitDefEqProofs only[go_sem,h',hw]))|simp (disch:=omega) only[Ap]|((with_reducible refine Ae ?_);refine⟨_,rfl,?_,?_⟩)
    all_goals first|omega|(simp<;>omega)|skip
    all_goals first
     |(
      rename_i j hj
      rcases Nat.lt_succ_iff_lt_or_eq.1 hj with hj|rfl
      ·exact h2 j hj
      ·exact hb)
     |skip
   |false =>
    rw[hb] at c1
    have hs:CX xs m=false:=by unfold CX;rw[Zd h hb];simp
    (try (simp -implicitDefEqProofs only[go_sem,h',hw,hs]));repeat' first|(with_reducible first|exact tI|refine aI ?_ ?_|intro _)|((first|with_reducible refine AN ?_ ?_<;>intro _|(with_reducible refine isCall ?_);first|refine AG c1 ?_)<;>try (simp -implicitDefEqProofs only[go_sem,h',hw,hs]))|simp (disch:=omega) only[Ap]|((with_reducible refine Ae ?_);refine⟨_,rfl,?_,?_⟩)
    all_goals first|omega|(simp<;>omega)|skip
  ·have h':¬(i:Int)<(xs.length:Int):=by omega
   have hk:i=xs.length:=by omega
   have hs:CX xs m=decide ((xs.length:Int)=m):=by unfold CX;rw[cM (d:=0) (fun j hj=>h2 j (by omega))];simp
   (try (simp -implicitDefEqProofs only[go_sem,h',hs]));repeat' first|(with_reducible first|exact tI|refine aI ?_ ?_|intro _)|((first|with_reducible refine AN ?_ ?_<;>intro _)<;>try (simp -implicitDefEqProofs only[go_sem,h',hs]))|simp (disch:=omega) only[Ap]|((with_reducible refine Ae ?_);refine⟨_,rfl,?_,?_⟩)
   all_goals first|omega|(simp<;>omega)|skip
   all_goals rfl
theorem K3 (nl:Bool) (xs:List Int) (m:Int):DE E0 Hy [.list nl (A4 xs),.int .i64 m] (.bool (ER xs m)):=by
  refine AP Kw A5 (by simp) fun hwf=>?_
  simp only[Dt,DM,DL,DC,EK,EJ,Fk,EI,Be,Br,Bs,DD,CC,List.length_map,CK,true_and,and_true] at hwf
  rw[AU];unfold G4
  (try (simp -implicitDefEqProofs only[go_sem]));repeat' first|(with_reducible first|exact tI|refine aI ?_ ?_|intro _)|((first|with_reducible refine AN ?_ ?_<;>intro _)<;>try (simp -implicitDefEqProofs only[go_sem]))|simp (disch:=omega) only[Ap]|((with_reducible refine Ae ?_);refine⟨_,rfl,?_,?_⟩)
  refine AX (α:=Nat) (l0:=?l3) (m0:=?m3) (fun x=>[(9,.d (.int .i64 (x:Int)))]) (fun x=>[]) (fun x=>x<=xs.length/\∀j,j<x->a6 xs m j=true) (fun x=>xs.length-x) 0 ?h03 ?he3 ?he23 ?hI3 ?step3
  case h03=>(simp -implicitDefEqProofs only[go_sem];rfl)
  case he3=>rfl
  case he23=>rfl
  case' step3=>(rintro i hI;try dsimp only at hI)
  case' hI3=>try dsimp only
  · exact⟨by omega,fun j hj=>absurd hj (by omega)⟩
  · obtain⟨h1,h2⟩:=hI
    by_cases h:i<xs.length
    · have h':(i:Int)<(xs.length:Int):=by omega
      have hw:IntKind.i64.wrap ((i:Int)+1)=((i+1:Nat):Int):=by rw[Af _ (by omega)];omega
      cases hb:a6 xs m i with
      |true =>
        have hb2:=hb
        unfold a6 at hb2
        simp only[decide_eq_true_eq] at hb2
        obtain⟨k1,k2,k3⟩:=hb2
        have q1:¬xs[i]?.getD 0<0:=by omega
        have q2:¬m<=xs[i]?.getD 0:=by omega
        by_cases h0:0<i
        · have h0':(0:Int)<(i:Int):=by omega
          have k4:=k3 h0
          have q3:¬xs[i]?.getD 0<=xs[i-1]?.getD 0:=by omega
          have hw2:IntKind.i64.wrap ((i:Int)-1)=((i-1:Nat):Int):=by rw[Af _ (by omega)];omega
          (try (simp -implicitDefEqProofs only[go_sem,h',hw,hw2,q1,q2,h0',q3]));repeat' first|(with_reducible first|exact tI|refine aI ?_ ?_|intro _)|((first|with_reducible refine AN ?_ ?_<;>intro _)<;>try (simp -implicitDefEqProofs only[go_sem,h',hw,hw2,q1,q2,h0',q3]))|simp (disch:=omega) only[Ap]|((with_reducible refine Ae ?_);refine⟨_,rfl,?_,?_⟩)
          all_goals first|omega|(simp<;>omega)|skip
          all_goals first
            |(
               rename_i j hj
               rcases Nat.lt_succ_iff_lt_or_eq.1 hj with hj|rfl
               · exact h2 j hj
               · exact hb)
            |(simp at *;done)|(simp at *;omega)|skip
        · have h0':¬(0:Int)<(i:Int):=by omega
          (try (simp -implicitDefEqProofs only[go_sem,h',hw,q1,q2,h0']));repeat' first|(with_reducible first|exact tI|refine aI ?_ ?_|intro _)|((first|with_reducible refine AN ?_ ?_<;>intro _)<;>try (simp -implicitDefEqProofs only[go_sem,h',hw,q1,q2,h0']))|simp (disch:=omega) only[Ap]|((with_reducible refine Ae ?_);refine⟨_,rfl,?_,?_⟩)
          all_goals first|omega|(simp<;>omega)|skip
          all_goals first
            |(
               rename_i j hj
               rcases Nat.lt_succ_iff_lt_or_eq.1 hj with hj|rfl
               · exact h2 j hj
               · exact hb)
            |(simp at *;done)|(simp at *;omega)|skip
      |false =>
        have hs:=YP h hb
        unfold a6 at hb
        simp only[decide_eq_false_iff_not] at hb
        have hw2:0<i->IntKind.i64.wrap ((i:Int)-1)=((i-1:Nat):Int):=fun _=>by rw[Af _ (by omega)];omega
        by_cases q1:xs[i]?.getD 0<0
        · (try (simp -implicitDefEqProofs only[go_sem,h',hw,q1,hs]));repeat' first|(with_reducible first|exact tI|refine aI ?_ ?_|intro _)|((first|with_reducible refine AN ?_ ?_<;>intro _)<;>try (simp -implicitDefEqProofs only[go_sem,h',hw,q1,hs]))|simp (disch:=omega) only[Ap]|((with_reducible refine Ae ?_);refine⟨_,rfl,?_,?_⟩)
          all_goals first|omega|(simp<;>omega)|skip
        · by_cases q2:m<=xs[i]?.getD 0
          · (try (simp -implicitDefEqProofs only[go_sem,h',hw,q1,q2,hs]));repeat' first|(with_reducible first|exact tI|refine aI ?_ ?_|intro _)|((first|with_reducible refine AN ?_ ?_<;>intro _)<;>try (simp -implicitDefEqProofs only[go_sem,h',hw,q1,q2,hs]))|simp (disch:=omega) only[Ap]|((with_reducible refine Ae ?_);refine⟨_,rfl,?_,?_⟩)
            all_goals first|omega|(simp<;>omega)|skip
          · have h0:0<i:=by
              by_cases h0:0<i
              · exact h0
              · exact absurd ⟨by omega,by omega,fun h=>absurd h h0⟩ hb
            have h0':(0:Int)<(i:Int):=by omega
            have q3:xs[i]?.getD 0<=xs[i-1]?.getD 0:=by
              by_cases q3:xs[i]?.getD 0<=xs[i-1]?.getD 0
              · exact q3
              · exact absurd ⟨by omega,by omega,fun h=>by omega⟩ hb
            (try (simp -implicitDefEqProofs only[go_sem,h',hw,hw2 h0,q1,q2,h0',q3,hs]));repeat' first|(with_reducible first|exact tI|refine aI ?_ ?_|intro _)|((first|with_reducible refine AN ?_ ?_<;>intro _)<;>try (simp -implicitDefEqProofs only[go_sem,h',hw,hw2 h0,q1,q2,h0',q3,hs]))|simp (disch:=omega) only[Ap]|((with_reducible refine Ae ?_);refine⟨_,rfl,?_,?_⟩)
            all_goals first|omega|(simp<;>omega)|skip
            all_goals first|(simp at *;done)|(simp at *;omega)|skip
    · have h':¬(i:Int)<(xs.length:Int):=by omega
      have hs:ER xs m=true:=Pk fun j hj=>h2 j (by omega)
      (try (simp -implicitDefEqProofs only[go_sem,h',hs]));repeat' first|(with_reducible first|exact tI|refine aI ?_ ?_|intro _)|((first|with_reducible refine AN ?_ ?_<;>intro _)<;>try (simp -implicitDefEqProofs only[go_sem,h',hs]))|simp (disch:=omega) only[Ap]|((with_reducible refine Ae ?_);refine⟨_,rfl,?_,?_⟩)
      all_goals first|omega|(simp<;>omega)|skip
end Go.Pw
end
section
open Go Go.Pw Go.Proofs
namespace Go.Pw
set_option maxRecDepth 100000
set_option maxHeartbeats 3200000
def ni (l:List Nat):List Int:=l.map fun n:Nat=>(n:Int)
theorem Fc (l:List Nat):(ni l).length=l.length:=by simp[ni]
theorem Td (l:List Nat) (i:Nat):(ni l)[i]?.getD 0=((l[i]?.getD 0:Nat):Int):=by
 unfold ni;rw[List.getElem?_map];cases l[i]?<;>rfl
theorem QY (l:List Nat) (n:Nat):ni l++[(n:Int)]=ni (l++[n]):=by simp[ni]
theorem YG (l k:List Nat):ni l++ni k=ni (l++k):=by simp[ni]
theorem YF (l:List Nat):(ni l).isEmpty=l.isEmpty:=by cases l<;>rfl
attribute [go_sem] Fc Td QY YG YF
attribute [local congr] Bx A9 A_ Au Bz A0 A2 A1 Ar An Ai Ab Av Aj Ax BG BK BI BJ BH BL BD Ay Aw Al Az Am BB BT Ak BE BF BC A' BA B1
attribute [local irreducible] IntKind.wrap BM Option.getD and or
theorem PK (nl:Bool) (xs:List Int) (n:Int):∃r:Int,(decide (0<=r)=bN xs n)/\DE E0 FN [.list nl (A4 xs),.int .i64 n] (.int .i64 r):=by
  obtain⟨r,hr⟩:∃r:Int,r=match xs.findIdx? (fun x=>decide (n=x)) with|some i=>(i:Int)|none=>-1:=⟨_,rfl⟩
  refine⟨r,?_,?_⟩
  · rw[hr]
    cases hf:xs.findIdx? (fun x=>decide (n=x)) with
    |none =>
      rw[List.findIdx?_eq_none_iff] at hf
      rw[dz fun i hi h=>?_]
      · rfl
      · have:=hf (xs[i]?.getD 0) (by rw[List.getElem?_eq_getElem hi];simp)
        simp[h] at this
    |some i =>
      rw[List.findIdx?_eq_some_iff_getElem] at hf
      have:=hf.2.1
      have hx:n=xs[i]'hf.1:=by simpa using this
      rw[bM hf.1 (by rw[List.getElem?_eq_getElem hf.1,Option.getD_some];exact hx.symm)]
      simp
  · refine AP HM A5 (by simp) fun hwf=>?_
    simp only[Dt,DM,DL,DC,EK,EJ,Fk,EI,Be,Br,Bs,DD,CC,List.length_map,CK,true_and,and_true] at hwf
    rw[AU];unfold Ey
    (try (simp -implicitDefEqProofs only[go_sem]));repeat' first|(with_reducible first|exact tI|refine aI ?_ ?_|intro _)|((first|with_reducible refine AN ?_ ?_<;>intro _)<;>try (simp -implicitDefEqProofs only[go_sem]))|simp (disch:=omega) only[Ap]|((with_reducible refine Ae ?_);refine⟨_,rfl,?_,?_⟩)
    refine AX (α:=Nat) (l0:=?l1) (m0:=?m1) (fun x=>[(8,.d (.int .i64 (x:Int)))]) (fun x=>[]) (fun x=>x<=xs.length/\∀j,j<x->xs[j]?.getD 0≠n) (fun x=>xs.length-x) 0 ?h01 ?he1 ?he21 ?hI1 ?step1
    case h01=>(simp -implicitDefEqProofs only[go_sem];rfl)
    case he1=>rfl
    case he21=>rfl
    case' step1=>(rintro i hI;try dsimp only at hI)
    case' hI1=>try dsimp only
    · exact⟨by omega,fun j hj=>absurd hj (by omega)⟩
    · obtain⟨h1,h2⟩:=hI
      by_cases h:i<xs.length
      · have h':(i:Int)<(xs.length:Int):=by omega
        have hw:IntKind.i64.wrap ((i:Int)+1)=((i+1:Nat):Int):=by rw[Af _ (by omega)];omega
        by_cases hb:n=xs[i]?.getD 0
        · have hi:r=(i:Int):=by
            rw[hr]
            have:xs.findIdx? (fun x=>decide (n=x))=some i:=by
              rw[List.findIdx?_eq_some_iff_getElem]
              refine⟨h,?_,fun j hj=>?_⟩
              · rw[List.getElem?_eq_getElem h] at hb;simpa using hb
              · have:=h2 j hj
                rw[List.getElem?_eq_getElem (by omega),Option.getD_some] at this
                simpa using fun e=>this e.symm
            rw[this]
          rw[hi]
          have hb1:=hb
          (try (simp -implicitDefEqProofs only[go_sem,h',hw,←hb]));repeat' first|(with_reducible first|exact tI|refine aI ?_ ?_|intro _)|((first|with_reducible refine AN ?_ ?_<;>intro _)<;>try (simp -implicitDefEqProofs only[go_sem,h',hw,←hb]))|simp (disch:=omega) only[Ap]|((with_reducible refine Ae ?_);refine⟨_,rfl,?_,?_⟩)
          all_goals first|omega|(simp<;>omega)|skip
        · (try (simp -implicitDefEqProofs only[go_sem,h',hw,hb]));repeat' first|(with_reducible first|exact tI|refine aI ?_ ?_|intro _)|((first|with_reducible refine AN ?_ ?_<;>intro _)<;>try (simp -implicitDefEqProofs only[go_sem,h',hw,hb]))|simp (disch:=omega) only[Ap]|((with_reducible refine Ae ?_);refine⟨_,rfl,?_,?_⟩)
          all_goals first|omega|(simp<;>omega)|skip
          all_goals first
            |(
               rename_i j hj
               rcases Nat.lt_succ_iff_lt_or_eq.1 hj with hj|rfl
               · exact h2 j hj
               · exact fun e=>hb e.symm)
            |skip
      · have h':¬(i:Int)<(xs.length:Int):=by omega
        have hi:r=-1:=by
          rw[hr]
          have:xs.findIdx? (fun x=>decide (n=x))=none:=by
            rw[List.findIdx?_eq_none_iff]
            intro x hx
            obtain⟨j,hj,rfl⟩:=List.getElem_of_mem hx
            have:=h2 j (by omega)
            rw[List.getElem?_eq_getElem hj,Option.getD_some] at this
            simpa using fun e=>this e.symm
          rw[this]
        rw[hi]
        (try (simp -implicitDefEqProofs only[go_sem,h']));repeat' first|(with_reducible first|exact tI|refine aI ?_ ?_|intro _)|((first|with_reducible refine AN ?_ ?_<;>intro _)<;>try (simp -implicitDefEqProofs only[go_sem,h']))|simp (disch:=omega) only[Ap]|((with_reducible refine Ae ?_);refine⟨_,rfl,?_,?_⟩)
        all_goals first|omega|(simp<;>omega)|skip
theorem Mf (nl:Bool) (xs:List Int) (n:Int):DE E0 Ef [.list nl (A4 xs),.int .i64 n] (.bool (bN xs n)):=by
 refine AP GO A5 (by simp) fun hwf=>?_
 obtain⟨r,hr,c1⟩:=PK nl xs n
 rw[AU];unfold EN
 rw[←hr]
 by_cases h:0<=r
 ·(try (simp -implicitDefEqProofs only[go_sem,h]));repeat' first|(with_reducible first|exact tI|refine aI ?_ ?_|intro _)|((first|with_reducible refine AN ?_ ?_<;>intro _|(with_reducible refine isCall ?_);first|refine AG c1 ?_)<;>try (simp -implicitDefEqProofs only[go_sem,h]))|simp (disch:=omega) only[Ap]
  all_goals first|rfl|(simp at *;done)|(simp[h])
 ·(try (simp -implicitDefEqProofs only[go_sem,h]));repeat' first|(with_reducible first|exact tI|refine aI ?_ ?_|intro _)|((first|with_reducible refine AN ?_ ?_<;>intro _|(with_reducible refine isCall ?_);first|refine AG c1 ?_)<;>try (simp -implicitDefEqProofs only[go_sem,h]))|simp (disch:=omega) only[Ap]
  all_goals first|rfl|(simp at *;done)|(simp[h])
end Go.Pw
end
section
open Go Go.Pw Go.Proofs
namespace Go.Pw
set_option maxRecDepth 100000
set_option maxHeartbeats 3200000
theorem LC (w:List F) (i:Nat) (h:i<w.length):w.take i++[w[i]?.getD 0]=w.take (i+1):=by
 rw[List.take_succ,List.getElem?_eq_getElem h];rfl
theorem Lj {α:Type}(w:List α):(w.take w.length).isEmpty=w.isEmpty:=by rw[List.take_length]
theorem Lk {α:Type}(w:List α) (x:α):(w++[x]).isEmpty=false:=by cases w<;>rfl
attribute [local congr] Bx A9 A_ Au Bz A0 A2 A1 Ar An Ai Ab Av Aj Ax BG BK BI BJ BH BL BD Ay Aw Al Az Am BB BT Ak BE BF BC A' BA B1
attribute [local irreducible] IntKind.wrap BM Option.getD and or
theorem HT (nl:Bool) (xs:List F) (hl:xs.length<=1000) (hne:0<xs.length) (hnl:nl=false):HI E0 CE [] [.d (.list nl (us xs))] [(7,1,.row 173 1 false (us xs))] (.own 7 1):=by
 subst hnl
 refine C4 DX A5 (by simp) (by simp[MN,B6,Dv]) (by simp[EF]) fun hwf hwo=>?_
 rw[D8];unfold B9
 have hn:¬xs=[]:=by intro h;rw[h] at hne;simp at hne
 (try (simp -implicitDefEqProofs only[go_sem,hn]));repeat' first|(with_reducible first|exact tI|refine aI ?_ ?_|intro _)|((first|with_reducible refine AN ?_ ?_<;>intro _)<;>try (simp -implicitDefEqProofs only[go_sem,hn]))|simp (disch:=omega) only[Ap]
 all_goals first|omega|rfl
theorem O0 (a:F):DE E0 Dg [.int .i64 (a.val:Int)] (.int .u8 (a.val:Int)):=by
 refine AP I7 A5 (by simp) fun hwf=>?_
 rw[AU];unfold Fp
 (try (simp -implicitDefEqProofs only[go_sem,Ud]));repeat' first|(with_reducible first|exact tI|refine aI ?_ ?_|intro _)|((first|with_reducible refine AN ?_ ?_<;>intro _)<;>try (simp -implicitDefEqProofs only[go_sem,Ud]))|simp (disch:=omega) only[Ap]
 all_goals rfl
theorem O5 (a:F):DE E0 Dh [.int .u8 (a.val:Int)] (.int .i64 (a.val:Int)):=by
 refine AP I8 A5 (by simp) fun hwf=>?_
 rw[AU];unfold Fq
 (try (simp -implicitDefEqProofs only[go_sem,P']));repeat' first|(with_reducible first|exact tI|refine aI ?_ ?_|intro _)|((first|with_reducible refine AN ?_ ?_<;>intro _)<;>try (simp -implicitDefEqProofs only[go_sem,P']))|simp (disch:=omega) only[Ap]
 all_goals rfl
theorem OS (nl:Bool) (w:List F) (hl:w.length<=1000000):DE E0 Ct [.list nl (A4 (iv w)),.fn Dg []] (.list w.isEmpty (us w)):=by
 refine AP EU A5 (by simp) fun hwf=>?_
 rw[AU];unfold Ch
 (try (simp -implicitDefEqProofs only[go_sem]));repeat' first|(with_reducible first|exact tI|refine aI ?_ ?_|intro _)|((first|with_reducible refine AN ?_ ?_<;>intro _)<;>try (simp -implicitDefEqProofs only[go_sem]))|simp (disch:=omega) only[Ap]|((with_reducible refine Ad ?_);refine⟨(_,_,_),rfl,?_,?_⟩)
 refine AX (α:=Nat×Bool×(List F)) (l0:=?l1) (m0:=?m1) (fun x=>[(10,.d (.int .i64 (x.1:Int)))]) (fun x=>[(19,.row 173 1 x.2.1 (us x.2.2))]) (fun x=>x.1<=w.length/\x.2.2=w.take x.1/\x.2.1=x.2.2.isEmpty) (fun x=>w.length-x.1) (0,true,[]) ?h01 ?he1 ?he21 ?hI1 ?step1
 case h01=>(simp -implicitDefEqProofs only[go_sem];rfl)
 case he1=>rfl
 case he21=>rfl
 case' step1=>(rintro⟨i,b,l⟩ hI;try dsimp only at hI)
 case' hI1=>try dsimp only
 ·exact⟨by omega,rfl,rfl⟩
 ·obtain⟨h1,h2,h3⟩:=hI
  subst h2 h3
  by_cases h:i<w.length
  ·have h':(i:Int)<(w.length:Int):=by omega
   have hw:IntKind.i64.wrap ((i:Int)+1)=((i+1:Nat):Int):=by rw[Af _ (by omega)];omega
   have c1:=O0 (w[i]?.getD 0)
   have hs:=LC w i h
   (try (simp -implicitDefEqProofs only[go_sem,h',hw,Jk,hs]));repeat' first|(with_reducible first|exact tI|refine aI ?_ ?_|intro _)|((first|with_reducible refine AN ?_ ?_<;>intro _|(with_reducible refine isCall ?_);first|refine AG c1 ?_)<;>try (simp -implicitDefEqProofs only[go_sem,h',hw,Jk,hs]))|simp (disch:=omega) only[Ap]|((with_reducible refine Ad ?_);refine⟨(_,_,_),rfl,?_,?_⟩)
   all_goals first|omega|(simp<;>omega)|skip
   all_goals first|omega|(rw[←hs];exact(Lk _ _).symm)|(simp at *;done)|(simp at *;omega)|skip
  ·have h':¬(i:Int)<(w.length:Int):=by omega
   have hk:i=w.length:=by omega
   subst hk
   (try (simp -implicitDefEqProofs only[go_sem,h',Lj]));repeat' first|(with_reducible first|exact tI|refine aI ?_ ?_|intro _)|((first|with_reducible refine AN ?_ ?_<;>intro _)<;>try (simp -implicitDefEqProofs only[go_sem,h',Lj]))|simp (disch:=omega) only[Ap]|((with_reducible refine Ad ?_);refine⟨(_,_,_),rfl,?_,?_⟩)
   all_goals first|omega|(simp<;>omega)|skip
   all_goals first|rfl|skip
theorem OQ (nl:Bool) (w:List F) (hl:w.length<=1000000):DE E0 Cu [.list nl (us w),.fn Dh []] (.list w.isEmpty (A4 (iv w))):=by
 refine AP EV A5 (by simp) fun hwf=>?_
 rw[AU];unfold Ci
 (try (simp -implicitDefEqProofs only[go_sem]));repeat' first|(with_reducible first|exact tI|refine aI ?_ ?_|intro _)|((first|with_reducible refine AN ?_ ?_<;>intro _)<;>try (simp -implicitDefEqProofs only[go_sem]))|simp (disch:=omega) only[Ap]|((with_reducible refine Ad ?_);refine⟨(_,_,_),rfl,?_,?_⟩)
 refine AX (α:=Nat×Bool×(List F)) (l0:=?l2) (m0:=?m2) (fun x=>[(10,.d (.int .i64 (x.1:Int)))]) (fun x=>[(19,.row 3 1 x.2.1 (A4 (iv x.2.2)))]) (fun x=>x.1<=w.length/\x.2.2=w.take x.1/\x.2.1=x.2.2.isEmpty) (fun x=>w.length-x.1) (0,true,[]) ?h02 ?he2 ?he22 ?hI2 ?step2
 case h02=>(simp -implicitDefEqProofs only[go_sem];rfl)
 case he2=>rfl
 case he22=>rfl
 case' step2=>(rintro⟨i,b,l⟩ hI;try dsimp only at hI)
 case' hI2=>try dsimp only
 ·exact⟨by omega,rfl,rfl⟩
 ·obtain⟨h1,h2,h3⟩:=hI
  subst h2 h3
  by_cases h:i<w.length
  ·have h':(i:Int)<(w.length:Int):=by omega
   have hw:IntKind.i64.wrap ((i:Int)+1)=((i+1:Nat):Int):=by rw[Af _ (by omega)];omega
   have c1:=O5 (w[i]?.getD 0)
   have hs:=LC w i h
   (try (simp -implicitDefEqProofs only[go_sem,h',hw,Jl,hs]));repeat' first|(with_reducible first|exact tI|refine aI ?_ ?_|intro _)|((first|with_reducible refine AN ?_ ?_<;>intro _|(with_reducible refine isCall ?_);first|refine AG c1 ?_)<;>try (simp -implicitDefEqProofs only[go_sem,h',hw,Jl,hs]))|simp (disch:=omega) only[Ap]|((with_reducible refine Ad ?_);refine⟨(_,_,_),rfl,?_,?_⟩)
   all_goals first|omega|(simp<;>omega)|skip
   all_goals first|omega|(rw[←hs];exact(Lk _ _).symm)|(simp at *;done)|(simp at *;omega)|skip
  ·have h':¬(i:Int)<(w.length:Int):=by omega
   have hk:i=w.length:=by omega
   subst hk
   (try (simp -implicitDefEqProofs only[go_sem,h',Lj]));repeat' first|(with_reducible first|exact tI|refine aI ?_ ?_|intro _)|((first|with_reducible refine AN ?_ ?_<;>intro _)<;>try (simp -implicitDefEqProofs only[go_sem,h',Lj]))|simp (disch:=omega) only[Ap]|((with_reducible refine Ad ?_);refine⟨(_,_,_),rfl,?_,?_⟩)
   all_goals first|omega|(simp<;>omega)|skip
   all_goals first|rfl|skip
theorem RS (nl:Bool) (w:List F) (hl:w.length<=1000000):DE E0 HG [.list nl (A4 (iv w))] (.list w.isEmpty (us w)):=by
 refine AP KD A5 (by simp) fun hwf=>?_
 rw[AU];unfold GW
 have c1:=OS nl w hl
 (try (simp -implicitDefEqProofs only[go_sem]));repeat' first|(with_reducible first|exact tI|refine aI ?_ ?_|intro _)|((first|with_reducible refine AN ?_ ?_<;>intro _|(with_reducible refine isCall ?_);first|refine AG c1 ?_)<;>try (simp -implicitDefEqProofs only[go_sem]))|simp (disch:=omega) only[Ap]
 all_goals rfl
theorem R3 (nl:Bool) (w:List F) (hl:w.length<=1000000):DE E0 HH [.list nl (us w)] (.list w.isEmpty (A4 (iv w))):=by
 refine AP KF A5 (by simp) fun hwf=>?_
 rw[AU];unfold GY
 have c1:=OQ nl w hl
 (try (simp -implicitDefEqProofs only[go_sem]));repeat' first|(with_reducible first|exact tI|refine aI ?_ ?_|intro _)|((first|with_reducible refine AN ?_ ?_<;>intro _|(with_reducible refine isCall ?_);first|refine AG c1 ?_)<;>try (simp -implicitDefEqProofs only[go_sem]))|simp (disch:=omega) only[Ap]
 all_goals rfl
end Go.Pw
end
