/- A part of the proof. -/
import Derived.Test.YtibkjeolahobbaaGreatDoorChPC
import Derived.Test.YtibkjeolahobbaaGreatDoorCorrectSpec
set_option linter.all false
open Go Go.Pw Go.Proofs
namespace Go.Pw
set_option maxRecDepth 100000
set_option maxHeartbeats 3200000
section
theorem cv (n:Nat):(Int.tmod (n:Int) 15)=((n%15:Nat):Int):=by rw[Int.tmod_eq_emod_of_nonneg (by omega)];omega
def qL:Nat->F->Nat->F->F
 |0,_,_,n=>n
 |k+1,a,b,n=>qL k (fm 2 a) (b/2) (if b%2=1 then fa n a else n)
attribute [local congr] Bf A9 A_ Aq Bg Ax Az Ay Ap Aj Ad AZ Au Ae Av BK BO BM BN BL BP BE Ah Aw Ai BC BW Ag BI BJ BD BF BH BG BA BB A8 Bj A' Ar Af
attribute [local irreducible] IntKind.wrap A4 Option.getD and or
theorem Ea (n:Nat) (hn:n<=1000000):B' E0 KE [.int .i64 n] (.int .u8 ((gp n).val:Int)):=by
 refine AO Nq An (by simp) fun hwf=>?_
 rw[AW];unfold Iw
 (try (simp -implicitDefEqProofs only[go_sem,cv,Y9]));repeat' first|(with_reducible first|exact tI|refine aI ?_ ?_|intro _)|((first|with_reducible refine AN ?_ ?_<;>intro _)<;>try (simp -implicitDefEqProofs only[go_sem,cv,Y9]))|simp (disch:=omega) only[Al]
 all_goals first|omega|(simp;done)|(simp;omega)|skip
theorem Ly (a:F):B' E0 FL [.int .u8 (a.val:Int)] (.int .u8 ((fi a).val:Int)):=by
 refine AO HW An (by simp) fun hwf=>?_
 rw[AW];unfold E1 fi
 have hl:=ep a
 have hv:=TQ a
 have hw:IntKind.i64.wrap (15-(lg a:Int))=((15-lg a:Nat):Int):=by rw[Aa _ (by omega)];omega
 have c1:=Ea (15-lg a) (by omega)
 (try (simp -implicitDefEqProofs only[go_sem,hw]));repeat' first|(with_reducible first|exact tI|refine aI ?_ ?_|intro _)|((first|with_reducible refine AN ?_ ?_<;>intro _|(with_reducible refine isCall ?_);first|refine AE c1 ?_)<;>try (simp -implicitDefEqProofs only[go_sem,hw]))|simp (disch:=omega) only[Al]
 all_goals first|omega|(simp;done)|(simp;omega)|skip
theorem Dd (a b:F):B' E0 F3 [.int .u8 (a.val:Int),.int .u8 (b.val:Int)] (.int .u8 ((fm a b).val:Int)):=by
 refine AO IV An (by simp) fun hwf=>?_
 rw[AW];unfold FW
 have hl:=ep a
 have hl2:=ep b
 have hv:=TQ a
 have hv2:=TQ b
 have hw:IntKind.i64.wrap ((lg a:Int)+(lg b:Int))=((lg a+lg b:Nat):Int):=by rw[Aa _ (by omega)];omega
 have c1:=Ea (lg a+lg b) (by omega)
 by_cases ha:a=0
 ·subst ha
  (try (simp -implicitDefEqProofs only[go_sem,Cb]));repeat' first|(with_reducible first|exact tI|refine aI ?_ ?_|intro _)|((first|with_reducible refine AN ?_ ?_<;>intro _)<;>try (simp -implicitDefEqProofs only[go_sem,Cb]))|simp (disch:=omega) only[Al]
  all_goals first|rfl|(simp at *;done)
 ·by_cases hb:b=0
  ·subst hb
   (try (simp -implicitDefEqProofs only[go_sem,Dr,ha]));repeat' first|(with_reducible first|exact tI|refine aI ?_ ?_|intro _)|((first|with_reducible refine AN ?_ ?_<;>intro _)<;>try (simp -implicitDefEqProofs only[go_sem,Dr,ha]))|simp (disch:=omega) only[Al]
   all_goals first|rfl|(simp at *;done)
  ·have hf:fm a b=gp (lg a+lg b):=by unfold fm;rw[if_neg (by simp[ha,hb])]
   (try (simp -implicitDefEqProofs only[go_sem,hw,ha,hb,hf]));repeat' first|(with_reducible first|exact tI|refine aI ?_ ?_|intro _)|((first|with_reducible refine AN ?_ ?_<;>intro _|(with_reducible refine isCall ?_);first|refine AE c1 ?_)<;>try (simp -implicitDefEqProofs only[go_sem,hw,ha,hb,hf]))|simp (disch:=omega) only[Al]
   all_goals first|omega|(simp;done)|(simp;omega)|skip
   all_goals first|rfl|(simp at *;done)
end
section
def UT (L P:Nat):D:=.agg [.int .i64 L,.int .i64 P]
theorem B3 (L P:Nat):UT L P=.agg [.int .i64 L,.int .i64 P]:=rfl
attribute [local congr] Bf A9 A_ Aq Bg Ax Az Ay Ap Aj Ad AZ Au Ae Av BK BO BM BN BL BP BE Ah Aw Ai BC BW Ag BI BJ BD BF BH BG BA BB A8 Bj A' Ar Af
attribute [local irreducible] IntKind.wrap A4 Option.getD and or
theorem Ha (L P i j:Nat) (hL:L<=100) (hi:i<=100) (hj:j<L):B' E0 GF [UT L P,.int .i64 i,.int .i64 j] (.int .u8 ((gp (i*(L-1-j))).val:Int)):=by
 refine AO I' An (by simp) fun hwf=>?_
 rw[AW];unfold Fn
 have hb:i*(L-1-j)<=100*100:=Nat.mul_le_mul hi (by omega)
 have hw1:IntKind.i64.wrap ((L:Int)-1)=((L-1:Nat):Int):=by rw[Aa _ (by omega)];omega
 have hw2:IntKind.i64.wrap (((L-1:Nat):Int)-(j:Int))=((L-1-j:Nat):Int):=by rw[Aa _ (by omega)];omega
 have hw3:IntKind.i64.wrap ((i:Int)*((L-1-j:Nat):Int))=((i*(L-1-j):Nat):Int):=by rw[←Int.natCast_mul,Aa _ (by omega)]
 have c1:=Ea (i*(L-1-j)) (by omega)
 (try (simp -implicitDefEqProofs only[go_sem,B3,hw1,hw2,hw3]));repeat' first|(with_reducible first|exact tI|refine aI ?_ ?_|intro _)|((first|with_reducible refine AN ?_ ?_<;>intro _|(with_reducible refine isCall ?_);first|refine AE c1 ?_)<;>try (simp -implicitDefEqProofs only[go_sem,B3,hw1,hw2,hw3]))|simp (disch:=omega) only[Al]
 all_goals first|omega|(simp;done)|(simp;omega)|skip
end
section
def ov (a b:F):F:=if b=0 then 0 else fm a (fi b)
def EK (L P:Int):Bool:=decide (2<=L/\L<=15/\1<=P/\P<=8/\P<L)
def KY (n:Int):Bool:=decide (0<=n/\n<=15)
def CR (l:List Int) (m:Int):Bool:=decide ((l.length:Int)=m) && l.all KY
def jo (l:List Int) (m:Int) (i:Nat):Bool:=decide (0<=l[i]?.getD 0/\l[i]?.getD 0<m/\(0<i->l[i-1]?.getD 0<l[i]?.getD 0))
def EU (l:List Int) (m:Int):Bool:=(List.range l.length).all (jo l m)
theorem gu {α:Type}{p:α->Bool}{l:List α}{i:Nat}{d:α}(hi:i<l.length) (h:p (l[i]?.getD d)=false):l.all p=false:=by
 rw[List.all_eq_false]
 refine⟨l[i]?.getD d,?_,by simp[h]⟩
 rw[List.getElem?_eq_getElem hi];simp
theorem lH {α:Type}{p:α->Bool}{l:List α}{d:α}(h:∀i,i<l.length->p (l[i]?.getD d)=true):l.all p=true:=by
 rw[List.all_eq_true]
 intro x hx
 obtain⟨i,hi,rfl⟩:=List.getElem_of_mem hx
 have:=h i hi
 rwa [List.getElem?_eq_getElem hi] at this
theorem eg {l:List Int}{m:Int}{i:Nat}(hi:i<l.length) (h:jo l m i=false):EU l m=false:=by
 unfold EU;rw[List.all_eq_false];exact⟨i,by simpa using hi,by simp[h]⟩
theorem Sz {l:List Int}{m:Int}(h:∀i,i<l.length->jo l m i=true):EU l m=true:=by
 unfold EU;rw[List.all_eq_true];intro i hi;exact h i (by simpa using hi)
def kF (l:List Int) (n:Int):Bool:=l.contains n
theorem nP {l:List Int}{n:Int}(h:∀i,i<l.length->l[i]?.getD 0≠n):kF l n=false:=by
 unfold kF
 rw[List.contains_eq_any_beq,List.any_eq_false]
 intro x hx
 obtain⟨i,hi,rfl⟩:=List.getElem_of_mem hx
 have:=h i hi
 rw[List.getElem?_eq_getElem hi] at this
 simpa using fun e=>this e.symm
theorem kE {l:List Int}{n:Int}{i:Nat}(hi:i<l.length) (h:l[i]?.getD 0=n):kF l n=true:=by
 unfold kF
 rw[List.contains_iff_mem,←h,List.getElem?_eq_getElem hi];simp
theorem lQ:∀a:F,IntKind.u8.wrap (a.val:Int)=(a.val:Int):=by decide +kernel
theorem cP:∀a:F,IntKind.i64.wrap (a.val:Int)=(a.val:Int):=by decide +kernel
attribute [local congr] Bf A9 A_ Aq Bg Ax Az Ay Ap Aj Ad AZ Au Ae Av BK BO BM BN BL BP BE Ah Aw Ai BC BW Ag BI BJ BD BF BH BG BA BB A8 Bj A' Ar Af
attribute [local irreducible] IntKind.wrap A4 Option.getD and or
theorem GJ (n lo hi:Int):B' E0 Hj [.int .i64 n,.int .i64 lo,.int .i64 hi] (.bool (decide (lo<=n/\n<=hi))):=by
 refine AO O1 An (by simp) fun hwf=>?_
 rw[AW];unfold Ju
 (try (simp -implicitDefEqProofs only[go_sem]));repeat' first|(with_reducible first|exact tI|refine aI ?_ ?_|intro _)|((first|with_reducible refine AN ?_ ?_<;>intro _)<;>try (simp -implicitDefEqProofs only[go_sem]))|simp (disch:=omega) only[Al]
 all_goals first|omega|(simp_all;done)|(simp_all;omega)
theorem N5 (L P:Int):B' E0 KF [.agg [.int .i64 L,.int .i64 P]] (.int .i64 (if EK L P then 0 else 50)):=by
 refine AO Ns An (by simp) fun hwf=>?_
 rw[AW];unfold Iy EK
 (try (simp -implicitDefEqProofs only[go_sem]));repeat' first|(with_reducible first|exact tI|refine aI ?_ ?_|intro _)|((first|with_reducible refine AN ?_ ?_<;>intro _)<;>try (simp -implicitDefEqProofs only[go_sem]))|simp (disch:=omega) only[Al]
 all_goals first|omega|(simp_all;done)|(simp_all;omega)|grind
theorem Px (L P:Int):B' E0 MQ [.agg [.int .i64 L,.int .i64 P]] (.int .i64 (if EK L P then 0 else 50)):=by
 refine AO P6 An (by simp) fun hwf=>?_
 rw[AW];unfold Kq EK
 have c1:=GJ
 (try (simp -implicitDefEqProofs only[go_sem]));repeat' first|(with_reducible first|exact tI|refine aI ?_ ?_|intro _)|((first|with_reducible refine AN ?_ ?_<;>intro _|(with_reducible refine isCall ?_);first|refine AE (c1 _ _ _) ?_)<;>try (simp -implicitDefEqProofs only[go_sem]))|simp (disch:=omega) only[Al]
 all_goals first|omega|(simp_all;done)|(simp_all;omega)|grind
theorem N4 (n:Int):B' E0 EL [.int .i64 n] (.bool (!KY n)):=by
 refine AO Nr An (by simp) fun hwf=>?_
 rw[AW];unfold Ix KY
 (try (simp -implicitDefEqProofs only[go_sem]));repeat' first|(with_reducible first|exact tI|refine aI ?_ ?_|intro _)|((first|with_reducible refine AN ?_ ?_<;>intro _)<;>try (simp -implicitDefEqProofs only[go_sem]))|simp (disch:=omega) only[Al]
 all_goals first|omega|(simp_all;done)|(simp_all;omega)|grind
theorem Yf:Bv E0.P EL=true:=by kernel_rfl
theorem OA:Bv E0.P DD=true:=by kernel_rfl
theorem OH (nl:Bool) (xs:List Int) (f:FuncId) (cs:List D) (p:Int->Bool) (hb:Bv E0.P f=true) (hcs:BR AV.toD1 (cs.map .d)=some cs) (h:∀x,x∈xs->B' E0 f (.int .i64 x::cs) (.bool (p x))) :
  B' E0 DQ [.list nl (Am xs),.fn f cs] (.int .i64 (match xs.findIdx? p with|some i=>i|none=>-1)):=by
 refine AO EJ An (by simp) fun hwf=>?_
 simp only[Dv,C7,C6,Cu,D9,D8,Fh,D7,Bl,Bs,Bt,C_,B8,List.length_map,B4,true_and,and_true] at hwf
 rw[AW];unfold C8
 simp -implicitDefEqProofs only[go_sem]
 refine AY (α:=Int) (l0:=?l2) (m0:=?m2) (fun x=>[(8,.d (.int .i64 x))]) (fun x=>[]) (fun x=>0<=x/\x<=xs.length/\∀(j:Nat) (hj:j<xs.length),(j:Int)<x->p xs[j]=false) (fun x=>(xs.length-x).toNat) ?a2_0 ?h02 ?he2 ?he22 ?hI2 ?step2
 case h02=>(simp -implicitDefEqProofs only[go_sem];rfl)
 case he2=>rfl
 case he22=>rfl
 case' step2=>(rintro i hI;try dsimp only at hI)
 case' hI2=>try dsimp only
 ·simp
  omega
 ·(try (simp -implicitDefEqProofs only[go_sem]));repeat' first|(with_reducible first|exact tI|refine aI ?_ ?_|intro _)|((first|with_reducible refine AN ?_ ?_<;>intro _)<;>try (simp -implicitDefEqProofs only[go_sem]))|simp (disch:=omega) only[Al]|((with_reducible refine Ao ?_);refine⟨_,rfl,?_,?_⟩)
  all_goals first|omega|(simp;done)|(simp;omega)|skip
  ·have hx:xs[i.toNat]?.getD 0=xs[i.toNat]'(by omega):=by rw[List.getElem?_eq_getElem (by omega),Option.getD_some]
   rw[hx]
   refine Yd (h _ (List.getElem_mem _)) (LK rfl hcs) (fun hp=>?_) (fun hp=>?_)
   ·simp -implicitDefEqProofs only[go_sem]
    have:xs.findIdx? p=some i.toNat:=by rw[List.findIdx?_eq_some_iff_getElem];exact⟨by omega,hp,fun j hj=>by simp[hI.2.2 j (by omega) (by omega)]⟩
    rw[this];simp;omega
   ·(try (simp -implicitDefEqProofs only[go_sem]));repeat' first|(with_reducible first|exact tI|refine aI ?_ ?_|intro _)|((first|with_reducible refine AN ?_ ?_<;>intro _)<;>try (simp -implicitDefEqProofs only[go_sem]))|simp (disch:=omega) only[Al]|((with_reducible refine Ao ?_);refine⟨_,rfl,?_,?_⟩)
    all_goals first|omega|(simp;done)|(simp;omega)|skip
    rename_i j hj hlt
    by_cases hjk:j=i.toNat
    ·subst hjk;exact hp
    ·exact hI.2.2 j hj (by omega)
  ·have:xs.findIdx? p=none:=by
    rw[List.findIdx?_eq_none_iff];intro x hx;obtain⟨j,hj,rfl⟩:=List.getElem_of_mem hx;exact hI.2.2 j hj (by omega)
   rw[this]
theorem Lb (nl:Bool) (xs:List Int) (f:FuncId) (cs:List D) (p:Int->Bool) (hb:Bv E0.P f=true) (hcs:BR AV.toD1 (cs.map .d)=some cs) (h:∀x,x∈xs->B' E0 f (.int .i64 x::cs) (.bool (p x))) :
  B' E0 B_ [.list nl (Am xs),.fn f cs] (.bool (xs.any p)):=by
 refine AO Dm An (by simp) fun hwf=>?_
 rw[AW];unfold Cg
 simp -implicitDefEqProofs only[go_sem]
 refine Hf (OH nl xs f cs p hb hcs h) rfl ?_
 simp -implicitDefEqProofs only[go_sem]
 have key:(0:Int)<=(match xs.findIdx? p with|some i=>(i:Int)|none=>-1)↔xs.any p=true:=by
  cases hf:xs.findIdx? p with
  |none=>rw[List.findIdx?_eq_none_iff] at hf;simp;intro x hx;simp[hf x hx]
  |some i=>rw[List.findIdx?_eq_some_iff_getElem] at hf;simp;exact⟨_,List.getElem_mem hf.1,hf.2.1⟩
 grind
theorem lG (xs:List Int) (p:Int->Bool):(!xs.any fun n=>!p n)=xs.all p:=by
 rw[List.all_eq_not_any_not]
theorem QB (nl:Bool) (xs:List Int) (m:Int):B' E0 MU [.list nl (Am xs),.int .i64 m] (.bool (CR xs m)):=by
 refine AO P_ An (by simp) fun hwf=>?_
 rw[AW];unfold Ku
 have c1:B' E0 B_ [.list nl (Am xs),.fn EL []] (.bool (xs.any fun n=>!KY n)) :=
  Lb nl xs EL [] (fun n=>!KY n) Yf rfl fun x _=>N4 x
 have ha:=lG xs KY
 by_cases hm:(xs.length:Int)=m
 ·have hs:CR xs m=xs.all KY:=by unfold CR;simp[hm]
  rw[hs]
  cases hx:xs.any fun n=>!KY n with
  |true =>
   rw[hx] at c1 ha
   (try (simp -implicitDefEqProofs only[go_sem,hm]));repeat' first|(with_reducible first|exact tI|refine aI ?_ ?_|intro _)|((first|with_reducible refine AN ?_ ?_<;>intro _|(with_reducible refine isCall ?_);first|refine AE c1 ?_)<;>try (simp -implicitDefEqProofs only[go_sem,hm]))|simp (disch:=omega) only[Al]
   all_goals first|(rw[←ha];done)|(rw[←ha];rfl)|(simp at *;done)|omega
  |false =>
   rw[hx] at c1 ha
   (try (simp -implicitDefEqProofs only[go_sem,hm]));repeat' first|(with_reducible first|exact tI|refine aI ?_ ?_|intro _)|((first|with_reducible refine AN ?_ ?_<;>intro _|(with_reducible refine isCall ?_);first|refine AE c1 ?_)<;>try (simp -implicitDefEqProofs only[go_sem,hm]))|simp (disch:=omega) only[Al]
   all_goals first|(rw[←ha];done)|(rw[←ha];rfl)|(simp at *;done)|omega
 ·have hs:CR xs m=false:=by unfold CR;simp[hm]
  rw[hs]
  (try (simp -implicitDefEqProofs only[go_sem,hm]));repeat' first|(with_reducible first|exact tI|refine aI ?_ ?_|intro _)|((first|with_reducible refine AN ?_ ?_<;>intro _)<;>try (simp -implicitDefEqProofs only[go_sem,hm]))|simp (disch:=omega) only[Al]
  all_goals first|rfl|(simp at *;done)|omega
theorem Kl (nl:Bool) (xs:List Int) (m:Int):B' E0 Hl [.list nl (Am xs),.int .i64 m] (.bool (CR xs m)):=by
 refine AO LB An (by simp) fun hwf=>?_
 simp only[Dv,C7,C6,Cu,D9,D8,Fh,D7,Bl,Bs,Bt,C_,B8,List.length_map,B4,true_and,and_true] at hwf
 rw[AW];unfold G1
 (try (simp -implicitDefEqProofs only[go_sem]));repeat' first|(with_reducible first|exact tI|refine aI ?_ ?_|intro _)|((first|with_reducible refine AN ?_ ?_<;>intro _)<;>try (simp -implicitDefEqProofs only[go_sem]))|simp (disch:=omega) only[Al]|((with_reducible refine Ao ?_);refine⟨_,rfl,?_,?_⟩)
 refine AY (α:=Nat) (l0:=?l3) (m0:=?m3) (fun x=>[(5,.d (.int .i64 (x:Int)))]) (fun x=>[]) (fun x=>x<=xs.length/\∀j,j<x->KY (xs[j]?.getD 0)=true) (fun x=>xs.length-x) 0 ?h03 ?he3 ?he23 ?hI3 ?step3
 case h03=>(simp -implicitDefEqProofs only[go_sem];rfl)
 case he3=>rfl
 case he23=>rfl
 case' step3=>(rintro i hI;try dsimp only at hI)
 case' hI3=>try dsimp only
 ·exact⟨by omega,fun j hj=>absurd hj (by omega)⟩
 ·obtain⟨h1,h2⟩:=hI
  by_cases h:i<xs.length
  ·have h':(i:Int)<(xs.length:Int):=by omega
   have hw:IntKind.i64.wrap ((i:Int)+1)=((i+1:Nat):Int):=by rw[Aa _ (by omega)];omega
   have c1:B' E0 Hj [.int .i64 (xs[i]?.getD 0),.int .i64 0,.int .i64 15] (.bool (KY (xs[i]?.getD 0))):=GJ _ _ _
   cases hb:KY (xs[i]?.getD 0) with
   |true =>
    rw[hb] at c1
    (try (simp -implicitDefEqProofs only[go_sem,h',hw]));repeat' first|(with_reducible first|exact tI|refine aI ?_ ?_|intro _)|((first|with_reducible refine AN ?_ ?_<;>intro _|(with_reducible refine isCall ?_);first|refine AE c1 ?_)<;>try (simp -implicitDefEqProofs only[go_sem,h',hw]))|simp (disch:=omega) only[Al]|((with_reducible refine Ao ?_);refine⟨_,rfl,?_,?_⟩)
    all_goals first|omega|(simp;done)|(simp;omega)|skip
    all_goals first
     |(
      rename_i j hj
      rcases Nat.lt_succ_iff_lt_or_eq.1 hj with hj|rfl
      ·exact h2 j hj
      ·exact hb)
     |skip
   |false =>
    rw[hb] at c1
    have hs:CR xs m=false:=by unfold CR;rw[gu h hb];simp
    (try (simp -implicitDefEqProofs only[go_sem,h',hw,hs]));repeat' first|(with_reducible first|exact tI|refine aI ?_ ?_|intro _)|((first|with_reducible refine AN ?_ ?_<;>intro _|(with_reducible refine isCall ?_);first|refine AE c1 ?_)<;>try (simp -implicitDefEqProofs only[go_sem,h',hw,hs]))|simp (disch:=omega) only[Al]|((with_reducible refine Ao ?_);refine⟨_,rfl,?_,?_⟩)
    all_goals first|omega|(simp;done)|(simp;omega)|skip
  ·have h':¬(i:Int)<(xs.length:Int):=by omega
   have hk:i=xs.length:=by omega
   have hs:CR xs m=decide ((xs.length:Int)=m):=by unfold CR;rw[lH (d:=0) (fun j hj=>h2 j (by omega))];simp
   (try (simp -implicitDefEqProofs only[go_sem,h',hs]));repeat' first|(with_reducible first|exact tI|refine aI ?_ ?_|intro _)|((first|with_reducible refine AN ?_ ?_<;>intro _)<;>try (simp -implicitDefEqProofs only[go_sem,h',hs]))|simp (disch:=omega) only[Al]|((with_reducible refine Ao ?_);refine⟨_,rfl,?_,?_⟩)
   all_goals first|omega|(simp;done)|(simp;omega)|skip
   all_goals rfl
theorem Mr (nl:Bool) (xs:List Int) (m:Int):B' E0 JL [.list nl (Am xs),.int .i64 m] (.bool (EU xs m)):=by
  refine AO Ml An (by simp) fun hwf=>?_
  simp only[Dv,C7,C6,Cu,D9,D8,Fh,D7,Bl,Bs,Bt,C_,B8,List.length_map,B4,true_and,and_true] at hwf
  rw[AW];unfold H2
  (try (simp -implicitDefEqProofs only[go_sem]));repeat' first|(with_reducible first|exact tI|refine aI ?_ ?_|intro _)|((first|with_reducible refine AN ?_ ?_<;>intro _)<;>try (simp -implicitDefEqProofs only[go_sem]))|simp (disch:=omega) only[Al]|((with_reducible refine Ao ?_);refine⟨_,rfl,?_,?_⟩)
  refine AY (α:=Nat) (l0:=?l4) (m0:=?m4) (fun x=>[(9,.d (.int .i64 (x:Int)))]) (fun x=>[]) (fun x=>x<=xs.length/\∀j,j<x->jo xs m j=true) (fun x=>xs.length-x) 0 ?h04 ?he4 ?he24 ?hI4 ?step4
  case h04=>(simp -implicitDefEqProofs only[go_sem];rfl)
  case he4=>rfl
  case he24=>rfl
  case' step4=>(rintro i hI;try dsimp only at hI)
  case' hI4=>try dsimp only
  · exact⟨by omega,fun j hj=>absurd hj (by omega)⟩
  · obtain⟨h1,h2⟩:=hI
    by_cases h:i<xs.length
    · have h':(i:Int)<(xs.length:Int):=by omega
      have hw:IntKind.i64.wrap ((i:Int)+1)=((i+1:Nat):Int):=by rw[Aa _ (by omega)];omega
      cases hb:jo xs m i with
      |true =>
        have hb2:=hb
        unfold jo at hb2
        simp only[decide_eq_true_eq] at hb2
        obtain⟨k1,k2,k3⟩:=hb2
        have q1:¬xs[i]?.getD 0<0:=by omega
        have q2:¬m<=xs[i]?.getD 0:=by omega
        by_cases h0:0<i
        · have h0':(0:Int)<(i:Int):=by omega
          have k4:=k3 h0
          have q3:¬xs[i]?.getD 0<=xs[i-1]?.getD 0:=by omega
          have hw2:IntKind.i64.wrap ((i:Int)-1)=((i-1:Nat):Int):=by rw[Aa _ (by omega)];omega
          (try (simp -implicitDefEqProofs only[go_sem,h',hw,hw2,q1,q2,h0',q3]));repeat' first|(with_reducible first|exact tI|refine aI ?_ ?_|intro _)|((first|with_reducible refine AN ?_ ?_<;>intro _)<;>try (simp -implicitDefEqProofs only[go_sem,h',hw,hw2,q1,q2,h0',q3]))|simp (disch:=omega) only[Al]|((with_reducible refine Ao ?_);refine⟨_,rfl,?_,?_⟩)
          all_goals first|omega|(simp;done)|(simp;omega)|skip
          all_goals first
            |(
               rename_i j hj
               rcases Nat.lt_succ_iff_lt_or_eq.1 hj with hj|rfl
               · exact h2 j hj
               · exact hb)
            |(simp at *;done)|(simp at *;omega)|skip
        · have h0':¬(0:Int)<(i:Int):=by omega
          (try (simp -implicitDefEqProofs only[go_sem,h',hw,q1,q2,h0']));repeat' first|(with_reducible first|exact tI|refine aI ?_ ?_|intro _)|((first|with_reducible refine AN ?_ ?_<;>intro _)<;>try (simp -implicitDefEqProofs only[go_sem,h',hw,q1,q2,h0']))|simp (disch:=omega) only[Al]|((with_reducible refine Ao ?_);refine⟨_,rfl,?_,?_⟩)
          all_goals first|omega|(simp;done)|(simp;omega)|skip
          all_goals first
            |(
               rename_i j hj
               rcases Nat.lt_succ_iff_lt_or_eq.1 hj with hj|rfl
               · exact h2 j hj
               · exact hb)
            |(simp at *;done)|(simp at *;omega)|skip
      |false =>
        have hs:=eg h hb
        unfold jo at hb
        simp only[decide_eq_false_iff_not] at hb
        have hw2:0<i->IntKind.i64.wrap ((i:Int)-1)=((i-1:Nat):Int):=fun _=>by rw[Aa _ (by omega)];omega
        by_cases q1:xs[i]?.getD 0<0
        · (try (simp -implicitDefEqProofs only[go_sem,h',hw,q1,hs]));repeat' first|(with_reducible first|exact tI|refine aI ?_ ?_|intro _)|((first|with_reducible refine AN ?_ ?_<;>intro _)<;>try (simp -implicitDefEqProofs only[go_sem,h',hw,q1,hs]))|simp (disch:=omega) only[Al]|((with_reducible refine Ao ?_);refine⟨_,rfl,?_,?_⟩)
          all_goals first|omega|(simp;done)|(simp;omega)|skip
        · by_cases q2:m<=xs[i]?.getD 0
          · (try (simp -implicitDefEqProofs only[go_sem,h',hw,q1,q2,hs]));repeat' first|(with_reducible first|exact tI|refine aI ?_ ?_|intro _)|((first|with_reducible refine AN ?_ ?_<;>intro _)<;>try (simp -implicitDefEqProofs only[go_sem,h',hw,q1,q2,hs]))|simp (disch:=omega) only[Al]|((with_reducible refine Ao ?_);refine⟨_,rfl,?_,?_⟩)
            all_goals first|omega|(simp;done)|(simp;omega)|skip
          · have h0:0<i:=by
              by_cases h0:0<i
              · exact h0
              · exact absurd ⟨by omega,by omega,fun h=>absurd h h0⟩ hb
            have h0':(0:Int)<(i:Int):=by omega
            have q3:xs[i]?.getD 0<=xs[i-1]?.getD 0:=by
              by_cases q3:xs[i]?.getD 0<=xs[i-1]?.getD 0
              · exact q3
              · exact absurd ⟨by omega,by omega,fun h=>by omega⟩ hb
            (try (simp -implicitDefEqProofs only[go_sem,h',hw,hw2 h0,q1,q2,h0',q3,hs]));repeat' first|(with_reducible first|exact tI|refine aI ?_ ?_|intro _)|((first|with_reducible refine AN ?_ ?_<;>intro _)<;>try (simp -implicitDefEqProofs only[go_sem,h',hw,hw2 h0,q1,q2,h0',q3,hs]))|simp (disch:=omega) only[Al]|((with_reducible refine Ao ?_);refine⟨_,rfl,?_,?_⟩)
            all_goals first|omega|(simp;done)|(simp;omega)|skip
            all_goals first|(simp at *;done)|(simp at *;omega)|skip
    · have h':¬(i:Int)<(xs.length:Int):=by omega
      have hs:EU xs m=true:=Sz fun j hj=>h2 j (by omega)
      (try (simp -implicitDefEqProofs only[go_sem,h',hs]));repeat' first|(with_reducible first|exact tI|refine aI ?_ ?_|intro _)|((first|with_reducible refine AN ?_ ?_<;>intro _)<;>try (simp -implicitDefEqProofs only[go_sem,h',hs]))|simp (disch:=omega) only[Al]|((with_reducible refine Ao ?_);refine⟨_,rfl,?_,?_⟩)
      all_goals first|omega|(simp;done)|(simp;omega)|skip
end
section
def ni (l:List Nat):List Int:=l.map fun n:Nat=>(n:Int)
theorem HS (l:List Nat):(ni l).length=l.length:=by simp[ni]
theorem m8 (l:List Nat) (i:Nat):(ni l)[i]?.getD 0=((l[i]?.getD 0:Nat):Int):=by
 unfold ni;rw[List.getElem?_map];cases l[i]?<;>rfl
theorem jf (l:List Nat) (n:Nat):ni l++[(n:Int)]=ni (l++[n]):=by simp[ni]
theorem eS (l k:List Nat):ni l++ni k=ni (l++k):=by simp[ni]
theorem eR (l:List Nat):(ni l).isEmpty=l.isEmpty:=by cases l<;>rfl
attribute [go_sem] HS m8 jf eS eR
attribute [local congr] Bf A9 A_ Aq Bg Ax Az Ay Ap Aj Ad AZ Au Ae Av BK BO BM BN BL BP BE Ah Aw Ai BC BW Ag BI BJ BD BF BH BG BA BB A8 Bj A' Ar Af
attribute [local irreducible] IntKind.wrap A4 Option.getD and or
theorem SY (nl:Bool) (xs:List Int) (n:Int):∃r:Int,(decide (0<=r)=kF xs n)/\B' E0 ED [.list nl (Am xs),.int .i64 n] (.int .i64 r):=by
  obtain⟨r,hr⟩:∃r:Int,r=match xs.findIdx? (fun x=>decide (n=x)) with|some i=>(i:Int)|none=>-1:=⟨_,rfl⟩
  refine⟨r,?_,?_⟩
  · rw[hr]
    cases hf:xs.findIdx? (fun x=>decide (n=x)) with
    |none =>
      rw[List.findIdx?_eq_none_iff] at hf
      rw[nP fun i hi h=>?_]
      · rfl
      · have:=hf (xs[i]?.getD 0) (by rw[List.getElem?_eq_getElem hi];simp)
        simp[h] at this
    |some i =>
      rw[List.findIdx?_eq_some_iff_getElem] at hf
      have:=hf.2.1
      have hx:n=xs[i]'hf.1:=by simpa using this
      rw[kE hf.1 (by rw[List.getElem?_eq_getElem hf.1,Option.getD_some];exact hx.symm)]
      simp
  · refine AO FH An (by simp) fun hwf=>?_
    simp only[Dv,C7,C6,Cu,D9,D8,Fh,D7,Bl,Bs,Bt,C_,B8,List.length_map,B4,true_and,and_true] at hwf
    rw[AW];unfold Dx
    (try (simp -implicitDefEqProofs only[go_sem]));repeat' first|(with_reducible first|exact tI|refine aI ?_ ?_|intro _)|((first|with_reducible refine AN ?_ ?_<;>intro _)<;>try (simp -implicitDefEqProofs only[go_sem]))|simp (disch:=omega) only[Al]|((with_reducible refine Ao ?_);refine⟨_,rfl,?_,?_⟩)
    refine AY (α:=Nat) (l0:=?l3) (m0:=?m3) (fun x=>[(8,.d (.int .i64 (x:Int)))]) (fun x=>[]) (fun x=>x<=xs.length/\∀j,j<x->xs[j]?.getD 0≠n) (fun x=>xs.length-x) 0 ?h03 ?he3 ?he23 ?hI3 ?step3
    case h03=>(simp -implicitDefEqProofs only[go_sem];rfl)
    case he3=>rfl
    case he23=>rfl
    case' step3=>(rintro i hI;try dsimp only at hI)
    case' hI3=>try dsimp only
    · exact⟨by omega,fun j hj=>absurd hj (by omega)⟩
    · obtain⟨h1,h2⟩:=hI
      by_cases h:i<xs.length
      · have h':(i:Int)<(xs.length:Int):=by omega
        have hw:IntKind.i64.wrap ((i:Int)+1)=((i+1:Nat):Int):=by rw[Aa _ (by omega)];omega
        by_cases hb:n=xs[i]?.getD 0
        · have hi:r=(i:Int):=by
            rw[hr]
            have:xs.findIdx? (fun x=>decide (n=x))=some i:=by
              rw[List.findIdx?_eq_some_iff_getElem]
              refine⟨h,?_,fun j hj=>?_⟩
              · rw[List.getElem?_eq_getElem h] at hb;simpa using hb
              · have:=h2 j hj
                rw[List.getElem?_eq_getElem (by omega),Option.getD_some] at this
                simpa using fun e=>this e.symm
            rw[this]
          rw[hi]
          have hb1:=hb
          (try (simp -implicitDefEqProofs only[go_sem,h',hw,←hb]));repeat' first|(with_reducible first|exact tI|refine aI ?_ ?_|intro _)|((first|with_reducible refine AN ?_ ?_<;>intro _)<;>try (simp -implicitDefEqProofs only[go_sem,h',hw,←hb]))|simp (disch:=omega) only[Al]|((with_reducible refine Ao ?_);refine⟨_,rfl,?_,?_⟩)
          all_goals first|omega|(simp;done)|(simp;omega)|skip
        · (try (simp -implicitDefEqProofs only[go_sem,h',hw,hb]));repeat' first|(with_reducible first|exact tI|refine aI ?_ ?_|intro _)|((first|with_reducible refine AN ?_ ?_<;>intro _)<;>try (simp -implicitDefEqProofs only[go_sem,h',hw,hb]))|simp (disch:=omega) only[Al]|((with_reducible refine Ao ?_);refine⟨_,rfl,?_,?_⟩)
          all_goals first|omega|(simp;done)|(simp;omega)|skip
          all_goals first
            |(
               rename_i j hj
               rcases Nat.lt_succ_iff_lt_or_eq.1 hj with hj|rfl
               · exact h2 j hj
               · exact fun e=>hb e.symm)
            |skip
      · have h':¬(i:Int)<(xs.length:Int):=by omega
        have hi:r=-1:=by
          rw[hr]
          have:xs.findIdx? (fun x=>decide (n=x))=none:=by
            rw[List.findIdx?_eq_none_iff]
            intro x hx
            obtain⟨j,hj,rfl⟩:=List.getElem_of_mem hx
            have:=h2 j (by omega)
            rw[List.getElem?_eq_getElem hj,Option.getD_some] at this
            simpa using fun e=>this e.symm
          rw[this]
        rw[hi]
        (try (simp -implicitDefEqProofs only[go_sem,h']));repeat' first|(with_reducible first|exact tI|refine aI ?_ ?_|intro _)|((first|with_reducible refine AN ?_ ?_<;>intro _)<;>try (simp -implicitDefEqProofs only[go_sem,h']))|simp (disch:=omega) only[Al]|((with_reducible refine Ao ?_);refine⟨_,rfl,?_,?_⟩)
        all_goals first|omega|(simp;done)|(simp;omega)|skip
theorem PL (nl:Bool) (xs:List Int) (n:Int):B' E0 E7 [.list nl (Am xs),.int .i64 n] (.bool (kF xs n)):=by
 refine AO HB An (by simp) fun hwf=>?_
 obtain⟨r,hr,c1⟩:=SY nl xs n
 rw[AW];unfold El
 rw[←hr]
 by_cases h:0<=r
 ·(try (simp -implicitDefEqProofs only[go_sem,h]));repeat' first|(with_reducible first|exact tI|refine aI ?_ ?_|intro _)|((first|with_reducible refine AN ?_ ?_<;>intro _|(with_reducible refine isCall ?_);first|refine AE c1 ?_)<;>try (simp -implicitDefEqProofs only[go_sem,h]))|simp (disch:=omega) only[Al]
  all_goals first|rfl|(simp at *;done)|(simp[h])
 ·(try (simp -implicitDefEqProofs only[go_sem,h]));repeat' first|(with_reducible first|exact tI|refine aI ?_ ?_|intro _)|((first|with_reducible refine AN ?_ ?_<;>intro _|(with_reducible refine isCall ?_);first|refine AE c1 ?_)<;>try (simp -implicitDefEqProofs only[go_sem,h]))|simp (disch:=omega) only[Al]
  all_goals first|rfl|(simp at *;done)|(simp[h])
end
section
theorem WI {α:Type}(w:List α) (x:α):(w++[x]).isEmpty=false:=by cases w<;>rfl
attribute [local congr] Bf A9 A_ Aq Bg Ax Az Ay Ap Aj Ad AZ Au Ae Av BK BO BM BN BL BP BE Ah Aw Ai BC BW Ag BI BJ BD BF BH BG BA BB A8 Bj A' Ar Af
attribute [local irreducible] IntKind.wrap A4 Option.getD and or
theorem Ig (nl:Bool) (xs:List F) (hl:xs.length<=1000) (hne:0<xs.length) (hnl:nl=false):IJ E0 CN [] [.d (.list nl (us xs))] [(7,1,.row 135 1 false (us xs))] (.own 7 1):=by
 subst hnl
 refine Dg Dj An (by simp) (by simp[Pz,CS,EW]) (by simp[E_]) fun hwf hwo=>?_
 rw[ER];unfold CC
 have hn:¬xs=[]:=by intro h;rw[h] at hne;simp at hne
 (try (simp -implicitDefEqProofs only[go_sem,hn]));repeat' first|(with_reducible first|exact tI|refine aI ?_ ?_|intro _)|((first|with_reducible refine AN ?_ ?_<;>intro _)<;>try (simp -implicitDefEqProofs only[go_sem,hn]))|simp (disch:=omega) only[Al]
 all_goals first|omega|rfl
end
end Go.Pw
