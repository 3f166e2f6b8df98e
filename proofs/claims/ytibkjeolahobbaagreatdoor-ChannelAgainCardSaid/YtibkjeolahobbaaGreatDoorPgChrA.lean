/- A part of the proof. -/
import Derived.Test.YtibkjeolahobbaaGreatDoorChPC
import Derived.Test.YtibkjeolahobbaaGreatDoorCorrectSpec
set_option linter.all false
open Go Go.Pw Go.Proofs
namespace Go.Pw
set_option maxRecDepth 100000
set_option maxHeartbeats 3200000
section
theorem bH (n:Nat):(Int.tmod (n:Int) 15)=((n%15:Nat):Int):=by rw[Int.tmod_eq_emod_of_nonneg (by omega)];omega
def oX:Nat->F->Nat->F->F
 |0,_,_,n=>n
 |k+1,a,b,n=>oX k (fm 2 a) (b/2) (if b%2=1 then fa n a else n)
attribute [local congr] Bh A7 A8 Au Bi Az A1 A0 Ar Ai Ab AZ Aw Ad Ax BF BJ BH BI BG BK BC Ag Ay Ah BA BS Af BD BE BB A_ A' A6 Bj A9 Av Ae
attribute [local irreducible] IntKind.wrap A5 Option.getD and or
theorem ES (n:Nat) (hn:n<=1000000):CI E0 J6 [.int .i64 n] (.int .u8 ((gp n).val:Int)):=by
 refine AK NU Aq (by simp) fun hwf=>?_
 rw[AW];unfold Il
 (try (simp -implicitDefEqProofs only[go_sem,bH,X_]));repeat' first|(with_reducible first|exact tI|refine aI ?_ ?_|intro _)|((first|with_reducible refine AM ?_ ?_<;>intro _)<;>try (simp -implicitDefEqProofs only[go_sem,bH,X_]))|simp (disch:=omega) only[An]
 all_goals first|omega|(simp;done)|(simp;omega)|skip
theorem Ll (a:F):CI E0 FA [.int .u8 (a.val:Int)] (.int .u8 ((fi a).val:Int)):=by
 refine AK HL Aq (by simp) fun hwf=>?_
 rw[AW];unfold Ej fi
 have hl:=dL a
 have hv:=Si a
 have hw:IntKind.i64.wrap (15-(lg a:Int))=((15-lg a:Nat):Int):=by rw[Ak _ (by omega)];omega
 have c1:=ES (15-lg a) (by omega)
 (try (simp -implicitDefEqProofs only[go_sem,hw]));repeat' first|(with_reducible first|exact tI|refine aI ?_ ?_|intro _)|((first|with_reducible refine AM ?_ ?_<;>intro _|(with_reducible refine isCall ?_);first|refine AE c1 ?_)<;>try (simp -implicitDefEqProofs only[go_sem,hw]))|simp (disch:=omega) only[An]
 all_goals first|omega|(simp;done)|(simp;omega)|skip
theorem DZ (a b:F):CI E0 Fp [.int .u8 (a.val:Int),.int .u8 (b.val:Int)] (.int .u8 ((fm a b).val:Int)):=by
 refine AK IH Aq (by simp) fun hwf=>?_
 rw[AW];unfold FJ
 have hl:=dL a
 have hl2:=dL b
 have hv:=Si a
 have hv2:=Si b
 have hw:IntKind.i64.wrap ((lg a:Int)+(lg b:Int))=((lg a+lg b:Nat):Int):=by rw[Ak _ (by omega)];omega
 have c1:=ES (lg a+lg b) (by omega)
 by_cases ha:a=0
 ·subst ha
  (try (simp -implicitDefEqProofs only[go_sem,CZ]));repeat' first|(with_reducible first|exact tI|refine aI ?_ ?_|intro _)|((first|with_reducible refine AM ?_ ?_<;>intro _)<;>try (simp -implicitDefEqProofs only[go_sem,CZ]))|simp (disch:=omega) only[An]
  all_goals first|rfl|(simp at *;done)
 ·by_cases hb:b=0
  ·subst hb
   (try (simp -implicitDefEqProofs only[go_sem,Dj,ha]));repeat' first|(with_reducible first|exact tI|refine aI ?_ ?_|intro _)|((first|with_reducible refine AM ?_ ?_<;>intro _)<;>try (simp -implicitDefEqProofs only[go_sem,Dj,ha]))|simp (disch:=omega) only[An]
   all_goals first|rfl|(simp at *;done)
  ·have hf:fm a b=gp (lg a+lg b):=by unfold fm;rw[if_neg (by simp[ha,hb])]
   (try (simp -implicitDefEqProofs only[go_sem,hw,ha,hb,hf]));repeat' first|(with_reducible first|exact tI|refine aI ?_ ?_|intro _)|((first|with_reducible refine AM ?_ ?_<;>intro _|(with_reducible refine isCall ?_);first|refine AE c1 ?_)<;>try (simp -implicitDefEqProofs only[go_sem,hw,ha,hb,hf]))|simp (disch:=omega) only[An]
   all_goals first|omega|(simp;done)|(simp;omega)|skip
   all_goals first|rfl|(simp at *;done)
end
section
def Td (L P:Nat):D:=.agg [.int .i64 L,.int .i64 P]
theorem B0 (L P:Nat):Td L P=.agg [.int .i64 L,.int .i64 P]:=rfl
attribute [local congr] Bh A7 A8 Au Bi Az A1 A0 Ar Ai Ab AZ Aw Ad Ax BF BJ BH BI BG BK BC Ag Ay Ah BA BS Af BD BE BB A_ A' A6 Bj A9 Av Ae
attribute [local irreducible] IntKind.wrap A5 Option.getD and or
theorem HP (L P i j:Nat) (hL:L<=100) (hi:i<=100) (hj:j<L):CI E0 F6 [Td L P,.int .i64 i,.int .i64 j] (.int .u8 ((gp (i*(L-1-j))).val:Int)):=by
 refine AK Iy Aq (by simp) fun hwf=>?_
 rw[AW];unfold FZ
 have hb:i*(L-1-j)<=100*100:=Nat.mul_le_mul hi (by omega)
 have hw1:IntKind.i64.wrap ((L:Int)-1)=((L-1:Nat):Int):=by rw[Ak _ (by omega)];omega
 have hw2:IntKind.i64.wrap (((L-1:Nat):Int)-(j:Int))=((L-1-j:Nat):Int):=by rw[Ak _ (by omega)];omega
 have hw3:IntKind.i64.wrap ((i:Int)*((L-1-j:Nat):Int))=((i*(L-1-j):Nat):Int):=by rw[←Int.natCast_mul,Ak _ (by omega)]
 have c1:=ES (i*(L-1-j)) (by omega)
 (try (simp -implicitDefEqProofs only[go_sem,B0,hw1,hw2,hw3]));repeat' first|(with_reducible first|exact tI|refine aI ?_ ?_|intro _)|((first|with_reducible refine AM ?_ ?_<;>intro _|(with_reducible refine isCall ?_);first|refine AE c1 ?_)<;>try (simp -implicitDefEqProofs only[go_sem,B0,hw1,hw2,hw3]))|simp (disch:=omega) only[An]
 all_goals first|omega|(simp;done)|(simp;omega)|skip
end
section
def ov (a b:F):F:=if b=0 then 0 else fm a (fi b)
def D7 (L P:Int):Bool:=decide (2<=L/\L<=15/\1<=P/\P<=8/\P<L)
def KM (n:Int):Bool:=decide (0<=n/\n<=15)
def CN (l:List Int) (m:Int):Bool:=decide ((l.length:Int)=m) && l.all KM
def g6 (l:List Int) (m:Int) (i:Nat):Bool:=decide (0<=l[i]?.getD 0/\l[i]?.getD 0<m/\(0<i->l[i-1]?.getD 0<l[i]?.getD 0))
def EJ (l:List Int) (m:Int):Bool:=(List.range l.length).all (g6 l m)
theorem fE {α:Type}{p:α->Bool}{l:List α}{i:Nat}{d:α}(hi:i<l.length) (h:p (l[i]?.getD d)=false):l.all p=false:=by
 rw[List.all_eq_false]
 refine⟨l[i]?.getD d,?_,by simp[h]⟩
 rw[List.getElem?_eq_getElem hi];simp
theorem jU {α:Type}{p:α->Bool}{l:List α}{d:α}(h:∀i,i<l.length->p (l[i]?.getD d)=true):l.all p=true:=by
 rw[List.all_eq_true]
 intro x hx
 obtain⟨i,hi,rfl⟩:=List.getElem_of_mem hx
 have:=h i hi
 rwa [List.getElem?_eq_getElem hi] at this
theorem dF {l:List Int}{m:Int}{i:Nat}(hi:i<l.length) (h:g6 l m i=false):EJ l m=false:=by
 unfold EJ;rw[List.all_eq_false];exact⟨i,by simpa using hi,by simp[h]⟩
theorem SG {l:List Int}{m:Int}(h:∀i,i<l.length->g6 l m i=true):EJ l m=true:=by
 unfold EJ;rw[List.all_eq_true];intro i hi;exact h i (by simpa using hi)
def iR (l:List Int) (n:Int):Bool:=l.contains n
theorem lH {l:List Int}{n:Int}(h:∀i,i<l.length->l[i]?.getD 0≠n):iR l n=false:=by
 unfold iR
 rw[List.contains_eq_any_beq,List.any_eq_false]
 intro x hx
 obtain⟨i,hi,rfl⟩:=List.getElem_of_mem hx
 have:=h i hi
 rw[List.getElem?_eq_getElem hi] at this
 simpa using fun e=>this e.symm
theorem iQ {l:List Int}{n:Int}{i:Nat}(hi:i<l.length) (h:l[i]?.getD 0=n):iR l n=true:=by
 unfold iR
 rw[List.contains_iff_mem,←h,List.getElem?_eq_getElem hi];simp
theorem jd:∀a:F,IntKind.u8.wrap (a.val:Int)=(a.val:Int):=by decide +kernel
theorem ao:∀a:F,IntKind.i64.wrap (a.val:Int)=(a.val:Int):=by decide +kernel
attribute [local congr] Bh A7 A8 Au Bi Az A1 A0 Ar Ai Ab AZ Aw Ad Ax BF BJ BH BI BG BK BC Ag Ay Ah BA BS Af BD BE BB A_ A' A6 Bj A9 Av Ae
attribute [local irreducible] IntKind.wrap A5 Option.getD and or
theorem F_ (n lo hi:Int):CI E0 HZ [.int .i64 n,.int .i64 lo,.int .i64 hi] (.bool (decide (lo<=n/\n<=hi))):=by
 refine AK OU Aq (by simp) fun hwf=>?_
 rw[AW];unfold Jl
 (try (simp -implicitDefEqProofs only[go_sem]));repeat' first|(with_reducible first|exact tI|refine aI ?_ ?_|intro _)|((first|with_reducible refine AM ?_ ?_<;>intro _)<;>try (simp -implicitDefEqProofs only[go_sem]))|simp (disch:=omega) only[An]
 all_goals first|omega|(simp_all;done)|(simp_all;omega)
theorem Nj (L P:Int):CI E0 J7 [.agg [.int .i64 L,.int .i64 P]] (.int .i64 (if D7 L P then 0 else 50)):=by
 refine AK NW Aq (by simp) fun hwf=>?_
 rw[AW];unfold Io D7
 (try (simp -implicitDefEqProofs only[go_sem]));repeat' first|(with_reducible first|exact tI|refine aI ?_ ?_|intro _)|((first|with_reducible refine AM ?_ ?_<;>intro _)<;>try (simp -implicitDefEqProofs only[go_sem]))|simp (disch:=omega) only[An]
 all_goals first|omega|(simp_all;done)|(simp_all;omega)|grind
theorem PK (L P:Int):CI E0 L7 [.agg [.int .i64 L,.int .i64 P]] (.int .i64 (if D7 L P then 0 else 50)):=by
 refine AK PT Aq (by simp) fun hwf=>?_
 rw[AW];unfold Ke D7
 have c1:=F_
 (try (simp -implicitDefEqProofs only[go_sem]));repeat' first|(with_reducible first|exact tI|refine aI ?_ ?_|intro _)|((first|with_reducible refine AM ?_ ?_<;>intro _|(with_reducible refine isCall ?_);first|refine AE (c1 _ _ _) ?_)<;>try (simp -implicitDefEqProofs only[go_sem]))|simp (disch:=omega) only[An]
 all_goals first|omega|(simp_all;done)|(simp_all;omega)|grind
theorem Ni (n:Int):CI E0 D8 [.int .i64 n] (.bool (!KM n)):=by
 refine AK NV Aq (by simp) fun hwf=>?_
 rw[AW];unfold Im KM
 (try (simp -implicitDefEqProofs only[go_sem]));repeat' first|(with_reducible first|exact tI|refine aI ?_ ?_|intro _)|((first|with_reducible refine AM ?_ ?_<;>intro _)<;>try (simp -implicitDefEqProofs only[go_sem]))|simp (disch:=omega) only[An]
 all_goals first|omega|(simp_all;done)|(simp_all;omega)|grind
theorem Xh:Bp E0.P D8=true:=by kernel_rfl
theorem Nq:Bp E0.P C5=true:=by kernel_rfl
theorem Nv (nl:Bool) (xs:List Int) (f:FuncId) (cs:List D) (p:Int->Bool) (hb:Bp E0.P f=true) (hcs:BM AV.toD1 (cs.map .d)=some cs) (h:∀x,x∈xs->CI E0 f (.int .i64 x::cs) (.bool (p x))) :
  CI E0 DG [.list nl (Aj xs),.fn f cs] (.int .i64 (match xs.findIdx? p with|some i=>i|none=>-1)):=by
 refine AK D6 Aq (by simp) fun hwf=>?_
 simp only[Dx,DK,DJ,C0,EH,EG,Fz,EF,Bk,Bv,Bw,DM,B9,List.length_map,B5,true_and,and_true] at hwf
 rw[AW];unfold C1
 simp -implicitDefEqProofs only[go_sem]
 refine AY (α:=Int) (l0:=?l2) (m0:=?m2) (fun x=>[(8,.d (.int .i64 x))]) (fun x=>[]) (fun x=>0<=x/\x<=xs.length/\∀(j:Nat) (hj:j<xs.length),(j:Int)<x->p xs[j]=false) (fun x=>(xs.length-x).toNat) ?a2_0 ?h02 ?he2 ?he22 ?hI2 ?step2
 case h02=>(simp -implicitDefEqProofs only[go_sem];rfl)
 case he2=>rfl
 case he22=>rfl
 case' step2=>(rintro i hI;try dsimp only at hI)
 case' hI2=>try dsimp only
 ·simp
  omega
 ·(try (simp -implicitDefEqProofs only[go_sem]));repeat' first|(with_reducible first|exact tI|refine aI ?_ ?_|intro _)|((first|with_reducible refine AM ?_ ?_<;>intro _)<;>try (simp -implicitDefEqProofs only[go_sem]))|simp (disch:=omega) only[An]|((with_reducible refine Ao ?_);refine⟨_,rfl,?_,?_⟩)
  all_goals first|omega|(simp;done)|(simp;omega)|skip
  ·have hx:xs[i.toNat]?.getD 0=xs[i.toNat]'(by omega):=by rw[List.getElem?_eq_getElem (by omega),Option.getD_some]
   rw[hx]
   refine Xf (h _ (List.getElem_mem _)) (K9 rfl hcs) (fun hp=>?_) (fun hp=>?_)
   ·simp -implicitDefEqProofs only[go_sem]
    have:xs.findIdx? p=some i.toNat:=by rw[List.findIdx?_eq_some_iff_getElem];exact⟨by omega,hp,fun j hj=>by simp[hI.2.2 j (by omega) (by omega)]⟩
    rw[this];simp;omega
   ·(try (simp -implicitDefEqProofs only[go_sem]));repeat' first|(with_reducible first|exact tI|refine aI ?_ ?_|intro _)|((first|with_reducible refine AM ?_ ?_<;>intro _)<;>try (simp -implicitDefEqProofs only[go_sem]))|simp (disch:=omega) only[An]|((with_reducible refine Ao ?_);refine⟨_,rfl,?_,?_⟩)
    all_goals first|omega|(simp;done)|(simp;omega)|skip
    rename_i j hj hlt
    by_cases hjk:j=i.toNat
    ·subst hjk;exact hp
    ·exact hI.2.2 j hj (by omega)
  ·have:xs.findIdx? p=none:=by
    rw[List.findIdx?_eq_none_iff];intro x hx;obtain⟨j,hj,rfl⟩:=List.getElem_of_mem hx;exact hI.2.2 j hj (by omega)
   rw[this]
theorem LP (nl:Bool) (xs:List Int) (f:FuncId) (cs:List D) (p:Int->Bool) (hb:Bp E0.P f=true) (hcs:BM AV.toD1 (cs.map .d)=some cs) (h:∀x,x∈xs->CI E0 f (.int .i64 x::cs) (.bool (p x))) :
  CI E0 B7 [.list nl (Aj xs),.fn f cs] (.bool (xs.any p)):=by
 refine AK Dg Aq (by simp) fun hwf=>?_
 rw[AW];unfold Cc
 simp -implicitDefEqProofs only[go_sem]
 refine HV (Nv nl xs f cs p hb hcs h) rfl ?_
 simp -implicitDefEqProofs only[go_sem]
 have key:(0:Int)<=(match xs.findIdx? p with|some i=>(i:Int)|none=>-1)↔xs.any p=true:=by
  cases hf:xs.findIdx? p with
  |none=>rw[List.findIdx?_eq_none_iff] at hf;simp;intro x hx;simp[hf x hx]
  |some i=>rw[List.findIdx?_eq_some_iff_getElem] at hf;simp;exact⟨_,List.getElem_mem hf.1,hf.2.1⟩
 grind
theorem jT (xs:List Int) (p:Int->Bool):(!xs.any fun n=>!p n)=xs.all p:=by
 rw[List.all_eq_not_any_not]
theorem Pa (nl:Bool) (xs:List Int) (m:Int):CI E0 MA [.list nl (Aj xs),.int .i64 m] (.bool (CN xs m)):=by
 refine AK PX Aq (by simp) fun hwf=>?_
 rw[AW];unfold Ki
 have c1:CI E0 B7 [.list nl (Aj xs),.fn D8 []] (.bool (xs.any fun n=>!KM n)) :=
  LP nl xs D8 [] (fun n=>!KM n) Xh rfl fun x _=>Ni x
 have ha:=jT xs KM
 by_cases hm:(xs.length:Int)=m
 ·have hs:CN xs m=xs.all KM:=by unfold CN;simp[hm]
  rw[hs]
  cases hx:xs.any fun n=>!KM n with
  |true =>
   rw[hx] at c1 ha
   (try (simp -implicitDefEqProofs only[go_sem,hm]));repeat' first|(with_reducible first|exact tI|refine aI ?_ ?_|intro _)|((first|with_reducible refine AM ?_ ?_<;>intro _|(with_reducible refine isCall ?_);first|refine AE c1 ?_)<;>try (simp -implicitDefEqProofs only[go_sem,hm]))|simp (disch:=omega) only[An]
   all_goals first|(rw[←ha];done)|(rw[←ha];rfl)|(simp at *;done)|omega
  |false =>
   rw[hx] at c1 ha
   (try (simp -implicitDefEqProofs only[go_sem,hm]));repeat' first|(with_reducible first|exact tI|refine aI ?_ ?_|intro _)|((first|with_reducible refine AM ?_ ?_<;>intro _|(with_reducible refine isCall ?_);first|refine AE c1 ?_)<;>try (simp -implicitDefEqProofs only[go_sem,hm]))|simp (disch:=omega) only[An]
   all_goals first|(rw[←ha];done)|(rw[←ha];rfl)|(simp at *;done)|omega
 ·have hs:CN xs m=false:=by unfold CN;simp[hm]
  rw[hs]
  (try (simp -implicitDefEqProofs only[go_sem,hm]));repeat' first|(with_reducible first|exact tI|refine aI ?_ ?_|intro _)|((first|with_reducible refine AM ?_ ?_<;>intro _)<;>try (simp -implicitDefEqProofs only[go_sem,hm]))|simp (disch:=omega) only[An]
  all_goals first|rfl|(simp at *;done)|omega
theorem Ka (nl:Bool) (xs:List Int) (m:Int):CI E0 Hb [.list nl (Aj xs),.int .i64 m] (.bool (CN xs m)):=by
 refine AK K1 Aq (by simp) fun hwf=>?_
 simp only[Dx,DK,DJ,C0,EH,EG,Fz,EF,Bk,Bv,Bw,DM,B9,List.length_map,B5,true_and,and_true] at hwf
 rw[AW];unfold Gq
 (try (simp -implicitDefEqProofs only[go_sem]));repeat' first|(with_reducible first|exact tI|refine aI ?_ ?_|intro _)|((first|with_reducible refine AM ?_ ?_<;>intro _)<;>try (simp -implicitDefEqProofs only[go_sem]))|simp (disch:=omega) only[An]|((with_reducible refine Ao ?_);refine⟨_,rfl,?_,?_⟩)
 refine AY (α:=Nat) (l0:=?l3) (m0:=?m3) (fun x=>[(5,.d (.int .i64 (x:Int)))]) (fun x=>[]) (fun x=>x<=xs.length/\∀j,j<x->KM (xs[j]?.getD 0)=true) (fun x=>xs.length-x) 0 ?h03 ?he3 ?he23 ?hI3 ?step3
 case h03=>(simp -implicitDefEqProofs only[go_sem];rfl)
 case he3=>rfl
 case he23=>rfl
 case' step3=>(rintro i hI;try dsimp only at hI)
 case' hI3=>try dsimp only
 ·exact⟨by omega,fun j hj=>absurd hj (by omega)⟩
 ·obtain⟨h1,h2⟩:=hI
  by_cases h:i<xs.length
  ·have h':(i:Int)<(xs.length:Int):=by omega
   have hw:IntKind.i64.wrap ((i:Int)+1)=((i+1:Nat):Int):=by rw[Ak _ (by omega)];omega
   have c1:CI E0 HZ [.int .i64 (xs[i]?.getD 0),.int .i64 0,.int .i64 15] (.bool (KM (xs[i]?.getD 0))):=F_ _ _ _
   cases hb:KM (xs[i]?.getD 0) with
   |true =>
    rw[hb] at c1
    (try (simp -implicitDefEqProofs only[go_sem,h',hw]));repeat' first|(with_reducible first|exact tI|refine aI ?_ ?_|intro _)|((first|with_reducible refine AM ?_ ?_<;>intro _|(with_reducible refine isCall ?_);first|refine AE c1 ?_)<;>try (simp -implicitDefEqProofs only[go_sem,h',hw]))|simp (disch:=omega) only[An]|((with_reducible refine Ao ?_);refine⟨_,rfl,?_,?_⟩)
    all_goals first|omega|(simp;done)|(simp;omega)|skip
    all_goals first
     |(
      rename_i j hj
      rcases Nat.lt_succ_iff_lt_or_eq.1 hj with hj|rfl
      ·exact h2 j hj
      ·exact hb)
     |skip
   |false =>
    rw[hb] at c1
    have hs:CN xs m=false:=by unfold CN;rw[fE h hb];simp
    (try (simp -implicitDefEqProofs only[go_sem,h',hw,hs]));repeat' first|(with_reducible first|exact tI|refine aI ?_ ?_|intro _)|((first|with_reducible refine AM ?_ ?_<;>intro _|(with_reducible refine isCall ?_);first|refine AE c1 ?_)<;>try (simp -implicitDefEqProofs only[go_sem,h',hw,hs]))|simp (disch:=omega) only[An]|((with_reducible refine Ao ?_);refine⟨_,rfl,?_,?_⟩)
    all_goals first|omega|(simp;done)|(simp;omega)|skip
  ·have h':¬(i:Int)<(xs.length:Int):=by omega
   have hk:i=xs.length:=by omega
   have hs:CN xs m=decide ((xs.length:Int)=m):=by unfold CN;rw[jU (d:=0) (fun j hj=>h2 j (by omega))];simp
   (try (simp -implicitDefEqProofs only[go_sem,h',hs]));repeat' first|(with_reducible first|exact tI|refine aI ?_ ?_|intro _)|((first|with_reducible refine AM ?_ ?_<;>intro _)<;>try (simp -implicitDefEqProofs only[go_sem,h',hs]))|simp (disch:=omega) only[An]|((with_reducible refine Ao ?_);refine⟨_,rfl,?_,?_⟩)
   all_goals first|omega|(simp;done)|(simp;omega)|skip
   all_goals rfl
theorem Mb (nl:Bool) (xs:List Int) (m:Int):CI E0 I9 [.list nl (Aj xs),.int .i64 m] (.bool (EJ xs m)):=by
  refine AK MU Aq (by simp) fun hwf=>?_
  simp only[Dx,DK,DJ,C0,EH,EG,Fz,EF,Bk,Bv,Bw,DM,B9,List.length_map,B5,true_and,and_true] at hwf
  rw[AW];unfold Hs
  (try (simp -implicitDefEqProofs only[go_sem]));repeat' first|(with_reducible first|exact tI|refine aI ?_ ?_|intro _)|((first|with_reducible refine AM ?_ ?_<;>intro _)<;>try (simp -implicitDefEqProofs only[go_sem]))|simp (disch:=omega) only[An]|((with_reducible refine Ao ?_);refine⟨_,rfl,?_,?_⟩)
  refine AY (α:=Nat) (l0:=?l4) (m0:=?m4) (fun x=>[(9,.d (.int .i64 (x:Int)))]) (fun x=>[]) (fun x=>x<=xs.length/\∀j,j<x->g6 xs m j=true) (fun x=>xs.length-x) 0 ?h04 ?he4 ?he24 ?hI4 ?step4
  case h04=>(simp -implicitDefEqProofs only[go_sem];rfl)
  case he4=>rfl
  case he24=>rfl
  case' step4=>(rintro i hI;try dsimp only at hI)
  case' hI4=>try dsimp only
  · exact⟨by omega,fun j hj=>absurd hj (by omega)⟩
  · obtain⟨h1,h2⟩:=hI
    by_cases h:i<xs.length
    · have h':(i:Int)<(xs.length:Int):=by omega
      have hw:IntKind.i64.wrap ((i:Int)+1)=((i+1:Nat):Int):=by rw[Ak _ (by omega)];omega
      cases hb:g6 xs m i with
      |true =>
        have hb2:=hb
        unfold g6 at hb2
        simp only[decide_eq_true_eq] at hb2
        obtain⟨k1,k2,k3⟩:=hb2
        have q1:¬xs[i]?.getD 0<0:=by omega
        have q2:¬m<=xs[i]?.getD 0:=by omega
        by_cases h0:0<i
        · have h0':(0:Int)<(i:Int):=by omega
          have k4:=k3 h0
          have q3:¬xs[i]?.getD 0<=xs[i-1]?.getD 0:=by omega
          have hw2:IntKind.i64.wrap ((i:Int)-1)=((i-1:Nat):Int):=by rw[Ak _ (by omega)];omega
          (try (simp -implicitDefEqProofs only[go_sem,h',hw,hw2,q1,q2,h0',q3]));repeat' first|(with_reducible first|exact tI|refine aI ?_ ?_|intro _)|((first|with_reducible refine AM ?_ ?_<;>intro _)<;>try (simp -implicitDefEqProofs only[go_sem,h',hw,hw2,q1,q2,h0',q3]))|simp (disch:=omega) only[An]|((with_reducible refine Ao ?_);refine⟨_,rfl,?_,?_⟩)
          all_goals first|omega|(simp;done)|(simp;omega)|skip
          all_goals first
            |(
               rename_i j hj
               rcases Nat.lt_succ_iff_lt_or_eq.1 hj with hj|rfl
               · exact h2 j hj
               · exact hb)
            |(simp at *;done)|(simp at *;omega)|skip
        · have h0':¬(0:Int)<(i:Int):=by omega
          (try (simp -implicitDefEqProofs only[go_sem,h',hw,q1,q2,h0']));repeat' first|(with_reducible first|exact tI|refine aI ?_ ?_|intro _)|((first|with_reducible refine AM ?_ ?_<;>intro _)<;>try (simp -implicitDefEqProofs only[go_sem,h',hw,q1,q2,h0']))|simp (disch:=omega) only[An]|((with_reducible refine Ao ?_);refine⟨_,rfl,?_,?_⟩)
          all_goals first|omega|(simp;done)|(simp;omega)|skip
          all_goals first
            |(
               rename_i j hj
               rcases Nat.lt_succ_iff_lt_or_eq.1 hj with hj|rfl
               · exact h2 j hj
               · exact hb)
            |(simp at *;done)|(simp at *;omega)|skip
      |false =>
        have hs:=dF h hb
        unfold g6 at hb
        simp only[decide_eq_false_iff_not] at hb
        have hw2:0<i->IntKind.i64.wrap ((i:Int)-1)=((i-1:Nat):Int):=fun _=>by rw[Ak _ (by omega)];omega
        by_cases q1:xs[i]?.getD 0<0
        · (try (simp -implicitDefEqProofs only[go_sem,h',hw,q1,hs]));repeat' first|(with_reducible first|exact tI|refine aI ?_ ?_|intro _)|((first|with_reducible refine AM ?_ ?_<;>intro _)<;>try (simp -implicitDefEqProofs only[go_sem,h',hw,q1,hs]))|simp (disch:=omega) only[An]|((with_reducible refine Ao ?_);refine⟨_,rfl,?_,?_⟩)
          all_goals first|omega|(simp;done)|(simp;omega)|skip
        · by_cases q2:m<=xs[i]?.getD 0
          · (try (simp -implicitDefEqProofs only[go_sem,h',hw,q1,q2,hs]));repeat' first|(with_reducible first|exact tI|refine aI ?_ ?_|intro _)|((first|with_reducible refine AM ?_ ?_<;>intro _)<;>try (simp -implicitDefEqProofs only[go_sem,h',hw,q1,q2,hs]))|simp (disch:=omega) only[An]|((with_reducible refine Ao ?_);refine⟨_,rfl,?_,?_⟩)
            all_goals first|omega|(simp;done)|(simp;omega)|skip
          · have h0:0<i:=by
              by_cases h0:0<i
              · exact h0
              · exact absurd ⟨by omega,by omega,fun h=>absurd h h0⟩ hb
            have h0':(0:Int)<(i:Int):=by omega
            have q3:xs[i]?.getD 0<=xs[i-1]?.getD 0:=by
              by_cases q3:xs[i]?.getD 0<=xs[i-1]?.getD 0
              · exact q3
              · exact absurd ⟨by omega,by omega,fun h=>by omega⟩ hb
            (try (simp -implicitDefEqProofs only[go_sem,h',hw,hw2 h0,q1,q2,h0',q3,hs]));repeat' first|(with_reducible first|exact tI|refine aI ?_ ?_|intro _)|((first|with_reducible refine AM ?_ ?_<;>intro _)<;>try (simp -implicitDefEqProofs only[go_sem,h',hw,hw2 h0,q1,q2,h0',q3,hs]))|simp (disch:=omega) only[An]|((with_reducible refine Ao ?_);refine⟨_,rfl,?_,?_⟩)
            all_goals first|omega|(simp;done)|(simp;omega)|skip
            all_goals first|(simp at *;done)|(simp at *;omega)|skip
    · have h':¬(i:Int)<(xs.length:Int):=by omega
      have hs:EJ xs m=true:=SG fun j hj=>h2 j (by omega)
      (try (simp -implicitDefEqProofs only[go_sem,h',hs]));repeat' first|(with_reducible first|exact tI|refine aI ?_ ?_|intro _)|((first|with_reducible refine AM ?_ ?_<;>intro _)<;>try (simp -implicitDefEqProofs only[go_sem,h',hs]))|simp (disch:=omega) only[An]|((with_reducible refine Ao ?_);refine⟨_,rfl,?_,?_⟩)
      all_goals first|omega|(simp;done)|(simp;omega)|skip
end
section
def ni (l:List Nat):List Int:=l.map fun n:Nat=>(n:Int)
theorem HI (l:List Nat):(ni l).length=l.length:=by simp[ni]
theorem kp (l:List Nat) (i:Nat):(ni l)[i]?.getD 0=((l[i]?.getD 0:Nat):Int):=by
 unfold ni;rw[List.getElem?_map];cases l[i]?<;>rfl
theorem gr (l:List Nat) (n:Nat):ni l++[(n:Int)]=ni (l++[n]):=by simp[ni]
theorem cw (l k:List Nat):ni l++ni k=ni (l++k):=by simp[ni]
theorem cv (l:List Nat):(ni l).isEmpty=l.isEmpty:=by cases l<;>rfl
attribute [go_sem] HI kp gr cw cv
attribute [local congr] Bh A7 A8 Au Bi Az A1 A0 Ar Ai Ab AZ Aw Ad Ax BF BJ BH BI BG BK BC Ag Ay Ah BA BS Af BD BE BB A_ A' A6 Bj A9 Av Ae
attribute [local irreducible] IntKind.wrap A5 Option.getD and or
theorem Ro (nl:Bool) (xs:List Int) (n:Int):∃r:Int,(decide (0<=r)=iR xs n)/\CI E0 D1 [.list nl (Aj xs),.int .i64 n] (.int .i64 r):=by
  obtain⟨r,hr⟩:∃r:Int,r=match xs.findIdx? (fun x=>decide (n=x)) with|some i=>(i:Int)|none=>-1:=⟨_,rfl⟩
  refine⟨r,?_,?_⟩
  · rw[hr]
    cases hf:xs.findIdx? (fun x=>decide (n=x)) with
    |none =>
      rw[List.findIdx?_eq_none_iff] at hf
      rw[lH fun i hi h=>?_]
      · rfl
      · have:=hf (xs[i]?.getD 0) (by rw[List.getElem?_eq_getElem hi];simp)
        simp[h] at this
    |some i =>
      rw[List.findIdx?_eq_some_iff_getElem] at hf
      have:=hf.2.1
      have hx:n=xs[i]'hf.1:=by simpa using this
      rw[iQ hf.1 (by rw[List.getElem?_eq_getElem hf.1,Option.getD_some];exact hx.symm)]
      simp
  · refine AK E8 Aq (by simp) fun hwf=>?_
    simp only[Dx,DK,DJ,C0,EH,EG,Fz,EF,Bk,Bv,Bw,DM,B9,List.length_map,B5,true_and,and_true] at hwf
    rw[AW];unfold Dl
    (try (simp -implicitDefEqProofs only[go_sem]));repeat' first|(with_reducible first|exact tI|refine aI ?_ ?_|intro _)|((first|with_reducible refine AM ?_ ?_<;>intro _)<;>try (simp -implicitDefEqProofs only[go_sem]))|simp (disch:=omega) only[An]|((with_reducible refine Ao ?_);refine⟨_,rfl,?_,?_⟩)
    refine AY (α:=Nat) (l0:=?l3) (m0:=?m3) (fun x=>[(8,.d (.int .i64 (x:Int)))]) (fun x=>[]) (fun x=>x<=xs.length/\∀j,j<x->xs[j]?.getD 0≠n) (fun x=>xs.length-x) 0 ?h03 ?he3 ?he23 ?hI3 ?step3
    case h03=>(simp -implicitDefEqProofs only[go_sem];rfl)
    case he3=>rfl
    case he23=>rfl
    case' step3=>(rintro i hI;try dsimp only at hI)
    case' hI3=>try dsimp only
    · exact⟨by omega,fun j hj=>absurd hj (by omega)⟩
    · obtain⟨h1,h2⟩:=hI
      by_cases h:i<xs.length
      · have h':(i:Int)<(xs.length:Int):=by omega
        have hw:IntKind.i64.wrap ((i:Int)+1)=((i+1:Nat):Int):=by rw[Ak _ (by omega)];omega
        by_cases hb:n=xs[i]?.getD 0
        · have hi:r=(i:Int):=by
            rw[hr]
            have:xs.findIdx? (fun x=>decide (n=x))=some i:=by
              rw[List.findIdx?_eq_some_iff_getElem]
              refine⟨h,?_,fun j hj=>?_⟩
              · rw[List.getElem?_eq_getElem h] at hb;simpa using hb
              · have:=h2 j hj
                rw[List.getElem?_eq_getElem (by omega),Option.getD_some] at this
                simpa using fun e=>this e.symm
            rw[this]
          rw[hi]
          have hb1:=hb
          (try (simp -implicitDefEqProofs only[go_sem,h',hw,←hb]));repeat' first|(with_reducible first|exact tI|refine aI ?_ ?_|intro _)|((first|with_reducible refine AM ?_ ?_<;>intro _)<;>try (simp -implicitDefEqProofs only[go_sem,h',hw,←hb]))|simp (disch:=omega) only[An]|((with_reducible refine Ao ?_);refine⟨_,rfl,?_,?_⟩)
          all_goals first|omega|(simp;done)|(simp;omega)|skip
        · (try (simp -implicitDefEqProofs only[go_sem,h',hw,hb]));repeat' first|(with_reducible first|exact tI|refine aI ?_ ?_|intro _)|((first|with_reducible refine AM ?_ ?_<;>intro _)<;>try (simp -implicitDefEqProofs only[go_sem,h',hw,hb]))|simp (disch:=omega) only[An]|((with_reducible refine Ao ?_);refine⟨_,rfl,?_,?_⟩)
          all_goals first|omega|(simp;done)|(simp;omega)|skip
          all_goals first
            |(
               rename_i j hj
               rcases Nat.lt_succ_iff_lt_or_eq.1 hj with hj|rfl
               · exact h2 j hj
               · exact fun e=>hb e.symm)
            |skip
      · have h':¬(i:Int)<(xs.length:Int):=by omega
        have hi:r=-1:=by
          rw[hr]
          have:xs.findIdx? (fun x=>decide (n=x))=none:=by
            rw[List.findIdx?_eq_none_iff]
            intro x hx
            obtain⟨j,hj,rfl⟩:=List.getElem_of_mem hx
            have:=h2 j (by omega)
            rw[List.getElem?_eq_getElem hj,Option.getD_some] at this
            simpa using fun e=>this e.symm
          rw[this]
        rw[hi]
        (try (simp -implicitDefEqProofs only[go_sem,h']));repeat' first|(with_reducible first|exact tI|refine aI ?_ ?_|intro _)|((first|with_reducible refine AM ?_ ?_<;>intro _)<;>try (simp -implicitDefEqProofs only[go_sem,h']))|simp (disch:=omega) only[An]|((with_reducible refine Ao ?_);refine⟨_,rfl,?_,?_⟩)
        all_goals first|omega|(simp;done)|(simp;omega)|skip
theorem Oq (nl:Bool) (xs:List Int) (n:Int):CI E0 Ep [.list nl (Aj xs),.int .i64 n] (.bool (iR xs n)):=by
 refine AK G2 Aq (by simp) fun hwf=>?_
 obtain⟨r,hr,c1⟩:=Ro nl xs n
 rw[AW];unfold EZ
 rw[←hr]
 by_cases h:0<=r
 ·(try (simp -implicitDefEqProofs only[go_sem,h]));repeat' first|(with_reducible first|exact tI|refine aI ?_ ?_|intro _)|((first|with_reducible refine AM ?_ ?_<;>intro _|(with_reducible refine isCall ?_);first|refine AE c1 ?_)<;>try (simp -implicitDefEqProofs only[go_sem,h]))|simp (disch:=omega) only[An]
  all_goals first|rfl|(simp at *;done)|(simp[h])
 ·(try (simp -implicitDefEqProofs only[go_sem,h]));repeat' first|(with_reducible first|exact tI|refine aI ?_ ?_|intro _)|((first|with_reducible refine AM ?_ ?_<;>intro _|(with_reducible refine isCall ?_);first|refine AE c1 ?_)<;>try (simp -implicitDefEqProofs only[go_sem,h]))|simp (disch:=omega) only[An]
  all_goals first|rfl|(simp at *;done)|(simp[h])
end
section
theorem VU {α:Type}(w:List α) (x:α):(w++[x]).isEmpty=false:=by cases w<;>rfl
attribute [local congr] Bh A7 A8 Au Bi Az A1 A0 Ar Ai Ab AZ Aw Ad Ax BF BJ BH BI BG BK BC Ag Ay Ah BA BS Af BD BE BB A_ A' A6 Bj A9 Av Ae
attribute [local irreducible] IntKind.wrap A5 Option.getD and or
theorem IV (nl:Bool) (xs:List F) (hl:xs.length<=1000) (hne:0<xs.length) (hnl:nl=false):H9 E0 CJ [] [.d (.list nl (us xs))] [(7,1,.row 135 1 false (us xs))] (.own 7 1):=by
 subst hnl
 refine Da Dd Aq (by simp) (by simp[PM,CO,EL]) (by simp[Eu]) fun hwf hwo=>?_
 rw[ED];unfold CB
 have hn:¬xs=[]:=by intro h;rw[h] at hne;simp at hne
 (try (simp -implicitDefEqProofs only[go_sem,hn]));repeat' first|(with_reducible first|exact tI|refine aI ?_ ?_|intro _)|((first|with_reducible refine AM ?_ ?_<;>intro _)<;>try (simp -implicitDefEqProofs only[go_sem,hn]))|simp (disch:=omega) only[An]
 all_goals first|omega|rfl
end
end Go.Pw
