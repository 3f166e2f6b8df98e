/- A part of the proof. -/
import Derived.Test.YtibkjeolahobbaaGreatDoorChPC
import Derived.Test.YtibkjeolahobbaaGreatDoorCorrectSpec
set_option linter.all false
open Go Go.Pw Go.Proofs
namespace Go.Pw
set_option maxRecDepth 100000
set_option maxHeartbeats 1600000
section
theorem Pa (n:Nat):(Int.tmod (n:Int) 15)=((n%15:Nat):Int):=by rw[Int.tmod_eq_emod_of_nonneg (by omega)];omega
theorem nA:∀a:F,a.val<8->(2*(a.val:Int))=((fm 2 a).val:Int):=by decide +kernel
theorem nB:∀a:F,¬a.val<8->A3 .xor .i64 (2*(a.val:Int)-16) 3=((fm 2 a).val:Int):=by decide +kernel
def nx:Nat->F->Nat->F->F
 |0,_,_,n=>n
 |k+1,a,b,n=>nx k (fm 2 a) (b/2) (if b%2=1 then fa n a else n)
theorem nu:∀a b:F,nx 4 a b.val 0=fm a b:=by decide +kernel
attribute [local congr] Bm A' BA Au Bn Az A1 A0 Ar Al Af Aa Aw Ag Ax BM BQ BO BP BN BR BG Aj Ay Ak BE BX Ai BK BL BF BH BJ BI BC BD A_ Bp BB Av Ah
attribute [local irreducible] IntKind.wrap A3 Option.getD and or
theorem Ed (n:Nat) (hn:n<=1000000):CA E0 Kp [.int .i64 n] (.int .u8 ((gp n).val:Int)):=by
 refine AL Ou An (by simp) fun hwf=>?_
 rw[AR];unfold JH
 (try (simp -implicitDefEqProofs only[go_sem,Pa,ai]));repeat' first|(with_reducible first|exact tI|refine aI ?_ ?_|intro _)|((first|with_reducible refine AK ?_ ?_<;>intro _)<;>try (simp -implicitDefEqProofs only[go_sem,Pa,ai]))|simp (disch:=omega) only[Ae]
 all_goals first|omega|(simp<;>omega)|skip
theorem Mj (a:F):CA E0 FN [.int .u8 (a.val:Int)] (.int .u8 ((fi a).val:Int)):=by
 refine AL Hp An (by simp) fun hwf=>?_
 rw[AR];unfold E2 fi
 have hl:=gP a
 have hv:=Rl a
 have hw:IntKind.i64.wrap (15-(lg a:Int))=((15-lg a:Nat):Int):=by rw[AZ _ (by omega)];omega
 have c1:=Ed (15-lg a) (by omega)
 (try (simp -implicitDefEqProofs only[go_sem,hw]));repeat' first|(with_reducible first|exact tI|refine aI ?_ ?_|intro _)|((first|with_reducible refine AK ?_ ?_<;>intro _|(with_reducible refine isCall ?_);first|refine AE c1 ?_)<;>try (simp -implicitDefEqProofs only[go_sem,hw]))|simp (disch:=omega) only[Ae]
 all_goals first|omega|(simp<;>omega)|skip
theorem Dl (a b:F):CA E0 F6 [.int .u8 (a.val:Int),.int .u8 (b.val:Int)] (.int .u8 ((fm a b).val:Int)):=by
 refine AL Ir An (by simp) fun hwf=>?_
 rw[AR];unfold FZ
 have hl:=gP a
 have hl2:=gP b
 have hv:=Rl a
 have hv2:=Rl b
 have hw:IntKind.i64.wrap ((lg a:Int)+(lg b:Int))=((lg a+lg b:Nat):Int):=by rw[AZ _ (by omega)];omega
 have c1:=Ed (lg a+lg b) (by omega)
 by_cases ha:a=0
 ·subst ha
  (try (simp -implicitDefEqProofs only[go_sem,Cj]));repeat' first|(with_reducible first|exact tI|refine aI ?_ ?_|intro _)|((first|with_reducible refine AK ?_ ?_<;>intro _)<;>try (simp -implicitDefEqProofs only[go_sem,Cj]))|simp (disch:=omega) only[Ae]
  all_goals first|rfl|(simp at *;done)
 ·by_cases hb:b=0
  ·subst hb
   (try (simp -implicitDefEqProofs only[go_sem,Dj,ha]));repeat' first|(with_reducible first|exact tI|refine aI ?_ ?_|intro _)|((first|with_reducible refine AK ?_ ?_<;>intro _)<;>try (simp -implicitDefEqProofs only[go_sem,Dj,ha]))|simp (disch:=omega) only[Ae]
   all_goals first|rfl|(simp at *;done)
  ·have hf:fm a b=gp (lg a+lg b):=by unfold fm;rw[if_neg (by simp[ha,hb])]
   (try (simp -implicitDefEqProofs only[go_sem,hw,ha,hb,hf]));repeat' first|(with_reducible first|exact tI|refine aI ?_ ?_|intro _)|((first|with_reducible refine AK ?_ ?_<;>intro _|(with_reducible refine isCall ?_);first|refine AE c1 ?_)<;>try (simp -implicitDefEqProofs only[go_sem,hw,ha,hb,hf]))|simp (disch:=omega) only[Ae]
   all_goals first|omega|(simp<;>omega)|skip
   all_goals first|rfl|(simp at *;done)
end
section
def QM (L P:Nat):D:=.agg [.int .i64 L,.int .i64 P]
theorem Bc (L P:Nat):QM L P=.agg [.int .i64 L,.int .i64 P]:=rfl
theorem nN:∀n:Nat,gp (n+1)=fm 2 (gp n):=ld
theorem qg (b:F) (i:Nat) (hi:i<4):A3 .and .i64 ((b.val:Int).fdiv (2^min i IntKind.i64.bits)) 1=((b.val/2^i%2:Nat):Int):=by
 have hm:min i IntKind.i64.bits=i:=by
  have:IntKind.i64.bits=64:=rfl
  rw[this];omega
 rw[WD,hm,VE]
 simp
theorem qf (b:F) (i:Nat) (hi:i<4):A3 .and .i64 ((b.val:Int).fdiv (2^min i 64)) 1=((b.val/2^i%2:Nat):Int):=qg b i hi
theorem nv (k:Nat) (a:F) (b:Nat) (n:F):nx (k+1) a b n=nx k (fm 2 a) (b/2) (if b%2=1 then fa n a else n):=rfl
attribute [local congr] Bm A' BA Au Bn Az A1 A0 Ar Al Af Aa Aw Ag Ax BM BQ BO BP BN BR BG Aj Ay Ak BE BX Ai BK BL BF BH BJ BI BC BD A_ Bp BB Av Ah
attribute [local irreducible] IntKind.wrap A3 Option.getD and or
theorem Hu (L P i j:Nat) (hL:L<=100) (hi:i<=100) (hj:j<L):CA E0 GM [QM L P,.int .i64 i,.int .i64 j] (.int .u8 ((gp (i*(L-1-j))).val:Int)):=by
 refine AL JX An (by simp) fun hwf=>?_
 rw[AR];unfold Fr
 have hb:i*(L-1-j)<=100*100:=Nat.mul_le_mul hi (by omega)
 have hw1:IntKind.i64.wrap ((L:Int)-1)=((L-1:Nat):Int):=by rw[AZ _ (by omega)];omega
 have hw2:IntKind.i64.wrap (((L-1:Nat):Int)-(j:Int))=((L-1-j:Nat):Int):=by rw[AZ _ (by omega)];omega
 have hw3:IntKind.i64.wrap ((i:Int)*((L-1-j:Nat):Int))=((i*(L-1-j):Nat):Int):=by rw[←Int.natCast_mul,AZ _ (by omega)]
 have c1:=Ed (i*(L-1-j)) (by omega)
 (try (simp -implicitDefEqProofs only[go_sem,Bc,hw1,hw2,hw3]));repeat' first|(with_reducible first|exact tI|refine aI ?_ ?_|intro _)|((first|with_reducible refine AK ?_ ?_<;>intro _|(with_reducible refine isCall ?_);first|refine AE c1 ?_)<;>try (simp -implicitDefEqProofs only[go_sem,Bc,hw1,hw2,hw3]))|simp (disch:=omega) only[Ae]
 all_goals first|omega|(simp<;>omega)|skip
theorem KH (a:F):CA E0 NF [.int .i64 (a.val:Int)] (.int .i64 ((fm 2 a).val:Int)):=by
 refine AL Q9 An (by simp) fun hwf=>?_
 rw[AR];unfold LI
 have hv:=Rl a
 by_cases h:a.val<8
 ·have h':(a.val:Int)<8:=by omega
  have hw:IntKind.i64.wrap (2*(a.val:Int))=2*(a.val:Int):=AZ _ (by omega)
  (try (simp -implicitDefEqProofs only[go_sem,hw,h',nA a h]));repeat' first|(with_reducible first|exact tI|refine aI ?_ ?_|intro _)|((first|with_reducible refine AK ?_ ?_<;>intro _)<;>try (simp -implicitDefEqProofs only[go_sem,hw,h',nA a h]))|simp (disch:=omega) only[Ae]
  all_goals first|omega|(simp<;>omega)|skip
 ·have h':¬(a.val:Int)<8:=by omega
  have hw:IntKind.i64.wrap (2*(a.val:Int))=2*(a.val:Int):=AZ _ (by omega)
  have hw2:IntKind.i64.wrap (2*(a.val:Int)-16)=2*(a.val:Int)-16:=AZ _ (by omega)
  (try (simp -implicitDefEqProofs only[go_sem,hw,hw2,h',nB a h]));repeat' first|(with_reducible first|exact tI|refine aI ?_ ?_|intro _)|((first|with_reducible refine AK ?_ ?_<;>intro _)<;>try (simp -implicitDefEqProofs only[go_sem,hw,hw2,h',nB a h]))|simp (disch:=omega) only[Ae]
  all_goals first|omega|(simp<;>omega)|skip
theorem KJ (n:Nat) (hn:n<=1000000):CA E0 NH [.int .i64 n] (.int .i64 ((gp n).val:Int)):=by
 refine AL RB An (by simp) fun hwf=>?_
 rw[AR];unfold LL
 (try (simp -implicitDefEqProofs only[go_sem]));repeat' first|(with_reducible first|exact tI|refine aI ?_ ?_|intro _)|((first|with_reducible refine AK ?_ ?_<;>intro _)<;>try (simp -implicitDefEqProofs only[go_sem]))|simp (disch:=omega) only[Ae]|((with_reducible refine Ap ?_);refine⟨(_,_),rfl,?_,?_⟩)
 refine AX (α:=Nat×F) (l0:=?l1) (m0:=?m1) (fun x=>[(4,.d (.int .i64 (x.1:Int))),(3,.d (.int .i64 (x.2.val:Int)))]) (fun x=>[]) (fun x=>x.1<=n/\x.2=gp x.1) (fun x=>n-x.1) (0,1) ?h01 ?he1 ?he21 ?hI1 ?step1
 case h01=>(simp -implicitDefEqProofs only[go_sem];rfl)
 case he1=>rfl
 case he21=>rfl
 case' step1=>(rintro⟨k,a⟩ hI;try dsimp only at hI)
 case' hI1=>try dsimp only
 ·exact⟨by omega,Va.symm⟩
 ·obtain⟨h1,h2⟩:=hI
  subst h2
  by_cases h:k<n
  ·have h':(k:Int)<(n:Int):=by omega
   have hw:IntKind.i64.wrap ((k:Int)+1)=((k+1:Nat):Int):=by rw[AZ _ (by omega)];omega
   have c1:=KH (gp k)
   (try (simp -implicitDefEqProofs only[go_sem,h',hw,←nN]));repeat' first|(with_reducible first|exact tI|refine aI ?_ ?_|intro _)|((first|with_reducible refine AK ?_ ?_<;>intro _|(with_reducible refine isCall ?_);first|refine AE c1 ?_)<;>try (simp -implicitDefEqProofs only[go_sem,h',hw,←nN]))|simp (disch:=omega) only[Ae]|((with_reducible refine Ap ?_);refine⟨(_,_),rfl,?_,?_⟩)
   all_goals first|omega|(simp<;>omega)|skip
   all_goals first|rfl|(simp at *;done)|skip
  ·have h':¬(k:Int)<(n:Int):=by omega
   have hk:k=n:=by omega
   subst hk
   (try (simp -implicitDefEqProofs only[go_sem,h']));repeat' first|(with_reducible first|exact tI|refine aI ?_ ?_|intro _)|((first|with_reducible refine AK ?_ ?_<;>intro _)<;>try (simp -implicitDefEqProofs only[go_sem,h']))|simp (disch:=omega) only[Ae]|((with_reducible refine Ap ?_);refine⟨(_,_),rfl,?_,?_⟩)
   all_goals first|omega|(simp<;>omega)|skip
theorem FP (a0 b:F):CA E0 I2 [.int .i64 (a0.val:Int),.int .i64 (b.val:Int)] (.int .i64 ((fm a0 b).val:Int)):=by
 refine AL RA An (by simp) fun hwf=>?_
 rw[AR];unfold LK
 (try (simp -implicitDefEqProofs only[go_sem]));repeat' first|(with_reducible first|exact tI|refine aI ?_ ?_|intro _)|((first|with_reducible refine AK ?_ ?_<;>intro _)<;>try (simp -implicitDefEqProofs only[go_sem]))|simp (disch:=omega) only[Ae]|((with_reducible refine Ao ?_);refine⟨(_,_,_),rfl,?_,?_⟩)
 refine AX (α:=Nat×F×F) (l0:=?l2) (m0:=?m2) (fun x=>[(6,.d (.int .i64 (x.1:Int))),(0,.d (.int .i64 (x.2.1.val:Int))),(5,.d (.int .i64 (x.2.2.val:Int)))]) (fun x=>[]) (fun x=>x.1<=4/\nx (4-x.1) x.2.1 (b.val/2^x.1) x.2.2=fm a0 b) (fun x=>4-x.1) (0,a0,0) ?h02 ?he2 ?he22 ?hI2 ?step2
 case h02=>(simp -implicitDefEqProofs only[go_sem];rfl)
 case he2=>rfl
 case he22=>rfl
 case' step2=>(rintro⟨k,a,n⟩ hI;try dsimp only at hI)
 case' hI2=>try dsimp only
 ·exact⟨by omega,by simpa using nu a0 b⟩
 ·obtain⟨h1,h2⟩:=hI
  by_cases h:k<4
  ·have h':(k:Int)<4:=by omega
   have hw:IntKind.i64.wrap ((k:Int)+1)=((k+1:Nat):Int):=by rw[AZ _ (by omega)];omega
   have hu:IntKind.u64.wrap (k:Int)=(k:Int):=eV _ (by omega)
   have c1:=KH a
   have hs:nx (4-k) a (b.val/2^k) n=nx (4-(k+1)) (fm 2 a) (b.val/2^(k+1)) (if b.val/2^k%2=1 then fa n a else n):=by
    rw[show 4-k=(4-(k+1))+1 by omega,nv,Nat.div_div_eq_div_mul,←Nat.pow_succ]
   have hbf:=qg b k h
   have hbf':=qf b k h
   rw[hs] at h2
   have h01:b.val/2^k%2=0\/b.val/2^k%2=1:=by omega
   rcases h01 with h01|h01
   ·rw[h01] at hbf hbf' h2
    simp only[Nat.zero_ne_one,if_false] at h2
    (try (simp -implicitDefEqProofs only[go_sem,h',hw,hu,hbf,hbf']));repeat' first|(with_reducible first|exact tI|refine aI ?_ ?_|intro _)|((first|with_reducible refine AK ?_ ?_<;>intro _|(with_reducible refine isCall ?_);first|refine AE c1 ?_)<;>try (simp -implicitDefEqProofs only[go_sem,h',hw,hu,hbf,hbf']))|simp (disch:=omega) only[Ae]|((with_reducible refine Ao ?_);refine⟨(_,_,_),rfl,?_,?_⟩)
    all_goals first|omega|(simp<;>omega)|skip
    all_goals first|exact h2|(simp at *;done)|skip
   ·rw[h01] at hbf hbf' h2
    simp only[if_true] at h2
    (try (simp -implicitDefEqProofs only[go_sem,h',hw,hu,hbf,hbf']));repeat' first|(with_reducible first|exact tI|refine aI ?_ ?_|intro _)|((first|with_reducible refine AK ?_ ?_<;>intro _|(with_reducible refine isCall ?_);first|refine AE c1 ?_)<;>try (simp -implicitDefEqProofs only[go_sem,h',hw,hu,hbf,hbf']))|simp (disch:=omega) only[Ae]|((with_reducible refine Ao ?_);refine⟨(_,_,_),rfl,?_,?_⟩)
    all_goals first|omega|(simp<;>omega)|skip
    all_goals first|exact h2|(simp at *;done)|skip
  ·have h':¬(k:Int)<4:=by omega
   have hk:k=4:=by omega
   subst hk
   (try (simp -implicitDefEqProofs only[go_sem,h']));repeat' first|(with_reducible first|exact tI|refine aI ?_ ?_|intro _)|((first|with_reducible refine AK ?_ ?_<;>intro _)<;>try (simp -implicitDefEqProofs only[go_sem,h']))|simp (disch:=omega) only[Ae]|((with_reducible refine Ao ?_);refine⟨(_,_,_),rfl,?_,?_⟩)
   all_goals first|omega|(simp<;>omega)|skip
   all_goals (rw[←h2];rfl)
end
section
def ov (a b:F):F:=if b=0 then 0 else fm a (fi b)
theorem o4:∀a b n:F,fm n b=a->(∀m:F,m.val<n.val->fm m b≠a)->n=ov a b:=by decide +kernel
theorem km:∀a b:F,(∀m:F,m.val<16->fm m b≠a)->ov a b=0:=by decide +kernel
def EM (L P:Int):Bool:=decide (2<=L/\L<=15/\1<=P/\P<=8/\P<L)
def Kx (n:Int):Bool:=decide (0<=n/\n<=15)
def CP (l:List Int) (m:Int):Bool:=decide ((l.length:Int)=m) && l.all Kx
def cy (l:List Int) (m:Int) (i:Nat):Bool:=decide (0<=l[i]?.getD 0/\l[i]?.getD 0<m/\(0<i->l[i-1]?.getD 0<l[i]?.getD 0))
def Da (l:List Int) (m:Int):Bool:=(List.range l.length).all (cy l m)
theorem jY {α:Type}{p:α->Bool}{l:List α}{i:Nat}{d:α}(hi:i<l.length) (h:p (l[i]?.getD d)=false):l.all p=false:=by
 rw[List.all_eq_false]
 refine⟨l[i]?.getD d,?_,by simp[h]⟩
 rw[List.getElem?_eq_getElem hi];simp
theorem mq {α:Type}{p:α->Bool}{l:List α}{d:α}(h:∀i,i<l.length->p (l[i]?.getD d)=true):l.all p=true:=by
 rw[List.all_eq_true]
 intro x hx
 obtain⟨i,hi,rfl⟩:=List.getElem_of_mem hx
 have:=h i hi
 rwa [List.getElem?_eq_getElem hi] at this
theorem XT {l:List Int}{m:Int}{i:Nat}(hi:i<l.length) (h:cy l m i=false):Da l m=false:=by
 unfold Da;rw[List.all_eq_false];exact⟨i,by simpa using hi,by simp[h]⟩
theorem Py {l:List Int}{m:Int}(h:∀i,i<l.length->cy l m i=true):Da l m=true:=by
 unfold Da;rw[List.all_eq_true];intro i hi;exact h i (by simpa using hi)
def gi (l:List Int) (n:Int):Bool:=l.contains n
theorem gf {l:List Int}{n:Int}(h:∀i,i<l.length->l[i]?.getD 0≠n):gi l n=false:=by
 unfold gi
 rw[List.contains_eq_any_beq,List.any_eq_false]
 intro x hx
 obtain⟨i,hi,rfl⟩:=List.getElem_of_mem hx
 have:=h i hi
 rw[List.getElem?_eq_getElem hi] at this
 simpa using fun e=>this e.symm
theorem bB {l:List Int}{n:Int}{i:Nat}(hi:i<l.length) (h:l[i]?.getD 0=n):gi l n=true:=by
 unfold gi
 rw[List.contains_iff_mem,←h,List.getElem?_eq_getElem hi];simp
theorem m_:∀a:F,IntKind.u8.wrap (a.val:Int)=(a.val:Int):=by decide +kernel
theorem eW:∀a:F,IntKind.i64.wrap (a.val:Int)=(a.val:Int):=by decide +kernel
theorem ng (a b:F):((a.val:Int)=(b.val:Int))=(a=b):=by
 simp only[eq_iff_iff]
 exact⟨fun h=>Fin.ext (by omega),fun h=>by rw[h]⟩
attribute [local congr] Bm A' BA Au Bn Az A1 A0 Ar Al Af Aa Aw Ag Ax BM BQ BO BP BN BR BG Aj Ay Ak BE BX Ai BK BL BF BH BJ BI BC BD A_ Bp BB Av Ah
attribute [local irreducible] IntKind.wrap A3 Option.getD and or
theorem Hf (a b:F):CA E0 PU [.int .i64 (a.val:Int),.int .i64 (b.val:Int)] (.int .i64 ((ov a b).val:Int)):=by
 refine AL Sw An (by simp) fun hwf=>?_
 rw[AR];unfold M1
 (try (simp -implicitDefEqProofs only[go_sem]));repeat' first|(with_reducible first|exact tI|refine aI ?_ ?_|intro _)|((first|with_reducible refine AK ?_ ?_<;>intro _)<;>try (simp -implicitDefEqProofs only[go_sem]))|simp (disch:=omega) only[Ae]|((with_reducible refine Ad ?_);refine⟨_,rfl,?_,?_⟩)
 refine AX (α:=Nat) (l0:=?l1) (m0:=?m1) (fun x=>[(5,.d (.int .i64 (x:Int)))]) (fun x=>[]) (fun x=>x<=16/\∀m:F,m.val<x->fm m b≠a) (fun x=>16-x) 0 ?h01 ?he1 ?he21 ?hI1 ?step1
 case h01=>(simp -implicitDefEqProofs only[go_sem];rfl)
 case he1=>rfl
 case he21=>rfl
 case' step1=>(rintro n hI;try dsimp only at hI)
 case' hI1=>try dsimp only
 ·exact⟨by omega,fun m hm=>absurd hm (by omega)⟩
 ·obtain⟨h1,h2⟩:=hI
  by_cases h:n<16
  ·have h':(n:Int)<16:=by omega
   have hw:IntKind.i64.wrap ((n:Int)+1)=((n+1:Nat):Int):=by rw[AZ _ (by omega)];omega
   have c1:CA E0 I2 [.int .i64 (n:Int),.int .i64 (b.val:Int)] (.int .i64 ((fm ⟨n,h⟩ b).val:Int)):=FP ⟨n,h⟩ b
   by_cases he:fm ⟨n,h⟩ b=a
   ·have hov:=o4 a b ⟨n,h⟩ he h2
    rw[he] at c1
    (try (simp -implicitDefEqProofs only[go_sem,h',hw]));repeat' first|(with_reducible first|exact tI|refine aI ?_ ?_|intro _)|((first|with_reducible refine AK ?_ ?_<;>intro _|(with_reducible refine isCall ?_);first|refine AE c1 ?_)<;>try (simp -implicitDefEqProofs only[go_sem,h',hw]))|simp (disch:=omega) only[Ae]|((with_reducible refine Ad ?_);refine⟨_,rfl,?_,?_⟩)
    all_goals first|omega|(simp<;>omega)|skip
    all_goals first|(rw[←hov];done)|(rw[←hov];rfl)|(simp at *;done)|skip
   ·have hne:¬((fm ⟨n,h⟩ b).val:Int)=(a.val:Int):=by rw[ng];exact he
    (try (simp -implicitDefEqProofs only[go_sem,h',hw,hne]));repeat' first|(with_reducible first|exact tI|refine aI ?_ ?_|intro _)|((first|with_reducible refine AK ?_ ?_<;>intro _|(with_reducible refine isCall ?_);first|refine AE c1 ?_)<;>try (simp -implicitDefEqProofs only[go_sem,h',hw,hne]))|simp (disch:=omega) only[Ae]|((with_reducible refine Ad ?_);refine⟨_,rfl,?_,?_⟩)
    all_goals first|omega|(simp<;>omega)|skip
    all_goals first
     |(
      rename_i m hm
      rcases Nat.lt_succ_iff_lt_or_eq.1 hm with hm|hm
      ·exact h2 m hm
      ·have:m=⟨n,h⟩:=Fin.ext hm
       rw[this];exact he)
     |skip
  ·have h':¬(n:Int)<16:=by omega
   have hk:n=16:=by omega
   subst hk
   have hov:=km a b h2
   (try (simp -implicitDefEqProofs only[go_sem,h',hov]));repeat' first|(with_reducible first|exact tI|refine aI ?_ ?_|intro _)|((first|with_reducible refine AK ?_ ?_<;>intro _)<;>try (simp -implicitDefEqProofs only[go_sem,h',hov]))|simp (disch:=omega) only[Ae]|((with_reducible refine Ad ?_);refine⟨_,rfl,?_,?_⟩)
   all_goals first|omega|(simp<;>omega)|skip
   all_goals rfl
theorem Ey (n lo hi:Int):CA E0 H1 [.int .i64 n,.int .i64 lo,.int .i64 hi] (.bool (decide (lo<=n/\n<=hi))):=by
 refine AL P7 An (by simp) fun hwf=>?_
 rw[AR];unfold KP
 (try (simp -implicitDefEqProofs only[go_sem]));repeat' first|(with_reducible first|exact tI|refine aI ?_ ?_|intro _)|((first|with_reducible refine AK ?_ ?_<;>intro _)<;>try (simp -implicitDefEqProofs only[go_sem]))|simp (disch:=omega) only[Ae]
 all_goals first|omega|(simp_all;done)|(simp_all;omega)
theorem O8 (L P:Int):CA E0 Kq [.agg [.int .i64 L,.int .i64 P]] (.int .i64 (if EM L P then 0 else 50)):=by
 refine AL Ow An (by simp) fun hwf=>?_
 rw[AR];unfold JK EM
 (try (simp -implicitDefEqProofs only[go_sem]));repeat' first|(with_reducible first|exact tI|refine aI ?_ ?_|intro _)|((first|with_reducible refine AK ?_ ?_<;>intro _)<;>try (simp -implicitDefEqProofs only[go_sem]))|simp (disch:=omega) only[Ae]
 all_goals first|omega|(simp_all;done)|(simp_all;omega)|grind
theorem Q0 (L P:Int):CA E0 NI [.agg [.int .i64 L,.int .i64 P]] (.int .i64 (if EM L P then 0 else 50)):=by
 refine AL RC An (by simp) fun hwf=>?_
 rw[AR];unfold LM EM
 have c1:=Ey
 (try (simp -implicitDefEqProofs only[go_sem]));repeat' first|(with_reducible first|exact tI|refine aI ?_ ?_|intro _)|((first|with_reducible refine AK ?_ ?_<;>intro _|(with_reducible refine isCall ?_);first|refine AE (c1 _ _ _) ?_)<;>try (simp -implicitDefEqProofs only[go_sem]))|simp (disch:=omega) only[Ae]
 all_goals first|omega|(simp_all;done)|(simp_all;omega)|grind
theorem O7 (n:Int):CA E0 EN [.int .i64 n] (.bool (!Kx n)):=by
 refine AL Ov An (by simp) fun hwf=>?_
 rw[AR];unfold JI Kx
 (try (simp -implicitDefEqProofs only[go_sem]));repeat' first|(with_reducible first|exact tI|refine aI ?_ ?_|intro _)|((first|with_reducible refine AK ?_ ?_<;>intro _)<;>try (simp -implicitDefEqProofs only[go_sem]))|simp (disch:=omega) only[Ae]
 all_goals first|omega|(simp_all;done)|(simp_all;omega)|grind
theorem aD:B5 E0.P EN=true:=by kernel_rfl
theorem PF:B5 E0.P DJ=true:=by kernel_rfl
theorem PI (nl:Bool) (xs:List Int) (f:FuncId) (cs:List D) (p:Int->Bool) (hb:B5 E0.P f=true) (hcs:BV AV.toD1 (cs.map .d)=some cs) (h:∀x,x∈xs->CA E0 f (.int .i64 x::cs) (.bool (p x))) :
  CA E0 DS [.list nl (Ab xs),.fn f cs] (.int .i64 (match xs.findIdx? p with|some i=>i|none=>-1)):=by
 refine AL EL An (by simp) fun hwf=>?_
 simp only[DY,Cv,Cu,Ck,Dq,Dp,FD,Dn,Bj,Bt,Bu,Cy,B6,List.length_map,B4,true_and,and_true] at hwf
 rw[AR];unfold DH
 simp -implicitDefEqProofs only[go_sem]
 refine AX (α:=Int) (l0:=?l2) (m0:=?m2) (fun x=>[(8,.d (.int .i64 x))]) (fun x=>[]) (fun x=>0<=x/\x<=xs.length/\∀(j:Nat) (hj:j<xs.length),(j:Int)<x->p xs[j]=false) (fun x=>(xs.length-x).toNat) ?a2_0 ?h02 ?he2 ?he22 ?hI2 ?step2
 case h02=>(simp -implicitDefEqProofs only[go_sem];rfl)
 case he2=>rfl
 case he22=>rfl
 case' step2=>(rintro i hI;try dsimp only at hI)
 case' hI2=>try dsimp only
 ·simp
  omega
 ·(try (simp -implicitDefEqProofs only[go_sem]));repeat' first|(with_reducible first|exact tI|refine aI ?_ ?_|intro _)|((first|with_reducible refine AK ?_ ?_<;>intro _)<;>try (simp -implicitDefEqProofs only[go_sem]))|simp (disch:=omega) only[Ae]|((with_reducible refine Ad ?_);refine⟨_,rfl,?_,?_⟩)
  all_goals first|omega|(simp<;>omega)|skip
  ·have hx:xs[i.toNat]?.getD 0=xs[i.toNat]'(by omega):=by rw[List.getElem?_eq_getElem (by omega),Option.getD_some]
   rw[hx]
   refine aA (h _ (List.getElem_mem _)) (Ls rfl hcs) (fun hp=>?_) (fun hp=>?_)
   ·simp -implicitDefEqProofs only[go_sem]
    have:xs.findIdx? p=some i.toNat:=by rw[List.findIdx?_eq_some_iff_getElem];exact⟨by omega,hp,fun j hj=>by simp[hI.2.2 j (by omega) (by omega)]⟩
    rw[this];simp;omega
   ·(try (simp -implicitDefEqProofs only[go_sem]));repeat' first|(with_reducible first|exact tI|refine aI ?_ ?_|intro _)|((first|with_reducible refine AK ?_ ?_<;>intro _)<;>try (simp -implicitDefEqProofs only[go_sem]))|simp (disch:=omega) only[Ae]|((with_reducible refine Ad ?_);refine⟨_,rfl,?_,?_⟩)
    all_goals first|omega|(simp<;>omega)|skip
    rename_i j hj hlt
    by_cases hjk:j=i.toNat
    ·subst hjk;exact hp
    ·exact hI.2.2 j hj (by omega)
  ·have:xs.findIdx? p=none:=by
    rw[List.findIdx?_eq_none_iff];intro x hx;obtain⟨j,hj,rfl⟩:=List.getElem_of_mem hx;exact hI.2.2 j hj (by omega)
   rw[this]
theorem MF (nl:Bool) (xs:List Int) (f:FuncId) (cs:List D) (p:Int->Bool) (hb:B5 E0.P f=true) (hcs:BV AV.toD1 (cs.map .d)=some cs) (h:∀x,x∈xs->CA E0 f (.int .i64 x::cs) (.bool (p x))) :
  CA E0 CJ [.list nl (Ab xs),.fn f cs] (.bool (xs.any p)):=by
 refine AL Dx An (by simp) fun hwf=>?_
 rw[AR];unfold Cq
 simp -implicitDefEqProofs only[go_sem]
 refine Hy (PI nl xs f cs p hb hcs h) rfl ?_
 simp -implicitDefEqProofs only[go_sem]
 have key:(0:Int)<=(match xs.findIdx? p with|some i=>(i:Int)|none=>-1)↔xs.any p=true:=by
  cases hf:xs.findIdx? p with
  |none=>rw[List.findIdx?_eq_none_iff] at hf;simp;intro x hx;simp[hf x hx]
  |some i=>rw[List.findIdx?_eq_some_iff_getElem] at hf;simp;exact⟨_,List.getElem_mem hf.1,hf.2.1⟩
 grind
theorem mo (xs:List Int) (p:Int->Bool):(!xs.any fun n=>!p n)=xs.all p:=by
 rw[List.all_eq_not_any_not]
theorem RI (nl:Bool) (xs:List Int) (m:Int):CA E0 NL [.list nl (Ab xs),.int .i64 m] (.bool (CP xs m)):=by
 refine AL RF An (by simp) fun hwf=>?_
 rw[AR];unfold LP
 have c1:CA E0 CJ [.list nl (Ab xs),.fn EN []] (.bool (xs.any fun n=>!Kx n)) :=
  MF nl xs EN [] (fun n=>!Kx n) aD rfl fun x _=>O7 x
 have ha:=mo xs Kx
 by_cases hm:(xs.length:Int)=m
 ·have hs:CP xs m=xs.all Kx:=by unfold CP;simp[hm]
  rw[hs]
  cases hx:xs.any fun n=>!Kx n with
  |true =>
   rw[hx] at c1 ha
   (try (simp -implicitDefEqProofs only[go_sem,hm]));repeat' first|(with_reducible first|exact tI|refine aI ?_ ?_|intro _)|((first|with_reducible refine AK ?_ ?_<;>intro _|(with_reducible refine isCall ?_);first|refine AE c1 ?_)<;>try (simp -implicitDefEqProofs only[go_sem,hm]))|simp (disch:=omega) only[Ae]
   all_goals first|(rw[←ha];done)|(rw[←ha];rfl)|(simp at *;done)|omega
  |false =>
   rw[hx] at c1 ha
   (try (simp -implicitDefEqProofs only[go_sem,hm]));repeat' first|(with_reducible first|exact tI|refine aI ?_ ?_|intro _)|((first|with_reducible refine AK ?_ ?_<;>intro _|(with_reducible refine isCall ?_);first|refine AE c1 ?_)<;>try (simp -implicitDefEqProofs only[go_sem,hm]))|simp (disch:=omega) only[Ae]
   all_goals first|(rw[←ha];done)|(rw[←ha];rfl)|(simp at *;done)|omega
 ·have hs:CP xs m=false:=by unfold CP;simp[hm]
  rw[hs]
  (try (simp -implicitDefEqProofs only[go_sem,hm]));repeat' first|(with_reducible first|exact tI|refine aI ?_ ?_|intro _)|((first|with_reducible refine AK ?_ ?_<;>intro _)<;>try (simp -implicitDefEqProofs only[go_sem,hm]))|simp (disch:=omega) only[Ae]
  all_goals first|rfl|(simp at *;done)|omega
theorem Ge (nl:Bool) (xs:List Int) (m:Int):CA E0 H3 [.list nl (Ab xs),.int .i64 m] (.bool (CP xs m)):=by
 refine AL Lj An (by simp) fun hwf=>?_
 simp only[DY,Cv,Cu,Ck,Dq,Dp,FD,Dn,Bj,Bt,Bu,Cy,B6,List.length_map,B4,true_and,and_true] at hwf
 rw[AR];unfold HE
 (try (simp -implicitDefEqProofs only[go_sem]));repeat' first|(with_reducible first|exact tI|refine aI ?_ ?_|intro _)|((first|with_reducible refine AK ?_ ?_<;>intro _)<;>try (simp -implicitDefEqProofs only[go_sem]))|simp (disch:=omega) only[Ae]|((with_reducible refine Ad ?_);refine⟨_,rfl,?_,?_⟩)
 refine AX (α:=Nat) (l0:=?l3) (m0:=?m3) (fun x=>[(5,.d (.int .i64 (x:Int)))]) (fun x=>[]) (fun x=>x<=xs.length/\∀j,j<x->Kx (xs[j]?.getD 0)=true) (fun x=>xs.length-x) 0 ?h03 ?he3 ?he23 ?hI3 ?step3
 case h03=>(simp -implicitDefEqProofs only[go_sem];rfl)
 case he3=>rfl
 case he23=>rfl
 case' step3=>(rintro i hI;try dsimp only at hI)
 case' hI3=>try dsimp only
 ·exact⟨by omega,fun j hj=>absurd hj (by omega)⟩
 ·obtain⟨h1,h2⟩:=hI
  by_cases h:i<xs.length
  ·have h':(i:Int)<(xs.length:Int):=by omega
   have hw:IntKind.i64.wrap ((i:Int)+1)=((i+1:Nat):Int):=by rw[AZ _ (by omega)];omega
   have c1:CA E0 H1 [.int .i64 (xs[i]?.getD 0),.int .i64 0,.int .i64 15] (.bool (Kx (xs[i]?.getD 0))):=Ey _ _ _
   cases hb:Kx (xs[i]?.getD 0) with
   |true =>
    rw[hb] at c1
    (try (simp -implicitDefEqProofs only[go_sem,h',hw]));repeat' first|(with_reducible first|exact tI|refine aI ?_ ?_|intro _)|((first|with_reducible refine AK ?_ ?_<;>intro _|(with_reducible refine isCall ?_);first|refine AE c1 ?_)<;>try (simp -implicitDefEqProofs only[go_sem,h',hw]))|simp (disch:=omega) only[Ae]|((with_reducible refine Ad ?_);refine⟨_,rfl,?_,?_⟩)
    all_goals first|omega|(simp<;>omega)|skip
    all_goals first
     |(
      rename_i j hj
      rcases Nat.lt_succ_iff_lt_or_eq.1 hj with hj|rfl
      ·exact h2 j hj
      ·exact hb)
     |skip
   |false =>
    rw[hb] at c1
    have hs:CP xs m=false:=by unfold CP;rw[jY h hb];simp
    (try (simp -implicitDefEqProofs only[go_sem,h',hw,hs]));repeat' first|(with_reducible first|exact tI|refine aI ?_ ?_|intro _)|((first|with_reducible refine AK ?_ ?_<;>intro _|(with_reducible refine isCall ?_);first|refine AE c1 ?_)<;>try (simp -implicitDefEqProofs only[go_sem,h',hw,hs]))|simp (disch:=omega) only[Ae]|((with_reducible refine Ad ?_);refine⟨_,rfl,?_,?_⟩)
    all_goals first|omega|(simp<;>omega)|skip
  ·have h':¬(i:Int)<(xs.length:Int):=by omega
   have hk:i=xs.length:=by omega
   have hs:CP xs m=decide ((xs.length:Int)=m):=by unfold CP;rw[mq (d:=0) (fun j hj=>h2 j (by omega))];simp
   (try (simp -implicitDefEqProofs only[go_sem,h',hs]));repeat' first|(with_reducible first|exact tI|refine aI ?_ ?_|intro _)|((first|with_reducible refine AK ?_ ?_<;>intro _)<;>try (simp -implicitDefEqProofs only[go_sem,h',hs]))|simp (disch:=omega) only[Ae]|((with_reducible refine Ad ?_);refine⟨_,rfl,?_,?_⟩)
   all_goals first|omega|(simp<;>omega)|skip
   all_goals rfl
theorem Nq (nl:Bool) (xs:List Int) (m:Int):CA E0 Jm [.list nl (Ab xs),.int .i64 m] (.bool (Da xs m)):=by
  refine AL Nk An (by simp) fun hwf=>?_
  simp only[DY,Cv,Cu,Ck,Dq,Dp,FD,Dn,Bj,Bt,Bu,Cy,B6,List.length_map,B4,true_and,and_true] at hwf
  rw[AR];unfold IM
  (try (simp -implicitDefEqProofs only[go_sem]));repeat' first|(with_reducible first|exact tI|refine aI ?_ ?_|intro _)|((first|with_reducible refine AK ?_ ?_<;>intro _)<;>try (simp -implicitDefEqProofs only[go_sem]))|simp (disch:=omega) only[Ae]|((with_reducible refine Ad ?_);refine⟨_,rfl,?_,?_⟩)
  refine AX (α:=Nat) (l0:=?l4) (m0:=?m4) (fun x=>[(9,.d (.int .i64 (x:Int)))]) (fun x=>[]) (fun x=>x<=xs.length/\∀j,j<x->cy xs m j=true) (fun x=>xs.length-x) 0 ?h04 ?he4 ?he24 ?hI4 ?step4
  case h04=>(simp -implicitDefEqProofs only[go_sem];rfl)
  case he4=>rfl
  case he24=>rfl
  case' step4=>(rintro i hI;try dsimp only at hI)
  case' hI4=>try dsimp only
  · exact⟨by omega,fun j hj=>absurd hj (by omega)⟩
  · obtain⟨h1,h2⟩:=hI
    by_cases h:i<xs.length
    · have h':(i:Int)<(xs.length:Int):=by omega
      have hw:IntKind.i64.wrap ((i:Int)+1)=((i+1:Nat):Int):=by rw[AZ _ (by omega)];omega
      cases hb:cy xs m i with
      |true =>
        have hb2:=hb
        unfold cy at hb2
        simp only[decide_eq_true_eq] at hb2
        obtain⟨k1,k2,k3⟩:=hb2
        have q1:¬xs[i]?.getD 0<0:=by omega
        have q2:¬m<=xs[i]?.getD 0:=by omega
        by_cases h0:0<i
        · have h0':(0:Int)<(i:Int):=by omega
          have k4:=k3 h0
          have q3:¬xs[i]?.getD 0<=xs[i-1]?.getD 0:=by omega
          have hw2:IntKind.i64.wrap ((i:Int)-1)=((i-1:Nat):Int):=by rw[AZ _ (by omega)];omega
          (try (simp -implicitDefEqProofs only[go_sem,h',hw,hw2,q1,q2,h0',q3]));repeat' first|(with_reducible first|exact tI|refine aI ?_ ?_|intro _)|((first|with_reducible refine AK ?_ ?_<;>intro _)<;>try (simp -implicitDefEqProofs only[go_sem,h',hw,hw2,q1,q2,h0',q3]))|simp (disch:=omega) only[Ae]|((with_reducible refine Ad ?_);refine⟨_,rfl,?_,?_⟩)
          all_goals first|omega|(simp<;>omega)|skip
          all_goals first
            |(
               rename_i j hj
               rcases Nat.lt_succ_iff_lt_or_eq.1 hj with hj|rfl
               · exact h2 j hj
               · exact hb)
            |(simp at *;done)|(simp at *;omega)|skip
        · have h0':¬(0:Int)<(i:Int):=by omega
          (try (simp -implicitDefEqProofs only[go_sem,h',hw,q1,q2,h0']));repeat' first|(with_reducible first|exact tI|refine aI ?_ ?_|intro _)|((first|with_reducible refine AK ?_ ?_<;>intro _)<;>try (simp -implicitDefEqProofs only[go_sem,h',hw,q1,q2,h0']))|simp (disch:=omega) only[Ae]|((with_reducible refine Ad ?_);refine⟨_,rfl,?_,?_⟩)
          all_goals first|omega|(simp<;>omega)|skip
          all_goals first
            |(
               rename_i j hj
               rcases Nat.lt_succ_iff_lt_or_eq.1 hj with hj|rfl
               · exact h2 j hj
               · exact hb)
            |(simp at *;done)|(simp at *;omega)|skip
      |false =>
        have hs:=XT h hb
        unfold cy at hb
        simp only[decide_eq_false_iff_not] at hb
        have hw2:0<i->IntKind.i64.wrap ((i:Int)-1)=((i-1:Nat):Int):=fun _=>by rw[AZ _ (by omega)];omega
        by_cases q1:xs[i]?.getD 0<0
        · (try (simp -implicitDefEqProofs only[go_sem,h',hw,q1,hs]));repeat' first|(with_reducible first|exact tI|refine aI ?_ ?_|intro _)|((first|with_reducible refine AK ?_ ?_<;>intro _)<;>try (simp -implicitDefEqProofs only[go_sem,h',hw,q1,hs]))|simp (disch:=omega) only[Ae]|((with_reducible refine Ad ?_);refine⟨_,rfl,?_,?_⟩)
          all_goals first|omega|(simp<;>omega)|skip
        · by_cases q2:m<=xs[i]?.getD 0
          · (try (simp -implicitDefEqProofs only[go_sem,h',hw,q1,q2,hs]));repeat' first|(with_reducible first|exact tI|refine aI ?_ ?_|intro _)|((first|with_reducible refine AK ?_ ?_<;>intro _)<;>try (simp -implicitDefEqProofs only[go_sem,h',hw,q1,q2,hs]))|simp (disch:=omega) only[Ae]|((with_reducible refine Ad ?_);refine⟨_,rfl,?_,?_⟩)
            all_goals first|omega|(simp<;>omega)|skip
          · have h0:0<i:=by
              by_cases h0:0<i
              · exact h0
              · exact absurd ⟨by omega,by omega,fun h=>absurd h h0⟩ hb
            have h0':(0:Int)<(i:Int):=by omega
            have q3:xs[i]?.getD 0<=xs[i-1]?.getD 0:=by
              by_cases q3:xs[i]?.getD 0<=xs[i-1]?.getD 0
              · exact q3
              · exact absurd ⟨by omega,by omega,fun h=>by omega⟩ hb
            (try (simp -implicitDefEqProofs only[go_sem,h',hw,hw2 h0,q1,q2,h0',q3,hs]));repeat' first|(with_reducible first|exact tI|refine aI ?_ ?_|intro _)|((first|with_reducible refine AK ?_ ?_<;>intro _)<;>try (simp -implicitDefEqProofs only[go_sem,h',hw,hw2 h0,q1,q2,h0',q3,hs]))|simp (disch:=omega) only[Ae]|((with_reducible refine Ad ?_);refine⟨_,rfl,?_,?_⟩)
            all_goals first|omega|(simp<;>omega)|skip
            all_goals first|(simp at *;done)|(simp at *;omega)|skip
    · have h':¬(i:Int)<(xs.length:Int):=by omega
      have hs:Da xs m=true:=Py fun j hj=>h2 j (by omega)
      (try (simp -implicitDefEqProofs only[go_sem,h',hs]));repeat' first|(with_reducible first|exact tI|refine aI ?_ ?_|intro _)|((first|with_reducible refine AK ?_ ?_<;>intro _)<;>try (simp -implicitDefEqProofs only[go_sem,h',hs]))|simp (disch:=omega) only[Ae]|((with_reducible refine Ad ?_);refine⟨_,rfl,?_,?_⟩)
      all_goals first|omega|(simp<;>omega)|skip
end
end Go.Pw
