/- A part of the proof. -/
import Derived.Test.YtibkjeolahobbaaGreatDoorChPC
import Derived.Test.YtibkjeolahobbaaGreatDoorCorrectSpec
set_option linter.all false
open Go Go.Pw Go.Proofs
namespace Go.Pw
set_option maxRecDepth 100000
set_option maxHeartbeats 3200000
section
theorem OQ (n:Nat):(Int.tmod (n:Int) 15)=((n%15:Nat):Int):=by rw[Int.tmod_eq_emod_of_nonneg (by omega)];omega
theorem nH:∀a:F,a.val<8->(2*(a.val:Int))=((fm 2 a).val:Int):=by decide +kernel
theorem nI:∀a:F,¬a.val<8->Ai .xor .i64 (2*(a.val:Int)-16) 3=((fm 2 a).val:Int):=by decide +kernel
def oM:Nat->F->Nat->F->F
 |0,_,_,n=>n
 |k+1,a,b,n=>oM k (fm 2 a) (b/2) (if b%2=1 then fa n a else n)
theorem oJ:∀a b:F,oM 4 a b.val 0=fm a b:=by decide +kernel
attribute [local irreducible] IntKind.wrap Ai Option.getD and or
theorem Dn (n:Nat) (hn:n<=1000000):BR E0 Jw [.int .i64 n] (.int .u8 ((gp n).val:Int)):=by
 refine AM Nn Af (by simp) fun hwf=>?_
 rw[AQ];unfold IM
 (try (simp -implicitDefEqProofs only[go_sem,OQ,Ze]));repeat' first|(with_reducible first|exact tI|refine aI ?_ ?_|intro _|refine AJ ?_ ?_<;>intro _<;>try simp -implicitDefEqProofs only[go_sem,OQ,Ze])|simp (disch:=omega) only[Ad]
 all_goals first|omega|(simp<;>omega)|skip
theorem Lo (a:F):BR E0 EU [.int .u8 (a.val:Int)] (.int .u8 ((fi a).val:Int)):=by
 refine AM G2 Af (by simp) fun hwf=>?_
 rw[AQ];unfold EC fi
 have hl:=fc a
 have hv:=Qd a
 have hw:IntKind.i64.wrap (15-(lg a:Int))=((15-lg a:Nat):Int):=by rw[AZ _ (by omega)];omega
 have c1:=Dn (15-lg a) (by omega)
 (try (simp -implicitDefEqProofs only[go_sem,hw]));repeat' first|(with_reducible first|exact tI|refine aI ?_ ?_|intro _)|((first|with_reducible refine AJ ?_ ?_<;>intro _|(with_reducible refine isCall ?_);first|refine AE c1 ?_)<;>try (simp -implicitDefEqProofs only[go_sem,hw]))|simp (disch:=omega) only[Ad]
 all_goals first|omega|(simp<;>omega)|skip
theorem C2 (a b:F):BR E0 FI [.int .u8 (a.val:Int),.int .u8 (b.val:Int)] (.int .u8 ((fm a b).val:Int)):=by
 refine AM Hu Af (by simp) fun hwf=>?_
 rw[AQ];unfold Ei
 have hl:=fc a
 have hl2:=fc b
 have hv:=Qd a
 have hv2:=Qd b
 have hw:IntKind.i64.wrap ((lg a:Int)+(lg b:Int))=((lg a+lg b:Nat):Int):=by rw[AZ _ (by omega)];omega
 have c1:=Dn (lg a+lg b) (by omega)
 by_cases ha:a=0
 ·subst ha
  (try (simp -implicitDefEqProofs only[go_sem,B2]));repeat' first|(with_reducible first|exact tI|refine aI ?_ ?_|intro _|refine AJ ?_ ?_<;>intro _<;>try simp -implicitDefEqProofs only[go_sem,B2])|simp (disch:=omega) only[Ad]
  all_goals first|rfl|(simp at *;done)
 ·by_cases hb:b=0
  ·subst hb
   (try (simp -implicitDefEqProofs only[go_sem,C0,ha]));repeat' first|(with_reducible first|exact tI|refine aI ?_ ?_|intro _|refine AJ ?_ ?_<;>intro _<;>try simp -implicitDefEqProofs only[go_sem,C0,ha])|simp (disch:=omega) only[Ad]
   all_goals first|rfl|(simp at *;done)
  ·have hf:fm a b=gp (lg a+lg b):=by unfold fm;rw[if_neg (by simp[ha,hb])]
   (try (simp -implicitDefEqProofs only[go_sem,hw,ha,hb,hf]));repeat' first|(with_reducible first|exact tI|refine aI ?_ ?_|intro _)|((first|with_reducible refine AJ ?_ ?_<;>intro _|(with_reducible refine isCall ?_);first|refine AE c1 ?_)<;>try (simp -implicitDefEqProofs only[go_sem,hw,ha,hb,hf]))|simp (disch:=omega) only[Ad]
   all_goals first|omega|(simp<;>omega)|skip
   all_goals first|rfl|(simp at *;done)
end
section
def QC (L P:Nat):D:=.agg [.int .i64 L,.int .i64 P]
theorem A4 (L P:Nat):QC L P=.agg [.int .i64 L,.int .i64 P]:=rfl
theorem nT:∀n:Nat,gp (n+1)=fm 2 (gp n):=lM
theorem rK (b:F) (i:Nat) (hi:i<4):Ai .and .i64 ((b.val:Int).fdiv (2^min i IntKind.i64.bits)) 1=((b.val/2^i%2:Nat):Int):=by
 have hm:min i IntKind.i64.bits=i:=by
  have:IntKind.i64.bits=64:=rfl
  rw[this];omega
 rw[U5,hm,T5]
 simp
theorem rJ (b:F) (i:Nat) (hi:i<4):Ai .and .i64 ((b.val:Int).fdiv (2^min i 64)) 1=((b.val/2^i%2:Nat):Int):=rK b i hi
theorem oK (k:Nat) (a:F) (b:Nat) (n:F):oM (k+1) a b n=oM k (fm 2 a) (b/2) (if b%2=1 then fa n a else n):=rfl
attribute [local irreducible] IntKind.wrap Ai Option.getD and or
theorem G6 (L P i j:Nat) (hL:L<=100) (hi:i<=100) (hj:j<L):BR E0 FZ [QC L P,.int .i64 i,.int .i64 j] (.int .u8 ((gp (i*(L-1-j))).val:Int)):=by
 refine AM Ie Af (by simp) fun hwf=>?_
 rw[AQ];unfold E5
 have hb:i*(L-1-j)<=100*100:=Nat.mul_le_mul hi (by omega)
 have hw1:IntKind.i64.wrap ((L:Int)-1)=((L-1:Nat):Int):=by rw[AZ _ (by omega)];omega
 have hw2:IntKind.i64.wrap (((L-1:Nat):Int)-(j:Int))=((L-1-j:Nat):Int):=by rw[AZ _ (by omega)];omega
 have hw3:IntKind.i64.wrap ((i:Int)*((L-1-j:Nat):Int))=((i*(L-1-j):Nat):Int):=by rw[←Int.natCast_mul,AZ _ (by omega)]
 have c1:=Dn (i*(L-1-j)) (by omega)
 (try (simp -implicitDefEqProofs only[go_sem,A4,hw1,hw2,hw3]));repeat' first|(with_reducible first|exact tI|refine aI ?_ ?_|intro _)|((first|with_reducible refine AJ ?_ ?_<;>intro _|(with_reducible refine isCall ?_);first|refine AE c1 ?_)<;>try (simp -implicitDefEqProofs only[go_sem,A4,hw1,hw2,hw3]))|simp (disch:=omega) only[Ad]
 all_goals first|omega|(simp<;>omega)|skip
theorem JV (a:F):BR E0 MG [.int .i64 (a.val:Int)] (.int .i64 ((fm 2 a).val:Int)):=by
 refine AM P1 Af (by simp) fun hwf=>?_
 rw[AQ];unfold KN
 have hv:=Qd a
 by_cases h:a.val<8
 ·have h':(a.val:Int)<8:=by omega
  have hw:IntKind.i64.wrap (2*(a.val:Int))=2*(a.val:Int):=AZ _ (by omega)
  (try (simp -implicitDefEqProofs only[go_sem,hw,h',nH a h]));repeat' first|(with_reducible first|exact tI|refine aI ?_ ?_|intro _|refine AJ ?_ ?_<;>intro _<;>try simp -implicitDefEqProofs only[go_sem,hw,h',nH a h])|simp (disch:=omega) only[Ad]
  all_goals first|omega|(simp<;>omega)|skip
 ·have h':¬(a.val:Int)<8:=by omega
  have hw:IntKind.i64.wrap (2*(a.val:Int))=2*(a.val:Int):=AZ _ (by omega)
  have hw2:IntKind.i64.wrap (2*(a.val:Int)-16)=2*(a.val:Int)-16:=AZ _ (by omega)
  (try (simp -implicitDefEqProofs only[go_sem,hw,hw2,h',nI a h]));repeat' first|(with_reducible first|exact tI|refine aI ?_ ?_|intro _|refine AJ ?_ ?_<;>intro _<;>try simp -implicitDefEqProofs only[go_sem,hw,hw2,h',nI a h])|simp (disch:=omega) only[Ad]
  all_goals first|omega|(simp<;>omega)|skip
theorem JW (n:Nat) (hn:n<=1000000):BR E0 MI [.int .i64 n] (.int .i64 ((gp n).val:Int)):=by
 refine AM P4 Af (by simp) fun hwf=>?_
 rw[AQ];unfold KQ
 (try (simp -implicitDefEqProofs only[go_sem]));repeat' first|(with_reducible first|exact tI|refine aI ?_ ?_|intro _|refine AJ ?_ ?_<;>intro _<;>try simp -implicitDefEqProofs only[go_sem])|simp (disch:=omega) only[Ad]|((with_reducible apply Ae);exact rfl)
 refine AU (α:=Nat×F) (l0:=?l1) (m0:=?m1) (fun x=>[(4,.d (.int .i64 (x.1:Int))),(3,.d (.int .i64 (x.2.val:Int)))]) (fun x=>[]) (fun x=>x.1<=n/\x.2=gp x.1) (fun x=>n-x.1) (0,1) ?h01 ?he1 ?he21 ?hI1 ?step1
 case h01=>(simp -implicitDefEqProofs only[go_sem];rfl)
 case he1=>rfl
 case he21=>rfl
 case' step1=>(rintro⟨k,a⟩ hI;try dsimp only at hI)
 case' hI1=>try dsimp only
 ·exact⟨by omega,UR.symm⟩
 ·obtain⟨h1,h2⟩:=hI
  subst h2
  by_cases h:k<n
  ·have h':(k:Int)<(n:Int):=by omega
   have hw:IntKind.i64.wrap ((k:Int)+1)=((k+1:Nat):Int):=by rw[AZ _ (by omega)];omega
   have c1:=JV (gp k)
   (try (simp -implicitDefEqProofs only[go_sem,h',hw,←nT]));repeat' first|(with_reducible first|exact tI|refine aI ?_ ?_|intro _)|((first|with_reducible refine AJ ?_ ?_<;>intro _|(with_reducible refine isCall ?_);first|refine AE c1 ?_)<;>try (simp -implicitDefEqProofs only[go_sem,h',hw,←nT]))|simp (disch:=omega) only[Ad]|((with_reducible apply Ae);exact rfl)
   all_goals first|omega|(simp<;>omega)|skip
   all_goals first|rfl|(simp at *;done)|skip
  ·have h':¬(k:Int)<(n:Int):=by omega
   have hk:k=n:=by omega
   subst hk
   (try (simp -implicitDefEqProofs only[go_sem,h']));repeat' first|(with_reducible first|exact tI|refine aI ?_ ?_|intro _|refine AJ ?_ ?_<;>intro _<;>try simp -implicitDefEqProofs only[go_sem,h'])|simp (disch:=omega) only[Ad]|((with_reducible apply Ae);exact rfl)
   all_goals first|omega|(simp<;>omega)|skip
theorem EW (a0 b:F):BR E0 H5 [.int .i64 (a0.val:Int),.int .i64 (b.val:Int)] (.int .i64 ((fm a0 b).val:Int)):=by
 refine AM P3 Af (by simp) fun hwf=>?_
 rw[AQ];unfold KP
 (try (simp -implicitDefEqProofs only[go_sem]));repeat' first|(with_reducible first|exact tI|refine aI ?_ ?_|intro _|refine AJ ?_ ?_<;>intro _<;>try simp -implicitDefEqProofs only[go_sem])|simp (disch:=omega) only[Ad]|((with_reducible apply Ag);exact rfl)
 refine AU (α:=Nat×F×F) (l0:=?l2) (m0:=?m2) (fun x=>[(6,.d (.int .i64 (x.1:Int))),(0,.d (.int .i64 (x.2.1.val:Int))),(5,.d (.int .i64 (x.2.2.val:Int)))]) (fun x=>[]) (fun x=>x.1<=4/\oM (4-x.1) x.2.1 (b.val/2^x.1) x.2.2=fm a0 b) (fun x=>4-x.1) (0,a0,0) ?h02 ?he2 ?he22 ?hI2 ?step2
 case h02=>(simp -implicitDefEqProofs only[go_sem];rfl)
 case he2=>rfl
 case he22=>rfl
 case' step2=>(rintro⟨k,a,n⟩ hI;try dsimp only at hI)
 case' hI2=>try dsimp only
 ·exact⟨by omega,by simpa using oJ a0 b⟩
 ·obtain⟨h1,h2⟩:=hI
  by_cases h:k<4
  ·have h':(k:Int)<4:=by omega
   have hw:IntKind.i64.wrap ((k:Int)+1)=((k+1:Nat):Int):=by rw[AZ _ (by omega)];omega
   have hu:IntKind.u64.wrap (k:Int)=(k:Int):=da _ (by omega)
   have c1:=JV a
   have hs:oM (4-k) a (b.val/2^k) n=oM (4-(k+1)) (fm 2 a) (b.val/2^(k+1)) (if b.val/2^k%2=1 then fa n a else n):=by
    rw[show 4-k=(4-(k+1))+1 by omega,oK,Nat.div_div_eq_div_mul,←Nat.pow_succ]
   have hbf:=rK b k h
   have hbf':=rJ b k h
   rw[hs] at h2
   have h01:b.val/2^k%2=0\/b.val/2^k%2=1:=by omega
   rcases h01 with h01|h01
   ·rw[h01] at hbf hbf' h2
    simp only[Nat.zero_ne_one,if_false] at h2
    (try (simp -implicitDefEqProofs only[go_sem,h',hw,hu,hbf,hbf']));repeat' first|(with_reducible first|exact tI|refine aI ?_ ?_|intro _)|((first|with_reducible refine AJ ?_ ?_<;>intro _|(with_reducible refine isCall ?_);first|refine AE c1 ?_)<;>try (simp -implicitDefEqProofs only[go_sem,h',hw,hu,hbf,hbf']))|simp (disch:=omega) only[Ad]|((with_reducible apply Ag);exact rfl)
    all_goals first|omega|(simp<;>omega)|skip
    all_goals first|exact h2|(simp at *;done)|skip
   ·rw[h01] at hbf hbf' h2
    simp only[if_true] at h2
    (try (simp -implicitDefEqProofs only[go_sem,h',hw,hu,hbf,hbf']));repeat' first|(with_reducible first|exact tI|refine aI ?_ ?_|intro _)|((first|with_reducible refine AJ ?_ ?_<;>intro _|(with_reducible refine isCall ?_);first|refine AE c1 ?_)<;>try (simp -implicitDefEqProofs only[go_sem,h',hw,hu,hbf,hbf']))|simp (disch:=omega) only[Ad]|((with_reducible apply Ag);exact rfl)
    all_goals first|omega|(simp<;>omega)|skip
    all_goals first|exact h2|(simp at *;done)|skip
  ·have h':¬(k:Int)<4:=by omega
   have hk:k=4:=by omega
   subst hk
   (try (simp -implicitDefEqProofs only[go_sem,h']));repeat' first|(with_reducible first|exact tI|refine aI ?_ ?_|intro _|refine AJ ?_ ?_<;>intro _<;>try simp -implicitDefEqProofs only[go_sem,h'])|simp (disch:=omega) only[Ad]|((with_reducible apply Ag);exact rfl)
   all_goals first|omega|(simp<;>omega)|skip
   all_goals (rw[←h2];rfl)
end
section
def ov (a b:F):F:=if b=0 then 0 else fm a (fi b)
theorem pK:∀a b n:F,fm n b=a->(∀m:F,m.val<n.val->fm m b≠a)->n=ov a b:=by decide +kernel
theorem kY:∀a b:F,(∀m:F,m.val<16->fm m b≠a)->ov a b=0:=by decide +kernel
def DY (L P:Int):Bool:=decide (2<=L/\L<=15/\1<=P/\P<=8/\P<L)
def J3 (n:Int):Bool:=decide (0<=n/\n<=15)
def Bl (l:List Int) (m:Int):Bool:=decide ((l.length:Int)=m) && l.all J3
def bU (l:List Int) (m:Int) (i:Nat):Bool:=decide (0<=l[i]?.getD 0/\l[i]?.getD 0<m/\(0<i->l[i-1]?.getD 0<l[i]?.getD 0))
def Cq (l:List Int) (m:Int):Bool:=(List.range l.length).all (bU l m)
theorem jF {α:Type}{p:α->Bool}{l:List α}{i:Nat}{d:α}(hi:i<l.length) (h:p (l[i]?.getD d)=false):l.all p=false:=by
 rw[List.all_eq_false]
 refine⟨l[i]?.getD d,?_,by simp[h]⟩
 rw[List.getElem?_eq_getElem hi];simp
theorem mz {α:Type}{p:α->Bool}{l:List α}{d:α}(h:∀i,i<l.length->p (l[i]?.getD d)=true):l.all p=true:=by
 rw[List.all_eq_true]
 intro x hx
 obtain⟨i,hi,rfl⟩:=List.getElem_of_mem hx
 have:=h i hi
 rwa [List.getElem?_eq_getElem hi] at this
theorem WG {l:List Int}{m:Int}{i:Nat}(hi:i<l.length) (h:bU l m i=false):Cq l m=false:=by
 unfold Cq;rw[List.all_eq_false];exact⟨i,by simpa using hi,by simp[h]⟩
theorem Ol {l:List Int}{m:Int}(h:∀i,i<l.length->bU l m i=true):Cq l m=true:=by
 unfold Cq;rw[List.all_eq_true];intro i hi;exact h i (by simpa using hi)
def f9 (l:List Int) (n:Int):Bool:=l.contains n
theorem f6 {l:List Int}{n:Int}(h:∀i,i<l.length->l[i]?.getD 0≠n):f9 l n=false:=by
 unfold f9
 rw[List.contains_eq_any_beq,List.any_eq_false]
 intro x hx
 obtain⟨i,hi,rfl⟩:=List.getElem_of_mem hx
 have:=h i hi
 rw[List.getElem?_eq_getElem hi] at this
 simpa using fun e=>this e.symm
theorem Zx {l:List Int}{n:Int}{i:Nat}(hi:i<l.length) (h:l[i]?.getD 0=n):f9 l n=true:=by
 unfold f9
 rw[List.contains_iff_mem,←h,List.getElem?_eq_getElem hi];simp
theorem nG:∀a:F,IntKind.u8.wrap (a.val:Int)=(a.val:Int):=by decide +kernel
theorem db:∀a:F,IntKind.i64.wrap (a.val:Int)=(a.val:Int):=by decide +kernel
theorem nv (a b:F):((a.val:Int)=(b.val:Int))=(a=b):=by
 simp only[eq_iff_iff]
 exact⟨fun h=>Fin.ext (by omega),fun h=>by rw[h]⟩
attribute [local irreducible] IntKind.wrap Ai Option.getD and or
theorem Gp (a b:F):BR E0 OI [.int .i64 (a.val:Int),.int .i64 (b.val:Int)] (.int .i64 ((ov a b).val:Int)):=by
 refine AM Ru Af (by simp) fun hwf=>?_
 rw[AQ];unfold L3
 (try (simp -implicitDefEqProofs only[go_sem]));repeat' first|(with_reducible first|exact tI|refine aI ?_ ?_|intro _|refine AJ ?_ ?_<;>intro _<;>try simp -implicitDefEqProofs only[go_sem])|simp (disch:=omega) only[Ad]|((with_reducible apply Ab);exact rfl)
 refine AU (α:=Nat) (l0:=?l1) (m0:=?m1) (fun x=>[(5,.d (.int .i64 (x:Int)))]) (fun x=>[]) (fun x=>x<=16/\∀m:F,m.val<x->fm m b≠a) (fun x=>16-x) 0 ?h01 ?he1 ?he21 ?hI1 ?step1
 case h01=>(simp -implicitDefEqProofs only[go_sem];rfl)
 case he1=>rfl
 case he21=>rfl
 case' step1=>(rintro n hI;try dsimp only at hI)
 case' hI1=>try dsimp only
 ·exact⟨by omega,fun m hm=>absurd hm (by omega)⟩
 ·obtain⟨h1,h2⟩:=hI
  by_cases h:n<16
  ·have h':(n:Int)<16:=by omega
   have hw:IntKind.i64.wrap ((n:Int)+1)=((n+1:Nat):Int):=by rw[AZ _ (by omega)];omega
   have c1:BR E0 H5 [.int .i64 (n:Int),.int .i64 (b.val:Int)] (.int .i64 ((fm ⟨n,h⟩ b).val:Int)):=EW ⟨n,h⟩ b
   by_cases he:fm ⟨n,h⟩ b=a
   ·have hov:=pK a b ⟨n,h⟩ he h2
    rw[he] at c1
    (try (simp -implicitDefEqProofs only[go_sem,h',hw]));repeat' first|(with_reducible first|exact tI|refine aI ?_ ?_|intro _)|((first|with_reducible refine AJ ?_ ?_<;>intro _|(with_reducible refine isCall ?_);first|refine AE c1 ?_)<;>try (simp -implicitDefEqProofs only[go_sem,h',hw]))|simp (disch:=omega) only[Ad]|((with_reducible apply Ab);exact rfl)
    all_goals first|omega|(simp<;>omega)|skip
    all_goals first|(rw[←hov];done)|(rw[←hov];rfl)|(simp at *;done)|skip
   ·have hne:¬((fm ⟨n,h⟩ b).val:Int)=(a.val:Int):=by rw[nv];exact he
    (try (simp -implicitDefEqProofs only[go_sem,h',hw,hne]));repeat' first|(with_reducible first|exact tI|refine aI ?_ ?_|intro _)|((first|with_reducible refine AJ ?_ ?_<;>intro _|(with_reducible refine isCall ?_);first|refine AE c1 ?_)<;>try (simp -implicitDefEqProofs only[go_sem,h',hw,hne]))|simp (disch:=omega) only[Ad]|((with_reducible apply Ab);exact rfl)
    all_goals first|omega|(simp<;>omega)|skip
    all_goals first
     |(
      rename_i m hm
      rcases Nat.lt_succ_iff_lt_or_eq.1 hm with hm|hm
      ·exact h2 m hm
      ·have:m=⟨n,h⟩:=Fin.ext hm
       rw[this];exact he)
     |skip
  ·have h':¬(n:Int)<16:=by omega
   have hk:n=16:=by omega
   subst hk
   have hov:=kY a b h2
   (try (simp -implicitDefEqProofs only[go_sem,h',hov]));repeat' first|(with_reducible first|exact tI|refine aI ?_ ?_|intro _|refine AJ ?_ ?_<;>intro _<;>try simp -implicitDefEqProofs only[go_sem,h',hov])|simp (disch:=omega) only[Ad]|((with_reducible apply Ab);exact rfl)
   all_goals first|omega|(simp<;>omega)|skip
   all_goals rfl
theorem D9 (n lo hi:Int):BR E0 HD [.int .i64 n,.int .i64 lo,.int .i64 hi] (.bool (decide (lo<=n/\n<=hi))):=by
 refine AM Ox Af (by simp) fun hwf=>?_
 rw[AQ];unfold Jb
 (try (simp -implicitDefEqProofs only[go_sem]));repeat' first|(with_reducible first|exact tI|refine aI ?_ ?_|intro _|refine AJ ?_ ?_<;>intro _<;>try simp -implicitDefEqProofs only[go_sem])|simp (disch:=omega) only[Ad]
 all_goals first|omega|(simp_all;done)|(simp_all;omega)
theorem Nz (L P:Int):BR E0 Jx [.agg [.int .i64 L,.int .i64 P]] (.int .i64 (if DY L P then 0 else 50)):=by
 refine AM Np Af (by simp) fun hwf=>?_
 rw[AQ];unfold IQ DY
 (try (simp -implicitDefEqProofs only[go_sem]));repeat' first|(with_reducible first|exact tI|refine aI ?_ ?_|intro _|refine AJ ?_ ?_<;>intro _<;>try simp -implicitDefEqProofs only[go_sem])|simp (disch:=omega) only[Ad]
 all_goals first|omega|(simp_all;done)|(simp_all;omega)|grind
theorem Ps (L P:Int):BR E0 MJ [.agg [.int .i64 L,.int .i64 P]] (.int .i64 (if DY L P then 0 else 50)):=by
 refine AM P5 Af (by simp) fun hwf=>?_
 rw[AQ];unfold KR DY
 have c1:=D9
 (try (simp -implicitDefEqProofs only[go_sem]));repeat' first|(with_reducible first|exact tI|refine aI ?_ ?_|intro _)|((first|with_reducible refine AJ ?_ ?_<;>intro _|(with_reducible refine isCall ?_);first|refine AE (c1 _ _ _) ?_)<;>try (simp -implicitDefEqProofs only[go_sem]))|simp (disch:=omega) only[Ad]
 all_goals first|omega|(simp_all;done)|(simp_all;omega)|grind
theorem Ny (n:Int):BR E0 DZ [.int .i64 n] (.bool (!J3 n)):=by
 refine AM No Af (by simp) fun hwf=>?_
 rw[AQ];unfold IP J3
 (try (simp -implicitDefEqProofs only[go_sem]));repeat' first|(with_reducible first|exact tI|refine aI ?_ ?_|intro _|refine AJ ?_ ?_<;>intro _<;>try simp -implicitDefEqProofs only[go_sem])|simp (disch:=omega) only[Ad]
 all_goals first|omega|(simp_all;done)|(simp_all;omega)|grind
theorem ZB:BL E0.P DZ=true:=by kernel_rfl
theorem N7:BL E0.P CW=true:=by kernel_rfl
theorem N_ (nl:Bool) (xs:List Int) (f:FuncId) (cs:List D) (p:Int->Bool) (hb:BL E0.P f=true) (hcs:Ax AV.toD1 (cs.map .d)=some cs) (h:∀x,x∈xs->BR E0 f (.int .i64 x::cs) (.bool (p x))) :
  BR E0 Cg [.list nl (Aa xs),.fn f cs] (.int .i64 (match xs.findIdx? p with|some i=>i|none=>-1)):=by
 refine AM DX Af (by simp) fun hwf=>?_
 simp only[CU,Bu,Bt,Bq,Cd,Cc,Dt,Cb,A2,A9,A_,Bz,BG,List.length_map,BH,true_and,and_true] at hwf
 rw[AQ];unfold CV
 simp -implicitDefEqProofs only[go_sem]
 refine AU (α:=Int) (l0:=?l2) (m0:=?m2) (fun x=>[(8,.d (.int .i64 x))]) (fun x=>[]) (fun x=>0<=x/\x<=xs.length/\∀(j:Nat) (hj:j<xs.length),(j:Int)<x->p xs[j]=false) (fun x=>(xs.length-x).toNat) ?a2_0 ?h02 ?he2 ?he22 ?hI2 ?step2
 case h02=>(simp -implicitDefEqProofs only[go_sem];rfl)
 case he2=>rfl
 case he22=>rfl
 case' step2=>(rintro i hI;try dsimp only at hI)
 case' hI2=>try dsimp only
 ·simp
  omega
 ·(try (simp -implicitDefEqProofs only[go_sem]));repeat' first|(with_reducible first|exact tI|refine aI ?_ ?_|intro _|refine AJ ?_ ?_<;>intro _<;>try simp -implicitDefEqProofs only[go_sem])|simp (disch:=omega) only[Ad]|((with_reducible apply Ab);exact rfl)
  all_goals first|omega|(simp<;>omega)|skip
  ·have hx:xs[i.toNat]?.getD 0=xs[i.toNat]'(by omega):=by rw[List.getElem?_eq_getElem (by omega),Option.getD_some]
   rw[hx]
   refine Y9 (h _ (List.getElem_mem _)) (K1 rfl hcs) (fun hp=>?_) (fun hp=>?_)
   ·simp -implicitDefEqProofs only[go_sem]
    have:xs.findIdx? p=some i.toNat:=by rw[List.findIdx?_eq_some_iff_getElem];exact⟨by omega,hp,fun j hj=>by simp[hI.2.2 j (by omega) (by omega)]⟩
    rw[this];simp;omega
   ·(try (simp -implicitDefEqProofs only[go_sem]));repeat' first|(with_reducible first|exact tI|refine aI ?_ ?_|intro _|refine AJ ?_ ?_<;>intro _<;>try simp -implicitDefEqProofs only[go_sem])|simp (disch:=omega) only[Ad]|((with_reducible apply Ab);exact rfl)
    all_goals first|omega|(simp<;>omega)|skip
    rename_i j hj hlt
    by_cases hjk:j=i.toNat
    ·subst hjk;exact hp
    ·exact hI.2.2 j hj (by omega)
  ·have:xs.findIdx? p=none:=by
    rw[List.findIdx?_eq_none_iff];intro x hx;obtain⟨j,hj,rfl⟩:=List.getElem_of_mem hx;exact hI.2.2 j hj (by omega)
   rw[this]
theorem LJ (nl:Bool) (xs:List Int) (f:FuncId) (cs:List D) (p:Int->Bool) (hb:BL E0.P f=true) (hcs:Ax AV.toD1 (cs.map .d)=some cs) (h:∀x,x∈xs->BR E0 f (.int .i64 x::cs) (.bool (p x))) :
  BR E0 BZ [.list nl (Aa xs),.fn f cs] (.bool (xs.any p)):=by
 refine AM C8 Af (by simp) fun hwf=>?_
 rw[AQ];unfold B8
 simp -implicitDefEqProofs only[go_sem]
 refine G_ (N_ nl xs f cs p hb hcs h) rfl ?_
 simp -implicitDefEqProofs only[go_sem]
 have key:(0:Int)<=(match xs.findIdx? p with|some i=>(i:Int)|none=>-1)↔xs.any p=true:=by
  cases hf:xs.findIdx? p with
  |none=>rw[List.findIdx?_eq_none_iff] at hf;simp;intro x hx;simp[hf x hx]
  |some i=>rw[List.findIdx?_eq_some_iff_getElem] at hf;simp;exact⟨_,List.getElem_mem hf.1,hf.2.1⟩
 grind
theorem my (xs:List Int) (p:Int->Bool):(!xs.any fun n=>!p n)=xs.all p:=by
 rw[List.all_eq_not_any_not]
theorem QA (nl:Bool) (xs:List Int) (m:Int):BR E0 MN [.list nl (Aa xs),.int .i64 m] (.bool (Bl xs m)):=by
 refine AM P8 Af (by simp) fun hwf=>?_
 rw[AQ];unfold KV
 have c1:BR E0 BZ [.list nl (Aa xs),.fn DZ []] (.bool (xs.any fun n=>!J3 n)) :=
  LJ nl xs DZ [] (fun n=>!J3 n) ZB rfl fun x _=>Ny x
 have ha:=my xs J3
 by_cases hm:(xs.length:Int)=m
 ·have hs:Bl xs m=xs.all J3:=by unfold Bl;simp[hm]
  rw[hs]
  cases hx:xs.any fun n=>!J3 n with
  |true =>
   rw[hx] at c1 ha
   (try (simp -implicitDefEqProofs only[go_sem,hm]));repeat' first|(with_reducible first|exact tI|refine aI ?_ ?_|intro _)|((first|with_reducible refine AJ ?_ ?_<;>intro _|(with_reducible refine isCall ?_);first|refine AE c1 ?_)<;>try (simp -implicitDefEqProofs only[go_sem,hm]))|simp (disch:=omega) only[Ad]
   all_goals first|(rw[←ha];done)|(rw[←ha];rfl)|(simp at *;done)|omega
  |false =>
   rw[hx] at c1 ha
   (try (simp -implicitDefEqProofs only[go_sem,hm]));repeat' first|(with_reducible first|exact tI|refine aI ?_ ?_|intro _)|((first|with_reducible refine AJ ?_ ?_<;>intro _|(with_reducible refine isCall ?_);first|refine AE c1 ?_)<;>try (simp -implicitDefEqProofs only[go_sem,hm]))|simp (disch:=omega) only[Ad]
   all_goals first|(rw[←ha];done)|(rw[←ha];rfl)|(simp at *;done)|omega
 ·have hs:Bl xs m=false:=by unfold Bl;simp[hm]
  rw[hs]
  (try (simp -implicitDefEqProofs only[go_sem,hm]));repeat' first|(with_reducible first|exact tI|refine aI ?_ ?_|intro _|refine AJ ?_ ?_<;>intro _<;>try simp -implicitDefEqProofs only[go_sem,hm])|simp (disch:=omega) only[Ad]
  all_goals first|rfl|(simp at *;done)|omega
theorem KJ (nl:Bool) (xs:List Int) (m:Int):BR E0 HF [.list nl (Aa xs),.int .i64 m] (.bool (Bl xs m)):=by
 refine AM Kq Af (by simp) fun hwf=>?_
 simp only[CU,Bu,Bt,Bq,Cd,Cc,Dt,Cb,A2,A9,A_,Bz,BG,List.length_map,BH,true_and,and_true] at hwf
 rw[AQ];unfold GQ
 (try (simp -implicitDefEqProofs only[go_sem]));repeat' first|(with_reducible first|exact tI|refine aI ?_ ?_|intro _|refine AJ ?_ ?_<;>intro _<;>try simp -implicitDefEqProofs only[go_sem])|simp (disch:=omega) only[Ad]|((with_reducible apply Ab);exact rfl)
 refine AU (α:=Nat) (l0:=?l3) (m0:=?m3) (fun x=>[(5,.d (.int .i64 (x:Int)))]) (fun x=>[]) (fun x=>x<=xs.length/\∀j,j<x->J3 (xs[j]?.getD 0)=true) (fun x=>xs.length-x) 0 ?h03 ?he3 ?he23 ?hI3 ?step3
 case h03=>(simp -implicitDefEqProofs only[go_sem];rfl)
 case he3=>rfl
 case he23=>rfl
 case' step3=>(rintro i hI;try dsimp only at hI)
 case' hI3=>try dsimp only
 ·exact⟨by omega,fun j hj=>absurd hj (by omega)⟩
 ·obtain⟨h1,h2⟩:=hI
  by_cases h:i<xs.length
  ·have h':(i:Int)<(xs.length:Int):=by omega
   have hw:IntKind.i64.wrap ((i:Int)+1)=((i+1:Nat):Int):=by rw[AZ _ (by omega)];omega
   have c1:BR E0 HD [.int .i64 (xs[i]?.getD 0),.int .i64 0,.int .i64 15] (.bool (J3 (xs[i]?.getD 0))):=D9 _ _ _
   cases hb:J3 (xs[i]?.getD 0) with
   |true =>
    rw[hb] at c1
    (try (simp -implicitDefEqProofs only[go_sem,h',hw]));repeat' first|(with_reducible first|exact tI|refine aI ?_ ?_|intro _)|((first|with_reducible refine AJ ?_ ?_<;>intro _|(with_reducible refine isCall ?_);first|refine AE c1 ?_)<;>try (simp -implicitDefEqProofs only[go_sem,h',hw]))|simp (disch:=omega) only[Ad]|((with_reducible apply Ab);exact rfl)
    all_goals first|omega|(simp<;>omega)|skip
    all_goals first
     |(
      rename_i j hj
      rcases Nat.lt_succ_iff_lt_or_eq.1 hj with hj|rfl
      ·exact h2 j hj
      ·exact hb)
     |skip
   |false =>
    rw[hb] at c1
    have hs:Bl xs m=false:=by unfold Bl;rw[jF h hb];simp
    (try (simp -implicitDefEqProofs only[go_sem,h',hw,hs]));repeat' first|(with_reducible first|exact tI|refine aI ?_ ?_|intro _)|((first|with_reducible refine AJ ?_ ?_<;>intro _|(with_reducible refine isCall ?_);first|refine AE c1 ?_)<;>try (simp -implicitDefEqProofs only[go_sem,h',hw,hs]))|simp (disch:=omega) only[Ad]|((with_reducible apply Ab);exact rfl)
    all_goals first|omega|(simp<;>omega)|skip
  ·have h':¬(i:Int)<(xs.length:Int):=by omega
   have hk:i=xs.length:=by omega
   have hs:Bl xs m=decide ((xs.length:Int)=m):=by unfold Bl;rw[mz (d:=0) (fun j hj=>h2 j (by omega))];simp
   (try (simp -implicitDefEqProofs only[go_sem,h',hs]));repeat' first|(with_reducible first|exact tI|refine aI ?_ ?_|intro _|refine AJ ?_ ?_<;>intro _<;>try simp -implicitDefEqProofs only[go_sem,h',hs])|simp (disch:=omega) only[Ad]|((with_reducible apply Ab);exact rfl)
   all_goals first|omega|(simp<;>omega)|skip
   all_goals rfl
theorem Mq (nl:Bool) (xs:List Int) (m:Int):BR E0 I0 [.list nl (Aa xs),.int .i64 m] (.bool (Cq xs m)):=by
  refine AM Mk Af (by simp) fun hwf=>?_
  simp only[CU,Bu,Bt,Bq,Cd,Cc,Dt,Cb,A2,A9,A_,Bz,BG,List.length_map,BH,true_and,and_true] at hwf
  rw[AQ];unfold HY
  (try (simp -implicitDefEqProofs only[go_sem]));repeat' first|(with_reducible first|exact tI|refine aI ?_ ?_|intro _|refine AJ ?_ ?_<;>intro _<;>try simp -implicitDefEqProofs only[go_sem])|simp (disch:=omega) only[Ad]|((with_reducible apply Ab);exact rfl)
  refine AU (α:=Nat) (l0:=?l4) (m0:=?m4) (fun x=>[(9,.d (.int .i64 (x:Int)))]) (fun x=>[]) (fun x=>x<=xs.length/\∀j,j<x->bU xs m j=true) (fun x=>xs.length-x) 0 ?h04 ?he4 ?he24 ?hI4 ?step4
  case h04=>(simp -implicitDefEqProofs only[go_sem];rfl)
  case he4=>rfl
  case he24=>rfl
  case' step4=>(rintro i hI;try dsimp only at hI)
  case' hI4=>try dsimp only
  · exact⟨by omega,fun j hj=>absurd hj (by omega)⟩
  · obtain⟨h1,h2⟩:=hI
    by_cases h:i<xs.length
    · have h':(i:Int)<(xs.length:Int):=by omega
      have hw:IntKind.i64.wrap ((i:Int)+1)=((i+1:Nat):Int):=by rw[AZ _ (by omega)];omega
      cases hb:bU xs m i with
      |true =>
        have hb2:=hb
        unfold bU at hb2
        simp only[decide_eq_true_eq] at hb2
        obtain⟨k1,k2,k3⟩:=hb2
        have q1:¬xs[i]?.getD 0<0:=by omega
        have q2:¬m<=xs[i]?.getD 0:=by omega
        by_cases h0:0<i
        · have h0':(0:Int)<(i:Int):=by omega
          have k4:=k3 h0
          have q3:¬xs[i]?.getD 0<=xs[i-1]?.getD 0:=by omega
          have hw2:IntKind.i64.wrap ((i:Int)-1)=((i-1:Nat):Int):=by rw[AZ _ (by omega)];omega
          (try (simp -implicitDefEqProofs only[go_sem,h',hw,hw2,q1,q2,h0',q3]));repeat' first|(with_reducible first|exact tI|refine aI ?_ ?_|intro _|refine AJ ?_ ?_<;>intro _<;>try simp -implicitDefEqProofs only[go_sem,h',hw,hw2,q1,q2,h0',q3])|simp (disch:=omega) only[Ad]|((with_reducible apply Ab);exact rfl)
          all_goals first|omega|(simp<;>omega)|skip
          all_goals first
            |(
               rename_i j hj
               rcases Nat.lt_succ_iff_lt_or_eq.1 hj with hj|rfl
               · exact h2 j hj
               · exact hb)
            |(simp at *;done)|(simp at *;omega)|skip
        · have h0':¬(0:Int)<(i:Int):=by omega
          (try (simp -implicitDefEqProofs only[go_sem,h',hw,q1,q2,h0']));repeat' first|(with_reducible first|exact tI|refine aI ?_ ?_|intro _|refine AJ ?_ ?_<;>intro _<;>try simp -implicitDefEqProofs only[go_sem,h',hw,q1,q2,h0'])|simp (disch:=omega) only[Ad]|((with_reducible apply Ab);exact rfl)
          all_goals first|omega|(simp<;>omega)|skip
          all_goals first
            |(
               rename_i j hj
               rcases Nat.lt_succ_iff_lt_or_eq.1 hj with hj|rfl
               · exact h2 j hj
               · exact hb)
            |(simp at *;done)|(simp at *;omega)|skip
      |false =>
        have hs:=WG h hb
        unfold bU at hb
        simp only[decide_eq_false_iff_not] at hb
        have hw2:0<i->IntKind.i64.wrap ((i:Int)-1)=((i-1:Nat):Int):=fun _=>by rw[AZ _ (by omega)];omega
        by_cases q1:xs[i]?.getD 0<0
        · (try (simp -implicitDefEqProofs only[go_sem,h',hw,q1,hs]));repeat' first|(with_reducible first|exact tI|refine aI ?_ ?_|intro _|refine AJ ?_ ?_<;>intro _<;>try simp -implicitDefEqProofs only[go_sem,h',hw,q1,hs])|simp (disch:=omega) only[Ad]|((with_reducible apply Ab);exact rfl)
          all_goals first|omega|(simp<;>omega)|skip
        · by_cases q2:m<=xs[i]?.getD 0
          · (try (simp -implicitDefEqProofs only[go_sem,h',hw,q1,q2,hs]));repeat' first|(with_reducible first|exact tI|refine aI ?_ ?_|intro _|refine AJ ?_ ?_<;>intro _<;>try simp -implicitDefEqProofs only[go_sem,h',hw,q1,q2,hs])|simp (disch:=omega) only[Ad]|((with_reducible apply Ab);exact rfl)
            all_goals first|omega|(simp<;>omega)|skip
          · have h0:0<i:=by
              by_cases h0:0<i
              · exact h0
              · exact absurd ⟨by omega,by omega,fun h=>absurd h h0⟩ hb
            have h0':(0:Int)<(i:Int):=by omega
            have q3:xs[i]?.getD 0<=xs[i-1]?.getD 0:=by
              by_cases q3:xs[i]?.getD 0<=xs[i-1]?.getD 0
              · exact q3
              · exact absurd ⟨by omega,by omega,fun h=>by omega⟩ hb
            (try (simp -implicitDefEqProofs only[go_sem,h',hw,hw2 h0,q1,q2,h0',q3,hs]));repeat' first|(with_reducible first|exact tI|refine aI ?_ ?_|intro _|refine AJ ?_ ?_<;>intro _<;>try simp -implicitDefEqProofs only[go_sem,h',hw,hw2 h0,q1,q2,h0',q3,hs])|simp (disch:=omega) only[Ad]|((with_reducible apply Ab);exact rfl)
            all_goals first|omega|(simp<;>omega)|skip
            all_goals first|(simp at *;done)|(simp at *;omega)|skip
    · have h':¬(i:Int)<(xs.length:Int):=by omega
      have hs:Cq xs m=true:=Ol fun j hj=>h2 j (by omega)
      (try (simp -implicitDefEqProofs only[go_sem,h',hs]));repeat' first|(with_reducible first|exact tI|refine aI ?_ ?_|intro _|refine AJ ?_ ?_<;>intro _<;>try simp -implicitDefEqProofs only[go_sem,h',hs])|simp (disch:=omega) only[Ad]|((with_reducible apply Ab);exact rfl)
      all_goals first|omega|(simp<;>omega)|skip
end
section
def ni (l:List Nat):List Int:=l.map fun n:Nat=>(n:Int)
theorem GG (l:List Nat):(ni l).length=l.length:=by simp[ni]
theorem pR (l:List Nat) (i:Nat):(ni l)[i]?.getD 0=((l[i]?.getD 0:Nat):Int):=by
 unfold ni;rw[List.getElem?_map];cases l[i]?<;>rfl
theorem kh (l:List Nat) (n:Nat):ni l++[(n:Int)]=ni (l++[n]):=by simp[ni]
theorem fO (l k:List Nat):ni l++ni k=ni (l++k):=by simp[ni]
theorem fN (l:List Nat):(ni l).isEmpty=l.isEmpty:=by cases l<;>rfl
attribute [go_sem] GG pR kh fO fN
attribute [local irreducible] IntKind.wrap Ai Option.getD and or
theorem MW (nl:Bool) (xs:List Int) (m:Int) (hm:-1000000<=m/\m<=1000000):BR E0 Ix [.list nl (Aa xs),.int .i64 m] (.bool (Cq xs m)):=by
 refine AM Mh Af (by simp) fun hwf=>?_
 simp only[CU,Bu,Bt,Bq,Cd,Cc,Dt,Cb,A2,A9,A_,Bz,BG,List.length_map,BH,true_and,and_true] at hwf
 rw[AQ];unfold HV
 (try (simp -implicitDefEqProofs only[go_sem]));repeat' first|(with_reducible first|exact tI|refine aI ?_ ?_|intro _|refine AJ ?_ ?_<;>intro _<;>try simp -implicitDefEqProofs only[go_sem])|simp (disch:=omega) only[Ad]|((with_reducible apply Ab);exact rfl)
 refine AU (α:=Nat) (l0:=?l1) (m0:=?m1) (fun x=>[(5,.d (.int .i64 (x:Int)))]) (fun x=>[]) (fun x=>x<=xs.length/\∀j,j<x->bU xs m j=true) (fun x=>xs.length-x) 0 ?h01 ?he1 ?he21 ?hI1 ?step1
 case h01=>(simp -implicitDefEqProofs only[go_sem];rfl)
 case he1=>rfl
 case he21=>rfl
 case' step1=>(rintro i hI;try dsimp only at hI)
 case' hI1=>try dsimp only
 ·exact⟨by omega,fun j hj=>absurd hj (by omega)⟩
 ·obtain⟨h1,h2⟩:=hI
  have hwm:IntKind.i64.wrap (m-1)=m-1:=AZ _ (by omega)
  by_cases h:i<xs.length
  ·have h':(i:Int)<(xs.length:Int):=by omega
   have hw:IntKind.i64.wrap ((i:Int)+1)=((i+1:Nat):Int):=by rw[AZ _ (by omega)];omega
   have c1:=D9 (xs[i]?.getD 0) 0 (m-1)
   cases hb:bU xs m i with
   |true =>
    have hb2:=hb
    unfold bU at hb2
    simp only[decide_eq_true_eq] at hb2
    obtain⟨k1,k2,k3⟩:=hb2
    rw[decide_eq_true (by omega)] at c1
    by_cases h0:0<i
    ·have h0':(0:Int)<(i:Int):=by omega
     have k4:=k3 h0
     have q3:¬xs[i]?.getD 0<=xs[i-1]?.getD 0:=by omega
     have hw2:IntKind.i64.wrap ((i:Int)-1)=((i-1:Nat):Int):=by rw[AZ _ (by omega)];omega
     (try (simp -implicitDefEqProofs only[go_sem,h',hw,hw2,hwm,h0',q3]));repeat' first|(with_reducible first|exact tI|refine aI ?_ ?_|intro _)|((first|with_reducible refine AJ ?_ ?_<;>intro _|(with_reducible refine isCall ?_);first|refine AE c1 ?_)<;>try (simp -implicitDefEqProofs only[go_sem,h',hw,hw2,hwm,h0',q3]))|simp (disch:=omega) only[Ad]|((with_reducible apply Ab);exact rfl)
     all_goals first|omega|(simp<;>omega)|skip
     all_goals first
      |(
        rename_i j hj
        rcases Nat.lt_succ_iff_lt_or_eq.1 hj with hj|rfl
        ·exact h2 j hj
        ·exact hb)
      |(simp at *;done)|(simp at *;omega)|skip
    ·have h0':¬(0:Int)<(i:Int):=by omega
     (try (simp -implicitDefEqProofs only[go_sem,h',hw,hwm,h0']));repeat' first|(with_reducible first|exact tI|refine aI ?_ ?_|intro _)|((first|with_reducible refine AJ ?_ ?_<;>intro _|(with_reducible refine isCall ?_);first|refine AE c1 ?_)<;>try (simp -implicitDefEqProofs only[go_sem,h',hw,hwm,h0']))|simp (disch:=omega) only[Ad]|((with_reducible apply Ab);exact rfl)
     all_goals first|omega|(simp<;>omega)|skip
     all_goals first
      |(
        rename_i j hj
        rcases Nat.lt_succ_iff_lt_or_eq.1 hj with hj|rfl
        ·exact h2 j hj
        ·exact hb)
      |(simp at *;done)|(simp at *;omega)|skip
   |false =>
    have hs:=WG h hb
    unfold bU at hb
    simp only[decide_eq_false_iff_not] at hb
    by_cases q1:0<=xs[i]?.getD 0/\xs[i]?.getD 0<=m-1
    ·rw[decide_eq_true q1] at c1
     have h0:0<i:=by
      by_cases h0:0<i
      ·exact h0
      ·exact absurd ⟨by omega,by omega,fun h=>absurd h h0⟩ hb
     have hw2:IntKind.i64.wrap ((i:Int)-1)=((i-1:Nat):Int):=by rw[AZ _ (by omega)];omega
     have h0':(0:Int)<(i:Int):=by omega
     have q3:xs[i]?.getD 0<=xs[i-1]?.getD 0:=by
      by_cases q3:xs[i]?.getD 0<=xs[i-1]?.getD 0
      ·exact q3
      ·exact absurd ⟨by omega,by omega,fun h=>by omega⟩ hb
     (try (simp -implicitDefEqProofs only[go_sem,h',hw,hw2,hwm,h0',q3,hs]));repeat' first|(with_reducible first|exact tI|refine aI ?_ ?_|intro _)|((first|with_reducible refine AJ ?_ ?_<;>intro _|(with_reducible refine isCall ?_);first|refine AE c1 ?_)<;>try (simp -implicitDefEqProofs only[go_sem,h',hw,hw2,hwm,h0',q3,hs]))|simp (disch:=omega) only[Ad]|((with_reducible apply Ab);exact rfl)
     all_goals first|omega|(simp<;>omega)|skip
     all_goals first|(simp at *;done)|(simp at *;omega)|skip
    ·rw[decide_eq_false q1] at c1
     (try (simp -implicitDefEqProofs only[go_sem,h',hw,hwm,hs]));repeat' first|(with_reducible first|exact tI|refine aI ?_ ?_|intro _)|((first|with_reducible refine AJ ?_ ?_<;>intro _|(with_reducible refine isCall ?_);first|refine AE c1 ?_)<;>try (simp -implicitDefEqProofs only[go_sem,h',hw,hwm,hs]))|simp (disch:=omega) only[Ad]|((with_reducible apply Ab);exact rfl)
     all_goals first|omega|(simp<;>omega)|skip
  ·have h':¬(i:Int)<(xs.length:Int):=by omega
   have hs:Cq xs m=true:=Ol fun j hj=>h2 j (by omega)
   (try (simp -implicitDefEqProofs only[go_sem,h',hs]));repeat' first|(with_reducible first|exact tI|refine aI ?_ ?_|intro _|refine AJ ?_ ?_<;>intro _<;>try simp -implicitDefEqProofs only[go_sem,h',hs])|simp (disch:=omega) only[Ad]|((with_reducible apply Ab);exact rfl)
   all_goals first|omega|(simp<;>omega)|skip
theorem T_ (nl:Bool) (xs:List Int) (n:Int):BR E0 ST [.list nl (Aa xs),.int .i64 n] (.bool (f9 xs n)):=by
 refine AM Uu Af (by simp) fun hwf=>?_
 simp only[CU,Bu,Bt,Bq,Cd,Cc,Dt,Cb,A2,A9,A_,Bz,BG,List.length_map,BH,true_and,and_true] at hwf
 rw[AQ];unfold PU
 (try (simp -implicitDefEqProofs only[go_sem]));repeat' first|(with_reducible first|exact tI|refine aI ?_ ?_|intro _|refine AJ ?_ ?_<;>intro _<;>try simp -implicitDefEqProofs only[go_sem])|simp (disch:=omega) only[Ad]|((with_reducible apply Ab);exact rfl)
 refine AU (α:=Nat) (l0:=?l2) (m0:=?m2) (fun x=>[(5,.d (.int .i64 (x:Int)))]) (fun x=>[]) (fun x=>x<=xs.length/\∀j,j<x->xs[j]?.getD 0≠n) (fun x=>xs.length-x) 0 ?h02 ?he2 ?he22 ?hI2 ?step2
 case h02=>(simp -implicitDefEqProofs only[go_sem];rfl)
 case he2=>rfl
 case he22=>rfl
 case' step2=>(rintro i hI;try dsimp only at hI)
 case' hI2=>try dsimp only
 ·exact⟨by omega,fun j hj=>absurd hj (by omega)⟩
 ·obtain⟨h1,h2⟩:=hI
  by_cases h:i<xs.length
  ·have h':(i:Int)<(xs.length:Int):=by omega
   have hw:IntKind.i64.wrap ((i:Int)+1)=((i+1:Nat):Int):=by rw[AZ _ (by omega)];omega
   by_cases hb:xs[i]?.getD 0=n
   ·have hs:=Zx h hb
    (try (simp -implicitDefEqProofs only[go_sem,h',hw,hb,hs]));repeat' first|(with_reducible first|exact tI|refine aI ?_ ?_|intro _|refine AJ ?_ ?_<;>intro _<;>try simp -implicitDefEqProofs only[go_sem,h',hw,hb,hs])|simp (disch:=omega) only[Ad]|((with_reducible apply Ab);exact rfl)
    all_goals first|omega|(simp<;>omega)|skip
   ·(try (simp -implicitDefEqProofs only[go_sem,h',hw,hb]));repeat' first|(with_reducible first|exact tI|refine aI ?_ ?_|intro _|refine AJ ?_ ?_<;>intro _<;>try simp -implicitDefEqProofs only[go_sem,h',hw,hb])|simp (disch:=omega) only[Ad]|((with_reducible apply Ab);exact rfl)
    all_goals first|omega|(simp<;>omega)|skip
    all_goals first
     |(
      rename_i j hj
      rcases Nat.lt_succ_iff_lt_or_eq.1 hj with hj|rfl
      ·exact h2 j hj
      ·exact hb)
     |skip
  ·have h':¬(i:Int)<(xs.length:Int):=by omega
   have hs:f9 xs n=false:=f6 fun j hj=>h2 j (by omega)
   (try (simp -implicitDefEqProofs only[go_sem,h',hs]));repeat' first|(with_reducible first|exact tI|refine aI ?_ ?_|intro _|refine AJ ?_ ?_<;>intro _<;>try simp -implicitDefEqProofs only[go_sem,h',hs])|simp (disch:=omega) only[Ad]|((with_reducible apply Ab);exact rfl)
   all_goals first|omega|(simp<;>omega)|skip
theorem Sy (nl:Bool) (xs:List Int) (n:Int):∃r:Int,(decide (0<=r)=f9 xs n)/\BR E0 DP [.list nl (Aa xs),.int .i64 n] (.int .i64 r):=by
  obtain⟨r,hr⟩:∃r:Int,r=match xs.findIdx? (fun x=>decide (n=x)) with|some i=>(i:Int)|none=>-1:=⟨_,rfl⟩
  refine⟨r,?_,?_⟩
  · rw[hr]
    cases hf:xs.findIdx? (fun x=>decide (n=x)) with
    |none =>
      rw[List.findIdx?_eq_none_iff] at hf
      rw[f6 fun i hi h=>?_]
      · rfl
      · have:=hf (xs[i]?.getD 0) (by rw[List.getElem?_eq_getElem hi];simp)
        simp[h] at this
    |some i =>
      rw[List.findIdx?_eq_some_iff_getElem] at hf
      have:=hf.2.1
      have hx:n=xs[i]'hf.1:=by simpa using this
      rw[Zx hf.1 (by rw[List.getElem?_eq_getElem hf.1,Option.getD_some];exact hx.symm)]
      simp
  · refine AM ES Af (by simp) fun hwf=>?_
    simp only[CU,Bu,Bt,Bq,Cd,Cc,Dt,Cb,A2,A9,A_,Bz,BG,List.length_map,BH,true_and,and_true] at hwf
    rw[AQ];unfold DB
    (try (simp -implicitDefEqProofs only[go_sem]));repeat' first|(with_reducible first|exact tI|refine aI ?_ ?_|intro _|refine AJ ?_ ?_<;>intro _<;>try simp -implicitDefEqProofs only[go_sem])|simp (disch:=omega) only[Ad]|((with_reducible apply Ab);exact rfl)
    refine AU (α:=Nat) (l0:=?l3) (m0:=?m3) (fun x=>[(8,.d (.int .i64 (x:Int)))]) (fun x=>[]) (fun x=>x<=xs.length/\∀j,j<x->xs[j]?.getD 0≠n) (fun x=>xs.length-x) 0 ?h03 ?he3 ?he23 ?hI3 ?step3
    case h03=>(simp -implicitDefEqProofs only[go_sem];rfl)
    case he3=>rfl
    case he23=>rfl
    case' step3=>(rintro i hI;try dsimp only at hI)
    case' hI3=>try dsimp only
    · exact⟨by omega,fun j hj=>absurd hj (by omega)⟩
    · obtain⟨h1,h2⟩:=hI
      by_cases h:i<xs.length
      · have h':(i:Int)<(xs.length:Int):=by omega
        have hw:IntKind.i64.wrap ((i:Int)+1)=((i+1:Nat):Int):=by rw[AZ _ (by omega)];omega
        by_cases hb:n=xs[i]?.getD 0
        · have hi:r=(i:Int):=by
            rw[hr]
            have:xs.findIdx? (fun x=>decide (n=x))=some i:=by
              rw[List.findIdx?_eq_some_iff_getElem]
              refine⟨h,?_,fun j hj=>?_⟩
              · rw[List.getElem?_eq_getElem h] at hb;simpa using hb
              · have:=h2 j hj
                rw[List.getElem?_eq_getElem (by omega),Option.getD_some] at this
                simpa using fun e=>this e.symm
            rw[this]
          rw[hi]
          have hb1:=hb
          (try (simp -implicitDefEqProofs only[go_sem,h',hw,←hb]));repeat' first|(with_reducible first|exact tI|refine aI ?_ ?_|intro _|refine AJ ?_ ?_<;>intro _<;>try simp -implicitDefEqProofs only[go_sem,h',hw,←hb])|simp (disch:=omega) only[Ad]|((with_reducible apply Ab);exact rfl)
          all_goals first|omega|(simp<;>omega)|skip
        · (try (simp -implicitDefEqProofs only[go_sem,h',hw,hb]));repeat' first|(with_reducible first|exact tI|refine aI ?_ ?_|intro _|refine AJ ?_ ?_<;>intro _<;>try simp -implicitDefEqProofs only[go_sem,h',hw,hb])|simp (disch:=omega) only[Ad]|((with_reducible apply Ab);exact rfl)
          all_goals first|omega|(simp<;>omega)|skip
          all_goals first
            |(
               rename_i j hj
               rcases Nat.lt_succ_iff_lt_or_eq.1 hj with hj|rfl
               · exact h2 j hj
               · exact fun e=>hb e.symm)
            |skip
      · have h':¬(i:Int)<(xs.length:Int):=by omega
        have hi:r=-1:=by
          rw[hr]
          have:xs.findIdx? (fun x=>decide (n=x))=none:=by
            rw[List.findIdx?_eq_none_iff]
            intro x hx
            obtain⟨j,hj,rfl⟩:=List.getElem_of_mem hx
            have:=h2 j (by omega)
            rw[List.getElem?_eq_getElem hj,Option.getD_some] at this
            simpa using fun e=>this e.symm
          rw[this]
        rw[hi]
        (try (simp -implicitDefEqProofs only[go_sem,h']));repeat' first|(with_reducible first|exact tI|refine aI ?_ ?_|intro _|refine AJ ?_ ?_<;>intro _<;>try simp -implicitDefEqProofs only[go_sem,h'])|simp (disch:=omega) only[Ad]|((with_reducible apply Ab);exact rfl)
        all_goals first|omega|(simp<;>omega)|skip
theorem PF (nl:Bool) (xs:List Int) (n:Int):BR E0 EH [.list nl (Aa xs),.int .i64 n] (.bool (f9 xs n)):=by
 refine AM Gd Af (by simp) fun hwf=>?_
 obtain⟨r,hr,c1⟩:=Sy nl xs n
 rw[AQ];unfold Dy
 rw[←hr]
 by_cases h:0<=r
 ·(try (simp -implicitDefEqProofs only[go_sem,h]));repeat' first|(with_reducible first|exact tI|refine aI ?_ ?_|intro _)|((first|with_reducible refine AJ ?_ ?_<;>intro _|(with_reducible refine isCall ?_);first|refine AE c1 ?_)<;>try (simp -implicitDefEqProofs only[go_sem,h]))|simp (disch:=omega) only[Ad]
  all_goals first|rfl|(simp at *;done)|(simp[h])
 ·(try (simp -implicitDefEqProofs only[go_sem,h]));repeat' first|(with_reducible first|exact tI|refine aI ?_ ?_|intro _)|((first|with_reducible refine AJ ?_ ?_<;>intro _|(with_reducible refine isCall ?_);first|refine AE c1 ?_)<;>try (simp -implicitDefEqProofs only[go_sem,h]))|simp (disch:=omega) only[Ad]
  all_goals first|rfl|(simp at *;done)|(simp[h])
end
section
theorem Kl {α:Type}(w:List α) (x:α):(w++[x]).isEmpty=false:=by cases w<;>rfl
attribute [local irreducible] IntKind.wrap Ai Option.getD and or
theorem H7 (nl:Bool) (xs:List F) (hl:xs.length<=1000) (hne:0<xs.length) (hnl:nl=false):Hk E0 Bo [] [.d (.list nl (us xs))] [(7,1,.row 135 1 false (us xs))] (.own 7 1):=by
 subst hnl
 refine C3 C5 Af (by simp) (by simp[Pu,E9,D7]) (by simp[J4]) fun hwf hwo=>?_
 rw[De];unfold Be
 have hn:¬xs=[]:=by intro h;rw[h] at hne;simp at hne
 (try (simp -implicitDefEqProofs only[go_sem,hn]));repeat' first|(with_reducible first|exact tI|refine aI ?_ ?_|intro _|refine AJ ?_ ?_<;>intro _<;>try simp -implicitDefEqProofs only[go_sem,hn])|simp (disch:=omega) only[Ad]
 all_goals first|omega|rfl
end
end Go.Pw
