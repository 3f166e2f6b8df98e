/- A part of the proof. -/
import Derived.Test.YtibkjeolahobbaaDoorPgCdChrBw
set_option linter.all false
open Go Go.Pw Go.Proofs
namespace Go.Pw
set_option maxRecDepth 100000
set_option maxHeartbeats 1600000
def F2 (c:AQ):List D:=(List.range 16).map fun s=>.list false (Al (c.stm s))
theorem P3 (c:AQ):(F2 c).length=16:=by simp[F2]
theorem P4 (c:AQ) {s:Nat}(h:s<16):(F2 c)[s]?=some (.list false (Al (c.stm s))):=by simp[F2,h]
theorem Ro (c:AQ):(F2 c).take 16=F2 c:=List.take_of_length_le (by rw[P3];omega)
def Rd (c:AX) (r:List D):List D:=.int .i64 c.code.bits :: .int .i64 c.code.out :: .int .i64 c.code.least :: .int .i64 c.code.most :: .list c.code.nw (GN c.code.words) :: .list c.code.nn (GN c.code.next) :: .int .i64 c.L :: .int .i64 c.P :: .int .i64 c.Q :: .list c.nm (Al c.mark) :: .int .i64 c.seed :: .int .i64 c.errs::r
theorem BQ (c:AX) (r:List D):Rd c r=.int .i64 c.code.bits :: .int .i64 c.code.out :: .int .i64 c.code.least :: .int .i64 c.code.most :: .list c.code.nw (GN c.code.words) :: .list c.code.nn (GN c.code.next) :: .int .i64 c.L :: .int .i64 c.P :: .int .i64 c.Q :: .list c.nm (Al c.mark) :: .int .i64 c.seed :: .int .i64 c.errs::r:=rfl
theorem QT (a b c d e f g h i j k l:D) (r:List D) (n:Nat):(a::b::c::d::e::f::g::h::i::j::k::l::r)[12+n]?=r[n]?:=by rw[Nat.add_comm];rfl
theorem Oz (x:Int):(some x).getD 0=x:=rfl
theorem mZ:∀n:Fin 16,A3 .and .i64 (n.val:Int) 3=(n.val:Int)%4:=by decide +kernel
theorem fF {b k:Nat}(s:Int) (h:k<4/b):(JD b s)[k]?.getD 0=s/2^((4/b-1-k)*b)%2^b:=by simp[JD,h]
theorem a9 {b a:Int}{k s:Nat}(hb:b=1\/b=2) (hk:k<4/b.toNat) (ha:a=4-b*((k:Int)+1)) (hs:s<16) :
  A3 .and .i64 ((s:Int)/2^a.toNat) (IntKind.i64.wrap (2^b.toNat-1))=(JD b.toNat (s:Int))[k]?.getD 0:=by
 rw[fF _ hk]
 rcases hb with rfl|rfl
 ·have e:a.toNat=(4/(1:Int).toNat-1-k)*(1:Int).toNat:=by simp;omega
  rw[←e,show IntKind.i64.wrap (2^(1:Int).toNat-1)=1 from Ak 1 (by omega),Yf];rfl
 ·have e:a.toNat=(4/(2:Int).toNat-1-k)*(2:Int).toNat:=by simp at hk ⊢;omega
  rw[←e,show IntKind.i64.wrap (2^(2:Int).toNat-1)=3 from Ak 3 (by omega)]
  have h1:(s:Int)/2^a.toNat=((s/2^a.toNat:Nat):Int):=by push_cast;rfl
  have h2:s/2^a.toNat<16:=Nat.lt_of_le_of_lt (Nat.div_le_self _ _) hs
  rw[h1]
  exact mZ ⟨_,h2⟩
theorem jX (n:Int):n.fdiv (2^min 1 64)=n/2:=by rw[WZ];rfl
theorem Sf {L P Q:Int}(h:Cv L P Q=true):2<=L/\L<=15/\1<=P/\P<=8/\P<L/\1<=Q/\Q<=8:=by
 obtain⟨l,p,q,rfl,rfl,rfl,b1,b2,b3,b4,b5,b6,b7,hc⟩:=LS h
 omega
theorem R8 {L P Q:Int}(h:Cv L P Q=true):2<=Q*L/\Q*L<=120:=by
 obtain⟨l,p,q,rfl,rfl,rfl,b1,b2,b3,b4,b5,b6,b7,hc⟩:=LS h
 have h1:q*l<=8*15:=Nat.mul_le_mul b7 b2
 have h2:1*2<=q*l:=Nat.mul_le_mul b6 b1
 have h3:(q:Int)*(l:Int)=((q*l:Nat):Int):=by push_cast;rfl
 rw[h3];omega
attribute [local congr] Bi A9 A_ Aq Bj Ax Az Ay Ap Aj Ad AY Au Ae Av BH BL BJ BK BI BM BE Ah Aw Ai BC BS Ag BF BG BD BA BB A8 Bl A' Ar Af
attribute [local irreducible] IntKind.wrap A3 Option.getD and or
theorem IZ (n lo hi:Int):CK E0 LB [.int .i64 n,.int .i64 lo,.int .i64 hi] (.bool (Cq n lo hi)):=by
 refine AM OW A0 (by simp) fun hwf=>?_
 rw[AU];unfold Jj
 (try (simp -implicitDefEqProofs only[go_sem]));repeat' first|(with_reducible first|exact tI|refine aI ?_ ?_|intro _)|((first|with_reducible refine AO ?_ ?_<;>intro _)<;>try (simp -implicitDefEqProofs only[go_sem]))|simp (disch:=omega) only[An]
 all_goals (simp only[Cq];congr 1;symm;first|(rw[decide_eq_true_eq];omega)|(rw[decide_eq_false_iff_not];omega))
theorem E6 (c:AX) (r:List D) (h:Cv c.L c.P c.Q=true):CK E0 E2 [.ptr (Rd c r)] (.int .i64 (c.Q*c.L)):=by
 have hb:=R8 h
 have hw:IntKind.i64.wrap (c.Q*c.L)=c.Q*c.L:=Ak _ (by omega)
 refine AM G4 A0 (by simp) fun hwf=>?_
 rw[AU];unfold Eh
 (try (simp -implicitDefEqProofs only[go_sem,BQ,hw]));repeat' first|(with_reducible first|exact tI|refine aI ?_ ?_|intro _)|((first|with_reducible refine AO ?_ ?_<;>intro _)<;>try (simp -implicitDefEqProofs only[go_sem,BQ,hw]))|simp (disch:=omega) only[An]
 all_goals first|rfl|omega|skip
theorem Ep (c:AX):CK E0 Fz [.ptr (Rd c (F2 c.code))] (.int .i64 (c.code.sz:Nat)):=by
 have h0:(F2 c.code)[0]?=some (.list false (Al (c.code.stm 0))):=P4 _ (by omega)
 have hl:=LU c.code 0
 refine AM IK A0 (by simp) fun hwf=>?_
 rw[AU];unfold FW
 (try (simp -implicitDefEqProofs only[go_sem,BQ,h0,hl]));repeat' first|(with_reducible first|exact tI|refine aI ?_ ?_|intro _)|((first|with_reducible refine AO ?_ ?_<;>intro _)<;>try (simp -implicitDefEqProofs only[go_sem,BQ,h0,hl]))|simp (disch:=omega) only[An]
 all_goals first|rfl|omega|skip
theorem Pi {c:AX}(h:Cv c.L c.P c.Q=true):c.Q*c.L=((c.syms:Nat):Int):=by have:=R8 h;unfold AX.syms;omega
theorem D2 (c:AX) (h:Cv c.L c.P c.Q=true) (hc:c.code.ok=true):CK E0 F1 [.ptr (Rd c (F2 c.code))] (.int .i64 ((c.syms*c.code.sz:Nat):Int)):=by
 have c1:=E6 c (F2 c.code) h
 have c2:=Ep c
 have hb:=R8 h
 have he:=Pi h
 have hz:=E3 hc
 rw[he] at c1 hb
 have hm:c.syms*c.code.sz<=120*20:=Nat.mul_le_mul (by omega) hz.2
 have hw:IntKind.i64.wrap ((c.syms:Int)*(c.code.sz:Int))=((c.syms*c.code.sz:Nat):Int):=by rw[show (c.syms:Int)*(c.code.sz:Int)=((c.syms*c.code.sz:Nat):Int) by push_cast;rfl];exact Ak _ (by omega)
 refine AM IM A0 (by simp) fun hwf=>?_
 rw[AU];unfold FY
 (try (simp -implicitDefEqProofs only[go_sem,hw]));repeat' first|(with_reducible first|exact tI|refine aI ?_ ?_|intro _)|((first|with_reducible refine AO ?_ ?_<;>intro _|(with_reducible refine isCall ?_);first|refine AE c1 ?_|refine AE c2 ?_)<;>try (simp -implicitDefEqProofs only[go_sem,hw]))|simp (disch:=omega) only[An]
 all_goals first|rfl|omega|skip
theorem KK (n:Int):CK E0 E9 [.int .i64 n] (.bool (!Cq n 0 1)):=by
 refine AM KJ A0 (by simp) fun hwf=>?_
 rw[AU];unfold GT
 (try (simp -implicitDefEqProofs only[go_sem,jX]));repeat' first|(with_reducible first|exact tI|refine aI ?_ ?_|intro _)|((first|with_reducible refine AO ?_ ?_<;>intro _)<;>try (simp -implicitDefEqProofs only[go_sem,jX]))|simp (disch:=omega) only[An]
 all_goals (simp only[Cq];congr 1;symm;first|(rw[Bool.not_eq_false',decide_eq_true_eq];omega)|(rw[Bool.not_eq_true',decide_eq_false_iff_not];omega))
theorem Lq (nl:Bool) (xs:List Int):CK E0 H9 [.list nl (Al xs)] (.bool (Hi xs)):=by
 have c1:=CX nl xs E9 [] (fun n=>!Cq n 0 1) (by kernel_rfl) rfl (fun x _=>KK x)
 refine AM Ll A0 (by simp) fun hwf=>?_
 simp only[EM,DU,DT,DI,Ed,Ec,GL,Eb,Bq,B3,B4,DY,CI,List.length_map,CB,true_and,and_true] at hwf
 rw[AU];unfold HG
 have e:(!xs.any fun n=>!Cq n 0 1)=Ab xs:=by simp[Ab,List.all_eq_not_any_not]
 (try (simp -implicitDefEqProofs only[go_sem]));repeat' first|(with_reducible first|exact tI|refine aI ?_ ?_|intro _)|((first|with_reducible refine AO ?_ ?_<;>intro _|(with_reducible refine isCall ?_);first|refine AE c1 ?_)<;>try (simp -implicitDefEqProofs only[go_sem]))|simp (disch:=omega) only[An]
 all_goals (unfold Hi;rw[←e];first|rfl|(congr 1;symm;simp_all;done)|(congr 1;symm;simp_all;omega)|skip)
theorem EV (c:AX) (h:Cv c.L c.P c.Q=true):CK E0 J2 [FG c] (.int .i64 (c.Q*c.L)):=by
 have hb:=R8 h
 have hw:IntKind.i64.wrap (c.Q*c.L)=c.Q*c.L:=Ak _ (by omega)
 refine AM NT A0 (by simp) fun hwf=>?_
 rw[AU];unfold Ib
 (try (simp -implicitDefEqProofs only[go_sem,AI,AH,hw]));repeat' first|(with_reducible first|exact tI|refine aI ?_ ?_|intro _)|((first|with_reducible refine AO ?_ ?_<;>intro _)<;>try (simp -implicitDefEqProofs only[go_sem,AI,AH,hw]))|simp (disch:=omega) only[An]
 all_goals first|rfl|omega|skip
theorem KY (c:AX) (h:c.code.ok=true):CK E0 N4 [FG c] (.int .i64 (c.code.sz:Nat)):=by
 have h1:=AQ.ok_head h
 have hz:=E3 h
 have e:IntKind.i64.wrap (IntKind.i64.wrap ((4:Int).tdiv c.code.bits)*c.code.out)=((c.code.sz:Nat):Int):=by
  have h2:c.code.bits=1\/c.code.bits=2:=by omega
  unfold AQ.sz
  rcases h2 with h2|h2
  ·rw[h2,show (4:Int).tdiv 1=4 from rfl,Ak 4 (by omega),Ak _ (by omega),show (1:Int).toNat=1 from rfl];omega
  ·rw[h2,show (4:Int).tdiv 2=2 from rfl,Ak 2 (by omega),Ak _ (by omega),show (2:Int).toNat=2 from rfl];omega
 refine AM Qe A0 (by simp) fun hwf=>?_
 rw[AU];unfold Lu
 (try (simp -implicitDefEqProofs only[go_sem,AI,AH,e]));repeat' first|(with_reducible first|exact tI|refine aI ?_ ?_|intro _)|((first|with_reducible refine AO ?_ ?_<;>intro _)<;>try (simp -implicitDefEqProofs only[go_sem,AI,AH,e]))|simp (disch:=omega) only[An]
 all_goals first|rfl|omega|skip
theorem Gj (c:AX) (h:Cv c.L c.P c.Q=true) (hc:c.code.ok=true) (hm:c.mark.length<=1000):CK E0 L5 [FG c] (.int .i64 (c.tot:Nat)):=by
 have c1:=EV c h
 have c2:=KY c hc
 have hb:=R8 h
 have he:=Pi h
 have hz:=E3 hc
 rw[he] at c1 hb
 have hmm:c.syms*c.code.sz<=120*20:=Nat.mul_le_mul (by omega) hz.2
 have hw:IntKind.i64.wrap ((c.syms:Int)*(c.code.sz:Int))=((c.syms*c.code.sz:Nat):Int):=by rw[show (c.syms:Int)*(c.code.sz:Int)=((c.syms*c.code.sz:Nat):Int) by push_cast;rfl];exact Ak _ (by omega)
 have hw2:IntKind.i64.wrap ((c.mark.length:Int)+((c.syms*c.code.sz:Nat):Int))=((c.tot:Nat):Int):=by rw[Ak _ (by omega)];unfold AX.tot;omega
 refine AM PT A0 (by simp) fun hwf=>?_
 rw[AU];unfold Kb
 (try (simp -implicitDefEqProofs only[go_sem,AI,AH,hw,hw2]));repeat' first|(with_reducible first|exact tI|refine aI ?_ ?_|intro _)|((first|with_reducible refine AO ?_ ?_<;>intro _|(with_reducible refine isCall ?_);first|refine AE c1 ?_|refine AE c2 ?_)<;>try (simp -implicitDefEqProofs only[go_sem,AI,AH,hw,hw2]))|simp (disch:=omega) only[An]
 all_goals first|rfl|omega|skip
theorem OH (s:Nat) (h:s<16):CK E0 LC [.int .i64 (s:Int)] (.list false (Al (JD 1 s))):=by
 have e0:∀x:Int,0<=x->x.tmod 2=x%2:=fun x hx=>Int.tmod_eq_emod_of_nonneg hx
 have e1:∀y:Int,(s:Int).tdiv y=(s:Int)/y:=fun y=>Int.tdiv_eq_ediv_of_nonneg (by omega)
 have e:JD 1 (s:Int)=[(s:Int).tdiv 8,((s:Int).tdiv 4).tmod 2,((s:Int).tdiv 2).tmod 2,(s:Int).tmod 2]:=by
  rw[e1,e1,e1,e0 _ (by omega),e0 _ (by omega),e0 _ (by omega)]
  show [(s:Int)/8%2,(s:Int)/4%2,(s:Int)/2%2,(s:Int)/1%2]=_
  rw[show (s:Int)/8%2=(s:Int)/8 by omega,Int.ediv_one]
 have w8:IntKind.i64.wrap ((s:Int).tdiv 8)=(s:Int).tdiv 8:=Ak _ (by rw[e1];omega)
 have w4:IntKind.i64.wrap ((s:Int).tdiv 4)=(s:Int).tdiv 4:=Ak _ (by rw[e1];omega)
 have w2:IntKind.i64.wrap ((s:Int).tdiv 2)=(s:Int).tdiv 2:=Ak _ (by rw[e1];omega)
 refine AM OX A0 (by simp) fun hwf=>?_
 rw[AU];unfold Jk
 (try (simp -implicitDefEqProofs only[go_sem,e,w8,w4,w2]));repeat' first|(with_reducible first|exact tI|refine aI ?_ ?_|intro _)|((first|with_reducible refine AO ?_ ?_<;>intro _)<;>try (simp -implicitDefEqProofs only[go_sem,e,w8,w4,w2]))|simp (disch:=omega) only[An]
 all_goals first|rfl|omega|skip
theorem DR {α:Type}{l:List α}(h:l≠[]):l.isEmpty=false:=by cases l with
 |nil=>exact absurd rfl h
 |cons _ _=>rfl
theorem Ia (c:AX) (hc:c.code.ok=true) (s:Nat) (h:s<16):CK E0 LD [FG c,.int .i64 (s:Int)] (.list false (Al (c.code.stm s))):=by
 have c1:=OH s h
 have c2:=OI c.code hc 0 false (JD c.code.bits.toNat s) (Pu hc) (Px hc s) (by rw[Ho];rcases Ny hc with h1|h1<;>rw[h1]<;>omega)
 have he:=DR (Sl hc s)
 unfold AQ.stm at he ⊢
 rw[he] at c2
 have h1:=AQ.ok_head hc
 have hw:JD 1 (s:Int)=[(s:Int)/8%2,(s:Int)/4%2,(s:Int)/2%2,(s:Int)/1%2]:=rfl
 refine AM OY A0 (by simp) fun hwf=>?_
 rw[AU];unfold Jl
 by_cases hb:c.code.bits=2
 ·have h2:JD c.code.bits.toNat (s:Int)=[2*((s:Int)/8%2)+(s:Int)/4%2,2*((s:Int)/2%2)+(s:Int)/1%2]:=by
   rw[hb]
   show [(s:Int)/4%4,(s:Int)/1%4]=_
   congr 1
   ·omega
   ·congr 1;omega
  rw[h2] at c2 ⊢
  rw[hw] at c1
  have wa:IntKind.i64.wrap (2*((s:Int)/8%2))=2*((s:Int)/8%2):=Ak _ (by omega)
  have wb:IntKind.i64.wrap (2*((s:Int)/2%2))=2*((s:Int)/2%2):=Ak _ (by omega)
  have wc:IntKind.i64.wrap (2*((s:Int)/8%2)+(s:Int)/4%2)=2*((s:Int)/8%2)+(s:Int)/4%2:=Ak _ (by omega)
  have wd:IntKind.i64.wrap (2*((s:Int)/2%2)+(s:Int)/1%2)=2*((s:Int)/2%2)+(s:Int)/1%2:=Ak _ (by omega)
  have hbT:=eq_true hb
  (try (simp -implicitDefEqProofs only[go_sem,AI,AH,hbT,Oz,wa,wb,wc,wd]));repeat' first|(with_reducible first|exact tI|refine aI ?_ ?_|intro _)|((first|with_reducible refine AO ?_ ?_<;>intro _|(with_reducible refine isCall ?_);first|refine AE c1 ?_|refine AE c2 ?_)<;>try (simp -implicitDefEqProofs only[go_sem,AI,AH,hbT,Oz,wa,wb,wc,wd]))|simp (disch:=omega) only[An]
  all_goals first|rfl|omega|skip
 ·have h2:c.code.bits.toNat=1:=by omega
  rw[h2] at c2 ⊢
  (try (simp -implicitDefEqProofs only[go_sem,AI,AH,hb]));repeat' first|(with_reducible first|exact tI|refine aI ?_ ?_|intro _)|((first|with_reducible refine AO ?_ ?_<;>intro _|(with_reducible refine isCall ?_);first|refine AE c1 ?_|refine AE c2 ?_)<;>try (simp -implicitDefEqProofs only[go_sem,AI,AH,hb]))|simp (disch:=omega) only[An]
  all_goals first|rfl|omega|skip
theorem Du (n1 n2:Bool) (xs ys:List Int):CK E0 N5 [.list n1 (Al xs),.list n2 (Al ys)] (.bool (decide (xs=ys))):=by
 refine AM Qf A0 (by simp) fun hwf=>?_
 simp only[EM,DU,DT,DI,Ed,Ec,GL,Eb,Bq,B3,B4,DY,CI,List.length_map,CB,true_and,and_true] at hwf
 rw[AU];unfold Lv
 simp -implicitDefEqProofs only[go_sem]
 refine AZ (α:=Nat) (l0:=?l1) (m0:=?m1) (fun x=>[(5,.d (.int .i64 (x:Int)))]) (fun x=>[]) (fun x=>x<=xs.length/\x<=ys.length/\xs.take x=ys.take x) (fun x=>xs.length-x) 0 ?h01 ?he1 ?he21 ?hI1 ?step1
 case h01=>(simp -implicitDefEqProofs only[go_sem];rfl)
 case he1=>rfl
 case he21=>rfl
 case' step1=>(rintro i hI;try dsimp only at hI)
 case' hI1=>try dsimp only
 ·exact⟨Nat.zero_le _,Nat.zero_le _,rfl⟩
 ·obtain⟨i1,i2,i3⟩:=hI
  by_cases h:i<xs.length/\i<ys.length
  ·have h1:(i:Int)<(xs.length:Int):=by omega
   have h2:(i:Int)<(ys.length:Int):=by omega
   have hwi:IntKind.i64.wrap ((i:Int)+1)=((i+1:Nat):Int):=by rw[Ak _ (by omega)];omega
   have hx:xs.take (i+1)=xs.take i++[xs[i]?.getD 0]:=by rw[List.take_add_one];simp[h.1]
   have hy:ys.take (i+1)=ys.take i++[ys[i]?.getD 0]:=by rw[List.take_add_one];simp[h.2]
   (try (simp -implicitDefEqProofs only[go_sem,h1,h2,hwi,h.1,h.2]));repeat' first|(with_reducible first|exact tI|refine aI ?_ ?_|intro _)|((first|with_reducible refine AO ?_ ?_<;>intro _)<;>try (simp -implicitDefEqProofs only[go_sem,h1,h2,hwi,h.1,h.2]))|simp (disch:=omega) only[An]|((with_reducible refine A5 ?_);refine⟨_,rfl,?_,?_⟩)
   all_goals first|omega|(simp;done)|(simp;omega)|skip
   ·rename_i he
    rw[hx,hy,i3,he]
   ·rename_i he
    congr 1;symm
    rw[decide_eq_false_iff_not]
    intro e;exact he (by rw[e])
  ·by_cases hl:xs.length=ys.length
   ·have hi1:¬(i:Int)<(xs.length:Int):=by omega
    have hi2:¬(i:Int)<(ys.length:Int):=by omega
    have:xs=ys:=by rw[←List.take_of_length_le (l:=xs) (i:=i) (by omega),i3,List.take_of_length_le (by omega)]
    (try (simp -implicitDefEqProofs only[go_sem,hi1,hi2,hl]));repeat' first|(with_reducible first|exact tI|refine aI ?_ ?_|intro _)|((first|with_reducible refine AO ?_ ?_<;>intro _)<;>try (simp -implicitDefEqProofs only[go_sem,hi1,hi2,hl]))|simp (disch:=omega) only[An]|((with_reducible refine A5 ?_);refine⟨_,rfl,?_,?_⟩)
    all_goals first|omega|(simp;done)|(simp;omega)|skip
    all_goals first|(congr 1;symm;rw[decide_eq_true_eq];exact this)|skip
   ·have hx:xs≠ys:=fun e=>hl (by rw[e])
    have hd:decide (xs=ys)=false:=decide_eq_false hx
    rw[hd]
    (try (simp -implicitDefEqProofs only[go_sem]));repeat' first|(with_reducible first|exact tI|refine aI ?_ ?_|intro _)|((first|with_reducible refine AO ?_ ?_<;>intro _)<;>try (simp -implicitDefEqProofs only[go_sem]))|simp (disch:=omega) only[An]|((with_reducible refine A5 ?_);refine⟨_,rfl,?_,?_⟩)
    all_goals first|omega|(simp;done)|(simp;omega)|skip
    all_goals skip
theorem Nt (c:AQ) (hc:c.ok=true) (s:Nat) (h:s<16):CK E0 J' [HV c,.int .i64 (s:Int)] (.list false (Al (JD c.bits.toNat s))):=by
 have h1:=AQ.ok_head hc
 have hb:c.bits=1\/c.bits=2:=by omega
 have hn:c.bits.toNat=1\/c.bits.toNat=2:=Ny hc
 have hlen:=Ho c.bits.toNat (s:Int)
 refine AM Ng A0 (by simp) fun hwf=>?_
 rw[AU];unfold Iu
 have w0:IntKind.i64.wrap (4-c.bits)=4-c.bits:=Ak _ (by omega)
 (try (simp -implicitDefEqProofs only[go_sem,BO,A6,w0]));repeat' first|(with_reducible first|exact tI|refine aI ?_ ?_|intro _)|((first|with_reducible refine AO ?_ ?_<;>intro _)<;>try (simp -implicitDefEqProofs only[go_sem,BO,A6,w0]))|simp (disch:=omega) only[An]|((with_reducible refine BU ?_);refine⟨(_,_,_),rfl,?_,?_⟩)
 all_goals first|omega|(simp;done)|(simp;omega)|skip
 refine AZ (α:=Nat×Int×Bool) (l0:=?l2) (m0:=?m2) (fun x=>[(6,.d (.int .i64 x.2.1))]) (fun x=>[(26,.row 3 1 x.2.2 (Al ((JD c.bits.toNat (s:Int)).take x.1)))]) (fun x=>x.1<=4/c.bits.toNat/\x.2.1=4-c.bits*((x.1:Int)+1)/\x.2.2=decide (x.1=0)) (fun x=>4/c.bits.toNat-x.1) (0,(4-c.bits),true) ?h02 ?he2 ?he22 ?hI2 ?step2
 case h02=>(simp -implicitDefEqProofs only[go_sem,BO,A6];rfl)
 case he2=>rfl
 case he22=>rfl
 case' step2=>(rintro⟨k,a,nl⟩ hI;try dsimp only at hI)
 case' hI2=>try dsimp only
 ·exact⟨Nat.zero_le _,by rcases hb with h2|h2<;>rw[h2]<;>rfl,rfl⟩
 ·obtain⟨k1,k2,k3⟩:=hI
  change a=4-c.bits*((k:Int)+1) at k2
  change nl=decide (k=0) at k3
  by_cases hk:k<4/c.bits.toNat
  ·have ha:0<=a/\a<=3:=by
    rcases hb with h2|h2<;>rw[h2] at k2 hk<;>simp at hk<;>omega
   have h0:0<=a:=ha.1
   have e1:=a9 hb hk k2 h
   obtain⟨x,hx⟩:∃x,(JD c.bits.toNat (s:Int))[k]?.getD 0=x:=⟨_,rfl⟩
   have hst:(JD c.bits.toNat (s:Int)).take (k+1)=(JD c.bits.toNat (s:Int)).take k++[x]:=by
    rw[←hx,List.take_add_one,List.getElem?_eq_getElem (by rw[hlen];exact hk)];simp[Option.getD]
   rw[hx] at e1
   have hl4:((JD c.bits.toNat (s:Int)).take k).length<=4:=by rw[List.length_take,hlen];have:=Nat.div_le_self 4 c.bits.toNat;omega
   have wn:IntKind.i64.wrap (a-c.bits)=a-c.bits:=Ak _ (by omega)
   (try (simp -implicitDefEqProofs only[go_sem,BO,A6,h0,wn,e1]));repeat' first|(with_reducible first|exact tI|refine aI ?_ ?_|intro _)|((first|with_reducible refine AO ?_ ?_<;>intro _)<;>try (simp -implicitDefEqProofs only[go_sem,BO,A6,h0,wn,e1]))|simp (disch:=omega) only[An]|((with_reducible refine BU ?_);refine⟨(_,_,_),rfl,?_,?_⟩)
   all_goals first|omega|(simp;done)|(simp;omega)|skip
   rw[e1,←hst]
   refine⟨(k+1,a-c.bits,false),rfl,⟨by show k+1<=_;omega,?_,?_⟩,by show 4/c.bits.toNat-(k+1)<_;omega⟩
   ·show a-c.bits=4-c.bits*(((k+1:Nat):Int)+1)
    rw[k2];push_cast;rw[Int.mul_add,Int.mul_add,Int.mul_add];omega
   ·show false=decide (k+1=0)
    exact(decide_eq_false (by omega)).symm
  ·have ha:¬0<=a:=by
    rcases hb with h2|h2<;>rw[h2] at k2 hk<;>simp at hk<;>omega
   have hk0:nl=false:=by
     rw[k3,decide_eq_false];have:2<=4/c.bits.toNat:=by rcases hn with h2|h2<;>rw[h2]<;>omega
     omega
   have htk:(JD c.bits.toNat (s:Int)).take k=JD c.bits.toNat (s:Int):=List.take_of_length_le (by rw[hlen];omega)
   rw[hk0,htk]
   (try (simp -implicitDefEqProofs only[go_sem,BO,A6,ha]));repeat' first|(with_reducible first|exact tI|refine aI ?_ ?_|intro _)|((first|with_reducible refine AO ?_ ?_<;>intro _)<;>try (simp -implicitDefEqProofs only[go_sem,BO,A6,ha]))|simp (disch:=omega) only[An]|((with_reducible refine BU ?_);refine⟨(_,_,_),rfl,?_,?_⟩)
   all_goals first|omega|(simp;done)|(simp;omega)|skip
   all_goals first|rfl|skip
end Go.Pw
