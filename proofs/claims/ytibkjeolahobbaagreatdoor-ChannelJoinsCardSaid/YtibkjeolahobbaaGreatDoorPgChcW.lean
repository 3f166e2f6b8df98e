/- A part of the proof. -/
import Derived.Test.YtibkjeolahobbaaGreatDoorPgChrBw
set_option linter.all false
open Go Go.Pw Go.Proofs
namespace Go.Pw
set_option maxRecDepth 100000
set_option maxHeartbeats 3200000
section
attribute [local irreducible] IntKind.wrap Ai Option.getD and or
theorem Ee (l:Rows):(Bv l).length=l.length:=by simp[Bv]
theorem Dw (l:Rows):CJ 1 (Bv l)=True:=VL fun _=>rfl
def Z6 (l:Rows) (n:Nat):Rows:=(l.take n).map ne
theorem QT {l:Rows}{n:Nat}(h:n<=l.length):(Z6 l n).length=n:=by simp[Z6];omega
theorem Wy {l:Rows}{n:Nat}(h:n<l.length):Bv (Z6 l n)++[.list false (Aa (l[n]?.getD default).2)]=Bv (Z6 l (n+1)):=by
 rw[Z6,Z6,List.take_add_one,List.getElem?_eq_getElem h]
 rw[Option.getD_some,List.map_append]
 simp only[Bv,List.map_append,Option.toList,List.map_cons,List.map_nil];rfl
theorem Wz (l:Rows):Z6 l l.length=l.map ne:=by simp[Z6]
theorem iW (c:AW):FE (FD c)=.agg [.int .i64 c.bits,.int .i64 c.out,.int .i64 c.least,.int .i64 c.most,.list c.words.isEmpty (Bv (Z6 c.words c.words.length)),.list c.next.isEmpty (Bv (Z6 c.next c.next.length))]:=by
 rw[Wz,Wz];rfl
theorem Z1 {c:AW}(h:c.far=false):(c.words.length<=20/\∀j:Nat,j<c.words.length->(c.words[j]?.getD default).2.length<=20)/\(c.next.length<=20/\∀j:Nat,j<c.next.length->(c.next[j]?.getD default).2.length<=20):=by
 simp only[AW.far,Bool.or_eq_false_iff,decide_eq_false_iff_not] at h
 obtain⟨⟨⟨h1,h2⟩,h3⟩,h4⟩:=h
 rw[QX] at h3 h4
 refine⟨⟨by omega,fun j hj=>?_⟩,by omega,fun j hj=>?_⟩
 ·have:=h3 j hj;rw[decide_eq_false_iff_not] at this;omega
 ·have:=h4 j hj;rw[decide_eq_false_iff_not] at this;omega
theorem RG (c:AW) (hf:c.far=false):BR E0 OJ [FE c] (FE (FD c)):=by
 rw[iW]
 refine AM Rv Af (by simp) fun hwf=>?_
 simp only[CU,Bu,Bt,Bq,Cd,Cc,Dt,Cb,A2,A9,A_,Bz,BG,List.length_map,BH,true_and,and_true,Au,Aq,Ao] at hwf
 have hfw:=(Z1 hf).1
 have hfn:=(Z1 hf).2
 rw[AQ];unfold L4
 (try (simp -implicitDefEqProofs only[go_sem,Au,Aq]));repeat' first|(with_reducible first|exact tI|refine aI ?_ ?_|intro _|refine AJ ?_ ?_<;>intro _<;>try simp -implicitDefEqProofs only[go_sem,Au,Aq])|simp (disch:=omega) only[Ad]|((with_reducible apply Ag);exact rfl)
 refine AU (α:=Int×Bool×(List D)) (l0:=?l1) (m0:=?m1) (fun x=>[(4,.d (.int .i64 x.1))]) (fun x=>[(26,.row 29 1 x.2.1 x.2.2)]) (fun x=>0<=x.1/\x.1<=c.words.length/\x.2.1=decide (x.1=0)/\x.2.2=Bv (Z6 c.words x.1.toNat)) (fun x=>(c.words.length-x.1).toNat) (?a1_0,?a1_1,[]) ?h01 ?he1 ?he21 ?hI1 ?step1
 case h01=>(simp -implicitDefEqProofs only[go_sem,Au,Aq,Ao];rfl)
 case he1=>rfl
 case he21=>rfl
 case' step1=>(rintro⟨i,nl,L⟩ hI;try dsimp only at hI)
 case' hI1=>try dsimp only
 ·simp;rfl
 ·obtain⟨h1,h2,h3,h4⟩:=hI
  change nl=decide (i=0) at h3;change L=Bv (Z6 c.words i.toNat) at h4
  subst h3;subst h4
  by_cases hi:i<c.words.length
  ·have hl:=QT (l:=c.words) (n:=i.toNat) (by omega)
   have hs:=Wy (l:=c.words) (n:=i.toNat) (by omega)
   have hr:=hfw.2 i.toNat (by omega)
   have h1':(i+1).toNat=i.toNat+1:=by omega
   (try (simp -implicitDefEqProofs only[go_sem,Ee,Dw,B3,hl]));repeat' first|(with_reducible first|exact tI|refine aI ?_ ?_|intro _|refine AJ ?_ ?_<;>intro _<;>try simp -implicitDefEqProofs only[go_sem,Ee,Dw,B3,hl])|simp (disch:=omega) only[Ad]|((with_reducible apply Ag);exact rfl)
   all_goals first|omega|(simp<;>omega)|skip
   all_goals first|(exfalso;omega)|(simp;omega)|(rw[h1',hs])|skip
  ·have he:i.toNat=c.words.length:=by omega
   rw[he]
   have hl:=QT (l:=c.words) (n:=c.words.length) (by omega)
   have hz:decide (i=0)=c.words.isEmpty:=by rw[Bool.eq_iff_iff];simp only[decide_eq_true_eq,List.isEmpty_iff,←List.length_eq_zero_iff];omega
   rw[hz]
   (try (simp -implicitDefEqProofs only[go_sem,Ee,Dw,hl]));repeat' first|(with_reducible first|exact tI|refine aI ?_ ?_|intro _|refine AJ ?_ ?_<;>intro _<;>try simp -implicitDefEqProofs only[go_sem,Ee,Dw,hl])|simp (disch:=omega) only[Ad]|((with_reducible apply Ag);exact rfl)
   all_goals first|omega|(simp<;>omega)|skip
   refine AU (α:=Int×Bool×(List D)) (l0:=?l2) (m0:=?m2) (fun x=>[(5,.d (.int .i64 x.1))]) (fun x=>[(45,.row 29 1 x.2.1 x.2.2)]) (fun x=>0<=x.1/\x.1<=c.next.length/\x.2.1=decide (x.1=0)/\x.2.2=Bv (Z6 c.next x.1.toNat)) (fun x=>(c.next.length-x.1).toNat) (?a2_0,?a2_1,[]) ?h02 ?he2 ?he22 ?hI2 ?step2
   case h02=>(simp -implicitDefEqProofs only[go_sem,Au,Aq,Ao];rfl)
   case he2=>rfl
   case he22=>rfl
   case' step2=>(rintro⟨k,nl2,L2⟩ hI2;try dsimp only at hI2)
   case' hI2=>try dsimp only
   ·simp;rfl
   ·obtain⟨g1,g2,g3,g4⟩:=hI2
    change nl2=decide (k=0) at g3;change L2=Bv (Z6 c.next k.toNat) at g4
    subst g3;subst g4
    by_cases hk:k<c.next.length
    ·have gl:=QT (l:=c.next) (n:=k.toNat) (by omega)
     have gs:=Wy (l:=c.next) (n:=k.toNat) (by omega)
     have gr:=hfn.2 k.toNat (by omega)
     have g1':(k+1).toNat=k.toNat+1:=by omega
     (try (simp -implicitDefEqProofs only[go_sem,Ee,Dw,B3,gl]));repeat' first|(with_reducible first|exact tI|refine aI ?_ ?_|intro _|refine AJ ?_ ?_<;>intro _<;>try simp -implicitDefEqProofs only[go_sem,Ee,Dw,B3,gl])|simp (disch:=omega) only[Ad]|((with_reducible apply Ag);exact rfl)
     all_goals first|omega|(simp<;>omega)|skip
     all_goals first|(exfalso;omega)|(simp;omega)|(rw[g1',gs])|skip
    ·have ge:k.toNat=c.next.length:=by omega
     rw[ge]
     have gl:=QT (l:=c.next) (n:=c.next.length) (by omega)
     have gz:decide (k=0)=c.next.isEmpty:=by rw[Bool.eq_iff_iff];simp only[decide_eq_true_eq,List.isEmpty_iff,←List.length_eq_zero_iff];omega
     rw[gz]
     (try (simp -implicitDefEqProofs only[go_sem,Ee,Dw,hl,gl]));repeat' first|(with_reducible first|exact tI|refine aI ?_ ?_|intro _|refine AJ ?_ ?_<;>intro _<;>try simp -implicitDefEqProofs only[go_sem,Ee,Dw,hl,gl])|simp (disch:=omega) only[Ad]|((with_reducible apply Ag);exact rfl)
     all_goals first|omega|(simp<;>omega)|skip
     rfl
end
section
def FR (c:AW):List D:=(List.range 16).map fun s=>.list false (Aa (c.stm s))
theorem Qq (c:AW):(FR c).length=16:=by simp[FR]
theorem Qr (c:AW) {s:Nat}(h:s<16):(FR c)[s]?=some (.list false (Aa (c.stm s))):=by simp[FR,h]
theorem S4 (c:AW):(FR c).take 16=FR c:=List.take_of_length_le (by rw[Qq];omega)
def Sv (c:AX) (r:List D):List D:=.int .i64 c.code.bits :: .int .i64 c.code.out :: .int .i64 c.code.least :: .int .i64 c.code.most :: .list c.code.nw (Bv c.code.words) :: .list c.code.nn (Bv c.code.next) :: .int .i64 c.L :: .int .i64 c.P :: .int .i64 c.Q :: .list c.nm (Aa c.mark) :: .int .i64 c.seed :: .int .i64 c.errs::r
theorem A0 (c:AX) (r:List D):Sv c r=.int .i64 c.code.bits :: .int .i64 c.code.out :: .int .i64 c.code.least :: .int .i64 c.code.most :: .list c.code.nw (Bv c.code.words) :: .list c.code.nn (Bv c.code.next) :: .int .i64 c.L :: .int .i64 c.P :: .int .i64 c.Q :: .list c.nm (Aa c.mark) :: .int .i64 c.seed :: .int .i64 c.errs::r:=rfl
theorem RZ (a b c d e f g h i j k l:D) (r:List D) (n:Nat):(a::b::c::d::e::f::g::h::i::j::k::l::r)[12+n]?=r[n]?:=by rw[Nat.add_comm];rfl
theorem PL (x:Int):(some x).getD 0=x:=rfl
theorem rP:∀n:Fin 16,Ai .and .i64 (n.val:Int) 3=(n.val:Int)%4:=by decide +kernel
theorem jU {b k:Nat}(s:Int) (h:k<4/b):(H8 b s)[k]?.getD 0=s/2^((4/b-1-k)*b)%2^b:=by simp[H8,h]
theorem dc {b a:Int}{k s:Nat}(hb:b=1\/b=2) (hk:k<4/b.toNat) (ha:a=4-b*((k:Int)+1)) (hs:s<16) :
  Ai .and .i64 ((s:Int)/2^a.toNat) (IntKind.i64.wrap (2^b.toNat-1))=(H8 b.toNat (s:Int))[k]?.getD 0:=by
 rw[jU _ hk]
 rcases hb with rfl|rfl
 ·have e:a.toNat=(4/(1:Int).toNat-1-k)*(1:Int).toNat:=by simp;omega
  rw[←e,show IntKind.i64.wrap (2^(1:Int).toNat-1)=1 from AZ 1 (by omega),U5];rfl
 ·have e:a.toNat=(4/(2:Int).toNat-1-k)*(2:Int).toNat:=by simp at hk ⊢;omega
  rw[←e,show IntKind.i64.wrap (2^(2:Int).toNat-1)=3 from AZ 3 (by omega)]
  have h1:(s:Int)/2^a.toNat=((s/2^a.toNat:Nat):Int):=by push_cast;rfl
  have h2:s/2^a.toNat<16:=Nat.lt_of_le_of_lt (Nat.div_le_self _ _) hs
  rw[h1]
  exact rP ⟨_,h2⟩
theorem nV (n:Int):n.fdiv (2^min 1 64)=n/2:=by rw[T5];rfl
theorem nq {L P Q:Int}(h:CL L P Q=true):2<=L/\L<=15/\1<=P/\P<=8/\P<L/\1<=Q/\Q<=8:=by
 obtain⟨l,p,q,rfl,rfl,rfl,b1,b2,b3,b4,b5,b6,b7,hc⟩:=I7 h
 omega
theorem TE {L P Q:Int}(h:CL L P Q=true):2<=Q*L/\Q*L<=120:=by
 obtain⟨l,p,q,rfl,rfl,rfl,b1,b2,b3,b4,b5,b6,b7,hc⟩:=I7 h
 have h1:q*l<=8*15:=Nat.mul_le_mul b7 b2
 have h2:1*2<=q*l:=Nat.mul_le_mul b6 b1
 have h3:(q:Int)*(l:Int)=((q*l:Nat):Int):=by push_cast;rfl
 rw[h3];omega
attribute [local irreducible] IntKind.wrap Ai Option.getD and or
theorem Fh (n lo hi:Int):BR E0 K3 [.int .i64 n,.int .i64 lo,.int .i64 hi] (.bool (B_ n lo hi)):=by
 refine AM Ot Af (by simp) fun hwf=>?_
 rw[AQ];unfold JX
 (try (simp -implicitDefEqProofs only[go_sem]));repeat' first|(with_reducible first|exact tI|refine aI ?_ ?_|intro _|refine AJ ?_ ?_<;>intro _<;>try simp -implicitDefEqProofs only[go_sem])|simp (disch:=omega) only[Ad]
 all_goals (simp only[B_];congr 1;symm;first|(rw[decide_eq_true_eq];omega)|(rw[decide_eq_false_iff_not];omega))
theorem EL (c:AX) (r:List D) (h:CL c.L c.P c.Q=true):BR E0 EI [.ptr (Sv c r)] (.int .i64 (c.Q*c.L)):=by
 have hb:=TE h
 have hw:IntKind.i64.wrap (c.Q*c.L)=c.Q*c.L:=AZ _ (by omega)
 refine AM Ge Af (by simp) fun hwf=>?_
 rw[AQ];unfold Dz
 (try (simp -implicitDefEqProofs only[go_sem,A0,hw]));repeat' first|(with_reducible first|exact tI|refine aI ?_ ?_|intro _|refine AJ ?_ ?_<;>intro _<;>try simp -implicitDefEqProofs only[go_sem,A0,hw])|simp (disch:=omega) only[Ad]
 all_goals first|rfl|omega|skip
theorem Fl (c:AX):BR E0 FN [.ptr (Sv c (FR c.code))] (.int .i64 (c.code.sz:Nat)):=by
 have h0:(FR c.code)[0]?=some (.list false (Aa (c.code.stm 0))):=Qr _ (by omega)
 have hl:=LO c.code 0
 refine AM Hx Af (by simp) fun hwf=>?_
 rw[AQ];unfold El
 (try (simp -implicitDefEqProofs only[go_sem,A0,h0,hl]));repeat' first|(with_reducible first|exact tI|refine aI ?_ ?_|intro _|refine AJ ?_ ?_<;>intro _<;>try simp -implicitDefEqProofs only[go_sem,A0,h0,hl])|simp (disch:=omega) only[Ad]
 all_goals first|rfl|omega|skip
theorem QF {c:AX}(h:CL c.L c.P c.Q=true):c.Q*c.L=((c.syms:Nat):Int):=by have:=TE h;unfold AX.syms;omega
theorem Fm (c:AX) (h:CL c.L c.P c.Q=true) (hc:c.code.ok=true):BR E0 FP [.ptr (Sv c (FR c.code))] (.int .i64 ((c.syms*c.code.sz:Nat):Int)):=by
 have c1:=EL c (FR c.code) h
 have c2:=Fl c
 have hb:=TE h
 have he:=QF h
 have hz:=Hl hc
 rw[he] at c1 hb
 have hm:c.syms*c.code.sz<=120*20:=Nat.mul_le_mul (by omega) hz.2
 have hw:IntKind.i64.wrap ((c.syms:Int)*(c.code.sz:Int))=((c.syms*c.code.sz:Nat):Int):=by rw[show (c.syms:Int)*(c.code.sz:Int)=((c.syms*c.code.sz:Nat):Int) by push_cast;rfl];exact AZ _ (by omega)
 refine AM Hz Af (by simp) fun hwf=>?_
 rw[AQ];unfold En
 (try (simp -implicitDefEqProofs only[go_sem,hw]));repeat' first|(with_reducible first|exact tI|refine aI ?_ ?_|intro _)|((first|with_reducible refine AJ ?_ ?_<;>intro _|(with_reducible refine isCall ?_);first|refine AE c1 ?_|refine AE c2 ?_)<;>try (simp -implicitDefEqProofs only[go_sem,hw]))|simp (disch:=omega) only[Ad]
 all_goals first|rfl|omega|skip
theorem J8 (n:Int):BR E0 EN [.int .i64 n] (.bool (!B_ n 0 1)):=by
 refine AM J7 Af (by simp) fun hwf=>?_
 rw[AQ];unfold Fz
 (try (simp -implicitDefEqProofs only[go_sem,nV]));repeat' first|(with_reducible first|exact tI|refine aI ?_ ?_|intro _|refine AJ ?_ ?_<;>intro _<;>try simp -implicitDefEqProofs only[go_sem,nV])|simp (disch:=omega) only[Ad]
 all_goals (simp only[B_];congr 1;symm;first|(rw[Bool.not_eq_false',decide_eq_true_eq];omega)|(rw[Bool.not_eq_true',decide_eq_false_iff_not];omega))
theorem GX (nl:Bool) (xs:List Int):BR E0 Hj [.list nl (Aa xs)] (.bool (Dr xs)):=by
 have c1:=B0 nl xs EN [] (fun n=>!B_ n 0 1) (by kernel_rfl) rfl (fun x _=>J8 x)
 refine AM Ln Af (by simp) fun hwf=>?_
 simp only[CU,Bu,Bt,Bq,Cd,Cc,Dt,Cb,A2,A9,A_,Bz,BG,List.length_map,BH,true_and,and_true] at hwf
 rw[AQ];unfold Gv
 have e:(!xs.any fun n=>!B_ n 0 1)=Al xs:=by simp[Al,List.all_eq_not_any_not]
 (try (simp -implicitDefEqProofs only[go_sem]));repeat' first|(with_reducible first|exact tI|refine aI ?_ ?_|intro _)|((first|with_reducible refine AJ ?_ ?_<;>intro _|(with_reducible refine isCall ?_);first|refine AE c1 ?_)<;>try (simp -implicitDefEqProofs only[go_sem]))|simp (disch:=omega) only[Ad]
 all_goals (unfold Dr;rw[←e];first|rfl|(congr 1;symm;simp_all;done)|(congr 1;symm;simp_all;omega)|skip)
theorem Cu (c:AX) (h:CL c.L c.P c.Q=true):BR E0 Jr [DJ c] (.int .i64 (c.Q*c.L)):=by
 have hb:=TE h
 have hw:IntKind.i64.wrap (c.Q*c.L)=c.Q*c.L:=AZ _ (by omega)
 refine AM Nh Af (by simp) fun hwf=>?_
 rw[AQ];unfold IG
 (try (simp -implicitDefEqProofs only[go_sem,AP,AO,hw]));repeat' first|(with_reducible first|exact tI|refine aI ?_ ?_|intro _|refine AJ ?_ ?_<;>intro _<;>try simp -implicitDefEqProofs only[go_sem,AP,AO,hw])|simp (disch:=omega) only[Ad]
 all_goals first|rfl|omega|skip
theorem KG (c:AX) (h:c.code.ok=true):BR E0 N' [DJ c] (.int .i64 (c.code.sz:Nat)):=by
 have h1:=AW.ok_head h
 have hz:=Hl h
 have e:IntKind.i64.wrap (IntKind.i64.wrap ((4:Int).tdiv c.code.bits)*c.code.out)=((c.code.sz:Nat):Int):=by
  have h2:c.code.bits=1\/c.code.bits=2:=by omega
  unfold AW.sz
  rcases h2 with h2|h2
  ·rw[h2,show (4:Int).tdiv 1=4 from rfl,AZ 4 (by omega),AZ _ (by omega),show (1:Int).toNat=1 from rfl];omega
  ·rw[h2,show (4:Int).tdiv 2=2 from rfl,AZ 2 (by omega),AZ _ (by omega),show (2:Int).toNat=2 from rfl];omega
 refine AM Ro Af (by simp) fun hwf=>?_
 rw[AQ];unfold Lw
 (try (simp -implicitDefEqProofs only[go_sem,AP,AO,e]));repeat' first|(with_reducible first|exact tI|refine aI ?_ ?_|intro _|refine AJ ?_ ?_<;>intro _<;>try simp -implicitDefEqProofs only[go_sem,AP,AO,e])|simp (disch:=omega) only[Ad]
 all_goals first|rfl|omega|skip
theorem Pq (c:AX) (h:CL c.L c.P c.Q=true) (hc:c.code.ok=true) (hm:c.mark.length<=1000):BR E0 ME [DJ c] (.int .i64 (c.tot:Nat)):=by
 have c1:=Cu c h
 have c2:=KG c hc
 have hb:=TE h
 have he:=QF h
 have hz:=Hl hc
 rw[he] at c1 hb
 have hmm:c.syms*c.code.sz<=120*20:=Nat.mul_le_mul (by omega) hz.2
 have hw:IntKind.i64.wrap ((c.syms:Int)*(c.code.sz:Int))=((c.syms*c.code.sz:Nat):Int):=by rw[show (c.syms:Int)*(c.code.sz:Int)=((c.syms*c.code.sz:Nat):Int) by push_cast;rfl];exact AZ _ (by omega)
 have hw2:IntKind.i64.wrap ((c.mark.length:Int)+((c.syms*c.code.sz:Nat):Int))=((c.tot:Nat):Int):=by rw[AZ _ (by omega)];unfold AX.tot;omega
 refine AM Py Af (by simp) fun hwf=>?_
 rw[AQ];unfold KK
 (try (simp -implicitDefEqProofs only[go_sem,AP,AO,hw,hw2]));repeat' first|(with_reducible first|exact tI|refine aI ?_ ?_|intro _)|((first|with_reducible refine AJ ?_ ?_<;>intro _|(with_reducible refine isCall ?_);first|refine AE c1 ?_|refine AE c2 ?_)<;>try (simp -implicitDefEqProofs only[go_sem,AP,AO,hw,hw2]))|simp (disch:=omega) only[Ad]
 all_goals first|rfl|omega|skip
theorem IE (s:Nat) (h:s<16):BR E0 K5 [.int .i64 (s:Int)] (.list false (Aa (H8 1 s))):=by
 have e0:∀x:Int,0<=x->x.tmod 2=x%2:=fun x hx=>Int.tmod_eq_emod_of_nonneg hx
 have e1:∀y:Int,(s:Int).tdiv y=(s:Int)/y:=fun y=>Int.tdiv_eq_ediv_of_nonneg (by omega)
 have e:H8 1 (s:Int)=[(s:Int).tdiv 8,((s:Int).tdiv 4).tmod 2,((s:Int).tdiv 2).tmod 2,(s:Int).tmod 2]:=by
  rw[e1,e1,e1,e0 _ (by omega),e0 _ (by omega),e0 _ (by omega)]
  show [(s:Int)/8%2,(s:Int)/4%2,(s:Int)/2%2,(s:Int)/1%2]=_
  rw[show (s:Int)/8%2=(s:Int)/8 by omega,Int.ediv_one]
 have w8:IntKind.i64.wrap ((s:Int).tdiv 8)=(s:Int).tdiv 8:=AZ _ (by rw[e1];omega)
 have w4:IntKind.i64.wrap ((s:Int).tdiv 4)=(s:Int).tdiv 4:=AZ _ (by rw[e1];omega)
 have w2:IntKind.i64.wrap ((s:Int).tdiv 2)=(s:Int).tdiv 2:=AZ _ (by rw[e1];omega)
 refine AM Ov Af (by simp) fun hwf=>?_
 rw[AQ];unfold JZ
 (try (simp -implicitDefEqProofs only[go_sem,e,w8,w4,w2]));repeat' first|(with_reducible first|exact tI|refine aI ?_ ?_|intro _|refine AJ ?_ ?_<;>intro _<;>try simp -implicitDefEqProofs only[go_sem,e,w8,w4,w2])|simp (disch:=omega) only[Ad]
 all_goals first|rfl|omega|skip
theorem Fj {α:Type}{l:List α}(h:l≠[]):l.isEmpty=false:=by cases l with
 |nil=>exact absurd rfl h
 |cons _ _=>rfl
theorem Fi (c:AX) (hc:c.code.ok=true) (s:Nat) (h:s<16):BR E0 K6 [DJ c,.int .i64 (s:Int)] (.list false (Aa (c.code.stm s))):=by
 have c1:=IE s h
 have c2:=Od c.code hc 0 false (H8 c.code.bits.toNat s) (Qa hc) (Qb hc s) (by rw[Ex];rcases QW hc with h1|h1<;>rw[h1]<;>omega)
 have he:=Fj (Xl hc s)
 unfold AW.stm at he ⊢
 rw[he] at c2
 have h1:=AW.ok_head hc
 have hw:H8 1 (s:Int)=[(s:Int)/8%2,(s:Int)/4%2,(s:Int)/2%2,(s:Int)/1%2]:=rfl
 refine AM Ow Af (by simp) fun hwf=>?_
 rw[AQ];unfold Ja
 by_cases hb:c.code.bits=2
 ·have h2:H8 c.code.bits.toNat (s:Int)=[2*((s:Int)/8%2)+(s:Int)/4%2,2*((s:Int)/2%2)+(s:Int)/1%2]:=by
   rw[hb]
   show [(s:Int)/4%4,(s:Int)/1%4]=_
   congr 1
   ·omega
   ·congr 1;omega
  rw[h2] at c2 ⊢
  rw[hw] at c1
  have wa:IntKind.i64.wrap (2*((s:Int)/8%2))=2*((s:Int)/8%2):=AZ _ (by omega)
  have wb:IntKind.i64.wrap (2*((s:Int)/2%2))=2*((s:Int)/2%2):=AZ _ (by omega)
  have wc:IntKind.i64.wrap (2*((s:Int)/8%2)+(s:Int)/4%2)=2*((s:Int)/8%2)+(s:Int)/4%2:=AZ _ (by omega)
  have wd:IntKind.i64.wrap (2*((s:Int)/2%2)+(s:Int)/1%2)=2*((s:Int)/2%2)+(s:Int)/1%2:=AZ _ (by omega)
  have hbT:=eq_true hb
  (try (simp -implicitDefEqProofs only[go_sem,AP,AO,hbT,PL,wa,wb,wc,wd]));repeat' first|(with_reducible first|exact tI|refine aI ?_ ?_|intro _)|((first|with_reducible refine AJ ?_ ?_<;>intro _|(with_reducible refine isCall ?_);first|refine AE c1 ?_|refine AE c2 ?_)<;>try (simp -implicitDefEqProofs only[go_sem,AP,AO,hbT,PL,wa,wb,wc,wd]))|simp (disch:=omega) only[Ad]
  all_goals first|rfl|omega|skip
 ·have h2:c.code.bits.toNat=1:=by omega
  rw[h2] at c2 ⊢
  (try (simp -implicitDefEqProofs only[go_sem,AP,AO,hb]));repeat' first|(with_reducible first|exact tI|refine aI ?_ ?_|intro _)|((first|with_reducible refine AJ ?_ ?_<;>intro _|(with_reducible refine isCall ?_);first|refine AE c1 ?_|refine AE c2 ?_)<;>try (simp -implicitDefEqProofs only[go_sem,AP,AO,hb]))|simp (disch:=omega) only[Ad]
  all_goals first|rfl|omega|skip
theorem E3 (n1 n2:Bool) (xs ys:List Int):BR E0 OA [.list n1 (Aa xs),.list n2 (Aa ys)] (.bool (decide (xs=ys))):=by
 refine AM Rp Af (by simp) fun hwf=>?_
 simp only[CU,Bu,Bt,Bq,Cd,Cc,Dt,Cb,A2,A9,A_,Bz,BG,List.length_map,BH,true_and,and_true] at hwf
 rw[AQ];unfold Lx
 simp -implicitDefEqProofs only[go_sem]
 refine AU (α:=Nat) (l0:=?l1) (m0:=?m1) (fun x=>[(5,.d (.int .i64 (x:Int)))]) (fun x=>[]) (fun x=>x<=xs.length/\x<=ys.length/\xs.take x=ys.take x) (fun x=>xs.length-x) 0 ?h01 ?he1 ?he21 ?hI1 ?step1
 case h01=>(simp -implicitDefEqProofs only[go_sem];rfl)
 case he1=>rfl
 case he21=>rfl
 case' step1=>(rintro i hI;try dsimp only at hI)
 case' hI1=>try dsimp only
 ·exact⟨Nat.zero_le _,Nat.zero_le _,rfl⟩
 ·obtain⟨i1,i2,i3⟩:=hI
  by_cases h:i<xs.length/\i<ys.length
  ·have h1:(i:Int)<(xs.length:Int):=by omega
   have h2:(i:Int)<(ys.length:Int):=by omega
   have hwi:IntKind.i64.wrap ((i:Int)+1)=((i+1:Nat):Int):=by rw[AZ _ (by omega)];omega
   have hx:xs.take (i+1)=xs.take i++[xs[i]?.getD 0]:=by rw[List.take_add_one];simp[h.1]
   have hy:ys.take (i+1)=ys.take i++[ys[i]?.getD 0]:=by rw[List.take_add_one];simp[h.2]
   (try (simp -implicitDefEqProofs only[go_sem,h1,h2,hwi,h.1,h.2]));repeat' first|(with_reducible first|exact tI|refine aI ?_ ?_|intro _|refine AJ ?_ ?_<;>intro _<;>try simp -implicitDefEqProofs only[go_sem,h1,h2,hwi,h.1,h.2])|simp (disch:=omega) only[Ad]|((with_reducible apply Ab);exact rfl)
   all_goals first|omega|(simp<;>omega)|skip
   ·rename_i he
    rw[hx,hy,i3,he]
   ·rename_i he
    congr 1;symm
    rw[decide_eq_false_iff_not]
    intro e;exact he (by rw[e])
  ·by_cases hl:xs.length=ys.length
   ·have hi1:¬(i:Int)<(xs.length:Int):=by omega
    have hi2:¬(i:Int)<(ys.length:Int):=by omega
    have:xs=ys:=by rw[←List.take_of_length_le (l:=xs) (i:=i) (by omega),i3,List.take_of_length_le (by omega)]
    (try (simp -implicitDefEqProofs only[go_sem,hi1,hi2,hl]));repeat' first|(with_reducible first|exact tI|refine aI ?_ ?_|intro _|refine AJ ?_ ?_<;>intro _<;>try simp -implicitDefEqProofs only[go_sem,hi1,hi2,hl])|simp (disch:=omega) only[Ad]|((with_reducible apply Ab);exact rfl)
    all_goals first|omega|(simp<;>omega)|skip
    all_goals first|(congr 1;symm;rw[decide_eq_true_eq];exact this)|skip
   ·have hx:xs≠ys:=fun e=>hl (by rw[e])
    have hd:decide (xs=ys)=false:=decide_eq_false hx
    rw[hd]
    (try (simp -implicitDefEqProofs only[go_sem]));repeat' first|(with_reducible first|exact tI|refine aI ?_ ?_|intro _|refine AJ ?_ ?_<;>intro _<;>try simp -implicitDefEqProofs only[go_sem])|simp (disch:=omega) only[Ad]|((with_reducible apply Ab);exact rfl)
    all_goals first|omega|(simp<;>omega)|skip
    all_goals skip
theorem N3 (c:AW) (hc:c.ok=true) (s:Nat) (h:s<16):BR E0 Jz [FE c,.int .i64 (s:Int)] (.list false (Aa (H8 c.bits.toNat s))):=by
 have h1:=AW.ok_head hc
 have hb:c.bits=1\/c.bits=2:=by omega
 have hn:c.bits.toNat=1\/c.bits.toNat=2:=QW hc
 have hlen:=Ex c.bits.toNat (s:Int)
 refine AM Nt Af (by simp) fun hwf=>?_
 rw[AQ];unfold IV
 have w0:IntKind.i64.wrap (4-c.bits)=4-c.bits:=AZ _ (by omega)
 (try (simp -implicitDefEqProofs only[go_sem,Au,Aq,w0]));repeat' first|(with_reducible first|exact tI|refine aI ?_ ?_|intro _|refine AJ ?_ ?_<;>intro _<;>try simp -implicitDefEqProofs only[go_sem,Au,Aq,w0])|simp (disch:=omega) only[Ad]|((with_reducible apply Ag);exact rfl)
 all_goals first|omega|(simp<;>omega)|skip
 refine AU (α:=Nat×Int×Bool) (l0:=?l2) (m0:=?m2) (fun x=>[(6,.d (.int .i64 x.2.1))]) (fun x=>[(26,.row 3 1 x.2.2 (Aa ((H8 c.bits.toNat (s:Int)).take x.1)))]) (fun x=>x.1<=4/c.bits.toNat/\x.2.1=4-c.bits*((x.1:Int)+1)/\x.2.2=decide (x.1=0)) (fun x=>4/c.bits.toNat-x.1) (0,(4-c.bits),true) ?h02 ?he2 ?he22 ?hI2 ?step2
 case h02=>(simp -implicitDefEqProofs only[go_sem,Au,Aq];rfl)
 case he2=>rfl
 case he22=>rfl
 case' step2=>(rintro⟨k,a,nl⟩ hI;try dsimp only at hI)
 case' hI2=>try dsimp only
 ·exact⟨Nat.zero_le _,by rcases hb with h2|h2<;>rw[h2]<;>rfl,rfl⟩
 ·obtain⟨k1,k2,k3⟩:=hI
  change a=4-c.bits*((k:Int)+1) at k2
  change nl=decide (k=0) at k3
  by_cases hk:k<4/c.bits.toNat
  ·have ha:0<=a/\a<=3:=by
    rcases hb with h2|h2<;>rw[h2] at k2 hk<;>simp at hk<;>omega
   have h0:0<=a:=ha.1
   have e1:=dc hb hk k2 h
   obtain⟨x,hx⟩:∃x,(H8 c.bits.toNat (s:Int))[k]?.getD 0=x:=⟨_,rfl⟩
   have hst:(H8 c.bits.toNat (s:Int)).take (k+1)=(H8 c.bits.toNat (s:Int)).take k++[x]:=by
    rw[←hx,List.take_add_one,List.getElem?_eq_getElem (by rw[hlen];exact hk)];simp[Option.getD]
   rw[hx] at e1
   have hl4:((H8 c.bits.toNat (s:Int)).take k).length<=4:=by rw[List.length_take,hlen];have:=Nat.div_le_self 4 c.bits.toNat;omega
   have wn:IntKind.i64.wrap (a-c.bits)=a-c.bits:=AZ _ (by omega)
   (try (simp -implicitDefEqProofs only[go_sem,Au,Aq,h0,wn,e1]));repeat' first|(with_reducible first|exact tI|refine aI ?_ ?_|intro _|refine AJ ?_ ?_<;>intro _<;>try simp -implicitDefEqProofs only[go_sem,Au,Aq,h0,wn,e1])|simp (disch:=omega) only[Ad]|((with_reducible refine Ca ?_);refine⟨(_,_,_),rfl,?_,?_⟩)
   all_goals first|omega|(simp<;>omega)|skip
   rw[e1,←hst]
   refine⟨(k+1,a-c.bits,false),rfl,⟨by show k+1<=_;omega,?_,?_⟩,by show 4/c.bits.toNat-(k+1)<_;omega⟩
   ·show a-c.bits=4-c.bits*(((k+1:Nat):Int)+1)
    rw[k2];push_cast;rw[Int.mul_add,Int.mul_add,Int.mul_add];omega
   ·show false=decide (k+1=0)
    exact(decide_eq_false (by omega)).symm
  ·have ha:¬0<=a:=by
    rcases hb with h2|h2<;>rw[h2] at k2 hk<;>simp at hk<;>omega
   have hk0:nl=false:=by
     rw[k3,decide_eq_false];have:2<=4/c.bits.toNat:=by rcases hn with h2|h2<;>rw[h2]<;>omega
     omega
   have htk:(H8 c.bits.toNat (s:Int)).take k=H8 c.bits.toNat (s:Int):=List.take_of_length_le (by rw[hlen];omega)
   rw[hk0,htk]
   (try (simp -implicitDefEqProofs only[go_sem,Au,Aq,ha]));repeat' first|(with_reducible first|exact tI|refine aI ?_ ?_|intro _|refine AJ ?_ ?_<;>intro _<;>try simp -implicitDefEqProofs only[go_sem,Au,Aq,ha])|simp (disch:=omega) only[Ad]|((with_reducible apply Ag);exact rfl)
   all_goals first|omega|(simp<;>omega)|skip
   all_goals first|rfl|skip
end
end Go.Pw
