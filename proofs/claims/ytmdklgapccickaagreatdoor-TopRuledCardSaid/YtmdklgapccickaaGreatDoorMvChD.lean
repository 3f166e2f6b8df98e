/- A part of the proof. -/
import Derived.Test.YtmdklgapccickaaGreatDoorPgMvChrV
import Derived.Test.YtmdklgapccickaaGreatDoorPgMvChcS
set_option linter.all false
open Go Go.Pw Go.Proofs
namespace Go.Pw
set_option maxRecDepth 100000
set_option maxHeartbeats 1600000
def Rf (c:GCode):List D:=(List.range 16).map fun s=>.list false (BU (c.stm s))
theorem eI (c:GCode) {s:Nat}(h:s<16):(Rf c)[s]?=some (.list false (BU (c.stm s))):=by simp[Rf,h]
def Y7 (c:Bb) (r:List D):List D:=.int .i64 c.code.bits :: .int .i64 c.code.out :: .int .i64 c.code.least :: .int .i64 c.code.most :: .list c.code.nw (Gv c.code.words) :: .list c.code.nn (Gv c.code.next) :: .int .i64 c.L :: .int .i64 c.P :: .int .i64 c.Q :: .list c.nm (BU c.mark) :: .int .i64 c.seed :: .int .i64 c.errs::r
theorem EI (c:Bb) (r:List D):Y7 c r=.int .i64 c.code.bits :: .int .i64 c.code.out :: .int .i64 c.code.least :: .int .i64 c.code.most :: .list c.code.nw (Gv c.code.words) :: .list c.code.nn (Gv c.code.next) :: .int .i64 c.L :: .int .i64 c.P :: .int .i64 c.Q :: .list c.nm (BU c.mark) :: .int .i64 c.seed :: .int .i64 c.errs::r:=rfl
theorem T1 (a b c d e f g h i j k l:D) (r:List D) (n:Nat):(a::b::c::d::e::f::g::h::i::j::k::l::r)[12+n]?=r[n]?:=by rw[Nat.add_comm];rfl
theorem lT (x:Int):(some x).getD 0=x:=rfl
theorem qJ:∀n:Fin 16,A0 .and .i64 (n.val:Int) 3=(n.val:Int)%4:=by decide +kernel
theorem iR {b k:Nat}(s:Int) (h:k<4/b):(Jj b s)[k]?.getD 0=s/2^((4/b-1-k)*b)%2^b:=by simp[Jj,h]
theorem dm {b a:Int}{k s:Nat}(hb:b=1\/b=2) (hk:k<4/b.toNat) (ha:a=4-b*((k:Int)+1)) (hs:s<16) :
  A0 .and .i64 ((s:Int)/2^a.toNat) (IntKind.i64.wrap (2^b.toNat-1))=(Jj b.toNat (s:Int))[k]?.getD 0:=by
 rw[iR _ hk]
 rcases hb with rfl|rfl
 ·have e:a.toNat=(4/(1:Int).toNat-1-k)*(1:Int).toNat:=by simp;omega
  rw[←e,show IntKind.i64.wrap (2^(1:Int).toNat-1)=1 from Bd 1 (by omega),Z2];rfl
 ·have e:a.toNat=(4/(2:Int).toNat-1-k)*(2:Int).toNat:=by simp at hk ⊢;omega
  rw[←e,show IntKind.i64.wrap (2^(2:Int).toNat-1)=3 from Bd 3 (by omega)]
  have h1:(s:Int)/2^a.toNat=((s/2^a.toNat:Nat):Int):=by push_cast;rfl
  have h2:s/2^a.toNat<16:=Nat.lt_of_le_of_lt (Nat.div_le_self _ _) hs
  rw[h1]
  exact qJ ⟨_,h2⟩
theorem dr {L P Q:Int}(h:D3 L P Q=true):2<=L/\L<=15/\1<=P/\P<=8/\P<L/\1<=Q/\Q<=8:=by
 obtain⟨l,p,q,rfl,rfl,rfl,b1,b2,b3,b4,b5,b6,b7,hc⟩:=UP h
 omega
theorem WG {L P Q:Int}(h:D3 L P Q=true):2<=Q*L/\Q*L<=120:=by
 obtain⟨l,p,q,rfl,rfl,rfl,b1,b2,b3,b4,b5,b6,b7,hc⟩:=UP h
 have h1:q*l<=8*15:=Nat.mul_le_mul b7 b2
 have h2:1*2<=q*l:=Nat.mul_le_mul b6 b1
 have h3:(q:Int)*(l:Int)=((q*l:Nat):Int):=by push_cast;rfl
 rw[h3];omega
attribute [local congr] Bm BC BD Ak Bn Aq Au Ar Aj Af AY AU Am AZ BR BS BP Ao An Ad Ap Ae BH BZ Ab BM BN BI BJ BL BK BF BG BB Bq BE Al Aa Ba Ag Av BQ
attribute [local irreducible] IntKind.wrap A0 Option.getD and or
theorem I7 (n lo hi:Int):Cc E0 Lv [.int .i64 n,.int .i64 lo,.int .i64 hi] (.bool (DE n lo hi)):=by
 refine AN Pn Ay (by simp) fun hwf=>?_
 rw[AP];unfold KK
 refine' HO
 all_goals (simp only[DE];congr 1;symm;first|(rw[decide_eq_true_eq];omega)|(rw[decide_eq_false_iff_not];omega))
theorem Mg (c:Bb) (r:List D) (h:D3 c.L c.P c.Q=true):Cc E0 Fa [.ptr (Y7 c r)] (.int .i64 (c.Q*c.L)):=by
 have hb:=WG h
 have hw:IntKind.i64.wrap (c.Q*c.L)=c.Q*c.L:=Bd _ (by omega)
 refine AN Hb Ay (by simp) fun hwf=>?_
 rw[AP];unfold FO
 refine' Pc @EI hw
 all_goals first|rfl|omega|skip
theorem UV {c:Bb}(h:D3 c.L c.P c.Q=true):c.Q*c.L=((c.syms:Nat):Int):=by have:=WG h;unfold Bb.syms;omega
theorem FE (c:Bb) (h:D3 c.L c.P c.Q=true):Cc E0 Kk [Ib c] (.int .i64 (c.Q*c.L)):=by
 have hb:=WG h
 have hw:IntKind.i64.wrap (c.Q*c.L)=c.Q*c.L:=Bd _ (by omega)
 refine AN OL Ay (by simp) fun hwf=>?_
 rw[AP];unfold JA
 refine' Pb @A_ @A9 hw
 all_goals first|rfl|omega|skip
theorem LD (c:Bb) (h:c.code.ok=true):Cc E0 O7 [Ib c] (.int .i64 (c.code.sz:Nat)):=by
 have h1:=GCode.ok_head h
 have hz:=Re h
 have e:IntKind.i64.wrap (IntKind.i64.wrap ((4:Int).tdiv c.code.bits)*c.code.out)=((c.code.sz:Nat):Int):=by
  have h2:c.code.bits=1\/c.code.bits=2:=by omega
  unfold GCode.sz
  rcases h2 with h2|h2
  ·rw[h2,show (4:Int).tdiv 1=4 from rfl,Bd 4 (by omega),Bd _ (by omega),show (1:Int).toNat=1 from rfl];omega
  ·rw[h2,show (4:Int).tdiv 2=2 from rfl,Bd 2 (by omega),Bd _ (by omega),show (2:Int).toNat=2 from rfl];omega
 refine AN SJ Ay (by simp) fun hwf=>?_
 rw[AP];unfold Mm
 refine' Pb @A_ @A9 e
 all_goals first|rfl|omega|skip
theorem Qs (c:Bb) (h:D3 c.L c.P c.Q=true) (hc:c.code.ok=true) (hm:c.mark.length<=1000):Cc E0 M1 [Ib c] (.int .i64 (c.tot:Nat)):=by
 have c1:=FE c h
 have c2:=LD c hc
 have hb:=WG h
 have he:=UV h
 have hz:=Re hc
 rw[he] at c1 hb
 have hmm:c.syms*c.code.sz<=120*20:=Nat.mul_le_mul (by omega) hz.2
 have hw:IntKind.i64.wrap ((c.syms:Int)*(c.code.sz:Int))=((c.syms*c.code.sz:Nat):Int):=by rw[show (c.syms:Int)*(c.code.sz:Int)=((c.syms*c.code.sz:Nat):Int) by push_cast;rfl];exact Bd _ (by omega)
 have hw2:IntKind.i64.wrap ((c.mark.length:Int)+((c.syms*c.code.sz:Nat):Int))=((c.tot:Nat):Int):=by rw[Bd _ (by omega)];unfold Bb.tot;omega
 refine AN Q3 Ay (by simp) fun hwf=>?_
 rw[AP];unfold LK
 refine' MR @A_ @A9 hw hw2;repeat' first|(refine' CQ;(first|refine AG c1 ?_|refine AG c2 ?_)<;>refine' MR @A_ @A9 hw hw2)|refine' CP|done
 all_goals first|rfl|omega|skip
theorem PP (s:Nat) (h:s<16):Cc E0 Lw [.int .i64 (s:Int)] (.list false (BU (Jj 1 s))):=by
 have e0:∀x:Int,0<=x->x.tmod 2=x%2:=fun x hx=>Int.tmod_eq_emod_of_nonneg hx
 have e1:∀y:Int,(s:Int).tdiv y=(s:Int)/y:=fun y=>Int.tdiv_eq_ediv_of_nonneg (by omega)
 have e:Jj 1 (s:Int)=[(s:Int).tdiv 8,((s:Int).tdiv 4).tmod 2,((s:Int).tdiv 2).tmod 2,(s:Int).tmod 2]:=by
  rw[e1,e1,e1,e0 _ (by omega),e0 _ (by omega),e0 _ (by omega)]
  show [(s:Int)/8%2,(s:Int)/4%2,(s:Int)/2%2,(s:Int)/1%2]=_
  rw[show (s:Int)/8%2=(s:Int)/8 by omega,Int.ediv_one]
 have w8:IntKind.i64.wrap ((s:Int).tdiv 8)=(s:Int).tdiv 8:=Bd _ (by rw[e1];omega)
 have w4:IntKind.i64.wrap ((s:Int).tdiv 4)=(s:Int).tdiv 4:=Bd _ (by rw[e1];omega)
 have w2:IntKind.i64.wrap ((s:Int).tdiv 2)=(s:Int).tdiv 2:=Bd _ (by rw[e1];omega)
 refine AN Po Ay (by simp) fun hwf=>?_
 rw[AP];unfold KL
 refine' fY e w8 w4 w2
 all_goals first|rfl|omega|skip
theorem JU {α:Type}{l:List α}(h:l≠[]):l.isEmpty=false:=by cases l with
 |nil=>exact absurd rfl h
 |cons _ _=>rfl
theorem I8 (c:Bb) (hc:c.code.ok=true) (s:Nat) (h:s<16):Cc E0 Lx [Ib c,.int .i64 (s:Int)] (.list false (BU (c.code.stm s))):=by
 have c1:=PP s h
 have c2:=PR c.code hc 0 false (Jj c.code.bits.toNat s) (Jk hc) (Jm hc s) (by rw[HV];rcases RO hc with h1|h1<;>rw[h1]<;>omega)
 have he:=JU (Xg hc s)
 unfold GCode.stm at he ⊢
 rw[he] at c2
 have h1:=GCode.ok_head hc
 have hw:Jj 1 (s:Int)=[(s:Int)/8%2,(s:Int)/4%2,(s:Int)/2%2,(s:Int)/1%2]:=rfl
 refine AN Pp Ay (by simp) fun hwf=>?_
 rw[AP];unfold KM
 by_cases hb:c.code.bits=2
 ·have h2:Jj c.code.bits.toNat (s:Int)=[2*((s:Int)/8%2)+(s:Int)/4%2,2*((s:Int)/2%2)+(s:Int)/1%2]:=by
   rw[hb]
   show [(s:Int)/4%4,(s:Int)/1%4]=_
   congr 1
   ·omega
   ·congr 1;omega
  rw[h2] at c2 ⊢
  rw[hw] at c1
  have wa:IntKind.i64.wrap (2*((s:Int)/8%2))=2*((s:Int)/8%2):=Bd _ (by omega)
  have wb:IntKind.i64.wrap (2*((s:Int)/2%2))=2*((s:Int)/2%2):=Bd _ (by omega)
  have wc:IntKind.i64.wrap (2*((s:Int)/8%2)+(s:Int)/4%2)=2*((s:Int)/8%2)+(s:Int)/4%2:=Bd _ (by omega)
  have wd:IntKind.i64.wrap (2*((s:Int)/2%2)+(s:Int)/1%2)=2*((s:Int)/2%2)+(s:Int)/1%2:=Bd _ (by omega)
  have hbT:=eq_true hb
  refine' Gr @A_ @A9 hbT @lT wa wb wc wd;repeat' first|(refine' CQ;(first|refine AG c1 ?_|refine AG c2 ?_)<;>refine' Gr @A_ @A9 hbT @lT wa wb wc wd)|refine' CP|done
  all_goals first|rfl|omega|skip
 ·have h2:c.code.bits.toNat=1:=by omega
  rw[h2] at c2 ⊢
  refine' Gb @A_ @A9 hb;repeat' first|(refine' CQ;(first|refine AG c1 ?_|refine AG c2 ?_)<;>refine' Gb @A_ @A9 hb)|refine' CP|done
  all_goals first|rfl|omega|skip
theorem LE (n1 n2:Bool) (xs ys:List Int):Cc E0 O8 [.list n1 (BU xs),.list n2 (BU ys)] (.bool (decide (xs=ys))):=by
 refine AN SK Ay (by simp) fun hwf=>?_
 simp only[FL,Ea,EZ,EM,Fd,Fc,HI,Fb,CI,CX,CY,Eb,C9,List.length_map,CR,true_and,and_true] at hwf
 rw[AP];unfold Mn
 simp -implicitDefEqProofs only[go_sem]
 refine Bh (α:=Nat) (fun x=>[(5,.d (.int .i64 (x:Int)))]) (fun x=>[]) (fun x=>x<=xs.length/\x<=ys.length/\xs.take x=ys.take x) (fun x=>xs.length-x) 0 ?hI1 ?step1
 case' step1=>(rintro i hI;try dsimp only at hI)
 case' hI1=>try dsimp only
 ·exact⟨Nat.zero_le _,Nat.zero_le _,rfl⟩
 ·obtain⟨i1,i2,i3⟩:=hI
  by_cases h:i<xs.length/\i<ys.length
  ·have h1:(i:Int)<(xs.length:Int):=by omega
   have h2:(i:Int)<(ys.length:Int):=by omega
   have hwi:=Mi (i:=i) (by omega)
   have hx:xs.take (i+1)=xs.take i++[xs[i]?.getD 0]:=by rw[List.take_add_one];simp[h.1]
   have hy:ys.take (i+1)=ys.take i++[ys[i]?.getD 0]:=by rw[List.take_add_one];simp[h.2]
   refine' Zg h1 h2 hwi (h.1) (h.2)
   all_goals try exact Ca
   ·rename_i he
    rw[hx,hy,i3,he]
   ·rename_i he
    congr 1;symm
    rw[decide_eq_false_iff_not]
    intro e;exact he (by rw[e])
  ·by_cases hl:xs.length=ys.length
   ·have hi1:¬(i:Int)<(xs.length:Int):=by omega
    have hi2:¬(i:Int)<(ys.length:Int):=by omega
    have:xs=ys:=by rw[←List.take_of_length_le (l:=xs) (i:=i) (by omega),i3,List.take_of_length_le (by omega)]
    refine' Pb hi1 hi2 hl
    all_goals try exact Ca
    all_goals first|(congr 1;symm;rw[decide_eq_true_eq];exact this)|skip
   ·have hx:xs≠ys:=fun e=>hl (by rw[e])
    have hd:decide (xs=ys)=false:=decide_eq_false hx
    rw[hd]
    refine' HO
    all_goals try exact Ca
    all_goals skip
theorem Ou (c:GCode) (hc:c.ok=true) (s:Nat) (h:s<16):Cc E0 Kv [Fo c,.int .i64 (s:Int)] (.list false (BU (Jj c.bits.toNat s))):=by
 have h1:=GCode.ok_head hc
 have hb:c.bits=1\/c.bits=2:=by omega
 have hn:c.bits.toNat=1\/c.bits.toNat=2:=RO hc
 have hlen:=HV c.bits.toNat (s:Int)
 refine AN Od Ay (by simp) fun hwf=>?_
 rw[AP];unfold JR
 have w0:IntKind.i64.wrap (4-c.bits)=4-c.bits:=Bd _ (by omega)
 refine' Pb @AR @AQ w0
 all_goals try exact Ca
 refine B4 (α:=Nat×Int×Bool) (l0:=?l2) (m0:=?m2) (fun x=>[(6,.d (.int .i64 x.2.1))]) (fun x=>[(26,.row 3 1 x.2.2 (BU ((Jj c.bits.toNat (s:Int)).take x.1)))]) (fun x=>x.1<=4/c.bits.toNat/\x.2.1=4-c.bits*((x.1:Int)+1)/\x.2.2=decide (x.1=0)) (fun x=>4/c.bits.toNat-x.1) (0,(4-c.bits),true) ?h02 ?he2 ?he22 ?hI2 ?step2
 case h02=>(simp -implicitDefEqProofs only[go_sem,AR,AQ];rfl)
 case he2=>rfl
 case he22=>rfl
 case' step2=>(rintro⟨k,a,nl⟩ hI;try dsimp only at hI)
 case' hI2=>try dsimp only
 ·exact⟨Nat.zero_le _,by rcases hb with h2|h2<;>rw[h2]<;>rfl,rfl⟩
 ·obtain⟨k1,k2,k3⟩:=hI
  change a=4-c.bits*((k:Int)+1) at k2
  change nl=decide (k=0) at k3
  by_cases hk:k<4/c.bits.toNat
  ·have ha:0<=a/\a<=3:=by
    rcases hb with h2|h2<;>rw[h2] at k2 hk<;>simp at hk<;>omega
   have h0:0<=a:=ha.1
   have e1:=dm hb hk k2 h
   obtain⟨x,hx⟩:∃x,(Jj c.bits.toNat (s:Int))[k]?.getD 0=x:=⟨_,rfl⟩
   have hst:(Jj c.bits.toNat (s:Int)).take (k+1)=(Jj c.bits.toNat (s:Int)).take k++[x]:=by
    rw[←hx,List.take_add_one,List.getElem?_eq_getElem (by rw[hlen];exact hk)];simp[Option.getD]
   rw[hx] at e1
   have hl4:((Jj c.bits.toNat (s:Int)).take k).length<=4:=by rw[List.length_take,hlen];have:=Nat.div_le_self 4 c.bits.toNat;omega
   have wn:IntKind.i64.wrap (a-c.bits)=a-c.bits:=Bd _ (by omega)
   refine' Zg @AR @AQ h0 wn e1
   all_goals try exact Ca
   rw[e1,←hst]
   refine⟨(k+1,a-c.bits,false),rfl,⟨by show k+1<=_;omega,?_,?_⟩,by show 4/c.bits.toNat-(k+1)<_;omega⟩
   ·show a-c.bits=4-c.bits*(((k+1:Nat):Int)+1)
    rw[k2];push_cast;rw[Int.mul_add,Int.mul_add,Int.mul_add];omega
   ·show false=decide (k+1=0)
    exact(decide_eq_false (by omega)).symm
  ·have ha:¬0<=a:=by
    rcases hb with h2|h2<;>rw[h2] at k2 hk<;>simp at hk<;>omega
   have hk0:nl=false:=by
     rw[k3,decide_eq_false];have:2<=4/c.bits.toNat:=by rcases hn with h2|h2<;>rw[h2]<;>omega
     omega
   have htk:(Jj c.bits.toNat (s:Int)).take k=Jj c.bits.toNat (s:Int):=List.take_of_length_le (by rw[hlen];omega)
   rw[hk0,htk]
   refine' Pb @AR @AQ ha
   all_goals try exact Ca
   all_goals first|rfl|skip
end Go.Pw
