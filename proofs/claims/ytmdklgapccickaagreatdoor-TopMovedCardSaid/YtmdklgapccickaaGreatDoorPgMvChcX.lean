/- Part. -/
import Derived.Test.YtmdklgapccickaaGreatDoorPgMvChrFs
import Derived.Test.YtmdklgapccickaaGreatDoorPgMvChcD
import Derived.Test.YtmdklgapccickaaGreatDoorPwYa
set_option linter.all false
open Option renaming getD->aa,map_some->ne
open Bool renaming and_false->ax,false_and->c8,true_and->ea,false_eq_true->hU,and_eq_true->pv
open List renaming getElem?_map->ay,length_take->ck,take_of_length_le->cw,range->eb,take_add_one->et,mem_map->f0,append_nil->hX,drop_eq_nil_of_le->hY,length_map->i7,map_congr_left->la,append_assoc->lb,getElem?_range->na,getElem?_append_right->no,length_append->ox,mem_cons->oy
open Nat renaming zero_le->az,mul_le_mul->cp,div_le_self->i5,mul_le_mul_right->j0,add_mul->j4,one_mul->kk
open Go Go.Pw Go.Proofs
namespace Go.Pw
set_option maxRecDepth 100000
set_option maxHeartbeats 12800000
section
attribute [local irreducible] IntKind.wrap Ah aa and or
theorem Sd(c:GCode)(y0:Int)(h:0<=c.out/\c.out<=5)(hx:0<=y0/\y0<=1000):BU E0 OD [Hz c,.int .i64 y0] (.list (CJ c.out.toNat y0).isEmpty (Ad (CJ c.out.toNat y0))):=by
 refine AL Sz AR (by simp) fun l=>?_
 rw[AN];unfold MI;refine' LV @An @Ak @BB
 all_goals(try simp (disch:=omega)only[Jb]at *)
 refine AZ (α:=Int×Bool×(List Int)) (fun x=>[(6,.d (.int .i64 x.1))]) (fun x=>[(21,.row YL 1 x.2.1 (Ad x.2.2))]) (fun x=>-1<=x.1/\x.1<c.out/\x.2.2.length+x.1=c.out-1/\x.2.1=x.2.2.isEmpty/\x.2.2++CJ (x.1+1).toNat y0=CJ c.out.toNat y0) (fun x=>(x.1+1).toNat) (?a1_0,?a1_1,[]) ?hI1 ?step1
 case' step1=>(rintro⟨i,nl,acc⟩ j;try dsimp only at j)
 case' hI1=>try dsimp only
 ·simp;(try omega)
 ·obtain⟨h1,h2,n,m,e⟩:=j
  by_cases hi:0<=i
  ·have hb:CJ (i+1).toNat y0=(y0/2^i.toNat%2)::CJ i.toNat y0:=by rw[show(i+1).toNat=i.toNat+1 by omega,CJ]
   rw[hb]at e;have hu:IntKind.u64.wrap i=i:=aF _ (by omega);refine' HM hu
   all_goals(try simp (disch:=omega)only[Jb]at *)
   all_goals try exact BL
   all_goals(rw[←e,show(i-1+1).toNat=i.toNat by omega];simp)
  ·have h0:(i+1).toNat=0:=by omega
   rw[h0,CJ,hX]at e;refine' FP
   all_goals try exact BL
   all_goals(rw[←e,m])
theorem Sc(c:GCode)(h:c.ok=true)(s:Int)(nl:Bool)(l:List Int)(hs:c.isState s=true)(y:∀w,w∈l->c.isWord w=true)(hl:l.length<=24) :
  BU E0 OC [Hz c,.int .i64 s,.list nl (Ad l)] (.tup [.list (c.stream s l).1.isEmpty (Ad (c.stream s l).1),.int .i64 (c.stream s l).2]):=by
 refine AL Sy AR (by simp) fun G=>?_
 have hd:=GCode.ok_head h;rw[AN];unfold MH;refine' LV @An @Ak @BB;refine AZ (α:=Int×Int×Bool×(List Int)) (fun x=>[(8,.d (.int .i64 x.1)),(1,.d (.int .i64 x.2.1))]) (fun x=>[(29,.row YL 1 x.2.2.1 (Ad x.2.2.2))]) (fun x=>0<=x.1/\x.1<=l.length/\c.isState x.2.1=true/\x.2.2.1=x.2.2.2.isEmpty/\x.2.2.2.length<=5*x.1/\(x.2.2.2++(c.stream x.2.1 (l.drop x.1.toNat)).1,(c.stream x.2.1 (l.drop x.1.toNat)).2)=c.stream s l) (fun x=>(l.length-x.1).toNat) (?a2_0,s,?a2_2,[]) ?hI2 ?step2
 case' step2=>(rintro⟨i,t,n2,acc⟩ r;try dsimp only at r)
 case' hI2=>try dsimp only
 ·simp[hs]
 ·obtain⟨J,z,ht,hn,O,e⟩:=r
  by_cases hi:i<l.length
  ·have j:c.isWord (l[i.toNat]?.getD 0)=true:=y _ (D6 (by omega));have hr:=GCode.wrd_range c h ht j
   have A:(2:Int)^c.out.toNat<=32:=by
    have:c.out.toNat=1\/c.out.toNat=2\/c.out.toNat=3\/c.out.toNat=4\/c.out.toNat=5:=by omega
    rcases this with h|h|h|h|h<;>rw[h]<;>decide
   have o:=GCode.nxt_state h ht j;have cs:=Sd c (c.wrd t (l[i.toNat]?.getD 0)) (by omega) (by omega);have q:=Hm c.out.toNat (c.wrd t (l[i.toNat]?.getD 0));have p:l.drop i.toNat=(l[i.toNat]?.getD 0)::l.drop (i+1).toNat:=by rw[Hw (xs:=l) (i:=i.toNat) (by omega),show(i+1).toNat=i.toNat+1 by omega]
   rw[p]at e;simp only[GCode.stream]at e;have n:=ht;have m:=j;simp only[GCode.isState,GCode.isWord,Cw,decide_eq_true_eq]at n m;have L:=GCode.ok_words h t.toNat (by omega);have u:=GCode.ok_next h t.toNat (by omega);have M:((2^c.bits.toNat:Nat):Int)=2^c.bits.toNat:=by simp
   generalize hw0:l[i.toNat]?.getD 0=w at *;generalize CJ c.out.toNat (c.wrd t w)=B at *
   have N:B.isEmpty=false:=by cases B with
    |nil=>simp at q;omega
    |cons _ _=>rfl
   refine' mt @An @Ak @BB @ES (c.nxt_eq) (c.wrd_eq) hw0;repeat' first|(refine' BJ;(first|refine AF cs ?_)<;>refine' mt @An @Ak @BB @ES (c.nxt_eq) (c.wrd_eq) hw0)|refine' BI|done
   all_goals(try simp (disch:=omega)only[Jb]at *)
   all_goals try exact BL
   all_goals first|exact o|(rw[c.nxt_eq,←e];simp;done)|(simp;omega)|(subst hn;cases acc<;>cases B<;>simp_all;done)|skip
  ·have h0:l.drop i.toNat=[]:=hY (by omega);rw[h0]at e;simp only[GCode.stream,hX]at e;refine' FP
   all_goals try exact BL
   all_goals(rw[←e];try simp[hn])
end
section
attribute [local irreducible] IntKind.wrap Ah aa and or
end
section
attribute [local irreducible] IntKind.wrap Ah aa and or
end
section
attribute [local irreducible] IntKind.wrap Ah aa and or
end
section
def HU(c:GCode):List D:=(eb 16).map fun s=>.list false (Ad (c.stm s))
theorem af(c:GCode):(HU c).length=16:=by simp[HU]
theorem ah(c:GCode){s:Nat}(h:s<16):(HU c)[s]?=some (.list false (Ad (c.stm s))):=by simp[HU,h]
theorem jm(c:GCode):(HU c).take 16=HU c:=cw (by rw[af];omega)
def YB(c:Ag)(r:List D):List D:=.int .i64 c.code.bits :: .int .i64 c.code.out :: .int .i64 c.code.least :: .int .i64 c.code.most :: .list c.code.nw (Hn c.code.words) :: .list c.code.nn (Hn c.code.next) :: .int .i64 c.L :: .int .i64 c.P :: .int .i64 c.Q :: .list c.nm (Ad c.mark) :: .int .i64 c.seed :: .int .i64 c.errs::r
theorem Be(c:Ag)(r:List D):YB c r=.int .i64 c.code.bits :: .int .i64 c.code.out :: .int .i64 c.code.least :: .int .i64 c.code.most :: .list c.code.nw (Hn c.code.words) :: .list c.code.nn (Hn c.code.next) :: .int .i64 c.L :: .int .i64 c.P :: .int .i64 c.Q :: .list c.nm (Ad c.mark) :: .int .i64 c.seed :: .int .i64 c.errs::r:=rfl
theorem X0(a b c d e f g h i j k l:D)(r:List D)(n:Nat):(a::b::c::d::e::f::g::h::i::j::k::l::r)[12+n]?=r[n]?:=by rw[Nat.add_comm];rfl
theorem xE(x:Int):(some x).getD 0=x:=rfl
theorem ABL:∀n:Fin 16,Ah .and .i64 (n.val:Int) 3=(n.val:Int)%4:=by decide +kernel
theorem sJ{b k:Nat}(s:Int)(h:k<4/b):(M4 b s)[k]?.getD 0=s/2^((4/b-1-k)*b)%2^b:=by simp[M4,h]
theorem mz{b a:Int}{k s:Nat}(hb:b=1\/b=2)(hk:k<4/b.toNat)(h:a=4-b*((k:Int)+1))(hs:s<16) :
  Ah .and .i64 ((s:Int)/2^a.toNat) (IntKind.i64.wrap (2^b.toNat-1))=(M4 b.toNat (s:Int))[k]?.getD 0:=by
 rw[sJ _ hk];rcases hb with rfl|rfl
 ·have e:a.toNat=(4/(1:Int).toNat-1-k)*(1:Int).toNat:=by simp;omega
  rw[←e,show IntKind.i64.wrap (2^(1:Int).toNat-1)=1 from Am 1 (by omega),jN];rfl
 ·have e:a.toNat=(4/(2:Int).toNat-1-k)*(2:Int).toNat:=by simp at hk ⊢;omega
  rw[←e,show IntKind.i64.wrap (2^(2:Int).toNat-1)=3 from Am 3 (by omega)];have h1:(s:Int)/2^a.toNat=((s/2^a.toNat:Nat):Int):=by push_cast;rfl
  have h2:s/2^a.toNat<16:=Nat.lt_of_le_of_lt (i5 _ _) hs;rw[h1];exact ABL ⟨_,h2⟩
theorem X4(n:Int):n.fdiv (2^min 1 64)=n/2:=by rw[ec];rfl
theorem YR{L P Q:Int}(h:DN L P Q=true):2<=L/\L<=15/\1<=P/\P<=8/\P<L/\1<=Q/\Q<=8:=by
 obtain⟨l,p,q,rfl,rfl,rfl,b1,b2,i,e,j,m,n,hc⟩:=Qa h;omega
theorem Xh{L P Q:Int}(h:DN L P Q=true):2<=Q*L/\Q*L<=120:=by
 obtain⟨l,p,q,rfl,rfl,rfl,b1,b2,m,o,n,e,i,hc⟩:=Qa h;have h1:q*l<=8*15:=cp i b2;have h2:1*2<=q*l:=cp e b1;have j:(q:Int)*(l:Int)=((q*l:Nat):Int):=by push_cast;rfl
 rw[j];omega
attribute [local irreducible] IntKind.wrap Ah aa and or
theorem KZ(n lo hi:Int):BU E0 N9 [.int .i64 n,.int .i64 lo,.int .i64 hi] (.bool (Cw n lo hi)):=by
 refine AL Ss AR (by simp) fun e=>?_
 rw[AN];unfold MC;refine' FP
 all_goals(simp only[Cw];congr 1;symm;first|(rw[decide_eq_true_eq];omega)|(rw[decide_eq_false_iff_not];omega))
theorem F1(c:Ag)(r:List D)(h:DN c.L c.P c.Q=true):BU E0 F0 [.ptr (YB c r)] (.int .i64 (c.Q*c.L)):=by
 have hb:=Xh h;have e:IntKind.i64.wrap (c.Q*c.L)=c.Q*c.L:=Am _ (by omega);refine AL Ih AR (by simp) fun i=>?_
 rw[AN];unfold Fe;refine' MX @Be e
 all_goals first|rfl|omega|skip
theorem Ha(c:Ag):BU E0 HB [.ptr (YB c (HU c.code))] (.int .i64 (c.code.sz:Nat)):=by
 have h0:(HU c.code)[0]?=some (.list false (Ad (c.code.stm 0))):=ah _ (by omega);have hl:=Qc c.code 0;refine AL KM AR (by simp) fun e=>?_
 rw[AN];unfold GW;refine' LV @Be h0 hl
 all_goals first|rfl|omega|skip
theorem UX{c:Ag}(h:DN c.L c.P c.Q=true):c.Q*c.L=((c.syms:Nat):Int):=by have:=Xh h;unfold Ag.syms;omega
theorem LG(c:Ag)(h:DN c.L c.P c.Q=true)(hc:c.code.ok=true):BU E0 HD [.ptr (YB c (HU c.code))] (.int .i64 ((c.syms*c.code.sz:Nat):Int)):=by
 have c1:=F1 c (HU c.code) h;have c2:=Ha c;have hb:=Xh h;have j:=UX h;have l:=Ir hc;rw[j]at c1 hb;have hm:c.syms*c.code.sz<=120*20:=cp (by omega) l.2;have e:IntKind.i64.wrap ((c.syms:Int)*(c.code.sz:Int))=((c.syms*c.code.sz:Nat):Int):=by rw[show(c.syms:Int)*(c.code.sz:Int)=((c.syms*c.code.sz:Nat):Int) by push_cast;rfl];exact Am _ (by omega)
 refine AL KO AR (by simp) fun i=>?_
 rw[AN];unfold GY;refine' J6 e;repeat' first|(refine' BJ;(first|refine AF c1 ?_|refine AF c2 ?_)<;>refine' J6 e)|refine' BI|done
 all_goals first|rfl|omega|skip
theorem M3(n:Int):BU E0 F3 [.int .i64 n] (.bool (!Cw n 0 1)):=by
 refine AL M1 AR (by simp) fun e=>?_
 rw[AN];unfold Ht;refine' HM @X4
 all_goals(simp only[Cw];congr 1;symm;first|(rw[Bool.not_eq_false',decide_eq_true_eq];omega)|(rw[Bool.not_eq_true',decide_eq_false_iff_not];omega))
theorem O_(nl:Bool)(xs:List Int):BU E0 KD [.list nl (Ad xs)] (.bool (Pz xs)):=by
 have c1:=Ct nl xs F3 [] (fun n=>!Cw n 0 1) (by kernel_rfl) rfl (fun x _=>M3 x);refine AL O6 AR (by simp) fun h=>?_
 simp only[Eo,Dv,Du,Da,FE,FD,HI,FC,Bj,B0,B1,Dw,CO,i7,Bq,true_and,and_true]at h;rw[AN];unfold I5;have e:(!xs.any fun n=>!Cw n 0 1)=Ap xs:=by simp[Ap,List.all_eq_not_any_not]
 refine' Fp;repeat' first|(refine' BJ;(first|refine AF c1 ?_)<;>refine' Fp)|refine' BI|done
 all_goals(unfold Pz;rw[←e];first|rfl|(congr 1;symm;simp_all;done)|(congr 1;symm;simp_all;omega)|skip)
theorem Gn(c:Ag)(h:DN c.L c.P c.Q=true):BU E0 Me [IU c] (.int .i64 (c.Q*c.L)):=by
 have hb:=Xh h;have e:IntKind.i64.wrap (c.Q*c.L)=c.Q*c.L:=Am _ (by omega);refine AL RS AR (by simp) fun i=>?_
 rw[AN];unfold Ke;refine' LV @Ab @Aa e
 all_goals first|rfl|omega|skip
theorem VN(c:Ag)(h:c.code.ok=true):BU E0 SF [IU c] (.int .i64 (c.code.sz:Nat)):=by
 have h1:=GCode.ok_head h;have j:=Ir h
 have e:IntKind.i64.wrap (IntKind.i64.wrap ((4:Int).tdiv c.code.bits)*c.code.out)=((c.code.sz:Nat):Int):=by
  have h2:c.code.bits=1\/c.code.bits=2:=by omega
  unfold GCode.sz;rcases h2 with h2|h2
  ·rw[h2,show(4:Int).tdiv 1=4 from rfl,Am 4 (by omega),Am _ (by omega),show(1:Int).toNat=1 from rfl];omega
  ·rw[h2,show(4:Int).tdiv 2=2 from rfl,Am 2 (by omega),Am _ (by omega),show(2:Int).toNat=2 from rfl];omega
 refine AL Vu AR (by simp) fun i=>?_
 rw[AN];unfold PE;refine' LV @Ab @Aa e
 all_goals first|rfl|omega|skip
theorem T3(c:Ag)(h:DN c.L c.P c.Q=true)(hc:c.code.ok=true)(hm:c.mark.length<=1000):BU E0 PW [IU c] (.int .i64 (c.tot:Nat)):=by
 have c1:=Gn c h;have c2:=VN c hc;have hb:=Xh h;have l:=UX h;have n:=Ir hc;rw[l]at c1 hb;have m:c.syms*c.code.sz<=120*20:=cp (by omega) n.2;have i:IntKind.i64.wrap ((c.syms:Int)*(c.code.sz:Int))=((c.syms*c.code.sz:Nat):Int):=by rw[show(c.syms:Int)*(c.code.sz:Int)=((c.syms*c.code.sz:Nat):Int) by push_cast;rfl];exact Am _ (by omega)
 have e:IntKind.i64.wrap ((c.mark.length:Int)+((c.syms*c.code.sz:Nat):Int))=((c.tot:Nat):Int):=by rw[Am _ (by omega)];unfold Ag.tot;omega
 refine AL UB AR (by simp) fun j=>?_
 rw[AN];unfold NH;refine' Gj @Ab @Aa i e;repeat' first|(refine' BJ;(first|refine AF c1 ?_|refine AF c2 ?_)<;>refine' Gj @Ab @Aa i e)|refine' BI|done
 all_goals first|rfl|omega|skip
theorem Sb(s:Nat)(h:s<16):BU E0 N_ [.int .i64 (s:Int)] (.list false (Ad (M4 1 s))):=by
 have i:∀x:Int,0<=x->x.tmod 2=x%2:=fun x hx=>Int.tmod_eq_emod_of_nonneg hx
 have e1:∀y:Int,(s:Int).tdiv y=(s:Int)/y:=fun y=>Int.tdiv_eq_ediv_of_nonneg (by omega)
 have e:M4 1 (s:Int)=[(s:Int).tdiv 8,((s:Int).tdiv 4).tmod 2,((s:Int).tdiv 2).tmod 2,(s:Int).tmod 2]:=by
  rw[e1,e1,e1,i _ (by omega),i _ (by omega),i _ (by omega)];show [(s:Int)/8%2,(s:Int)/4%2,(s:Int)/2%2,(s:Int)/1%2]=_;rw[show(s:Int)/8%2=(s:Int)/8 by omega,Int.ediv_one]
 have n:IntKind.i64.wrap ((s:Int).tdiv 8)=(s:Int).tdiv 8:=Am _ (by rw[e1];omega);have j:IntKind.i64.wrap ((s:Int).tdiv 4)=(s:Int).tdiv 4:=Am _ (by rw[e1];omega);have m:IntKind.i64.wrap ((s:Int).tdiv 2)=(s:Int).tdiv 2:=Am _ (by rw[e1];omega);refine AL Su AR (by simp) fun l=>?_
 rw[AN];unfold MD;refine' Ta e n j m
 all_goals first|rfl|omega|skip
theorem K3{α:Type}{l:List α}(h:l≠[]):l.isEmpty=false:=by cases l with
 |nil=>exact absurd rfl h
 |cons _ _=>rfl
theorem Ka(c:Ag)(hc:c.code.ok=true)(s:Nat)(h:s<16):BU E0 N' [IU c,.int .i64 (s:Int)] (.list false (Ad (c.code.stm s))):=by
 have c1:=Sb s h;have c2:=Sc c.code hc 0 false (M4 c.code.bits.toNat s) (Uv hc) (U0 hc s) (by rw[Jm];rcases Uo hc with h1|h1<;>rw[h1]<;>omega);have n:=K3 (eN hc s);unfold GCode.stm at n ⊢;rw[n]at c2;have h1:=GCode.ok_head hc;have o:M4 1 (s:Int)=[(s:Int)/8%2,(s:Int)/4%2,(s:Int)/2%2,(s:Int)/1%2]:=rfl;refine AL Sv AR (by simp) fun p=>?_
 rw[AN];unfold ME
 by_cases hb:c.code.bits=2
 ·have h2:M4 c.code.bits.toNat (s:Int)=[2*((s:Int)/8%2)+(s:Int)/4%2,2*((s:Int)/2%2)+(s:Int)/1%2]:=by
   rw[hb];show [(s:Int)/4%4,(s:Int)/1%4]=_;congr 1
   ·omega
   ·congr 1;omega
  rw[h2]at c2 ⊢;rw[o]at c1;have m:IntKind.i64.wrap (2*((s:Int)/8%2))=2*((s:Int)/8%2):=Am _ (by omega);have i:IntKind.i64.wrap (2*((s:Int)/2%2))=2*((s:Int)/2%2):=Am _ (by omega);have j:IntKind.i64.wrap (2*((s:Int)/8%2)+(s:Int)/4%2)=2*((s:Int)/8%2)+(s:Int)/4%2:=Am _ (by omega);have l:IntKind.i64.wrap (2*((s:Int)/2%2)+(s:Int)/1%2)=2*((s:Int)/2%2)+(s:Int)/1%2:=Am _ (by omega);have e:=eq_true hb;refine' EP @Ab @Aa e @xE m i j l;repeat' first|(refine' BJ;(first|refine AF c1 ?_|refine AF c2 ?_)<;>refine' EP @Ab @Aa e @xE m i j l)|refine' BI|done
  all_goals first|rfl|omega|skip
 ·have h2:c.code.bits.toNat=1:=by omega
  rw[h2]at c2 ⊢;refine' FA @Ab @Aa hb;repeat' first|(refine' BJ;(first|refine AF c1 ?_|refine AF c2 ?_)<;>refine' FA @Ab @Aa hb)|refine' BI|done
  all_goals first|rfl|omega|skip
theorem Gp(n1 n2:Bool)(xs ys:List Int):BU E0 SG [.list n1 (Ad xs),.list n2 (Ad ys)] (.bool (decide (xs=ys))):=by
 refine AL Vv AR (by simp) fun n=>?_
 simp only[Eo,Dv,Du,Da,FE,FD,HI,FC,Bj,B0,B1,Dw,CO,i7,Bq,true_and,and_true]at n;rw[AN];unfold PF;simp -implicitDefEqProofs only[go_sem];refine AZ (α:=Nat) (fun x=>[(5,.d (.int .i64 (x:Int)))]) (fun x=>[]) (fun x=>x<=xs.length/\x<=ys.length/\xs.take x=ys.take x) (fun x=>xs.length-x) 0 ?hI1 ?step1
 case' step1=>(rintro i r;try dsimp only at r)
 case' hI1=>try dsimp only
 ·exact⟨az _,az _,rfl⟩
 ·obtain⟨u,y,q⟩:=r
  by_cases h:i<xs.length/\i<ys.length
  ·have h1:(i:Int)<(xs.length:Int):=by omega
   have h2:(i:Int)<(ys.length:Int):=by omega
   have m:=HE (i:=i) (by omega);have hx:xs.take (i+1)=xs.take i++[xs[i]?.getD 0]:=by rw[et];simp[h.1]
   have t:ys.take (i+1)=ys.take i++[ys[i]?.getD 0]:=by rw[et];simp[h.2]
   refine' bq h1 h2 m (h.1) (h.2)
   all_goals try exact BL
   ·rename_i p;rw[hx,t,q,p]
   ·rename_i p;congr 1;symm;rw[decide_eq_false_iff_not];intro e;exact p (by rw[e])
  ·by_cases hl:xs.length=ys.length
   ·have j:¬(i:Int)<(xs.length:Int):=by omega
    have o:¬(i:Int)<(ys.length:Int):=by omega
    have:xs=ys:=by rw[←cw (l:=xs) (i:=i) (by omega),q,cw (by omega)]
    refine' LV j o hl
    all_goals try exact BL
    all_goals first|(congr 1;symm;rw[decide_eq_true_eq];exact this)|skip
   ·have hx:xs≠ys:=fun e=>hl (by rw[e])
    have hd:decide (xs=ys)=false:=decide_eq_false hx;rw[hd];refine' FP
    all_goals try exact BL
    all_goals skip
theorem R3(c:GCode)(hc:c.ok=true)(s:Nat)(h:s<16):BU E0 Mr [Hz c,.int .i64 (s:Int)] (.list false (Ad (M4 c.bits.toNat s))):=by
 have h1:=GCode.ok_head hc;have hb:c.bits=1\/c.bits=2:=by omega
 have hn:c.bits.toNat=1\/c.bits.toNat=2:=Uo hc;have e:=Jm c.bits.toNat (s:Int);refine AL Rn AR (by simp) fun p=>?_
 rw[AN];unfold Kx;have w0:IntKind.i64.wrap (4-c.bits)=4-c.bits:=Am _ (by omega);refine' LV @An @Ak w0
 all_goals try exact BL
 refine BN (α:=Nat×Int×Bool) (l0:=?l2) (m0:=?m2) (fun x=>[(6,.d (.int .i64 x.2.1))]) (fun x=>[(26,.row 3 1 x.2.2 (Ad ((M4 c.bits.toNat (s:Int)).take x.1)))]) (fun x=>x.1<=4/c.bits.toNat/\x.2.1=4-c.bits*((x.1:Int)+1)/\x.2.2=decide (x.1=0)) (fun x=>4/c.bits.toNat-x.1) (0,(4-c.bits),true) ?h02 ?he2 ?he22 ?hI2 ?step2
 case h02=>(simp -implicitDefEqProofs only[go_sem,An,Ak];rfl)
 case he2=>rfl
 case he22=>rfl
 case' step2=>(rintro⟨k,a,nl⟩ n;try dsimp only at n)
 case' hI2=>try dsimp only
 ·exact⟨az _,by rcases hb with h2|h2<;>rw[h2]<;>rfl,rfl⟩
 ·obtain⟨k1,k2,o⟩:=n;change a=4-c.bits*((k:Int)+1)at k2;change nl=decide (k=0)at o
  by_cases hk:k<4/c.bits.toNat
  ·have l:0<=a/\a<=3:=by
    rcases hb with h2|h2<;>rw[h2]at k2 hk<;>simp at hk<;>omega
   have h0:0<=a:=l.1;have e1:=mz hb hk k2 h;obtain⟨x,hx⟩:∃x,(M4 c.bits.toNat (s:Int))[k]?.getD 0=x:=⟨_,rfl⟩
   have j:(M4 c.bits.toNat (s:Int)).take (k+1)=(M4 c.bits.toNat (s:Int)).take k++[x]:=by
    rw[←hx,et,List.getElem?_eq_getElem (by rw[e];exact hk)];simp[aa]
   rw[hx]at e1;have r:((M4 c.bits.toNat (s:Int)).take k).length<=4:=by rw[ck,e];have:=i5 4 c.bits.toNat;omega
   have q:IntKind.i64.wrap (a-c.bits)=a-c.bits:=Am _ (by omega);refine' bq @An @Ak h0 q e1
   all_goals try exact BL
   rw[e1,←j];refine⟨(k+1,a-c.bits,false),rfl,⟨by show k+1<=_;omega,?_,?_⟩,by show 4/c.bits.toNat-(k+1)<_;omega⟩
   ·show a-c.bits=4-c.bits*(((k+1:Nat):Int)+1);rw[k2];push_cast;rw[Int.mul_add,Int.mul_add,Int.mul_add];omega
   ·show false=decide (k+1=0);exact(decide_eq_false (by omega)).symm
  ·have l:¬0<=a:=by
    rcases hb with h2|h2<;>rw[h2]at k2 hk<;>simp at hk<;>omega
   have m:nl=false:=by
     rw[o,decide_eq_false];have:2<=4/c.bits.toNat:=by rcases hn with h2|h2<;>rw[h2]<;>omega
     omega
   have i:(M4 c.bits.toNat (s:Int)).take k=M4 c.bits.toNat (s:Int):=cw (by rw[e];omega);rw[m,i];refine' LV @An @Ak l
   all_goals try exact BL
   all_goals first|rfl|skip
end
section
theorem nv{E:CW}{rs o els s}:tC E rs o els .ret s=(GL E s rs (fun _=>True)/\Og els (s.V.ob o)):=rfl
theorem bI{E:CW}{rs o els s}:tC E rs o els .normal s=(GL E s rs (fun _=>True)/\Og els (s.V.ob o)):=rfl
theorem RD{els g e n st}:Og els (some (g,.hist e n st))=(e=els/\(st=true\/n=els.length)):=rfl
def chk(n m:Nat)(xs:List Int):List (List Int):=(eb m).map fun i=>(xs.drop (i*n)).take n
theorem vr(n m:Nat)(xs:List Int):(chk n m xs).length=m:=by simp[chk]
theorem vt{n m:Nat}(xs:List Int){i:Nat}(h:i<m):(chk n m xs)[i]?=some ((xs.drop (i*n)).take n):=by simp[chk,h]
def gb(n m:Nat)(xs:List Int):List (List D):=(chk n m xs).map fun p=>[.list false (Ad p)]
theorem N0(n m:Nat)(xs:List Int):(gb n m xs).length=m:=by simp[gb,vr]
theorem V9{n m:Nat}(xs:List Int){i:Nat}(h:i<m):(gb n m xs)[i]?=some [.list false (Ad ((xs.drop (i*n)).take n))]:=by simp[gb,vt xs h]
theorem mH:D3.noR=true:=by rfl
attribute [local irreducible] IntKind.wrap Ah aa and or
theorem N1(n1 n2:Bool)(xs ys:List Int)(hx:Ap xs=true)(p:Ap ys=true)(hl:xs.length<=ys.length)(m:xs.length<=1000000) :
  BU E0 Ja [.list n1 (Ad xs),.list n2 (Ad ys)] (.int .i64 (FI xs ys)):=by
 refine AL Nu AR (by simp) fun q=>?_
 rw[AN];unfold IQ;simp -implicitDefEqProofs only[go_sem];refine AZ (α:=Int×Int) (fun x=>[(8,.d (.int .i64 x.1)),(4,.d (.int .i64 x.2))]) (fun x=>[]) (fun x=>0<=x.1/\x.1<=xs.length/\0<=x.2/\x.2<=x.1/\x.2+FI (xs.drop x.1.toNat) (ys.drop x.1.toNat)=FI xs ys) (fun x=>(xs.length-x.1).toNat) (?a1_0,?a1_1) ?hI1 ?step1
 case' step1=>(rintro⟨i,n⟩ j;try dsimp only at j)
 case' hI1=>try dsimp only
 ·simp
 ·by_cases hi:i<xs.length
  ·obtain⟨e,l⟩:∃e:Int,(if xs[i.toNat]?.getD 0=ys[i.toNat]?.getD 0 then 0 else 1)=e:=⟨_,rfl⟩
   have h:=UV (Fk hx (i:=i.toNat) (by omega)) (Fk p (i:=i.toNat) (by omega))
   have hd:FI (xs.drop i.toNat) (ys.drop i.toNat)=e+FI (xs.drop (i+1).toNat) (ys.drop (i+1).toNat):=by
    rw[Hw (xs:=xs) (i:=i.toNat) (by omega),Hw (xs:=ys) (i:=i.toNat) (by omega),FI,l,show(i+1).toNat=i.toNat+1 by omega]
   rw[l]at h;have o:e=0\/e=1:=by rw[←l];split<;>simp
   refine' FP
   all_goals(try simp only[h])
   all_goals(try rw[Am _ (by omega)])
   all_goals omega
  ·refine' FP
   all_goals try exact BL
   have h0:xs.drop i.toNat=[]:=hY (by omega);have h1:FI [] (ys.drop i.toNat)=0:=by simp[FI]
   rw[h0,h1]at j;rw[←j.2.2.2.2];simp
theorem YN(nl:Bool)(xs:List Int)(n m:Nat)(hn:0<n)(hm:xs.length=m*n)(hb:xs.length<=1000000)(h:nl=false) :
  WY E0 DD [] [.ptr [.list nl (Ad xs)],.ptr [.int .i64 (n:Int)]] (gb n m xs):=by
 subst h;refine Le JD AR mH (by simp) fun p _=>?_
 rw[Bh];unfold D3;refine' FP
 all_goals try exact BL
 refine AZ (α:=Nat×Int) (fun x=>[(4,.d (.int .i64 x.2))]) (fun x=>[(900000,.hist (gb n m xs) x.1 false)]) (fun x=>x.1<=m/\x.2=((x.1*n:Nat):Int)) (fun x=>m-x.1) (0,0) ?hI2 ?step2
 case' step2=>(rintro⟨i,a⟩ j;try dsimp only at j)
 case' hI2=>try dsimp only
 ·exact⟨az _,by simp⟩
 ·obtain⟨r,l⟩:=j;change a=((i*n:Nat):Int)at l;subst l
  by_cases hi:i<m
  ·have h1:i*n+n<=m*n:=by have:=j0 n (show i+1<=m by omega);rw[j4,kk]at this;exact this
   have h2:((i*n:Nat):Int)<(xs.length:Int):=by omega
   have q:IntKind.i64.wrap (((i*n:Nat):Int)+(n:Int))=((i*n+n:Nat):Int):=by rw[Am _ (by omega)];push_cast;rfl
   have hg:=V9 (n:=n) xs hi;have e:min (n:Int) ((xs.drop (i*n)).length:Int)=(n:Int):=by rw[List.length_drop];omega
   refine' mA6 h2 q hg e @nv @RD
   all_goals try exact BL
   rw[j4,kk]
  ·have h2:¬((i*n:Nat):Int)<(xs.length:Int):=by
    have:m*n<=i*n:=j0 n (by omega);omega
   have o:i=(gb n m xs).length:=by rw[N0];omega
   refine' LV h2 @bI @RD
   all_goals try exact BL
theorem YO(nl:Bool)(xs:List Int)(n:Nat)(hn:0<n):BU E0 G5 [.list nl (Ad xs),.int .i64 (n:Int)] (.fn DD [.ptr [.list nl (Ad xs)],.ptr [.int .i64 (n:Int)]]):=by
 refine AL KI AR (by simp) fun e=>?_
 rw[AN];unfold GS;have h1:¬(n:Int)<1:=by omega
 refine' HM h1
 all_goals first|rfl|skip
theorem f9(n1 n2:Bool)(xs ys:List Int):BU E0 DE [.list n1 (Ad xs),.ptr [.list n2 (Ad ys)]] (.bool (decide (xs=ys))):=by
 have c1:=Mc n1 n2 xs ys;refine AL JG AR (by simp) fun e=>?_
 rw[AN];unfold Fx;refine' Fp;repeat' first|(refine' BJ;(first|refine AF c1 ?_)<;>refine' Fp)|refine' BI|done
 all_goals(rename_i h;rw[h])
end
section
def sq(c:GCode)(s:Nat):List D:=(eb 16).map fun k=>if k<s then .list false (Ad (c.stm k))else .list true []
theorem sm(c:GCode)(s:Nat):(sq c s).length=16:=by simp[sq]
theorem x7(c:GCode):sq c 16=HU c:=by
 unfold sq HU;apply la;intro k hk;rw[if_pos (by simpa using hk)]
def Jd(c:Ag)(s:Nat):List AV:=(YB c (sq c.code s)).map AV.d
theorem VS(c:Ag)(s:Nat):(Jd c s).length=28:=by
 unfold Jd YB;simp[sm]
theorem VT(c:Ag){s k:Nat}(h:k<s)(e:k<16):(Jd c s)[12+k]?=some (.d (.list false (Ad (c.code.stm k)))):=by
 unfold Jd YB;rw[ay,X0];simp[sq,h,e]
theorem kO(c:Ag){s:Nat}(h:s<16):List.take (12+s) (Jd c s)++[.d (.list false (Ad (c.code.stm s)))]++List.drop (12+s+1) (Jd c s)=Jd c (s+1):=by
 apply List.ext_getElem?;intro i;have hl:=VS c s;rcases Nat.lt_trichotomy i (12+s)with h1|h1|h1
 ·rw[lb,List.getElem?_append_left (by rw[ck];omega),List.getElem?_take_of_lt h1];unfold Jd;rw[ay,ay];congr 1;unfold YB
  by_cases h2:i<12
  ·match i,h2 with
   |0,_=>rfl|1,_=>rfl|2,_=>rfl|3,_=>rfl|4,_=>rfl|5,_=>rfl|6,_=>rfl|7,_=>rfl|8,_=>rfl|9,_=>rfl|10,_=>rfl|11,_=>rfl
  ·obtain⟨k,rfl⟩:∃k,i=12+k:=⟨i-12,by omega⟩
   rw[X0,X0];simp only[sq,ay];rw[na (by omega)];simp only[ne];rw[if_pos (by omega),if_pos (by omega)]
 ·subst h1;rw[lb,no (by rw[ck];omega),ck,VT c (by omega) h];rw[show 12+s-min (12+s) (Jd c s).length=0 by omega];rfl
 ·rw[no (by rw[ox,ck];simp;omega),ox,ck,List.getElem?_drop];rw[show 12+s+1+(i-(min (12+s) (Jd c s).length+[AV.d (.list false (Ad (c.code.stm s)))].length))=i by simp;omega];unfold Jd;rw[ay,ay];congr 1;unfold YB;obtain⟨k,rfl⟩:∃k,i=12+k:=⟨i-12,by omega⟩
  rw[X0,X0];simp only[sq,ay]
  by_cases e:k<16
  ·rw[na e];simp only[ne];rw[if_neg (by omega),if_neg (by omega)]
  ·rw[List.getElem?_eq_none (by simp;omega)];rfl
theorem yi(c:Ag):Jd c 0=[.d (.int .i64 c.code.bits),.d (.int .i64 c.code.out),.d (.int .i64 c.code.least),.d (.int .i64 c.code.most),.d (.list c.code.nw (Hn c.code.words)),.d (.list c.code.nn (Hn c.code.next)),.d (.int .i64 c.L),.d (.int .i64 c.P),.d (.int .i64 c.Q),.d (.list c.nm (Ad c.mark)),.d (.int .i64 c.seed),.d (.int .i64 c.errs),.d (.list true []),.d (.list true []),.d (.list true []),.d (.list true []),.d (.list true []),.d (.list true []),.d (.list true []),.d (.list true []),.d (.list true []),.d (.list true []),.d (.list true []),.d (.list true []),.d (.list true []),.d (.list true []),.d (.list true []),.d (.list true [])]:=rfl
theorem uX{xs:List D}(h:∀x,x∈xs->(AV.d x).toD1=some x):Ax AV.toD1 (xs.map AV.d)=some xs:=by
 induction xs with
 |nil=>rfl
 |cons x xs ih =>
  simp only[List.map_cons,Ax,h x (by simp),ih fun y e=>h y (by simp[e])]
theorem kP(c:Ag):Ax AV.toD1 (Jd c 16)=some (YB c (HU c.code)):=by
 unfold Jd;rw[x7];refine uX fun x hx=>?_
 simp only[YB,oy]at hx;rcases hx with rfl|rfl|rfl|rfl|rfl|rfl|rfl|rfl|rfl|rfl|rfl|rfl|hx
 all_goals first|rfl|skip
 simp only[HU,f0]at hx;obtain⟨k,_,rfl⟩:=hx;rfl
theorem sx{V:AO}{o g:Nat}:AV.snap V (.ptr o g 0)=match V.get o g with
 |some (.cells xs)=>match Ax AV.toD1 xs with|some (c::l)=>some (.ptr (c::l))|_=>none
 |_=>none:=rfl
theorem ey(c:Ag):(match Ax AV.toD1 (Jd c 16)with|some (c::l)=>some (D.ptr (c::l))|_=>none)=some (.ptr (YB c (HU c.code))):=by rw[kP];rfl
theorem dF{c:GCode}{s:Nat}(h:Nm c s=true)(h2:∀k,k<s->c.stm k≠c.stm s):Nm c (s+1)=true:=by
 rw[ZR]at h ⊢;intro a b i hb
 by_cases e:a=s
 ·subst e;exact h2 b hb
 ·exact h a b (by omega) hb
theorem qu{c:GCode}{s k:Nat}(hs:s<16)(hk:k<s)(e:c.stm k=c.stm s):Nm c 16=false:=by
 cases h:Nm c 16 with
 |false=>rfl
 |true=>exact absurd e (ZR.1 h s k hs hk)
theorem I9(V:AO)(os:List Nat)(c:Ag)(s:Nat):List.map (AV.nrm V os) (Jd c s)=Jd c s:=by
 unfold Jd;rw[List.map_map];exact la fun x _=>rfl
theorem I8(c:Ag)(s:Nat):(Jd c s).all AV.one=true:=by
 rw[List.all_eq_true];intro x hx;simp only[Jd,f0,YB,oy]at hx;obtain⟨y,e,rfl⟩:=hx;rcases e with rfl|rfl|rfl|rfl|rfl|rfl|rfl|rfl|rfl|rfl|rfl|rfl|e
 all_goals first|rfl|skip
 simp only[sq,f0]at e;obtain⟨k,_,rfl⟩:=e;split<;>rfl
def tu(c:Ag):D:=if c.ok=true then .ptr (YB c (HU c.code))else .nilptr
def RL(c:Ag):Int:=if c.ok=true then 0 else 130
theorem P2{c:Ag}(h:c.ok=true):tu c=.ptr (YB c (HU c.code))/\RL c=0:=by unfold tu RL;rw[if_pos h,if_pos h];exact⟨rfl,rfl⟩
theorem NU{c:Ag}(h:c.ok=false):tu c=.nilptr/\RL c=130:=by unfold tu RL;rw[if_neg (by simp[h]),if_neg (by simp[h])];exact⟨rfl,rfl⟩
theorem qZ(mark:List Int):(Ni mark [] 0).2=if DP mark=true then 0 else 1:=by
 unfold Ni
 cases DP mark<;>rfl
theorem kA(s:Int):(NA s []).2=if Cw s 1 127=true then 0 else 1:=by
 unfold NA GF
 cases Cw s 1 127<;>rfl
attribute [local irreducible] IntKind.wrap Ah aa and or
theorem HZ(c:Ag):BU E0 OP [IU c] (.tup [tu c,.int .i64 (RL c)]):=by
 have c1:=H' c.code;have c2:=Rv c.L c.P c.Q;have q:=V7 c.nm true c.mark [] 0;have p:=JM c.seed true [];have f1:=qZ c.mark;have f2:=kA c.seed;obtain⟨fl,Z⟩:∃x,Ni c.mark [] 0=x:=⟨_,rfl⟩
 obtain⟨sl,β⟩:∃x,NA c.seed []=x:=⟨_,rfl⟩
 rw[Z]at q f1;rw[β]at p f2;rw[f1]at q;rw[f2]at p;have e1:c.code.ok=false->KG c.code.ok 40=40:=fun h=>by rw[h];rfl
 have e0:c.code.ok=true->KG c.code.ok 40=0:=fun h=>by rw[h];rfl
 have J:(c.code.ok && (DN c.L c.P c.Q && (decide (c.Q*c.L<=32) && (DP c.mark && (Cw c.seed 1 127 && Cw c.errs 0 16)))))=false->tu c=.nilptr/\RL c=130:=fun h=>NU (by
  unfold Ag.ok
  cases h1:c.code.ok<;>cases h2:DN c.L c.P c.Q<;>cases T:decide (c.Q*c.L<=32)<;>cases h4:DP c.mark<;>cases h5:Cw c.seed 1 127<;>cases h6:Cw c.errs 0 16<;>simp_all)
 cases h1:c.code.ok with
 |false =>
  obtain⟨o,n⟩:=J (by simp only[h1,c8]);rw[o,n];rw[e1 h1]at c1;refine AL Dh AR (by simp) fun u=>?_
  rw[AN];unfold DV;refine' FA @Ab @Aa @Be;repeat' first|(refine' BJ;(first|refine AF c1 ?_|refine AF c2 ?_|refine AF q ?_|refine AF p ?_)<;>refine' FA @Ab @Aa @Be)|refine' BI|done
  all_goals first|rfl|skip
 |true =>
 rw[e0 h1]at c1
 cases h2:DN c.L c.P c.Q with
 |false =>
  obtain⟨o,n⟩:=J (by simp only[h1,h2,ea,c8]);rw[o,n];rw[h2]at c2;simp only[hU,if_false]at c2;refine AL Dh AR (by simp) fun u=>?_
  rw[AN];unfold DV;refine' FA @Ab @Aa @Be;repeat' first|(refine' BJ;(first|refine AF c1 ?_|refine AF c2 ?_|refine AF q ?_|refine AF p ?_)<;>refine' FA @Ab @Aa @Be)|refine' BI|done
  all_goals first|rfl|skip
 |true =>
 rw[h2]at c2;simp only[if_true]at c2
 cases h4:DP c.mark with
 |false =>
  obtain⟨o,n⟩:=J (by simp only[h1,h2,h4,ea,c8,ax]);rw[o,n];rw[h4]at q;simp only[hU,if_false]at q;refine AL Dh AR (by simp) fun u=>?_
  rw[AN];unfold DV;refine' FA @Ab @Aa @Be;repeat' first|(refine' BJ;(first|refine AF c1 ?_|refine AF c2 ?_|refine AF q ?_|refine AF p ?_)<;>refine' FA @Ab @Aa @Be)|refine' BI|done
  all_goals first|rfl|skip
 |true =>
 rw[h4]at q;simp only[if_true]at q
 cases h5:Cw c.seed 1 127 with
 |false =>
  obtain⟨o,n⟩:=J (by simp only[h1,h2,h4,h5,ea,c8,ax]);rw[o,n];rw[h5]at p;simp only[hU,if_false]at p;refine AL Dh AR (by simp) fun u=>?_
  rw[AN];unfold DV;refine' FA @Ab @Aa @Be;repeat' first|(refine' BJ;(first|refine AF c1 ?_|refine AF c2 ?_|refine AF q ?_|refine AF p ?_)<;>refine' FA @Ab @Aa @Be)|refine' BI|done
  all_goals first|rfl|skip
 |true =>
 rw[h5]at p;simp only[if_true]at p;have c5:=fun r=>F1 c r h2
 by_cases T:c.Q*c.L<=32/\0<=c.errs/\c.errs<=16
 ·obtain⟨T,h6,h7⟩:=T;have n3:¬32<c.Q*c.L:=by omega
  have n6:¬c.errs<0:=by omega
  have n7:¬16<c.errs:=by omega
  have Y:Cw c.errs 0 16=true:=by simp only[Cw,decide_eq_true_eq];omega
  have hok:Nm c.code 16=true->c.ok=true:=fun h=>by
   unfold Ag.ok;rw[h1,h2,decide_eq_true T,h4,h5,Y,h];simp only[Bool.and_self]
  have G:Nm c.code 16=false->c.ok=false:=fun h=>by
   unfold Ag.ok;rw[h,ax,ax,ax,ax,ax,ax]
  have z:=fun(s:Nat)=>TE c.code 0 false (M4 c.code.bits.toNat s)
  have X:=fun(s:Nat)=>K3 (eN h1 s)
  simp only[vU h1,X]at z;refine AL Dh AR (by simp) fun u=>?_
  rw[AN];unfold DV;refine' QX @Ab @Aa @Be n3 n6 n7;repeat' first|(refine' BJ;(first|refine AF c1 ?_|refine AF c2 ?_|refine AF q ?_|refine AF p ?_|refine AF (c5 _) ?_)<;>refine' QX @Ab @Aa @Be n3 n6 n7)|refine' BI|done
  all_goals try exact BL
  rw[←yi];refine BN (α:=Nat) (l0:=?l1) (m0:=?m1) (fun x=>[(58,.d (.int .i64 (x:Int)))]) (fun x=>[(17,.cells (Jd c x))]) (fun x=>x<=16/\Nm c.code x=true) (fun x=>16-x) 0 ?h01 ?he1 ?he21 ?hI1 ?step1
  case h01=>(simp -implicitDefEqProofs only[go_sem,I9,I8];rfl)
  case he1=>rfl
  case he21=>rfl
  case' step1=>(rintro s hI;try dsimp only at hI)
  case' hI1=>try dsimp only
  ·exact⟨az _,rfl⟩
  ·obtain⟨i1,i2⟩:=hI
   by_cases hs:s<16
   ·have m:(s:Int)<16:=by omega
    have c6:=R3 c.code h1 s hs;have c7:=z s;have A:=kO c hs;have hl:=VS c s;have t:=VS c (s+1);have y:12+s<28:=by omega
    have U:=HE (i:=s) (by omega);refine' EP @An @Ak m A hl y @I9 @I8;repeat' first|(refine' BJ;(first|refine AF c6 ?_|refine AF c7 ?_)<;>refine' EP @An @Ak m A hl y @I9 @I8)|refine' BI|done
    all_goals try exact BL
    refine BN (α:=Nat) (l0:=?l2) (m0:=?m2) (fun x=>[(83,.d (.int .i64 (x:Int)))]) (fun x=>[(17,.cells (Jd c (s+1)))]) (fun x=>x<=s/\∀j,j<x->c.code.stm j≠c.code.stm s) (fun x=>s-x) 0 ?h02 ?he2 ?he22 ?hI2 ?step2
    case h02=>(simp -implicitDefEqProofs only[go_sem,I9,I8];rfl)
    case he2=>rfl
    case he22=>rfl
    case' step2=>(rintro k hI2;try dsimp only at hI2)
    case' hI2=>try dsimp only
    ·exact⟨az _,fun j hj=>by omega⟩
    ·obtain⟨k1,k2⟩:=hI2
     by_cases hk:k<s
     ·have l:(k:Int)<(s:Int):=by omega
      have O:=VT c (s:=s+1) (k:=k) (by omega) (by omega);have N:=VT c (s:=s+1) (k:=s) (by omega) hs;have B:=HE (i:=k) (by omega);have R:=Mc false false (c.code.stm k) (c.code.stm s)
      by_cases S:c.code.stm k=c.code.stm s
      ·rw[decide_eq_true S]at R;obtain⟨o,n⟩:=NU (G (qu hs hk S));rw[o,n];refine' QX m l hk O N t;repeat' first|(refine' BJ;(first|refine AF R ?_)<;>refine' QX m l hk O N t)|refine' BI|done
       all_goals try exact BL
       all_goals first|rfl|skip
      ·rw[decide_eq_false S]at R;refine' EP m l hk O N t B (aI @I9 @I8);repeat' first|(refine' BJ;(first|refine AF R ?_)<;>refine' EP m l hk O N t B (aI @I9 @I8))|refine' BI|done
       all_goals try exact BL
       rename_i j hj
       by_cases e:j=k
       ·rw[e];exact S
       ·exact k2 j (by omega)
     ·have l:¬(k:Int)<(s:Int):=by omega
      have γ:=dF i2 fun j hj=>k2 j (by omega)
      refine' mA6 l hk U t @I9 @I8
      all_goals try exact BL
      all_goals first|rfl|skip
   ·have M:s=16:=by omega
    subst M;obtain⟨o,n⟩:=P2 (hok i2);have hsn:=ey c;rw[o,n];refine' MX @sx hsn
    all_goals try exact BL
    all_goals first|rfl|skip
 ·obtain⟨o,n⟩:=J (by
   rw[h1,h2,h4,h5];simp only[ea,Cw];rw[Bool.and_eq_false_iff,decide_eq_false_iff_not,decide_eq_false_iff_not]
   omega)
  rw[o,n];refine AL Dh AR (by simp) fun u=>?_
  rw[AN];unfold DV;refine' FA @Ab @Aa @Be;repeat' first|(refine' BJ;(first|refine AF c1 ?_|refine AF c2 ?_|refine AF q ?_|refine AF p ?_|refine AF (c5 _) ?_)<;>refine' FA @Ab @Aa @Be)|refine' BI|done
  all_goals try exact BL
  all_goals first|rfl|skip
structure LU (c:Ag):Prop where
 code:c.code.ok=true
 wev:DN c.L c.P c.Q=true
 ql:c.Q*c.L<=32
 mark:DP c.mark=true
 seed:Cw c.seed 1 127=true
 errs:0<=c.errs/\c.errs<=16
 dst:Nm c.code 16=true
theorem J5{c:Ag}(h:c.ok=true):LU c:=by
 unfold Ag.ok at h;simp only[pv,decide_eq_true_eq,Cw]at h;exact⟨h.1,h.2.1,h.2.2.1,h.2.2.2.1,by simp only[Cw,decide_eq_true_eq];exact h.2.2.2.2.1,h.2.2.2.2.2.1,h.2.2.2.2.2.2⟩
theorem LU.markl{c:Ag}(h:LU c):1<=c.mark.length/\c.mark.length<=16/\Ap c.mark=true:=by
 have h1:=h.mark;simp only[DP,Cw,pv,decide_eq_true_eq]at h1;exact⟨by omega,by omega,h1.2⟩
theorem LU.syms{c:Ag}(h:LU c):2<=c.syms/\c.syms<=32/\c.Q*c.L=((c.syms:Nat):Int):=by
 have h1:=Xh h.wev;have h2:=UX h.wev;have e:=h.ql;omega
theorem LU.tot{c:Ag}(h:LU c):c.syms*c.code.sz<=640/\c.tot<=656:=by
 have h1:=h.syms;have h2:=Ir h.code;have e:=h.markl;have:c.syms*c.code.sz<=32*20:=cp h1.2.1 h2.2;unfold Ag.tot;omega
end
end Go.Pw
