/- A part of the proof. -/
import Derived.Test.YtibkjeolahobbaaGreatDoorPgChrPh2
import Derived.Test.YtibkjeolahobbaaGreatDoorPgChcJ
import Derived.Test.YtibkjeolahobbaaGreatDoorPgChcD
set_option linter.all false
open Go Go.Pw Go.Proofs
namespace Go.Pw
set_option maxRecDepth 100000
set_option maxHeartbeats 12800000
def AU.apPW (c:AU) (rec:Int->List Int->Int) (s first:Int) (mark:List Int):Nat->Int->Int->Int
 |0,_,least=>least
 |k+1,w,least =>
  let bits:=(Cn c.out.toNat (c.wrd s w)).drop first.toNat
  let n:=min mark.length bits.length
  c.apPW rec s first mark k (w+1) (min least (Ce (mark.take n) bits+rec (c.nxt s w) (mark.drop n)))
def AU.apP (c:AU):Nat->Int->Int->List Int->Int
 |0,_,_,_=>0
 |n+1,s,first,mark=>if mark=[] then 0 else c.apPW (fun s' mk=>c.apP n s' 0 mk) s first mark c.W 0 16
def AU.MemGood (c:AU) (M:List Int) (m:Gl):Prop:=∀e,e∈m->0<=e.1.2/\e.1.2<=M.length/\e.2=c.apP e.1.2.toNat e.1.1 0 (M.drop (M.length-e.1.2.toNat))
theorem Vo {xs:List Int}(h:Ap xs=true) (i:Nat) {v:Int}(hv:Cp v 0 1=true):Ap (xs.set i v)=true:=by
 simp only[Ap,List.all_eq_true] at *
 intro x hx
 rcases List.mem_or_eq_of_mem_set hx with h1|rfl
 ·exact h x h1
 ·exact hv
def AU.ownB (c:AU) (bits:List Int) (p:Int):List Int:=(bits.drop (p*c.out).toNat).take c.out.toNat
def AU.decPW (c:AU) (rec:Int->Option (List Int)) (s:Int) (own:List Int):Nat->Int->Option (List Int)
 |0,_=>none
 |n+1,w =>
  if own=Cn c.out.toNat (c.wrd s w) then
   match rec (c.nxt s w) with
   |some l=>some (w::l)
   |none=>c.decPW rec s own n (w+1)
  else c.decPW rec s own n (w+1)
def AU.decP (c:AU) (bits:List Int):Nat->Int->Int->Option (List Int)
 |0,_,_=>some []
 |k+1,s,p=>c.decPW (fun s'=>c.decP bits k s' (p+1)) s (c.ownB bits p) c.W 0
def AU.TabOk (c:AU) (bits:List Int) (K:Int) (m:Gl):Prop:=∀e,e∈m->c.decP bits (K-e.1.2).toNat e.1.1 e.1.2=none
def AU.lev (c:AU):Nat->List IT
 |0=>c.pairs0
 |j+1=>c.level (c.lev j) (decide ((j:Int)+1=1))
theorem AU.wrd_range (c:AU) (h:c.ok=true) {s w:Int}(hs:c.isState s=true) (hw:c.isWord w=true):0<=c.wrd s w/\c.wrd s w<=2^c.out.toNat-1:=by
 have hd:=AU.ok_head h
 have hWe:=AU.W_eq' c
 simp only[AU.isState,AU.isWord,Cp,decide_eq_true_eq] at hs hw
 obtain⟨h1,h2⟩:=AU.ok_words h s.toNat (by omega)
 refine h2 _ (EC ?_)
 rw[h1]
 have:((2^c.bits.toNat:Nat):Int)=2^c.bits.toNat:=by simp
 omega
section
attribute [local congr] Bh A7 A8 Au Bi Az A1 A0 Ar Ai Ab AZ Aw Ad Ax BF BJ BH BI BG BK BC Ag Ay Ah BA BS Af BD BE BB A_ A' A6 Bj A9 Av Ae
attribute [local irreducible] IntKind.wrap A5 Option.getD and or
theorem OD (c:AU) (y0:Int) (h:0<=c.out/\c.out<=5) (hx:0<=y0/\y0<=1000):CI E0 LG [HS c,.int .i64 y0] (.list (Cn c.out.toNat y0).isEmpty (Aj (Cn c.out.toNat y0))):=by
 refine AK OX Aq (by simp) fun hwf=>?_
 rw[AW];unfold Jo
 (try (simp -implicitDefEqProofs only[go_sem,BQ,BN,BL]));repeat' first|(with_reducible first|exact tI|refine aI ?_ ?_|intro _)|((first|with_reducible refine AM ?_ ?_<;>intro _)<;>try (simp -implicitDefEqProofs only[go_sem,BQ,BN,BL]))|simp (disch:=omega) only[An]|((with_reducible refine BZ ?_);refine⟨(_,_,_),rfl,?_,?_⟩)
 all_goals (try simp (disch:=omega) only[An] at *)
 refine AY (α:=Int×Bool×(List Int)) (l0:=?l1) (m0:=?m1) (fun x=>[(6,.d (.int .i64 x.1))]) (fun x=>[(21,.row Sb 1 x.2.1 (Aj x.2.2))]) (fun x=>-1<=x.1/\x.1<c.out/\x.2.2.length+x.1=c.out-1/\x.2.1=x.2.2.isEmpty/\x.2.2++Cn (x.1+1).toNat y0=Cn c.out.toNat y0) (fun x=>(x.1+1).toNat) (?a1_0,?a1_1,[]) ?h01 ?he1 ?he21 ?hI1 ?step1
 case h01=>(simp -implicitDefEqProofs only[go_sem];rfl)
 case he1=>rfl
 case he21=>rfl
 case' step1=>(rintro⟨i,nl,acc⟩ hI;try dsimp only at hI)
 case' hI1=>try dsimp only
 ·simp;(try omega)
 ·obtain⟨h1,h2,h3,h4,h5⟩:=hI
  by_cases hi:0<=i
  ·have hb:Cn (i+1).toNat y0=(y0/2^i.toNat%2)::Cn i.toNat y0:=by rw[show (i+1).toNat=i.toNat+1 by omega,Cn]
   rw[hb] at h5
   have hu:IntKind.u64.wrap i=i:=jc _ (by omega)
   (try (simp -implicitDefEqProofs only[go_sem,hu]));repeat' first|(with_reducible first|exact tI|refine aI ?_ ?_|intro _)|((first|with_reducible refine AM ?_ ?_<;>intro _)<;>try (simp -implicitDefEqProofs only[go_sem,hu]))|simp (disch:=omega) only[An]|((with_reducible refine BZ ?_);refine⟨(_,_,_),rfl,?_,?_⟩)
   all_goals (try simp (disch:=omega) only[An] at *)
   all_goals first|omega|(simp;done)|(simp;omega)|skip
   all_goals (rw[←h5,show (i-1+1).toNat=i.toNat by omega];simp)
  ·have h0:(i+1).toNat=0:=by omega
   rw[h0,Cn,List.append_nil] at h5
   (try (simp -implicitDefEqProofs only[go_sem]));repeat' first|(with_reducible first|exact tI|refine aI ?_ ?_|intro _)|((first|with_reducible refine AM ?_ ?_<;>intro _)<;>try (simp -implicitDefEqProofs only[go_sem]))|simp (disch:=omega) only[An]|((with_reducible refine BZ ?_);refine⟨(_,_,_),rfl,?_,?_⟩)
   all_goals first|omega|(simp;done)|(simp;omega)|skip
   all_goals (rw[←h5,h4])
theorem OC (c:AU) (h:c.ok=true) (s:Int) (nl:Bool) (l:List Int) (hs:c.isState s=true) (hw:∀w,w∈l->c.isWord w=true) (hl:l.length<=24) :
  CI E0 LF [HS c,.int .i64 s,.list nl (Aj l)] (.tup [.list (c.stream s l).1.isEmpty (Aj (c.stream s l).1),.int .i64 (c.stream s l).2]):=by
 refine AK OW Aq (by simp) fun hwf=>?_
 have hd:=AU.ok_head h
 rw[AW];unfold Jn
 (try (simp -implicitDefEqProofs only[go_sem,BQ,BN,BL]));repeat' first|(with_reducible first|exact tI|refine aI ?_ ?_|intro _)|((first|with_reducible refine AM ?_ ?_<;>intro _)<;>try (simp -implicitDefEqProofs only[go_sem,BQ,BN,BL]))|simp (disch:=omega) only[An]|((with_reducible refine CW ?_);refine⟨(_,_,_,_),rfl,?_,?_⟩)
 refine AY (α:=Int×Int×Bool×(List Int)) (l0:=?l2) (m0:=?m2) (fun x=>[(8,.d (.int .i64 x.1)),(1,.d (.int .i64 x.2.1))]) (fun x=>[(29,.row Sb 1 x.2.2.1 (Aj x.2.2.2))]) (fun x=>0<=x.1/\x.1<=l.length/\c.isState x.2.1=true/\x.2.2.1=x.2.2.2.isEmpty/\x.2.2.2.length<=5*x.1/\(x.2.2.2++(c.stream x.2.1 (l.drop x.1.toNat)).1,(c.stream x.2.1 (l.drop x.1.toNat)).2)=c.stream s l) (fun x=>(l.length-x.1).toNat) (?a2_0,s,?a2_2,[]) ?h02 ?he2 ?he22 ?hI2 ?step2
 case h02=>(simp -implicitDefEqProofs only[go_sem];rfl)
 case he2=>rfl
 case he22=>rfl
 case' step2=>(rintro⟨i,t,n2,acc⟩ hI;try dsimp only at hI)
 case' hI2=>try dsimp only
 ·simp[hs]
 ·obtain⟨hi0,hi1,ht,hn,ha,heq⟩:=hI
  by_cases hi:i<l.length
  ·have hiw:c.isWord (l[i.toNat]?.getD 0)=true:=hw _ (EC (by omega))
   have hr:=AU.wrd_range c h ht hiw
   have hp5:(2:Int)^c.out.toNat<=32:=by
    have:c.out.toNat=1\/c.out.toNat=2\/c.out.toNat=3\/c.out.toNat=4\/c.out.toNat=5:=by omega
    rcases this with h|h|h|h|h<;>rw[h]<;>decide
   have hst:=AU.nxt_state h ht hiw
   have cs:=OD c (c.wrd t (l[i.toNat]?.getD 0)) (by omega) (by omega)
   have hbl:=IQ c.out.toNat (c.wrd t (l[i.toNat]?.getD 0))
   have hdr:l.drop i.toNat=(l[i.toNat]?.getD 0)::l.drop (i+1).toNat:=by rw[Fi (xs:=l) (i:=i.toNat) (by omega),show (i+1).toNat=i.toNat+1 by omega]
   rw[hdr] at heq
   simp only[AU.stream] at heq
   have ht':=ht
   have hiw':=hiw
   simp only[AU.isState,AU.isWord,Cp,decide_eq_true_eq] at ht' hiw'
   have hr1:=AU.ok_words h t.toNat (by omega)
   have hr2:=AU.ok_next h t.toNat (by omega)
   have hnc:((2^c.bits.toNat:Nat):Int)=2^c.bits.toNat:=by simp
   generalize hw0:l[i.toNat]?.getD 0=w at *
   generalize Cn c.out.toNat (c.wrd t w)=B at *
   have hBe:B.isEmpty=false:=by cases B with
    |nil=>simp at hbl;omega
    |cons _ _=>rfl
   (try (simp -implicitDefEqProofs only[go_sem,BQ,BN,BL,DL,c.nxt_eq,c.wrd_eq,hw0]));repeat' first|(with_reducible first|exact tI|refine aI ?_ ?_|intro _)|((first|with_reducible refine AM ?_ ?_<;>intro _|(with_reducible refine isCall ?_);first|refine AE cs ?_)<;>try (simp -implicitDefEqProofs only[go_sem,BQ,BN,BL,DL,c.nxt_eq,c.wrd_eq,hw0]))|simp (disch:=omega) only[An]|((with_reducible refine CW ?_);refine⟨(_,_,_,_),rfl,?_,?_⟩)
   all_goals (try simp (disch:=omega) only[An] at *)
   all_goals first|omega|(simp;done)|(simp;omega)|skip
   all_goals first|exact hst|(rw[c.nxt_eq,←heq];simp;done)|(simp;omega)|(subst hn;cases acc<;>cases B<;>simp_all;done)|skip
  ·have h0:l.drop i.toNat=[]:=List.drop_eq_nil_of_le (by omega)
   rw[h0] at heq
   simp only[AU.stream,List.append_nil] at heq
   (try (simp -implicitDefEqProofs only[go_sem]));repeat' first|(with_reducible first|exact tI|refine aI ?_ ?_|intro _)|((first|with_reducible refine AM ?_ ?_<;>intro _)<;>try (simp -implicitDefEqProofs only[go_sem]))|simp (disch:=omega) only[An]|((with_reducible refine CW ?_);refine⟨(_,_,_,_),rfl,?_,?_⟩)
   all_goals first|omega|(simp;done)|(simp;omega)|skip
   all_goals (rw[←heq];try simp[hn])
def oe (o:Option (List Int)):D:=match o with|some l=>.list l.isEmpty (Aj l)|none=>.list true []
def oh (o:Option (List Int)):D:=.bool o.isSome
abbrev o7:=List (Option (List Int))
def AU.tbl (c:AU) (bits:List Int) (K:Nat) (q:Nat):o7:=(List.range c.words.length).map fun(s:Nat)=>c.decP bits (K-q) (s:Int) (q:Int)
end
section
attribute [local congr] Bh A7 A8 Au Bi Az A1 A0 Ar Ai Ab AZ Aw Ad Ax BF BJ BH BI BG BK BC Ag Ay Ah BA BS Af BD BE BB A_ A' A6 Bj A9 Av Ae
attribute [local irreducible] IntKind.wrap A5 Option.getD and or
end
section
attribute [local congr] Bh A7 A8 Au Bi Az A1 A0 Ar Ai Ab AZ Aw Ad Ax BF BJ BH BI BG BK BC Ag Ay Ah BA BS Af BD BE BB A_ A' A6 Bj A9 Av Ae
attribute [local irreducible] IntKind.wrap A5 Option.getD and or
def nq (r:Bool×List Int):Bool×List Int:=(false,r.2)
def oQ (c:AU):AU:=⟨c.bits,c.out,c.least,c.most,c.words.isEmpty,c.words.map nq,c.next.isEmpty,c.next.map nq⟩
end
section
attribute [local congr] Bh A7 A8 Au Bi Az A1 A0 Ar Ai Ab AZ Aw Ad Ax BF BJ BH BI BG BK BC Ag Ay Ah BA BS Af BD BE BB A_ A' A6 Bj A9 Av Ae
attribute [local irreducible] IntKind.wrap A5 Option.getD and or
def pG (l:Rows) (n:Nat):Rows:=(l.take n).map nq
end
section
def Fx (c:AU):List D:=(List.range 16).map fun s=>.list false (Aj (c.stm s))
theorem P5 (c:AU):(Fx c).length=16:=by simp[Fx]
theorem P6 (c:AU) {s:Nat}(h:s<16):(Fx c)[s]?=some (.list false (Aj (c.stm s))):=by simp[Fx,h]
theorem Ru (c:AU):(Fx c).take 16=Fx c:=List.take_of_length_le (by rw[P5];omega)
def Rk (c:AX) (r:List D):List D:=.int .i64 c.code.bits :: .int .i64 c.code.out :: .int .i64 c.code.least :: .int .i64 c.code.most :: .list c.code.nw (E2 c.code.words) :: .list c.code.nn (E2 c.code.next) :: .int .i64 c.L :: .int .i64 c.P :: .int .i64 c.Q :: .list c.nm (Aj c.mark) :: .int .i64 c.seed :: .int .i64 c.errs::r
theorem BU (c:AX) (r:List D):Rk c r=.int .i64 c.code.bits :: .int .i64 c.code.out :: .int .i64 c.code.least :: .int .i64 c.code.most :: .list c.code.nw (E2 c.code.words) :: .list c.code.nn (E2 c.code.next) :: .int .i64 c.L :: .int .i64 c.P :: .int .i64 c.Q :: .list c.nm (Aj c.mark) :: .int .i64 c.seed :: .int .i64 c.errs::r:=rfl
theorem QY (a b c d e f g h i j k l:D) (r:List D) (n:Nat):(a::b::c::d::e::f::g::h::i::j::k::l::r)[12+n]?=r[n]?:=by rw[Nat.add_comm];rfl
theorem UX (x:Int):(some x).getD 0=x:=rfl
theorem nA:∀n:Fin 16,A5 .and .i64 (n.val:Int) 3=(n.val:Int)%4:=by decide +kernel
theorem fR {b k:Nat}(s:Int) (h:k<4/b):(KJ b s)[k]?.getD 0=s/2^((4/b-1-k)*b)%2^b:=by simp[KJ,h]
theorem aq {b a:Int}{k s:Nat}(hb:b=1\/b=2) (hk:k<4/b.toNat) (ha:a=4-b*((k:Int)+1)) (hs:s<16) :
  A5 .and .i64 ((s:Int)/2^a.toNat) (IntKind.i64.wrap (2^b.toNat-1))=(KJ b.toNat (s:Int))[k]?.getD 0:=by
 rw[fR _ hk]
 rcases hb with rfl|rfl
 ·have e:a.toNat=(4/(1:Int).toNat-1-k)*(1:Int).toNat:=by simp;omega
  rw[←e,show IntKind.i64.wrap (2^(1:Int).toNat-1)=1 from Ak 1 (by omega),YV];rfl
 ·have e:a.toNat=(4/(2:Int).toNat-1-k)*(2:Int).toNat:=by simp at hk ⊢;omega
  rw[←e,show IntKind.i64.wrap (2^(2:Int).toNat-1)=3 from Ak 3 (by omega)]
  have h1:(s:Int)/2^a.toNat=((s/2^a.toNat:Nat):Int):=by push_cast;rfl
  have h2:s/2^a.toNat<16:=Nat.lt_of_le_of_lt (Nat.div_le_self _ _) hs
  rw[h1]
  exact nA ⟨_,h2⟩
theorem jk (n:Int):n.fdiv (2^min 1 64)=n/2:=by rw[WP];rfl
theorem a6 {L P Q:Int}(h:Cx L P Q=true):2<=L/\L<=15/\1<=P/\P<=8/\P<L/\1<=Q/\Q<=8:=by
 obtain⟨l,p,q,rfl,rfl,rfl,b1,b2,b3,b4,b5,b6,b7,hc⟩:=Mr h
 omega
theorem SB {L P Q:Int}(h:Cx L P Q=true):2<=Q*L/\Q*L<=120:=by
 obtain⟨l,p,q,rfl,rfl,rfl,b1,b2,b3,b4,b5,b6,b7,hc⟩:=Mr h
 have h1:q*l<=8*15:=Nat.mul_le_mul b7 b2
 have h2:1*2<=q*l:=Nat.mul_le_mul b6 b1
 have h3:(q:Int)*(l:Int)=((q*l:Nat):Int):=by push_cast;rfl
 rw[h3];omega
attribute [local congr] Bh A7 A8 Au Bi Az A1 A0 Ar Ai Ab AZ Aw Ad Ax BF BJ BH BI BG BK BC Ag Ay Ah BA BS Af BD BE BB A_ A' A6 Bj A9 Av Ae
attribute [local irreducible] IntKind.wrap A5 Option.getD and or
theorem IZ (n lo hi:Int):CI E0 LB [.int .i64 n,.int .i64 lo,.int .i64 hi] (.bool (Cp n lo hi)):=by
 refine AK OQ Aq (by simp) fun hwf=>?_
 rw[AW];unfold Ji
 (try (simp -implicitDefEqProofs only[go_sem]));repeat' first|(with_reducible first|exact tI|refine aI ?_ ?_|intro _)|((first|with_reducible refine AM ?_ ?_<;>intro _)<;>try (simp -implicitDefEqProofs only[go_sem]))|simp (disch:=omega) only[An]
 all_goals (simp only[Cp];congr 1;symm;first|(rw[decide_eq_true_eq];omega)|(rw[decide_eq_false_iff_not];omega))
theorem Ew (c:AX) (r:List D) (h:Cx c.L c.P c.Q=true):CI E0 Er [.ptr (Rk c r)] (.int .i64 (c.Q*c.L)):=by
 have hb:=SB h
 have hw:IntKind.i64.wrap (c.Q*c.L)=c.Q*c.L:=Ak _ (by omega)
 refine AK G3 Aq (by simp) fun hwf=>?_
 rw[AW];unfold Ea
 (try (simp -implicitDefEqProofs only[go_sem,BU,hw]));repeat' first|(with_reducible first|exact tI|refine aI ?_ ?_|intro _)|((first|with_reducible refine AM ?_ ?_<;>intro _)<;>try (simp -implicitDefEqProofs only[go_sem,BU,hw]))|simp (disch:=omega) only[An]
 all_goals first|rfl|omega|skip
theorem GC (c:AX):CI E0 Fu [.ptr (Rk c (Fx c.code))] (.int .i64 (c.code.sz:Nat)):=by
 have h0:(Fx c.code)[0]?=some (.list false (Aj (c.code.stm 0))):=P6 _ (by omega)
 have hl:=LU c.code 0
 refine AK IK Aq (by simp) fun hwf=>?_
 rw[AW];unfold FM
 (try (simp -implicitDefEqProofs only[go_sem,BU,h0,hl]));repeat' first|(with_reducible first|exact tI|refine aI ?_ ?_|intro _)|((first|with_reducible refine AM ?_ ?_<;>intro _)<;>try (simp -implicitDefEqProofs only[go_sem,BU,h0,hl]))|simp (disch:=omega) only[An]
 all_goals first|rfl|omega|skip
theorem Pe {c:AX}(h:Cx c.L c.P c.Q=true):c.Q*c.L=((c.syms:Nat):Int):=by have:=SB h;unfold AX.syms;omega
theorem GD (c:AX) (h:Cx c.L c.P c.Q=true) (hc:c.code.ok=true):CI E0 Fw [.ptr (Rk c (Fx c.code))] (.int .i64 ((c.syms*c.code.sz:Nat):Int)):=by
 have c1:=Ew c (Fx c.code) h
 have c2:=GC c
 have hb:=SB h
 have he:=Pe h
 have hz:=HB hc
 rw[he] at c1 hb
 have hm:c.syms*c.code.sz<=120*20:=Nat.mul_le_mul (by omega) hz.2
 have hw:IntKind.i64.wrap ((c.syms:Int)*(c.code.sz:Int))=((c.syms*c.code.sz:Nat):Int):=by rw[show (c.syms:Int)*(c.code.sz:Int)=((c.syms*c.code.sz:Nat):Int) by push_cast;rfl];exact Ak _ (by omega)
 refine AK IM Aq (by simp) fun hwf=>?_
 rw[AW];unfold FO
 (try (simp -implicitDefEqProofs only[go_sem,hw]));repeat' first|(with_reducible first|exact tI|refine aI ?_ ?_|intro _)|((first|with_reducible refine AM ?_ ?_<;>intro _|(with_reducible refine isCall ?_);first|refine AE c1 ?_|refine AE c2 ?_)<;>try (simp -implicitDefEqProofs only[go_sem,hw]))|simp (disch:=omega) only[An]
 all_goals first|rfl|omega|skip
theorem KF (n:Int):CI E0 Ez [.int .i64 n] (.bool (!Cp n 0 1)):=by
 refine AK KE Aq (by simp) fun hwf=>?_
 rw[AW];unfold GP
 (try (simp -implicitDefEqProofs only[go_sem,jk]));repeat' first|(with_reducible first|exact tI|refine aI ?_ ?_|intro _)|((first|with_reducible refine AM ?_ ?_<;>intro _)<;>try (simp -implicitDefEqProofs only[go_sem,jk]))|simp (disch:=omega) only[An]
 all_goals (simp only[Cp];congr 1;symm;first|(rw[Bool.not_eq_false',decide_eq_true_eq];omega)|(rw[Bool.not_eq_true',decide_eq_false_iff_not];omega))
theorem Gv (nl:Bool) (xs:List Int):CI E0 H8 [.list nl (Aj xs)] (.bool (Gh xs)):=by
 have c1:=CT nl xs Ez [] (fun n=>!Cp n 0 1) (by kernel_rfl) rfl (fun x _=>KF x)
 refine AK Lk Aq (by simp) fun hwf=>?_
 simp only[Dx,DK,DJ,C0,EH,EG,Fz,EF,Bk,Bv,Bw,DM,B9,List.length_map,B5,true_and,and_true] at hwf
 rw[AW];unfold HH
 have e:(!xs.any fun n=>!Cp n 0 1)=Ap xs:=by simp[Ap,List.all_eq_not_any_not]
 (try (simp -implicitDefEqProofs only[go_sem]));repeat' first|(with_reducible first|exact tI|refine aI ?_ ?_|intro _)|((first|with_reducible refine AM ?_ ?_<;>intro _|(with_reducible refine isCall ?_);first|refine AE c1 ?_)<;>try (simp -implicitDefEqProofs only[go_sem]))|simp (disch:=omega) only[An]
 all_goals (unfold Gh;rw[←e];first|rfl|(congr 1;symm;simp_all;done)|(congr 1;symm;simp_all;omega)|skip)
theorem ER (c:AX) (h:Cx c.L c.P c.Q=true):CI E0 J1 [Fj c] (.int .i64 (c.Q*c.L)):=by
 have hb:=SB h
 have hw:IntKind.i64.wrap (c.Q*c.L)=c.Q*c.L:=Ak _ (by omega)
 refine AK NP Aq (by simp) fun hwf=>?_
 rw[AW];unfold Ib
 (try (simp -implicitDefEqProofs only[go_sem,AO,AN,hw]));repeat' first|(with_reducible first|exact tI|refine aI ?_ ?_|intro _)|((first|with_reducible refine AM ?_ ?_<;>intro _)<;>try (simp -implicitDefEqProofs only[go_sem,AO,AN,hw]))|simp (disch:=omega) only[An]
 all_goals first|rfl|omega|skip
theorem KY (c:AX) (h:c.code.ok=true):CI E0 Nw [Fj c] (.int .i64 (c.code.sz:Nat)):=by
 have h1:=AU.ok_head h
 have hz:=HB h
 have e:IntKind.i64.wrap (IntKind.i64.wrap ((4:Int).tdiv c.code.bits)*c.code.out)=((c.code.sz:Nat):Int):=by
  have h2:c.code.bits=1\/c.code.bits=2:=by omega
  unfold AU.sz
  rcases h2 with h2|h2
  ·rw[h2,show (4:Int).tdiv 1=4 from rfl,Ak 4 (by omega),Ak _ (by omega),show (1:Int).toNat=1 from rfl];omega
  ·rw[h2,show (4:Int).tdiv 2=2 from rfl,Ak 2 (by omega),Ak _ (by omega),show (2:Int).toNat=2 from rfl];omega
 refine AK Qm Aq (by simp) fun hwf=>?_
 rw[AW];unfold Lt
 (try (simp -implicitDefEqProofs only[go_sem,AO,AN,e]));repeat' first|(with_reducible first|exact tI|refine aI ?_ ?_|intro _)|((first|with_reducible refine AM ?_ ?_<;>intro _)<;>try (simp -implicitDefEqProofs only[go_sem,AO,AN,e]))|simp (disch:=omega) only[An]
 all_goals first|rfl|omega|skip
theorem Jg (c:AX) (h:Cx c.L c.P c.Q=true) (hc:c.code.ok=true) (hm:c.mark.length<=1000):CI E0 L5 [Fj c] (.int .i64 (c.tot:Nat)):=by
 have c1:=ER c h
 have c2:=KY c hc
 have hb:=SB h
 have he:=Pe h
 have hz:=HB hc
 rw[he] at c1 hb
 have hmm:c.syms*c.code.sz<=120*20:=Nat.mul_le_mul (by omega) hz.2
 have hw:IntKind.i64.wrap ((c.syms:Int)*(c.code.sz:Int))=((c.syms*c.code.sz:Nat):Int):=by rw[show (c.syms:Int)*(c.code.sz:Int)=((c.syms*c.code.sz:Nat):Int) by push_cast;rfl];exact Ak _ (by omega)
 have hw2:IntKind.i64.wrap ((c.mark.length:Int)+((c.syms*c.code.sz:Nat):Int))=((c.tot:Nat):Int):=by rw[Ak _ (by omega)];unfold AX.tot;omega
 refine AK PR Aq (by simp) fun hwf=>?_
 rw[AW];unfold Kb
 (try (simp -implicitDefEqProofs only[go_sem,AO,AN,hw,hw2]));repeat' first|(with_reducible first|exact tI|refine aI ?_ ?_|intro _)|((first|with_reducible refine AM ?_ ?_<;>intro _|(with_reducible refine isCall ?_);first|refine AE c1 ?_|refine AE c2 ?_)<;>try (simp -implicitDefEqProofs only[go_sem,AO,AN,hw,hw2]))|simp (disch:=omega) only[An]
 all_goals first|rfl|omega|skip
theorem OB (s:Nat) (h:s<16):CI E0 LC [.int .i64 (s:Int)] (.list false (Aj (KJ 1 s))):=by
 have e0:∀x:Int,0<=x->x.tmod 2=x%2:=fun x hx=>Int.tmod_eq_emod_of_nonneg hx
 have e1:∀y:Int,(s:Int).tdiv y=(s:Int)/y:=fun y=>Int.tdiv_eq_ediv_of_nonneg (by omega)
 have e:KJ 1 (s:Int)=[(s:Int).tdiv 8,((s:Int).tdiv 4).tmod 2,((s:Int).tdiv 2).tmod 2,(s:Int).tmod 2]:=by
  rw[e1,e1,e1,e0 _ (by omega),e0 _ (by omega),e0 _ (by omega)]
  show [(s:Int)/8%2,(s:Int)/4%2,(s:Int)/2%2,(s:Int)/1%2]=_
  rw[show (s:Int)/8%2=(s:Int)/8 by omega,Int.ediv_one]
 have w8:IntKind.i64.wrap ((s:Int).tdiv 8)=(s:Int).tdiv 8:=Ak _ (by rw[e1];omega)
 have w4:IntKind.i64.wrap ((s:Int).tdiv 4)=(s:Int).tdiv 4:=Ak _ (by rw[e1];omega)
 have w2:IntKind.i64.wrap ((s:Int).tdiv 2)=(s:Int).tdiv 2:=Ak _ (by rw[e1];omega)
 refine AK OS Aq (by simp) fun hwf=>?_
 rw[AW];unfold Jj
 (try (simp -implicitDefEqProofs only[go_sem,e,w8,w4,w2]));repeat' first|(with_reducible first|exact tI|refine aI ?_ ?_|intro _)|((first|with_reducible refine AM ?_ ?_<;>intro _)<;>try (simp -implicitDefEqProofs only[go_sem,e,w8,w4,w2]))|simp (disch:=omega) only[An]
 all_goals first|rfl|omega|skip
theorem GA {α:Type}{l:List α}(h:l≠[]):l.isEmpty=false:=by cases l with
 |nil=>exact absurd rfl h
 |cons _ _=>rfl
theorem Ia (c:AX) (hc:c.code.ok=true) (s:Nat) (h:s<16):CI E0 LD [Fj c,.int .i64 (s:Int)] (.list false (Aj (c.code.stm s))):=by
 have c1:=OB s h
 have c2:=OC c.code hc 0 false (KJ c.code.bits.toNat s) (Pt hc) (Pv hc s) (by rw[Hn];rcases Pr hc with h1|h1<;>rw[h1]<;>omega)
 have he:=GA (WG hc s)
 unfold AU.stm at he ⊢
 rw[he] at c2
 have h1:=AU.ok_head hc
 have hw:KJ 1 (s:Int)=[(s:Int)/8%2,(s:Int)/4%2,(s:Int)/2%2,(s:Int)/1%2]:=rfl
 refine AK OT Aq (by simp) fun hwf=>?_
 rw[AW];unfold Jk
 by_cases hb:c.code.bits=2
 ·have h2:KJ c.code.bits.toNat (s:Int)=[2*((s:Int)/8%2)+(s:Int)/4%2,2*((s:Int)/2%2)+(s:Int)/1%2]:=by
   rw[hb]
   show [(s:Int)/4%4,(s:Int)/1%4]=_
   congr 1
   ·omega
   ·congr 1;omega
  rw[h2] at c2 ⊢
  rw[hw] at c1
  have wa:IntKind.i64.wrap (2*((s:Int)/8%2))=2*((s:Int)/8%2):=Ak _ (by omega)
  have wb:IntKind.i64.wrap (2*((s:Int)/2%2))=2*((s:Int)/2%2):=Ak _ (by omega)
  have wc:IntKind.i64.wrap (2*((s:Int)/8%2)+(s:Int)/4%2)=2*((s:Int)/8%2)+(s:Int)/4%2:=Ak _ (by omega)
  have wd:IntKind.i64.wrap (2*((s:Int)/2%2)+(s:Int)/1%2)=2*((s:Int)/2%2)+(s:Int)/1%2:=Ak _ (by omega)
  have hbT:=eq_true hb
  (try (simp -implicitDefEqProofs only[go_sem,AO,AN,hbT,UX,wa,wb,wc,wd]));repeat' first|(with_reducible first|exact tI|refine aI ?_ ?_|intro _)|((first|with_reducible refine AM ?_ ?_<;>intro _|(with_reducible refine isCall ?_);first|refine AE c1 ?_|refine AE c2 ?_)<;>try (simp -implicitDefEqProofs only[go_sem,AO,AN,hbT,UX,wa,wb,wc,wd]))|simp (disch:=omega) only[An]
  all_goals first|rfl|omega|skip
 ·have h2:c.code.bits.toNat=1:=by omega
  rw[h2] at c2 ⊢
  (try (simp -implicitDefEqProofs only[go_sem,AO,AN,hb]));repeat' first|(with_reducible first|exact tI|refine aI ?_ ?_|intro _)|((first|with_reducible refine AM ?_ ?_<;>intro _|(with_reducible refine isCall ?_);first|refine AE c1 ?_|refine AE c2 ?_)<;>try (simp -implicitDefEqProofs only[go_sem,AO,AN,hb]))|simp (disch:=omega) only[An]
  all_goals first|rfl|omega|skip
theorem FY (n1 n2:Bool) (xs ys:List Int):CI E0 Nx [.list n1 (Aj xs),.list n2 (Aj ys)] (.bool (decide (xs=ys))):=by
 refine AK Qn Aq (by simp) fun hwf=>?_
 simp only[Dx,DK,DJ,C0,EH,EG,Fz,EF,Bk,Bv,Bw,DM,B9,List.length_map,B5,true_and,and_true] at hwf
 rw[AW];unfold Lu
 simp -implicitDefEqProofs only[go_sem]
 refine AY (α:=Nat) (l0:=?l1) (m0:=?m1) (fun x=>[(5,.d (.int .i64 (x:Int)))]) (fun x=>[]) (fun x=>x<=xs.length/\x<=ys.length/\xs.take x=ys.take x) (fun x=>xs.length-x) 0 ?h01 ?he1 ?he21 ?hI1 ?step1
 case h01=>(simp -implicitDefEqProofs only[go_sem];rfl)
 case he1=>rfl
 case he21=>rfl
 case' step1=>(rintro i hI;try dsimp only at hI)
 case' hI1=>try dsimp only
 ·exact⟨Nat.zero_le _,Nat.zero_le _,rfl⟩
 ·obtain⟨i1,i2,i3⟩:=hI
  by_cases h:i<xs.length/\i<ys.length
  ·have h1:(i:Int)<(xs.length:Int):=by omega
   have h2:(i:Int)<(ys.length:Int):=by omega
   have hwi:IntKind.i64.wrap ((i:Int)+1)=((i+1:Nat):Int):=by rw[Ak _ (by omega)];omega
   have hx:xs.take (i+1)=xs.take i++[xs[i]?.getD 0]:=by rw[List.take_add_one];simp[h.1]
   have hy:ys.take (i+1)=ys.take i++[ys[i]?.getD 0]:=by rw[List.take_add_one];simp[h.2]
   (try (simp -implicitDefEqProofs only[go_sem,h1,h2,hwi,h.1,h.2]));repeat' first|(with_reducible first|exact tI|refine aI ?_ ?_|intro _)|((first|with_reducible refine AM ?_ ?_<;>intro _)<;>try (simp -implicitDefEqProofs only[go_sem,h1,h2,hwi,h.1,h.2]))|simp (disch:=omega) only[An]|((with_reducible refine Ao ?_);refine⟨_,rfl,?_,?_⟩)
   all_goals first|omega|(simp;done)|(simp;omega)|skip
   ·rename_i he
    rw[hx,hy,i3,he]
   ·rename_i he
    congr 1;symm
    rw[decide_eq_false_iff_not]
    intro e;exact he (by rw[e])
  ·by_cases hl:xs.length=ys.length
   ·have hi1:¬(i:Int)<(xs.length:Int):=by omega
    have hi2:¬(i:Int)<(ys.length:Int):=by omega
    have:xs=ys:=by rw[←List.take_of_length_le (l:=xs) (i:=i) (by omega),i3,List.take_of_length_le (by omega)]
    (try (simp -implicitDefEqProofs only[go_sem,hi1,hi2,hl]));repeat' first|(with_reducible first|exact tI|refine aI ?_ ?_|intro _)|((first|with_reducible refine AM ?_ ?_<;>intro _)<;>try (simp -implicitDefEqProofs only[go_sem,hi1,hi2,hl]))|simp (disch:=omega) only[An]|((with_reducible refine Ao ?_);refine⟨_,rfl,?_,?_⟩)
    all_goals first|omega|(simp;done)|(simp;omega)|skip
    all_goals first|(congr 1;symm;rw[decide_eq_true_eq];exact this)|skip
   ·have hx:xs≠ys:=fun e=>hl (by rw[e])
    have hd:decide (xs=ys)=false:=decide_eq_false hx
    rw[hd]
    (try (simp -implicitDefEqProofs only[go_sem]));repeat' first|(with_reducible first|exact tI|refine aI ?_ ?_|intro _)|((first|with_reducible refine AM ?_ ?_<;>intro _)<;>try (simp -implicitDefEqProofs only[go_sem]))|simp (disch:=omega) only[An]|((with_reducible refine Ao ?_);refine⟨_,rfl,?_,?_⟩)
    all_goals first|omega|(simp;done)|(simp;omega)|skip
    all_goals skip
theorem Nn (c:AU) (hc:c.ok=true) (s:Nat) (h:s<16):CI E0 J9 [HS c,.int .i64 (s:Int)] (.list false (Aj (KJ c.bits.toNat s))):=by
 have h1:=AU.ok_head hc
 have hb:c.bits=1\/c.bits=2:=by omega
 have hn:c.bits.toNat=1\/c.bits.toNat=2:=Pr hc
 have hlen:=Hn c.bits.toNat (s:Int)
 refine AK Na Aq (by simp) fun hwf=>?_
 rw[AW];unfold It
 have w0:IntKind.i64.wrap (4-c.bits)=4-c.bits:=Ak _ (by omega)
 (try (simp -implicitDefEqProofs only[go_sem,BQ,BN,w0]));repeat' first|(with_reducible first|exact tI|refine aI ?_ ?_|intro _)|((first|with_reducible refine AM ?_ ?_<;>intro _)<;>try (simp -implicitDefEqProofs only[go_sem,BQ,BN,w0]))|simp (disch:=omega) only[An]|((with_reducible refine BZ ?_);refine⟨(_,_,_),rfl,?_,?_⟩)
 all_goals first|omega|(simp;done)|(simp;omega)|skip
 refine AY (α:=Nat×Int×Bool) (l0:=?l2) (m0:=?m2) (fun x=>[(6,.d (.int .i64 x.2.1))]) (fun x=>[(26,.row 3 1 x.2.2 (Aj ((KJ c.bits.toNat (s:Int)).take x.1)))]) (fun x=>x.1<=4/c.bits.toNat/\x.2.1=4-c.bits*((x.1:Int)+1)/\x.2.2=decide (x.1=0)) (fun x=>4/c.bits.toNat-x.1) (0,(4-c.bits),true) ?h02 ?he2 ?he22 ?hI2 ?step2
 case h02=>(simp -implicitDefEqProofs only[go_sem,BQ,BN];rfl)
 case he2=>rfl
 case he22=>rfl
 case' step2=>(rintro⟨k,a,nl⟩ hI;try dsimp only at hI)
 case' hI2=>try dsimp only
 ·exact⟨Nat.zero_le _,by rcases hb with h2|h2<;>rw[h2]<;>rfl,rfl⟩
 ·obtain⟨k1,k2,k3⟩:=hI
  change a=4-c.bits*((k:Int)+1) at k2
  change nl=decide (k=0) at k3
  by_cases hk:k<4/c.bits.toNat
  ·have ha:0<=a/\a<=3:=by
    rcases hb with h2|h2<;>rw[h2] at k2 hk<;>simp at hk<;>omega
   have h0:0<=a:=ha.1
   have e1:=aq hb hk k2 h
   obtain⟨x,hx⟩:∃x,(KJ c.bits.toNat (s:Int))[k]?.getD 0=x:=⟨_,rfl⟩
   have hst:(KJ c.bits.toNat (s:Int)).take (k+1)=(KJ c.bits.toNat (s:Int)).take k++[x]:=by
    rw[←hx,List.take_add_one,List.getElem?_eq_getElem (by rw[hlen];exact hk)];simp[Option.getD]
   rw[hx] at e1
   have hl4:((KJ c.bits.toNat (s:Int)).take k).length<=4:=by rw[List.length_take,hlen];have:=Nat.div_le_self 4 c.bits.toNat;omega
   have wn:IntKind.i64.wrap (a-c.bits)=a-c.bits:=Ak _ (by omega)
   (try (simp -implicitDefEqProofs only[go_sem,BQ,BN,h0,wn,e1]));repeat' first|(with_reducible first|exact tI|refine aI ?_ ?_|intro _)|((first|with_reducible refine AM ?_ ?_<;>intro _)<;>try (simp -implicitDefEqProofs only[go_sem,BQ,BN,h0,wn,e1]))|simp (disch:=omega) only[An]|((with_reducible refine BZ ?_);refine⟨(_,_,_),rfl,?_,?_⟩)
   all_goals first|omega|(simp;done)|(simp;omega)|skip
   rw[e1,←hst]
   refine⟨(k+1,a-c.bits,false),rfl,⟨by show k+1<=_;omega,?_,?_⟩,by show 4/c.bits.toNat-(k+1)<_;omega⟩
   ·show a-c.bits=4-c.bits*(((k+1:Nat):Int)+1)
    rw[k2];push_cast;rw[Int.mul_add,Int.mul_add,Int.mul_add];omega
   ·show false=decide (k+1=0)
    exact(decide_eq_false (by omega)).symm
  ·have ha:¬0<=a:=by
    rcases hb with h2|h2<;>rw[h2] at k2 hk<;>simp at hk<;>omega
   have hk0:nl=false:=by
     rw[k3,decide_eq_false];have:2<=4/c.bits.toNat:=by rcases hn with h2|h2<;>rw[h2]<;>omega
     omega
   have htk:(KJ c.bits.toNat (s:Int)).take k=KJ c.bits.toNat (s:Int):=List.take_of_length_le (by rw[hlen];omega)
   rw[hk0,htk]
   (try (simp -implicitDefEqProofs only[go_sem,BQ,BN,ha]));repeat' first|(with_reducible first|exact tI|refine aI ?_ ?_|intro _)|((first|with_reducible refine AM ?_ ?_<;>intro _)<;>try (simp -implicitDefEqProofs only[go_sem,BQ,BN,ha]))|simp (disch:=omega) only[An]|((with_reducible refine BZ ?_);refine⟨(_,_,_),rfl,?_,?_⟩)
   all_goals first|omega|(simp;done)|(simp;omega)|skip
   all_goals first|rfl|skip
end
end Go.Pw
