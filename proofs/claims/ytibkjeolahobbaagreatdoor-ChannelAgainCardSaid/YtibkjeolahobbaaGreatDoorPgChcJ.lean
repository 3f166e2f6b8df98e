/- A part of the proof. -/
import Derived.Test.YtibkjeolahobbaaGreatDoorPgChcD
import Derived.Test.YtibkjeolahobbaaGreatDoorPwLaw
import Derived.Test.YtibkjeolahobbaaGreatDoorPwInt
set_option linter.all false
open Go Go.Pw Go.Proofs
namespace Go.Pw
set_option maxRecDepth 100000
set_option maxHeartbeats 1600000
section
attribute [local congr] Bh A7 A8 Au Bi Az A1 A0 Ar Ai Ab AZ Aw Ad Ax BF BJ BH BI BG BK BC Ag Ay Ah BA BS Af BD BE BB A_ A' A6 Bj A9 Av Ae
attribute [local irreducible] IntKind.wrap A5 Option.getD and or
theorem P7 (c:AU):∀(l:List Int) (s:Int),(c.stream s l).1.length=l.length*c.out.toNat
 |[],s=>by simp[AU.stream]
 |w::l,s=>by
  simp only[AU.stream,List.length_append,IQ,P7 c l,List.length_cons,Nat.succ_mul]
  omega
theorem D9 {k:IntKind}{cs:List D}(h:Cw (.int k) cs):∃n,cs=[.int k n]:=by cases h with|int _ n _=>exact⟨n,rfl⟩
theorem MF {cs:List D}(h:Cw (.list (.int .i64)) cs):∃nl l,cs=[.list nl (Aj l)]:=by
 cases h with|list _ nl xs h0 h1 h2 =>
 have:∃l,xs=Aj l:=by
  clear h0
  induction xs with
  |nil=>exact⟨[],rfl⟩
  |cons x xs ih =>
   obtain⟨l,rfl⟩:=ih (fun y hy=>h1 y (by simp[hy])) fun y hy=>h2 y (by simp[hy])
   obtain⟨n,hn⟩:=D9 (h1 x (by simp))
   have:=h2 x (by simp)
   rw[hn] at this
   exact⟨n::l,by rw[this];rfl⟩
 obtain⟨l,rfl⟩:=this
 exact⟨nl,l,rfl⟩
theorem ME {cs:List D}(h:Cw (.list (.list (.int .i64))) cs):∃nl l,cs=[.list nl (E2 l)]:=by
 cases h with|list _ nl xs h0 h1 h2 =>
 have:∃l,xs=E2 l:=by
  clear h0
  induction xs with
  |nil=>exact⟨[],rfl⟩
  |cons x xs ih =>
   obtain⟨l,rfl⟩:=ih (fun y hy=>h1 y (by simp[hy])) fun y hy=>h2 y (by simp[hy])
   obtain⟨b,n,hn⟩:=MF (h1 x (by simp))
   have:=h2 x (by simp)
   rw[hn] at this
   exact⟨(b,n)::l,by rw[this];rfl⟩
 obtain⟨l,rfl⟩:=this
 exact⟨nl,l,rfl⟩
theorem CG {T:Ty}{Ts:List Ty}{cs:List D}(h:Cw (.str (T::Ts)) cs):∃a b,cs=a++b/\Cw T a/\Cw (.str Ts) b:=by
 cases h with|cons _ _ a b h1 h2=>exact⟨a,b,rfl,h1,h2⟩
theorem LS {cs:List D}(h:Cw (.str []) cs):cs=[]:=by cases h;rfl
def jq:Ty:=.str [.int .i64,.int .i64,.int .i64,.int .i64,.list (.list (.int .i64)),.list (.list (.int .i64))]
def n9:Ty:=.str [.int .i64,.list (.int .i64),.list (.int .i64)]
end
section
attribute [local congr] Bh A7 A8 Au Bi Az A1 A0 Ar Ai Ab AZ Aw Ad Ax BF BJ BH BI BG BK BC Ag Ay Ah BA BS Af BD BE BB A_ A' A6 Bj A9 Av Ae
attribute [local irreducible] IntKind.wrap A5 Option.getD and or
def H1 (s:Int):Int:=(2*s+(s/64%2+s/32%2)%2)%128
def CY:Int->List Int->List Int
 |_,[]=>[]
 |s,x::l=>((x+s/64%2)%2)::CY (H1 s) l
def FC (s:Int) (l:List Int):Bool:=Cp s 1 127 && decide (l.length<=128) && Ap l
def KU (s:Int) (l:List Int):List Int×Int:=if FC s l then (CY s l,0) else ([],1)
theorem Ue {s:Int}{l:List Int}(h:FC s l=true):KU s l=(CY s l,0):=by simp[KU,h]
theorem R8 {s:Int}{l:List Int}(h:FC s l=false):KU s l=([],1):=by simp[KU,h]
theorem GG (s:Int) (l:List Int):(CY s l).length=l.length:=by
 induction l generalizing s with
 |nil=>rfl
 |cons x l ih=>simp[CY,ih]
theorem WV {s:Int}{l:List Int}(h:¬l.length<=128):FC s l=false:=by simp[FC,h]
theorem Uv (s:Int):0<=H1 s/\H1 s<=127:=by simp only[H1];omega
theorem bj:∀s:Fin 128,A5 .or .i64 (A5 .and .i64 (IntKind.i64.wrap ((s.val:Int)*2^min 1 64)) 127) (A5 .xor .i64 ((s.val:Int).fdiv (2^min 6 64)%2) ((s.val:Int).fdiv (2^min 5 64)%2))=H1 s.val:=by decide +kernel
theorem Y9 {s:Int}(h:0<=s/\s<=127):A5 .or .i64 (A5 .and .i64 (IntKind.i64.wrap (s*2^min 1 64)) 127) (A5 .xor .i64 (s.fdiv (2^min 6 64)%2) (s.fdiv (2^min 5 64)%2))=H1 s:=by
 have:=bj ⟨s.toNat,by omega⟩
 simp only[Int.toNat_of_nonneg h.1] at this
 exact this
theorem mo {s:Int}:s.fdiv (2^min 6 64)=s/64:=by
 rw[WP];rfl
theorem gH {x s:Int}(hx:x=0\/x=1):A5 .xor .i64 x (s.fdiv (2^min 6 64)%2)=(x+s/64%2)%2:=by
 rw[mo,Sg hx (by omega)]
 split<;>omega
theorem M7 (nl:Bool) (xs:List Int):CI E0 J2 [.list nl (Aj xs)] (.bool (Ap xs)):=by
 refine AK NQ Aq (by simp) fun hwf=>?_
 simp only[Dx,DK,DJ,C0,EH,EG,Fz,EF,Bk,Bv,Bw,DM,B9,List.length_map,B5,true_and,and_true] at hwf
 rw[AW];unfold Ic
 simp -implicitDefEqProofs only[go_sem]
 refine AY (α:=Int) (l0:=?l1) (m0:=?m1) (fun x=>[(3,.d (.int .i64 x))]) (fun x=>[]) (fun x=>0<=x/\x<=xs.length/\Ap (xs.drop x.toNat)=Ap xs) (fun x=>(xs.length-x).toNat) ?a1_0 ?h01 ?he1 ?he21 ?hI1 ?step1
 case h01=>(simp -implicitDefEqProofs only[go_sem];rfl)
 case he1=>rfl
 case he21=>rfl
 case' step1=>(rintro i hI;try dsimp only at hI)
 case' hI1=>try dsimp only
 ·simp
 ·by_cases hi:i<xs.length
  ·have hd:Ap (xs.drop i.toNat)=(Cp (xs[i.toNat]?.getD 0) 0 1 && Ap (xs.drop (i+1).toNat)):=by
    rw[Fi (xs:=xs) (i:=i.toNat) (by omega),show (i+1).toNat=i.toNat+1 by omega];rfl
   (try (simp -implicitDefEqProofs only[go_sem]));repeat' first|(with_reducible first|exact tI|refine aI ?_ ?_|intro _)|((first|with_reducible refine AM ?_ ?_<;>intro _|(with_reducible refine isCall ?_);first|refine AE (C9 _ _ _) ?_)<;>try (simp -implicitDefEqProofs only[go_sem]))|simp (disch:=omega) only[An]|((with_reducible refine Ao ?_);refine⟨_,rfl,?_,?_⟩)
   all_goals (first|omega|skip)
   all_goals simp_all
  ·(try (simp -implicitDefEqProofs only[go_sem]));repeat' first|(with_reducible first|exact tI|refine aI ?_ ?_|intro _)|((first|with_reducible refine AM ?_ ?_<;>intro _)<;>try (simp -implicitDefEqProofs only[go_sem]))|simp (disch:=omega) only[An]|((with_reducible refine Ao ?_);refine⟨_,rfl,?_,?_⟩)
   all_goals first|omega|(simp;done)|(simp;omega)|skip
   have h0:xs.drop i.toNat=[]:=List.drop_eq_nil_of_le (by omega)
   rw[h0] at hI
   rw[←hI.2.2];rfl
theorem HR (s:Int) (nl:Bool) (l:List Int):CI E0 JB [.int .i64 s,.list nl (Aj l)]
  (.tup [.list (KU s l).1.isEmpty (Aj (KU s l).1),.int .i64 (KU s l).2]):=by
 refine AK MX Aq (by simp) fun hwf=>?_
 simp only[Dx,DK,DJ,C0,EH,EG,Fz,EF,Bk,Bv,Bw,DM,B9,List.length_map,B5,true_and,and_true] at hwf
 rw[AW];unfold Hv
 (try (simp -implicitDefEqProofs only[go_sem]));repeat' first|(with_reducible first|exact tI|refine aI ?_ ?_|intro _)|((first|with_reducible refine AM ?_ ?_<;>intro _|(with_reducible refine isCall ?_);first|refine AE (IP _ _) ?_|refine AE (Cf _ _ _) ?_)<;>try (simp -implicitDefEqProofs only[go_sem]))|simp (disch:=omega) only[An]|((with_reducible refine CW ?_);refine⟨(_,_,_,_),rfl,?_,?_⟩)
 all_goals first
  |(
    have hx:FC s l=false:=by(simp_all[FC];done)
    rw[R8 hx];rfl)
  |(
    have h9:¬l.length<=128:=by omega
    rw[R8 (WV h9)];rfl)
  |skip
 have hb:Ap l=true:=by assumption
 have h128:l.length<=128:=by omega
 have hr:Cp s 1 127=true:=by assumption
 have hg:FC s l=true:=by simp[FC,hb,h128,hr]
 have hs:1<=s/\s<=127:=by simp[FC,Cp] at hg;omega
 rw[Ue hg]
 refine AY (α:=Int×Int×Bool×(List Int)) (l0:=?l2) (m0:=?m2) (fun x=>[(25,.d (.int .i64 x.1)),(0,.d (.int .i64 x.2.1))]) (fun x=>[(37,.row Sb 1 x.2.2.1 (Aj x.2.2.2))]) (fun x=>0<=x.1/\x.1<=l.length/\0<=x.2.1/\x.2.1<=127/\x.2.2.2.length=x.1.toNat/\x.2.2.1=x.2.2.2.isEmpty/\x.2.2.2++CY x.2.1 (l.drop x.1.toNat)=CY s l) (fun x=>(l.length-x.1).toNat) (?a2_0,?a2_1,?a2_2,[]) ?h02 ?he2 ?he22 ?hI2 ?step2
 case h02=>(simp -implicitDefEqProofs only[go_sem];rfl)
 case he2=>rfl
 case he22=>rfl
 case' step2=>(rintro⟨i,t,nl',acc⟩ hI;try dsimp only at hI)
 case' hI2=>try dsimp only
 ·simp;omega
 ·by_cases hi:i<l.length
  ·have hbit:=Ee hb (i:=i.toNat) (by omega)
   have hstep:CY t (l.drop i.toNat)=((l[i.toNat]?.getD 0+t/64%2)%2)::CY (H1 t) (l.drop (i+1).toNat):=by
     rw[Fi (xs:=l) (i:=i.toNat) (by omega),CY,show (i+1).toNat=i.toNat+1 by omega]
   have hx:=gH (s:=t) hbit
   have hnx:=Y9 (s:=t) (by omega)
   have hnb:=Uv t
   (try (simp -implicitDefEqProofs only[go_sem]));repeat' first|(with_reducible first|exact tI|refine aI ?_ ?_|intro _)|((first|with_reducible refine AM ?_ ?_<;>intro _)<;>try (simp -implicitDefEqProofs only[go_sem]))|simp (disch:=omega) only[An]|((with_reducible refine CW ?_);refine⟨(_,_,_,_),rfl,?_,?_⟩)
   all_goals (try simp only[hx,hnx])
   all_goals first|omega|(simp;done)|(simp;omega)|skip
   rw[←hI.2.2.2.2.2.2,hstep];simp
  ·(try (simp -implicitDefEqProofs only[go_sem]));repeat' first|(with_reducible first|exact tI|refine aI ?_ ?_|intro _)|((first|with_reducible refine AM ?_ ?_<;>intro _)<;>try (simp -implicitDefEqProofs only[go_sem]))|simp (disch:=omega) only[An]|((with_reducible refine CW ?_);refine⟨(_,_,_,_),rfl,?_,?_⟩)
   all_goals first|omega|(simp;done)|(simp;omega)|skip
   have h0:l.drop i.toNat=[]:=List.drop_eq_nil_of_le (by omega)
   have h1:=hI.2.2.2.2.2.2
   rw[h0,CY,List.append_nil] at h1
   rw[←h1,hI.2.2.2.2.2.1]
theorem KT (s:Int) (l:List Int):Ap (CY s l)=true:=by
 induction l generalizing s with
 |nil=>rfl
 |cons x l ih =>
  have h1:=ih (H1 s)
  have e:Cp ((x+s/64%2)%2) 0 1=true:=by simp only[Cp,decide_eq_true_eq];omega
  simp only[Ap] at h1
  simp only[CY,Ap,List.all_cons,h1,e,Bool.and_true]
theorem S2 (s:Int) (l:List Int) (h:Ap l=true):CY s (CY s l)=l:=by
 induction l generalizing s with
 |nil=>rfl
 |cons x l ih =>
  simp only[Ap,List.all_cons,Bool.and_eq_true,Cp,decide_eq_true_eq] at h
  have h1:=h.1
  rw[CY,CY,ih _ (by simpa[Ap,Cp] using h.2)]
  have:(((x+s/64%2)%2+s/64%2)%2)=x:=by omega
  rw[this]
end
def KJ (b:Nat) (s:Int):List Int:=(List.range (4/b)).map fun j=>s/2^((4/b-1-j)*b)%2^b
def Gy (b:Nat) (l:List Int):Int:=l.foldl (fun a w=>a*2^b+w) 0
theorem Hn (b:Nat) (s:Int):(KJ b s).length=4/b:=by simp[KJ]
theorem T0 {b:Nat}(s w:Int) (h:w∈KJ b s):0<=w/\w<=2^b-1:=by
 simp only[KJ,List.mem_map] at h
 obtain⟨j,_,rfl⟩:=h
 have h1:(0:Int)<2^b:=Int.pow_pos (by omega)
 have h2:=Int.emod_nonneg (s/2^((4/b-1-j)*b)) (show (2:Int)^b≠0 by omega)
 have h3:=Int.emod_lt_of_pos (s/2^((4/b-1-j)*b)) h1
 omega
theorem fQ {b:Nat}(hb:b=1\/b=2) {s:Int}(h:0<=s/\s<=15):Gy b (KJ b s)=s:=by
 obtain⟨s,rfl⟩:∃n:Nat,s=(n:Int):=⟨s.toNat,by omega⟩
 rcases hb with rfl|rfl
 ·show (((0*2+(s:Int)/8%2)*2+(s:Int)/4%2)*2+(s:Int)/2%2)*2+(s:Int)/1%2=s
  omega
 ·show ((0*4+(s:Int)/4%4)*4+(s:Int)/1%4)=s
  omega
theorem bK {b:Nat}(hb:b=1\/b=2) {l:List Int}(hl:l.length=4/b) (h:∀w,w∈l->0<=w/\w<=2^b-1):0<=Gy b l/\Gy b l<=15:=by
 rcases hb with rfl|rfl
 ·match l,hl with
  |[x,y,z,w],_ =>
   have h1:=h x (by simp);have h2:=h y (by simp);have h3:=h z (by simp);have h4:=h w (by simp)
   simp only[Gy,List.foldl]
   omega
 ·match l,hl with
  |[x,y],_ =>
   have h1:=h x (by simp);have h2:=h y (by simp)
   simp only[Gy,List.foldl]
   omega
theorem Ym (b:Nat) (l:List Int) (w:Int):Gy b (l++[w])=Gy b l*2^b+w:=by simp[Gy]
def nh (n:Nat) (sy:Int) (out:List Int) (f:Int):List Int:=if 0<=f/\f/n=sy then out.set (f%n).toNat (1-out[(f%n).toNat]?.getD 0) else out
def ow (n:Nat) (sy:Int) (bits flips:List Int):List Int:=flips.foldl (nh n sy) bits
structure AX where
 code:AU
 L:Int
 P:Int
 Q:Int
 nm:Bool
 mark:List Int
 seed:Int
 errs:Int
def Vf (c:AX):List D:=[.int .i64 c.code.bits,.int .i64 c.code.out,.int .i64 c.code.least,.int .i64 c.code.most,.list c.code.nw (E2 c.code.words),.list c.code.nn (E2 c.code.next),.int .i64 c.L,.int .i64 c.P,.int .i64 c.Q,.list c.nm (Aj c.mark),.int .i64 c.seed,.int .i64 c.errs]
def Fj (c:AX):D:=.agg (Vf c)
theorem AN (c:AX):Vf c=[.int .i64 c.code.bits,.int .i64 c.code.out,.int .i64 c.code.least,.int .i64 c.code.most,.list c.code.nw (E2 c.code.words),.list c.code.nn (E2 c.code.next),.int .i64 c.L,.int .i64 c.P,.int .i64 c.Q,.list c.nm (Aj c.mark),.int .i64 c.seed,.int .i64 c.errs]:=rfl
theorem AO (c:AX):Fj c=.agg (Vf c):=rfl
def AU.stm (c:AU) (s:Nat):List Int:=(c.stream 0 (KJ c.bits.toNat s)).1
def AU.sz (c:AU):Nat:=4/c.bits.toNat * c.out.toNat
theorem LU (c:AU) (s:Nat):(c.stm s).length=c.sz:=by unfold AU.stm AU.sz;rw[P7,Hn]
theorem Pr {c:AU}(h:c.ok=true):c.bits.toNat=1\/c.bits.toNat=2:=by have:=AU.ok_head h;omega
theorem HB {c:AU}(h:c.ok=true):2<=c.sz/\c.sz<=20:=by
 have h1:=AU.ok_head h
 unfold AU.sz
 have h2:1<=c.out.toNat/\c.out.toNat<=5:=by omega
 rcases Pr h with h3|h3<;>rw[h3]<;>simp<;>omega
theorem WG {c:AU}(h:c.ok=true) (s:Nat):c.stm s≠[]:=fun e=>by
 have:=LU c s
 rw[e] at this
 have:=HB h
 simp at *;omega
theorem SX:∀(n:Nat) (w:Int),Ap (Cn n w)=true
 |0,_=>rfl
 |n+1,w=>by
  show (Cp (w/2^n%2) 0 1 && Ap (Cn n w))=true
  rw[SX n w,Bool.and_true]
  simp only[Cp,decide_eq_true_eq];omega
theorem H7 {a b:List Int}(ha:Ap a=true) (hb:Ap b=true):Ap (a++b)=true:=by
 simp only[Ap,List.all_eq_true,List.mem_append] at *
 exact fun x hx=>hx.elim (ha x) (hb x)
theorem Ow (c:AU):∀(l:List Int) (s:Int),Ap (c.stream s l).1=true
 |[],_=>rfl
 |w::l,s=>H7 (SX ..) (Ow c l _)
theorem UF (c:AU) (s:Nat):Ap (c.stm s)=true:=Ow ..
theorem Pv {c:AU}(h:c.ok=true) (s:Int):∀w,w∈KJ c.bits.toNat s->c.isWord w=true:=fun w hw=>by
 have h1:=T0 s w hw
 simp only[AU.isWord,Cp,decide_eq_true_eq];exact h1
theorem Pt {c:AU}(h:c.ok=true):c.isState 0=true:=by
 have:=AU.ok_head h
 simp only[AU.isState,Cp,decide_eq_true_eq];omega
theorem V8 {c:AU}(h:c.ok=true) (s:Int):c.isData (KJ c.bits.toNat s)=true:=by
 simp only[AU.isData,Bool.and_eq_true,decide_eq_true_eq,List.all_eq_true]
 refine⟨?_,Pv h s⟩
 rw[Hn]
 rcases Pr h with h1|h1<;>rw[h1]<;>omega
theorem iz {c:AU}(h:c.ok=true) (s:Nat):c.encode 0 (KJ c.bits.toNat s)=(c.stm s,(c.stream 0 (KJ c.bits.toNat s)).2,0):=by
 unfold AU.encode AU.stm
 simp[h,Pt h,V8 h]
def Ky (c:AU) (m:Nat):Bool:=(List.range m).all fun a=>(List.range a).all fun b=>decide (c.stm b≠c.stm a)
theorem TR {c:AU}{m:Nat}:Ky c m=true↔∀a b,a<m->b<a->c.stm b≠c.stm a:=by
 simp only[Ky,List.all_eq_true,List.mem_range,decide_eq_true_eq]
 exact⟨fun h a b ha hb=>h a ha b hb,fun h a ha b hb=>h a b ha hb⟩
theorem i4 {c:AU}{m a b:Nat}(h:Ky c m=true) (ha:a<m) (hb:b<m) (e:c.stm a=c.stm b):a=b:=by
 rw[TR] at h
 rcases Nat.lt_trichotomy a b with h1|h1|h1
 ·exact absurd e (h b a hb h1)
 ·exact h1
 ·exact absurd e.symm (h a b ha h1)
def RO (c:AU) (p:List Int):Option Nat:=(List.range 16).find? fun s=>decide (c.stm s=p)
theorem G7 {c:AU}{p:List Int}{s:Nat}(h:RO c p=some s):s<16/\c.stm s=p:=by
 have h1:=List.mem_of_find?_eq_some h
 have h2:=List.find?_some h
 exact⟨by simpa using h1,by simpa using h2⟩
theorem Mu {c:AU}(h:Ky c 16=true) {s:Nat}(hs:s<16):RO c (c.stm s)=some s:=by
 cases he:RO c (c.stm s) with
 |none =>
  unfold RO at he
  rw[List.find?_eq_none] at he
  exact absurd (by simp) (he s (by simpa using hs))
 |some t =>
  obtain⟨h1,h2⟩:=G7 he
  rw[i4 h h1 hs h2]
def mQ (s:Int):Int:=H1 (H1 (H1 (H1 s)))
def jf (s x:Int):Int:=Gy 1 (CY s (KJ 1 x))
def Db:Int->List Int->List Int
 |_,[]=>[]
 |s,x::l=>jf s x::Db (mQ s) l
def nR (s:Int):Nat->Int
 |0=>s
 |n+1=>nR (mQ s) n
theorem EW:∀(l:List Int) (s:Int),(Db s l).length=l.length
 |[],_=>rfl
 |x::l,s=>by simp[Db,EW l]
theorem QF:∀(l:List Int) (s:Int) (i:Nat),i<l.length->(Db s l)[i]?.getD 0=jf (nR s i) (l[i]?.getD 0)
 |[],_,_,h=>by cases h
 |x::l,s,0,_=>rfl
 |x::l,s,i+1,h=>by
  have:=QF l (mQ s) i (by simpa using h)
  simpa[Db,nR] using this
theorem Rq (x:Int):Ap (KJ 1 x)=true:=by
 simp only[Ap,List.all_eq_true,Cp,decide_eq_true_eq]
 intro n hn
 have:=T0 x n hn
 omega
theorem my {l:List Int}(hl:l.length=4) (hb:Ap l=true):KJ 1 (Gy 1 l)=l:=by
 match l,hl with
 |[a,b,c,d],_ =>
  have h:∀x,x∈[a,b,c,d]->0<=x/\x<=1:=fun x hx=>by
   simp only[Ap,List.all_eq_true] at hb
   have:=hb x hx
   simpa[Cp] using this
  have h1:=h a (by simp);have h2:=h b (by simp);have h3:=h c (by simp);have h4:=h d (by simp)
  have e1:((((0*2+a)*2+b)*2+c)*2+d)/8%2=a:=by omega
  have e2:((((0*2+a)*2+b)*2+c)*2+d)/4%2=b:=by omega
  have e3:((((0*2+a)*2+b)*2+c)*2+d)/2%2=c:=by omega
  have e4:((((0*2+a)*2+b)*2+c)*2+d)/1%2=d:=by omega
  show [((((0*2+a)*2+b)*2+c)*2+d)/8%2,((((0*2+a)*2+b)*2+c)*2+d)/4%2,((((0*2+a)*2+b)*2+c)*2+d)/2%2,((((0*2+a)*2+b)*2+c)*2+d)/1%2]=[a,b,c,d]
  rw[e1,e2,e3,e4]
theorem gJ (s x:Int):0<=jf s x/\jf s x<=15:=by
 have h1:=KT s (KJ 1 x)
 have h2:=GG s (KJ 1 x)
 refine bK (b:=1) (.inl rfl) (by rw[h2,Hn]) fun w hw=>?_
 simp only[Ap,List.all_eq_true] at h1
 have:=h1 w hw
 simp[Cp] at this
 omega
theorem gI (s:Int) {x:Int}(h:0<=x/\x<=15):jf s (jf s x)=x:=by
 have h2:=GG s (KJ 1 x)
 unfold jf
 rw[my (by rw[h2,Hn]) (KT ..),S2 _ _ (Rq x)]
 exact fQ (.inl rfl) h
theorem KV:∀(l:List Int) (s:Int) (x:Int),x∈Db s l->0<=x/\x<=15
 |[],_,_,h=>by cases h
 |y::l,s,x,h=>by
  rcases List.mem_cons.1 h with rfl|h
  ·exact gJ ..
  ·exact KV l _ x h
def Hi (l:List Int):List Int:=l.flatMap (KJ 1)
def UE:List Int->List Int
 |a::b::c::d::l=>Gy 1 [a,b,c,d]::UE l
 |_=>[]
theorem QU (l:List Int):(Hi l).length=4*l.length:=by
 induction l with
 |nil=>rfl
 |cons x l ih=>simp only[Hi,List.flatMap_cons,List.length_append,Hn] at *;simp only[List.length_cons];omega
theorem ZV (l:List Int):Ap (Hi l)=true:=by
 induction l with
 |nil=>rfl
 |cons x l ih=>exact H7 (Rq x) ih
theorem QE:∀(a b:List Int) (s:Int),CY s (a++b)=CY s a++CY (a.foldl (fun t _=>H1 t) s) b
 |[],_,_=>rfl
 |x::a,b,s=>by show _::CY (H1 s) (a++b)=_;rw[QE a b];rfl
theorem Rr:∀(l:List Int) (s:Int),UE (CY s (Hi l))=Db s l
 |[],_=>rfl
 |x::l,s=>by
  show UE (CY s (KJ 1 x++Hi l))=jf s x::Db (mQ s) l
  rw[QE,←Rr l (mQ s)]
  rfl
def AX.syms (c:AX):Nat:=(c.Q*c.L).toNat
def AX.tot (c:AX):Nat:=c.mark.length+c.syms*c.code.sz
def AX.fnd (c:AX) (bits:List Int):Nat->Nat->Option Nat
 |0,_=>none
 |n+1,at_=>if at_+c.tot<=bits.length then (if Ce c.mark (bits.drop at_)<=c.errs then some at_ else c.fnd bits n (at_+1)) else none
def AX.find (c:AX) (bits:List Int):Option Nat:=c.fnd bits (bits.length+1) 0
theorem VF {c:AX}{bits:List Int}:∀{n a r:Nat},c.fnd bits n a=some r->a<=r/\r+c.tot<=bits.length/\Ce c.mark (bits.drop r)<=c.errs/\∀j,a<=j->j<r->c.errs<Ce c.mark (bits.drop j)
 |0,_,_,h=>by cases h
 |n+1,a,r,h=>by
  unfold AX.fnd at h
  split at h
  ·split at h
   ·cases h;exact⟨Nat.le_refl _,by assumption,by assumption,fun j h1 h2=>by omega⟩
   ·obtain⟨h1,h2,h3,h4⟩:=VF h
    refine⟨by omega,h2,h3,fun j h5 h6=>?_⟩
    by_cases e:j=a
    ·subst e;omega
    ·exact h4 j (by omega) h6
  ·cases h
theorem eA {c:AX}{bits:List Int}{r:Nat}(hr:r+c.tot<=bits.length) (hd:Ce c.mark (bits.drop r)<=c.errs) :
  ∀{n a:Nat},a<=r->r<a+n->(∀j,a<=j->j<r->c.errs<Ce c.mark (bits.drop j))->c.fnd bits n a=some r
 |0,a,h1,h2,_=>by omega
 |n+1,a,h1,h2,h3=>by
  unfold AX.fnd
  rw[if_pos (by omega)]
  by_cases e:a=r
  ·subst e;rw[if_pos hd]
  ·rw[if_neg (by have:=h3 a (Nat.le_refl _) (by omega);omega)]
   exact eA hr hd (by omega) (by omega) fun j h4 h5=>h3 j (by omega) h5
theorem OO {c:AX}{bits:List Int}{r:Nat}:c.find bits=some r↔r+c.tot<=bits.length/\Ce c.mark (bits.drop r)<=c.errs/\∀j,j<r->c.errs<Ce c.mark (bits.drop j):=by
 constructor
 ·intro h
  obtain⟨_,h1,h2,h3⟩:=VF h
  exact⟨h1,h2,fun j hj=>h3 j (Nat.zero_le _) hj⟩
 ·rintro⟨h1,h2,h3⟩
  exact eA h1 h2 (Nat.zero_le _) (by omega) fun j _ hj=>h3 j hj
def AX.part (c:AX) (bits:List Int) (at_ i:Nat):List Int:=(bits.drop (at_+c.mark.length+i*c.code.sz)).take c.code.sz
def AX.syL (c:AX) (bits:List Int) (at_:Nat):List (Option Nat):=(List.range c.syms).map fun i=>RO c.code (c.part bits at_ i)
theorem LT (c:AX) (bits:List Int) (at_:Nat):(c.syL bits at_).length=c.syms:=by simp[AX.syL]
def O8 (l:List (Option Nat)):List Int:=l.map fun x=>((x.getD 0:Nat):Int)
def fO (l:List (Option Nat)):List Nat:=(List.range l.length).filter fun i=>(l[i]?.getD none).isNone
end Go.Pw
