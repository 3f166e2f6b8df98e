/- A part of the proof. -/
import Derived.Test.YtibkjeolahobbaaDoorPgCdChcD
import Derived.Test.YtibkjeolahobbaaDoorPwLaw
import Derived.Test.YtibkjeolahobbaaDoorPwInt
set_option linter.all false
section
open Go Go.Pw Go.Proofs
namespace Go.Pw
set_option maxRecDepth 100000
set_option maxHeartbeats 1600000
attribute [local congr] Bi A9 A_ Aq Bj Ax Az Ay Ap Aj Ad AY Au Ae Av BH BL BJ BK BI BM BE Ah Aw Ai BC BS Ag BF BG BD BA BB A8 Bl A' Ar Af
attribute [local irreducible] IntKind.wrap A3 Option.getD and or
theorem P5 (c:AQ):∀(l:List Int) (s:Int),(c.stream s l).1.length=l.length*c.out.toNat
 |[],s=>by simp[AQ.stream]
 |w::l,s=>by
  simp only[AQ.stream,List.length_append,IQ,P5 c l,List.length_cons,Nat.succ_mul]
  omega
theorem DP {k:IntKind}{cs:List D}(h:C1 (.int k) cs):∃n,cs=[.int k n]:=by cases h with|int _ n _=>exact⟨n,rfl⟩
theorem Dh {cs:List D}(h:C1 (.list (.int .i64)) cs):∃nl l,cs=[.list nl (Al l)]:=by
 cases h with|list _ nl xs h0 h1 h2 =>
 have:∃l,xs=Al l:=by
  clear h0
  induction xs with
  |nil=>exact⟨[],rfl⟩
  |cons x xs ih =>
   obtain⟨l,rfl⟩:=ih (fun y hy=>h1 y (by simp[hy])) fun y hy=>h2 y (by simp[hy])
   obtain⟨n,hn⟩:=DP (h1 x (by simp))
   have:=h2 x (by simp)
   rw[hn] at this
   exact⟨n::l,by rw[this];rfl⟩
 obtain⟨l,rfl⟩:=this
 exact⟨nl,l,rfl⟩
theorem Pz {cs:List D}(h:C1 (.list (.list (.int .i64))) cs):∃nl l,cs=[.list nl (GN l)]:=by
 cases h with|list _ nl xs h0 h1 h2 =>
 have:∃l,xs=GN l:=by
  clear h0
  induction xs with
  |nil=>exact⟨[],rfl⟩
  |cons x xs ih =>
   obtain⟨l,rfl⟩:=ih (fun y hy=>h1 y (by simp[hy])) fun y hy=>h2 y (by simp[hy])
   obtain⟨b,n,hn⟩:=Dh (h1 x (by simp))
   have:=h2 x (by simp)
   rw[hn] at this
   exact⟨(b,n)::l,by rw[this];rfl⟩
 obtain⟨l,rfl⟩:=this
 exact⟨nl,l,rfl⟩
theorem Ba {T:Ty}{Ts:List Ty}{cs:List D}(h:C1 (.str (T::Ts)) cs):∃a b,cs=a++b/\C1 T a/\C1 (.str Ts) b:=by
 cases h with|cons _ _ a b h1 h2=>exact⟨a,b,rfl,h1,h2⟩
theorem GC {cs:List D}(h:C1 (.str []) cs):cs=[]:=by cases h;rfl
def jd:Ty:=.str [.int .i64,.int .i64,.int .i64,.int .i64,.list (.list (.int .i64)),.list (.list (.int .i64))]
def nM:Ty:=.str [.int .i64,.list (.int .i64),.list (.int .i64)]
end Go.Pw
end
section
open Go Go.Pw Go.Proofs
namespace Go.Pw
set_option maxRecDepth 100000
set_option maxHeartbeats 800000
attribute [local congr] Bi A9 A_ Aq Bj Ax Az Ay Ap Aj Ad AY Au Ae Av BH BL BJ BK BI BM BE Ah Aw Ai BC BS Ag BF BG BD BA BB A8 Bl A' Ar Af
attribute [local irreducible] IntKind.wrap A3 Option.getD and or
def H4 (s:Int):Int:=(2*s+(s/64%2+s/32%2)%2)%128
def B8:Int->List Int->List Int
 |_,[]=>[]
 |s,x::l=>((x+s/64%2)%2)::B8 (H4 s) l
def Eo (s:Int) (l:List Int):Bool:=Cq s 1 127 && decide (l.length<=128) && Ab l
def Jg (s:Int) (l:List Int):List Int×Int:=if Eo s l then (B8 s l,0) else ([],1)
theorem QB {s:Int}{l:List Int}(h:Eo s l=true):Jg s l=(B8 s l,0):=by simp[Jg,h]
theorem R5 {s:Int}{l:List Int}(h:Eo s l=false):Jg s l=([],1):=by simp[Jg,h]
theorem EF (s:Int) (l:List Int):(B8 s l).length=l.length:=by
 induction l generalizing s with
 |nil=>rfl
 |cons x l ih=>simp[B8,ih]
theorem Wf {s:Int}{l:List Int}(h:¬l.length<=128):Eo s l=false:=by simp[Eo,h]
theorem U3 (s:Int):0<=H4 s/\H4 s<=127:=by simp only[H4];omega
theorem bm:∀s:Fin 128,A3 .or .i64 (A3 .and .i64 (IntKind.i64.wrap ((s.val:Int)*2^min 1 64)) 127) (A3 .xor .i64 ((s.val:Int).fdiv (2^min 6 64)%2) ((s.val:Int).fdiv (2^min 5 64)%2))=H4 s.val:=by decide +kernel
theorem ZG {s:Int}(h:0<=s/\s<=127):A3 .or .i64 (A3 .and .i64 (IntKind.i64.wrap (s*2^min 1 64)) 127) (A3 .xor .i64 (s.fdiv (2^min 6 64)%2) (s.fdiv (2^min 5 64)%2))=H4 s:=by
 have:=bm ⟨s.toNat,by omega⟩
 simp only[Int.toNat_of_nonneg h.1] at this
 exact this
theorem mR {s:Int}:s.fdiv (2^min 6 64)=s/64:=by
 rw[WZ];rfl
theorem fv {x s:Int}(hx:x=0\/x=1):A3 .xor .i64 x (s.fdiv (2^min 6 64)%2)=(x+s/64%2)%2:=by
 rw[mR,Pg hx (by omega)]
 split<;>omega
theorem Hv (nl:Bool) (xs:List Int):CK E0 J4 [.list nl (Al xs)] (.bool (Ab xs)):=by
 refine AM NV A0 (by simp) fun hwf=>?_
 simp only[EM,DU,DT,DI,Ed,Ec,GL,Eb,Bq,B3,B4,DY,CI,List.length_map,CB,true_and,and_true] at hwf
 rw[AU];unfold Ie
 simp -implicitDefEqProofs only[go_sem]
 refine AZ (α:=Int) (l0:=?l1) (m0:=?m1) (fun x=>[(3,.d (.int .i64 x))]) (fun x=>[]) (fun x=>0<=x/\x<=xs.length/\Ab (xs.drop x.toNat)=Ab xs) (fun x=>(xs.length-x).toNat) ?a1_0 ?h01 ?he1 ?he21 ?hI1 ?step1
 case h01=>(simp -implicitDefEqProofs only[go_sem];rfl)
 case he1=>rfl
 case he21=>rfl
 case' step1=>(rintro i hI;try dsimp only at hI)
 case' hI1=>try dsimp only
 ·simp
 ·by_cases hi:i<xs.length
  ·have hd:Ab (xs.drop i.toNat)=(Cq (xs[i.toNat]?.getD 0) 0 1 && Ab (xs.drop (i+1).toNat)):=by
    rw[HL (xs:=xs) (i:=i.toNat) (by omega),show (i+1).toNat=i.toNat+1 by omega];rfl
   (try (simp -implicitDefEqProofs only[go_sem]));repeat' first|(with_reducible first|exact tI|refine aI ?_ ?_|intro _)|((first|with_reducible refine AO ?_ ?_<;>intro _|(with_reducible refine isCall ?_);first|refine AE (C_ _ _ _) ?_)<;>try (simp -implicitDefEqProofs only[go_sem]))|simp (disch:=omega) only[An]|((with_reducible refine A5 ?_);refine⟨_,rfl,?_,?_⟩)
   all_goals (first|omega|skip)
   all_goals simp_all
  ·(try (simp -implicitDefEqProofs only[go_sem]));repeat' first|(with_reducible first|exact tI|refine aI ?_ ?_|intro _)|((first|with_reducible refine AO ?_ ?_<;>intro _)<;>try (simp -implicitDefEqProofs only[go_sem]))|simp (disch:=omega) only[An]|((with_reducible refine A5 ?_);refine⟨_,rfl,?_,?_⟩)
   all_goals first|omega|(simp;done)|(simp;omega)|skip
   have h0:xs.drop i.toNat=[]:=List.drop_eq_nil_of_le (by omega)
   rw[h0] at hI
   rw[←hI.2.2];rfl
theorem FP (s:Int) (nl:Bool) (l:List Int):CK E0 JC [.int .i64 s,.list nl (Al l)]
  (.tup [.list (Jg s l).1.isEmpty (Al (Jg s l).1),.int .i64 (Jg s l).2]):=by
 refine AM MV A0 (by simp) fun hwf=>?_
 simp only[EM,DU,DT,DI,Ed,Ec,GL,Eb,Bq,B3,B4,DY,CI,List.length_map,CB,true_and,and_true] at hwf
 rw[AU];unfold Hz
 (try (simp -implicitDefEqProofs only[go_sem]));repeat' first|(with_reducible first|exact tI|refine aI ?_ ?_|intro _)|((first|with_reducible refine AO ?_ ?_<;>intro _|(with_reducible refine isCall ?_);first|refine AE (IP _ _) ?_|refine AE (Cj _ _ _) ?_)<;>try (simp -implicitDefEqProofs only[go_sem]))|simp (disch:=omega) only[An]|((with_reducible refine Cb ?_);refine⟨(_,_,_,_),rfl,?_,?_⟩)
 all_goals first
  |(
    have hx:Eo s l=false:=by(simp_all[Eo];done)
    rw[R5 hx];rfl)
  |(
    have h9:¬l.length<=128:=by omega
    rw[R5 (Wf h9)];rfl)
  |skip
 have hb:Ab l=true:=by assumption
 have h128:l.length<=128:=by omega
 have hr:Cq s 1 127=true:=by assumption
 have hg:Eo s l=true:=by simp[Eo,hb,h128,hr]
 have hs:1<=s/\s<=127:=by simp[Eo,Cq] at hg;omega
 rw[QB hg]
 refine AZ (α:=Int×Int×Bool×(List Int)) (l0:=?l2) (m0:=?m2) (fun x=>[(25,.d (.int .i64 x.1)),(0,.d (.int .i64 x.2.1))]) (fun x=>[(37,.row SZ 1 x.2.2.1 (Al x.2.2.2))]) (fun x=>0<=x.1/\x.1<=l.length/\0<=x.2.1/\x.2.1<=127/\x.2.2.2.length=x.1.toNat/\x.2.2.1=x.2.2.2.isEmpty/\x.2.2.2++B8 x.2.1 (l.drop x.1.toNat)=B8 s l) (fun x=>(l.length-x.1).toNat) (?a2_0,?a2_1,?a2_2,[]) ?h02 ?he2 ?he22 ?hI2 ?step2
 case h02=>(simp -implicitDefEqProofs only[go_sem];rfl)
 case he2=>rfl
 case he22=>rfl
 case' step2=>(rintro⟨i,t,nl',acc⟩ hI;try dsimp only at hI)
 case' hI2=>try dsimp only
 ·simp;omega
 ·by_cases hi:i<l.length
  ·have hbit:=Df hb (i:=i.toNat) (by omega)
   have hstep:B8 t (l.drop i.toNat)=((l[i.toNat]?.getD 0+t/64%2)%2)::B8 (H4 t) (l.drop (i+1).toNat):=by
     rw[HL (xs:=l) (i:=i.toNat) (by omega),B8,show (i+1).toNat=i.toNat+1 by omega]
   have hx:=fv (s:=t) hbit
   have hnx:=ZG (s:=t) (by omega)
   have hnb:=U3 t
   (try (simp -implicitDefEqProofs only[go_sem]));repeat' first|(with_reducible first|exact tI|refine aI ?_ ?_|intro _)|((first|with_reducible refine AO ?_ ?_<;>intro _)<;>try (simp -implicitDefEqProofs only[go_sem]))|simp (disch:=omega) only[An]|((with_reducible refine Cb ?_);refine⟨(_,_,_,_),rfl,?_,?_⟩)
   all_goals (try simp only[hx,hnx])
   all_goals first|omega|(simp;done)|(simp;omega)|skip
   rw[←hI.2.2.2.2.2.2,hstep];simp
  ·(try (simp -implicitDefEqProofs only[go_sem]));repeat' first|(with_reducible first|exact tI|refine aI ?_ ?_|intro _)|((first|with_reducible refine AO ?_ ?_<;>intro _)<;>try (simp -implicitDefEqProofs only[go_sem]))|simp (disch:=omega) only[An]|((with_reducible refine Cb ?_);refine⟨(_,_,_,_),rfl,?_,?_⟩)
   all_goals first|omega|(simp;done)|(simp;omega)|skip
   have h0:l.drop i.toNat=[]:=List.drop_eq_nil_of_le (by omega)
   have h1:=hI.2.2.2.2.2.2
   rw[h0,B8,List.append_nil] at h1
   rw[←h1,hI.2.2.2.2.2.1]
theorem Hr (s:Int) (l:List Int):Ab (B8 s l)=true:=by
 induction l generalizing s with
 |nil=>rfl
 |cons x l ih =>
  have h1:=ih (H4 s)
  have e:Cq ((x+s/64%2)%2) 0 1=true:=by simp only[Cq,decide_eq_true_eq];omega
  simp only[Ab] at h1
  simp only[B8,Ab,List.all_cons,h1,e,Bool.and_true]
theorem S7 (s:Int) (l:List Int) (h:Ab l=true):B8 s (B8 s l)=l:=by
 induction l generalizing s with
 |nil=>rfl
 |cons x l ih =>
  simp only[Ab,List.all_cons,Bool.and_eq_true,Cq,decide_eq_true_eq] at h
  have h1:=h.1
  rw[B8,B8,ih _ (by simpa[Ab,Cq] using h.2)]
  have:(((x+s/64%2)%2+s/64%2)%2)=x:=by omega
  rw[this]
end Go.Pw
end
section
open Go Go.Pw
namespace Go.Pw
def JD (b:Nat) (s:Int):List Int:=(List.range (4/b)).map fun j=>s/2^((4/b-1-j)*b)%2^b
def GM (b:Nat) (l:List Int):Int:=l.foldl (fun a w=>a*2^b+w) 0
theorem Ho (b:Nat) (s:Int):(JD b s).length=4/b:=by simp[JD]
theorem T7 {b:Nat}(s w:Int) (h:w∈JD b s):0<=w/\w<=2^b-1:=by
 simp only[JD,List.mem_map] at h
 obtain⟨j,_,rfl⟩:=h
 have h1:(0:Int)<2^b:=Int.pow_pos (by omega)
 have h2:=Int.emod_nonneg (s/2^((4/b-1-j)*b)) (show (2:Int)^b≠0 by omega)
 have h3:=Int.emod_lt_of_pos (s/2^((4/b-1-j)*b)) h1
 omega
theorem fE {b:Nat}(hb:b=1\/b=2) {s:Int}(h:0<=s/\s<=15):GM b (JD b s)=s:=by
 obtain⟨s,rfl⟩:∃n:Nat,s=(n:Int):=⟨s.toNat,by omega⟩
 rcases hb with rfl|rfl
 ·show (((0*2+(s:Int)/8%2)*2+(s:Int)/4%2)*2+(s:Int)/2%2)*2+(s:Int)/1%2=s
  omega
 ·show ((0*4+(s:Int)/4%4)*4+(s:Int)/1%4)=s
  omega
theorem bN {b:Nat}(hb:b=1\/b=2) {l:List Int}(hl:l.length=4/b) (h:∀w,w∈l->0<=w/\w<=2^b-1):0<=GM b l/\GM b l<=15:=by
 rcases hb with rfl|rfl
 ·match l,hl with
  |[x,y,z,w],_ =>
   have h1:=h x (by simp);have h2:=h y (by simp);have h3:=h z (by simp);have h4:=h w (by simp)
   simp only[GM,List.foldl]
   omega
 ·match l,hl with
  |[x,y],_ =>
   have h1:=h x (by simp);have h2:=h y (by simp)
   simp only[GM,List.foldl]
   omega
theorem Yw (b:Nat) (l:List Int) (w:Int):GM b (l++[w])=GM b l*2^b+w:=by simp[GM]
def nD (n:Nat) (sy:Int) (out:List Int) (f:Int):List Int:=if 0<=f/\f/n=sy then out.set (f%n).toNat (1-out[(f%n).toNat]?.getD 0) else out
def oI (n:Nat) (sy:Int) (bits flips:List Int):List Int:=flips.foldl (nD n sy) bits
end Go.Pw
end
section
open Go Go.Pw
namespace Go.Pw
structure AX where
 code:AQ
 L:Int
 P:Int
 Q:Int
 nm:Bool
 mark:List Int
 seed:Int
 errs:Int
def Vo (c:AX):List D:=[.int .i64 c.code.bits,.int .i64 c.code.out,.int .i64 c.code.least,.int .i64 c.code.most,.list c.code.nw (GN c.code.words),.list c.code.nn (GN c.code.next),.int .i64 c.L,.int .i64 c.P,.int .i64 c.Q,.list c.nm (Al c.mark),.int .i64 c.seed,.int .i64 c.errs]
def FG (c:AX):D:=.agg (Vo c)
theorem AH (c:AX):Vo c=[.int .i64 c.code.bits,.int .i64 c.code.out,.int .i64 c.code.least,.int .i64 c.code.most,.list c.code.nw (GN c.code.words),.list c.code.nn (GN c.code.next),.int .i64 c.L,.int .i64 c.P,.int .i64 c.Q,.list c.nm (Al c.mark),.int .i64 c.seed,.int .i64 c.errs]:=rfl
theorem AI (c:AX):FG c=.agg (Vo c):=rfl
def AQ.stm (c:AQ) (s:Nat):List Int:=(c.stream 0 (JD c.bits.toNat s)).1
def AQ.sz (c:AQ):Nat:=4/c.bits.toNat * c.out.toNat
theorem LU (c:AQ) (s:Nat):(c.stm s).length=c.sz:=by unfold AQ.stm AQ.sz;rw[P5,Ho]
theorem Ny {c:AQ}(h:c.ok=true):c.bits.toNat=1\/c.bits.toNat=2:=by have:=AQ.ok_head h;omega
theorem E3 {c:AQ}(h:c.ok=true):2<=c.sz/\c.sz<=20:=by
 have h1:=AQ.ok_head h
 unfold AQ.sz
 have h2:1<=c.out.toNat/\c.out.toNat<=5:=by omega
 rcases Ny h with h3|h3<;>rw[h3]<;>simp<;>omega
theorem Sl {c:AQ}(h:c.ok=true) (s:Nat):c.stm s≠[]:=fun e=>by
 have:=LU c s
 rw[e] at this
 have:=E3 h
 simp at *;omega
theorem SV:∀(n:Nat) (w:Int),Ab (Cr n w)=true
 |0,_=>rfl
 |n+1,w=>by
  show (Cq (w/2^n%2) 0 1 && Ab (Cr n w))=true
  rw[SV n w,Bool.and_true]
  simp only[Cq,decide_eq_true_eq];omega
theorem El {a b:List Int}(ha:Ab a=true) (hb:Ab b=true):Ab (a++b)=true:=by
 simp only[Ab,List.all_eq_true,List.mem_append] at *
 exact fun x hx=>hx.elim (ha x) (hb x)
theorem Ox (c:AQ):∀(l:List Int) (s:Int),Ab (c.stream s l).1=true
 |[],_=>rfl
 |w::l,s=>El (SV ..) (Ox c l _)
theorem UK (c:AQ) (s:Nat):Ab (c.stm s)=true:=Ox ..
theorem Px {c:AQ}(h:c.ok=true) (s:Int):∀w,w∈JD c.bits.toNat s->c.isWord w=true:=fun w hw=>by
 have h1:=T7 s w hw
 simp only[AQ.isWord,Cq,decide_eq_true_eq];exact h1
theorem Pu {c:AQ}(h:c.ok=true):c.isState 0=true:=by
 have:=AQ.ok_head h
 simp only[AQ.isState,Cq,decide_eq_true_eq];omega
theorem WE {c:AQ}(h:c.ok=true) (s:Int):c.isData (JD c.bits.toNat s)=true:=by
 simp only[AQ.isData,Bool.and_eq_true,decide_eq_true_eq,List.all_eq_true]
 refine⟨?_,Px h s⟩
 rw[Ho]
 rcases Ny h with h1|h1<;>rw[h1]<;>omega
theorem YX {c:AQ}(h:c.ok=true) (s:Nat):c.encode 0 (JD c.bits.toNat s)=(c.stm s,(c.stream 0 (JD c.bits.toNat s)).2,0):=by
 unfold AQ.encode AQ.stm
 simp[h,Pu h,WE h]
def Ky (c:AQ) (m:Nat):Bool:=(List.range m).all fun a=>(List.range a).all fun b=>decide (c.stm b≠c.stm a)
theorem TZ {c:AQ}{m:Nat}:Ky c m=true↔∀a b,a<m->b<a->c.stm b≠c.stm a:=by
 simp only[Ky,List.all_eq_true,List.mem_range,decide_eq_true_eq]
 exact⟨fun h a b ha hb=>h a ha b hb,fun h a ha b hb=>h a b ha hb⟩
theorem ic {c:AQ}{m a b:Nat}(h:Ky c m=true) (ha:a<m) (hb:b<m) (e:c.stm a=c.stm b):a=b:=by
 rw[TZ] at h
 rcases Nat.lt_trichotomy a b with h1|h1|h1
 ·exact absurd e (h b a hb h1)
 ·exact h1
 ·exact absurd e.symm (h a b ha h1)
def Sk (c:AQ) (p:List Int):Option Nat:=(List.range 16).find? fun s=>decide (c.stm s=p)
theorem Rn {c:AQ}{p:List Int}{s:Nat}(h:Sk c p=some s):s<16/\c.stm s=p:=by
 have h1:=List.mem_of_find?_eq_some h
 have h2:=List.find?_some h
 exact⟨by simpa using h1,by simpa using h2⟩
theorem UJ {c:AQ}(h:Ky c 16=true) {s:Nat}(hs:s<16):Sk c (c.stm s)=some s:=by
 cases he:Sk c (c.stm s) with
 |none =>
  unfold Sk at he
  rw[List.find?_eq_none] at he
  exact absurd (by simp) (he s (by simpa using hs))
 |some t =>
  obtain⟨h1,h2⟩:=Rn he
  rw[ic h h1 hs h2]
def l8 (s:Int):Int:=H4 (H4 (H4 (H4 s)))
def jR (s x:Int):Int:=GM 1 (B8 s (JD 1 x))
def CQ:Int->List Int->List Int
 |_,[]=>[]
 |s,x::l=>jR s x::CQ (l8 s) l
def mu (s:Int):Nat->Int
 |0=>s
 |n+1=>mu (l8 s) n
theorem Ce:∀(l:List Int) (s:Int),(CQ s l).length=l.length
 |[],_=>rfl
 |x::l,s=>by simp[CQ,Ce l]
theorem QD:∀(l:List Int) (s:Int) (i:Nat),i<l.length->(CQ s l)[i]?.getD 0=jR (mu s i) (l[i]?.getD 0)
 |[],_,_,h=>by cases h
 |x::l,s,0,_=>rfl
 |x::l,s,i+1,h=>by
  have:=QD l (l8 s) i (by simpa using h)
  simpa[CQ,mu] using this
theorem Rj (x:Int):Ab (JD 1 x)=true:=by
 simp only[Ab,List.all_eq_true,Cq,decide_eq_true_eq]
 intro n hn
 have:=T7 x n hn
 omega
theorem je {l:List Int}(hl:l.length=4) (hb:Ab l=true):JD 1 (GM 1 l)=l:=by
 match l,hl with
 |[a,b,c,d],_ =>
  have h:∀x,x∈[a,b,c,d]->0<=x/\x<=1:=fun x hx=>by
   simp only[Ab,List.all_eq_true] at hb
   have:=hb x hx
   simpa[Cq] using this
  have h1:=h a (by simp);have h2:=h b (by simp);have h3:=h c (by simp);have h4:=h d (by simp)
  have e1:((((0*2+a)*2+b)*2+c)*2+d)/8%2=a:=by omega
  have e2:((((0*2+a)*2+b)*2+c)*2+d)/4%2=b:=by omega
  have e3:((((0*2+a)*2+b)*2+c)*2+d)/2%2=c:=by omega
  have e4:((((0*2+a)*2+b)*2+c)*2+d)/1%2=d:=by omega
  show [((((0*2+a)*2+b)*2+c)*2+d)/8%2,((((0*2+a)*2+b)*2+c)*2+d)/4%2,((((0*2+a)*2+b)*2+c)*2+d)/2%2,((((0*2+a)*2+b)*2+c)*2+d)/1%2]=[a,b,c,d]
  rw[e1,e2,e3,e4]
theorem fx (s x:Int):0<=jR s x/\jR s x<=15:=by
 have h1:=Hr s (JD 1 x)
 have h2:=EF s (JD 1 x)
 refine bN (b:=1) (.inl rfl) (by rw[h2,Ho]) fun w hw=>?_
 simp only[Ab,List.all_eq_true] at h1
 have:=h1 w hw
 simp[Cq] at this
 omega
theorem fw (s:Int) {x:Int}(h:0<=x/\x<=15):jR s (jR s x)=x:=by
 have h2:=EF s (JD 1 x)
 unfold jR
 rw[je (by rw[h2,Ho]) (Hr ..),S7 _ _ (Rj x)]
 exact fE (.inl rfl) h
theorem HB:∀(l:List Int) (s:Int) (x:Int),x∈CQ s l->0<=x/\x<=15
 |[],_,_,h=>by cases h
 |y::l,s,x,h=>by
  rcases List.mem_cons.1 h with rfl|h
  ·exact fx ..
  ·exact HB l _ x h
def EZ (l:List Int):List Int:=l.flatMap (JD 1)
def UI:List Int->List Int
 |a::b::c::d::l=>GM 1 [a,b,c,d]::UI l
 |_=>[]
theorem Kl (l:List Int):(EZ l).length=4*l.length:=by
 induction l with
 |nil=>rfl
 |cons x l ih=>simp only[EZ,List.flatMap_cons,List.length_append,Ho] at *;simp only[List.length_cons];omega
theorem SB (l:List Int):Ab (EZ l)=true:=by
 induction l with
 |nil=>rfl
 |cons x l ih=>exact El (Rj x) ih
theorem QC:∀(a b:List Int) (s:Int),B8 s (a++b)=B8 s a++B8 (a.foldl (fun t _=>H4 t) s) b
 |[],_,_=>rfl
 |x::a,b,s=>by show _::B8 (H4 s) (a++b)=_;rw[QC a b];rfl
theorem Rk:∀(l:List Int) (s:Int),UI (B8 s (EZ l))=CQ s l
 |[],_=>rfl
 |x::l,s=>by
  show UI (B8 s (JD 1 x++EZ l))=jR s x::CQ (l8 s) l
  rw[QC,←Rk l (l8 s)]
  rfl
def AX.syms (c:AX):Nat:=(c.Q*c.L).toNat
def AX.tot (c:AX):Nat:=c.mark.length+c.syms*c.code.sz
def AX.fnd (c:AX) (bits:List Int):Nat->Nat->Option Nat
 |0,_=>none
 |n+1,at_=>if at_+c.tot<=bits.length then (if Bv c.mark (bits.drop at_)<=c.errs then some at_ else c.fnd bits n (at_+1)) else none
def AX.find (c:AX) (bits:List Int):Option Nat:=c.fnd bits (bits.length+1) 0
theorem VM {c:AX}{bits:List Int}:∀{n a r:Nat},c.fnd bits n a=some r->a<=r/\r+c.tot<=bits.length/\Bv c.mark (bits.drop r)<=c.errs/\∀j,a<=j->j<r->c.errs<Bv c.mark (bits.drop j)
 |0,_,_,h=>by cases h
 |n+1,a,r,h=>by
  unfold AX.fnd at h
  split at h
  ·split at h
   ·cases h;exact⟨Nat.le_refl _,by assumption,by assumption,fun j h1 h2=>by omega⟩
   ·obtain⟨h1,h2,h3,h4⟩:=VM h
    refine⟨by omega,h2,h3,fun j h5 h6=>?_⟩
    by_cases e:j=a
    ·subst e;omega
    ·exact h4 j (by omega) h6
  ·cases h
theorem d4 {c:AX}{bits:List Int}{r:Nat}(hr:r+c.tot<=bits.length) (hd:Bv c.mark (bits.drop r)<=c.errs) :
  ∀{n a:Nat},a<=r->r<a+n->(∀j,a<=j->j<r->c.errs<Bv c.mark (bits.drop j))->c.fnd bits n a=some r
 |0,a,h1,h2,_=>by omega
 |n+1,a,h1,h2,h3=>by
  unfold AX.fnd
  rw[if_pos (by omega)]
  by_cases e:a=r
  ·subst e;rw[if_pos hd]
  ·rw[if_neg (by have:=h3 a (Nat.le_refl _) (by omega);omega)]
   exact d4 hr hd (by omega) (by omega) fun j h4 h5=>h3 j (by omega) h5
theorem Iy {c:AX}{bits:List Int}{r:Nat}:c.find bits=some r↔r+c.tot<=bits.length/\Bv c.mark (bits.drop r)<=c.errs/\∀j,j<r->c.errs<Bv c.mark (bits.drop j):=by
 constructor
 ·intro h
  obtain⟨_,h1,h2,h3⟩:=VM h
  exact⟨h1,h2,fun j hj=>h3 j (Nat.zero_le _) hj⟩
 ·rintro⟨h1,h2,h3⟩
  exact d4 h1 h2 (Nat.zero_le _) (by omega) fun j _ hj=>h3 j hj
def AX.part (c:AX) (bits:List Int) (at_ i:Nat):List Int:=(bits.drop (at_+c.mark.length+i*c.code.sz)).take c.code.sz
def AX.syL (c:AX) (bits:List Int) (at_:Nat):List (Option Nat):=(List.range c.syms).map fun i=>Sk c.code (c.part bits at_ i)
theorem LT (c:AX) (bits:List Int) (at_:Nat):(c.syL bits at_).length=c.syms:=by simp[AX.syL]
def Mo (l:List (Option Nat)):List Int:=l.map fun x=>((x.getD 0:Nat):Int)
def Zf (l:List (Option Nat)):List Nat:=(List.range l.length).filter fun i=>(l[i]?.getD none).isNone
end Go.Pw
end
