/- A part of the proof. -/
import Derived.Test.YtibkjeolahobbaaGreatDoorPgChcD
import Derived.Test.YtibkjeolahobbaaGreatDoorPwLaw
import Derived.Test.YtibkjeolahobbaaGreatDoorPwInt
set_option linter.all false
section
open Go Go.Pw Go.Proofs
namespace Go.Pw
set_option maxRecDepth 100000
set_option maxHeartbeats 1600000
attribute [local congr] Bl A_ A' Ar Bm Ay A0 Az Aq Ak Ae Aa Av Af Aw BL BP BN BO BM BQ BF Ai Ax Aj BD BX Ah BJ BK BE BG BI BH BB BC A9 Bn BA Au Ag
attribute [local irreducible] IntKind.wrap A4 Option.getD and or
theorem Qq (c:AR):∀(l:List Int) (s:Int),(c.stream s l).1.length=l.length*c.out.toNat
 |[],s=>by simp[AR.stream]
 |w::l,s=>by
  simp only[AR.stream,List.length_append,Io,Qq c l,List.length_cons,Nat.succ_mul]
  omega
theorem EO {k:IntKind}{cs:List D}(h:C5 (.int k) cs):∃n,cs=[.int k n]:=by cases h with|int _ n _=>exact⟨n,rfl⟩
theorem HL {cs:List D}(h:C5 (.list (.int .i64)) cs):∃nl l,cs=[.list nl (Am l)]:=by
 cases h with|list _ nl xs h0 h1 h2 =>
 have:∃l,xs=Am l:=by
  clear h0
  induction xs with
  |nil=>exact⟨[],rfl⟩
  |cons x xs ih =>
   obtain⟨l,rfl⟩:=ih (fun y hy=>h1 y (by simp[hy])) fun y hy=>h2 y (by simp[hy])
   obtain⟨n,hn⟩:=EO (h1 x (by simp))
   have:=h2 x (by simp)
   rw[hn] at this
   exact⟨n::l,by rw[this];rfl⟩
 obtain⟨l,rfl⟩:=this
 exact⟨nl,l,rfl⟩
theorem Ql {cs:List D}(h:C5 (.list (.list (.int .i64))) cs):∃nl l,cs=[.list nl (C7 l)]:=by
 cases h with|list _ nl xs h0 h1 h2 =>
 have:∃l,xs=C7 l:=by
  clear h0
  induction xs with
  |nil=>exact⟨[],rfl⟩
  |cons x xs ih =>
   obtain⟨l,rfl⟩:=ih (fun y hy=>h1 y (by simp[hy])) fun y hy=>h2 y (by simp[hy])
   obtain⟨b,n,hn⟩:=HL (h1 x (by simp))
   have:=h2 x (by simp)
   rw[hn] at this
   exact⟨(b,n)::l,by rw[this];rfl⟩
 obtain⟨l,rfl⟩:=this
 exact⟨nl,l,rfl⟩
theorem B2 {T:Ty}{Ts:List Ty}{cs:List D}(h:C5 (.str (T::Ts)) cs):∃a b,cs=a++b/\C5 T a/\C5 (.str Ts) b:=by
 cases h with|cons _ _ a b h1 h2=>exact⟨a,b,rfl,h1,h2⟩
theorem Iu {cs:List D}(h:C5 (.str []) cs):cs=[]:=by cases h;rfl
def mI:Ty:=.str [.int .i64,.int .i64,.int .i64,.int .i64,.list (.list (.int .i64)),.list (.list (.int .i64))]
def qJ:Ty:=.str [.int .i64,.list (.int .i64),.list (.int .i64)]
end Go.Pw
end
section
open Go Go.Pw Go.Proofs
namespace Go.Pw
set_option maxRecDepth 100000
set_option maxHeartbeats 800000
attribute [local congr] Bl A_ A' Ar Bm Ay A0 Az Aq Ak Ae Aa Av Af Aw BL BP BN BO BM BQ BF Ai Ax Aj BD BX Ah BJ BK BE BG BI BH BB BC A9 Bn BA Au Ag
attribute [local irreducible] IntKind.wrap A4 Option.getD and or
def IE (s:Int):Int:=(2*s+(s/64%2+s/32%2)%2)%128
def Ce:Int->List Int->List Int
 |_,[]=>[]
 |s,x::l=>((x+s/64%2)%2)::Ce (IE s) l
def FN (s:Int) (l:List Int):Bool:=Cw s 1 127 && decide (l.length<=128) && Ao l
def Kt (s:Int) (l:List Int):List Int×Int:=if FN s l then (Ce s l,0) else ([],1)
theorem Vd {s:Int}{l:List Int}(h:FN s l=true):Kt s l=(Ce s l,0):=by simp[Kt,h]
theorem S2 {s:Int}{l:List Int}(h:FN s l=false):Kt s l=([],1):=by simp[Kt,h]
theorem GR (s:Int) (l:List Int):(Ce s l).length=l.length:=by
 induction l generalizing s with
 |nil=>rfl
 |cons x l ih=>simp[Ce,ih]
theorem Xk {s:Int}{l:List Int}(h:¬l.length<=128):FN s l=false:=by simp[FN,h]
theorem Vw (s:Int):0<=IE s/\IE s<=127:=by simp only[IE];omega
theorem dp:∀s:Fin 128,A4 .or .i64 (A4 .and .i64 (IntKind.i64.wrap ((s.val:Int)*2^min 1 64)) 127) (A4 .xor .i64 ((s.val:Int).fdiv (2^min 6 64)%2) ((s.val:Int).fdiv (2^min 5 64)%2))=IE s.val:=by decide +kernel
theorem aV {s:Int}(h:0<=s/\s<=127):A4 .or .i64 (A4 .and .i64 (IntKind.i64.wrap (s*2^min 1 64)) 127) (A4 .xor .i64 (s.fdiv (2^min 6 64)%2) (s.fdiv (2^min 5 64)%2))=IE s:=by
 have:=dp ⟨s.toNat,by omega⟩
 simp only[Int.toNat_of_nonneg h.1] at this
 exact this
theorem pT {s:Int}:s.fdiv (2^min 6 64)=s/64:=by
 rw[Xd];rfl
theorem jB {x s:Int}(hx:x=0\/x=1):A4 .xor .i64 x (s.fdiv (2^min 6 64)%2)=(x+s/64%2)%2:=by
 rw[pT,Tb hx (by omega)]
 split<;>omega
theorem Nf (nl:Bool) (xs:List Int):CE E0 KJ [.list nl (Am xs)] (.bool (Ao xs)):=by
 refine AP N4 Ap (by simp) fun hwf=>?_
 simp only[Du,DA,C_,Cy,EB,EA,Fk,D_,Bi,Bu,Bv,DC,CA,List.length_map,B7,true_and,and_true] at hwf
 rw[AW];unfold I1
 simp -implicitDefEqProofs only[go_sem]
 refine AY (α:=Int) (l0:=?l1) (m0:=?m1) (fun x=>[(3,.d (.int .i64 x))]) (fun x=>[]) (fun x=>0<=x/\x<=xs.length/\Ao (xs.drop x.toNat)=Ao xs) (fun x=>(xs.length-x).toNat) ?a1_0 ?h01 ?he1 ?he21 ?hI1 ?step1
 case h01=>(simp -implicitDefEqProofs only[go_sem];rfl)
 case he1=>rfl
 case he21=>rfl
 case' step1=>(rintro i hI;try dsimp only at hI)
 case' hI1=>try dsimp only
 ·simp
 ·by_cases hi:i<xs.length
  ·have hd:Ao (xs.drop i.toNat)=(Cw (xs[i.toNat]?.getD 0) 0 1 && Ao (xs.drop (i+1).toNat)):=by
    rw[Fv (xs:=xs) (i:=i.toNat) (by omega),show (i+1).toNat=i.toNat+1 by omega];rfl
   (try (simp -implicitDefEqProofs only[go_sem]));repeat' first|(with_reducible first|exact tI|refine aI ?_ ?_|intro _)|((first|with_reducible refine AO ?_ ?_<;>intro _|(with_reducible refine isCall ?_);first|refine AE (DI _ _ _) ?_)<;>try (simp -implicitDefEqProofs only[go_sem]))|simp (disch:=omega) only[Al]|((with_reducible refine A1 ?_);refine⟨_,rfl,?_,?_⟩)
   all_goals (first|omega|skip)
   all_goals simp_all
  ·(try (simp -implicitDefEqProofs only[go_sem]));repeat' first|(with_reducible first|exact tI|refine aI ?_ ?_|intro _)|((first|with_reducible refine AO ?_ ?_<;>intro _)<;>try (simp -implicitDefEqProofs only[go_sem]))|simp (disch:=omega) only[Al]|((with_reducible refine A1 ?_);refine⟨_,rfl,?_,?_⟩)
   all_goals first|omega|(simp;done)|(simp;omega)|skip
   have h0:xs.drop i.toNat=[]:=List.drop_eq_nil_of_le (by omega)
   rw[h0] at hI
   rw[←hI.2.2];rfl
theorem Hh (s:Int) (nl:Bool) (l:List Int):CE E0 JY [.int .i64 s,.list nl (Am l)]
  (.tup [.list (Kt s l).1.isEmpty (Am (Kt s l).1),.int .i64 (Kt s l).2]):=by
 refine AP M3 Ap (by simp) fun hwf=>?_
 simp only[Du,DA,C_,Cy,EB,EA,Fk,D_,Bi,Bu,Bv,DC,CA,List.length_map,B7,true_and,and_true] at hwf
 rw[AW];unfold H_
 (try (simp -implicitDefEqProofs only[go_sem]));repeat' first|(with_reducible first|exact tI|refine aI ?_ ?_|intro _)|((first|with_reducible refine AO ?_ ?_<;>intro _|(with_reducible refine isCall ?_);first|refine AE (Im _ _) ?_|refine AE (Cm _ _ _) ?_)<;>try (simp -implicitDefEqProofs only[go_sem]))|simp (disch:=omega) only[Al]|((with_reducible refine Cc ?_);refine⟨(_,_,_,_),rfl,?_,?_⟩)
 all_goals first
  |(
    have hx:FN s l=false:=by(simp_all[FN];done)
    rw[S2 hx];rfl)
  |(
    have h9:¬l.length<=128:=by omega
    rw[S2 (Xk h9)];rfl)
  |skip
 have hb:Ao l=true:=by assumption
 have h128:l.length<=128:=by omega
 have hr:Cw s 1 127=true:=by assumption
 have hg:FN s l=true:=by simp[FN,hb,h128,hr]
 have hs:1<=s/\s<=127:=by simp[FN,Cw] at hg;omega
 rw[Vd hg]
 refine AY (α:=Int×Int×Bool×(List Int)) (l0:=?l2) (m0:=?m2) (fun x=>[(25,.d (.int .i64 x.1)),(0,.d (.int .i64 x.2.1))]) (fun x=>[(37,.row TW 1 x.2.2.1 (Am x.2.2.2))]) (fun x=>0<=x.1/\x.1<=l.length/\0<=x.2.1/\x.2.1<=127/\x.2.2.2.length=x.1.toNat/\x.2.2.1=x.2.2.2.isEmpty/\x.2.2.2++Ce x.2.1 (l.drop x.1.toNat)=Ce s l) (fun x=>(l.length-x.1).toNat) (?a2_0,?a2_1,?a2_2,[]) ?h02 ?he2 ?he22 ?hI2 ?step2
 case h02=>(simp -implicitDefEqProofs only[go_sem];rfl)
 case he2=>rfl
 case he22=>rfl
 case' step2=>(rintro⟨i,t,nl',acc⟩ hI;try dsimp only at hI)
 case' hI2=>try dsimp only
 ·simp;omega
 ·by_cases hi:i<l.length
  ·have hbit:=Et hb (i:=i.toNat) (by omega)
   have hstep:Ce t (l.drop i.toNat)=((l[i.toNat]?.getD 0+t/64%2)%2)::Ce (IE t) (l.drop (i+1).toNat):=by
     rw[Fv (xs:=l) (i:=i.toNat) (by omega),Ce,show (i+1).toNat=i.toNat+1 by omega]
   have hx:=jB (s:=t) hbit
   have hnx:=aV (s:=t) (by omega)
   have hnb:=Vw t
   (try (simp -implicitDefEqProofs only[go_sem]));repeat' first|(with_reducible first|exact tI|refine aI ?_ ?_|intro _)|((first|with_reducible refine AO ?_ ?_<;>intro _)<;>try (simp -implicitDefEqProofs only[go_sem]))|simp (disch:=omega) only[Al]|((with_reducible refine Cc ?_);refine⟨(_,_,_,_),rfl,?_,?_⟩)
   all_goals (try simp only[hx,hnx])
   all_goals first|omega|(simp;done)|(simp;omega)|skip
   rw[←hI.2.2.2.2.2.2,hstep];simp
  ·(try (simp -implicitDefEqProofs only[go_sem]));repeat' first|(with_reducible first|exact tI|refine aI ?_ ?_|intro _)|((first|with_reducible refine AO ?_ ?_<;>intro _)<;>try (simp -implicitDefEqProofs only[go_sem]))|simp (disch:=omega) only[Al]|((with_reducible refine Cc ?_);refine⟨(_,_,_,_),rfl,?_,?_⟩)
   all_goals first|omega|(simp;done)|(simp;omega)|skip
   have h0:l.drop i.toNat=[]:=List.drop_eq_nil_of_le (by omega)
   have h1:=hI.2.2.2.2.2.2
   rw[h0,Ce,List.append_nil] at h1
   rw[←h1,hI.2.2.2.2.2.1]
theorem Ks (s:Int) (l:List Int):Ao (Ce s l)=true:=by
 induction l generalizing s with
 |nil=>rfl
 |cons x l ih =>
  have h1:=ih (IE s)
  have e:Cw ((x+s/64%2)%2) 0 1=true:=by simp only[Cw,decide_eq_true_eq];omega
  simp only[Ao] at h1
  simp only[Ce,Ao,List.all_cons,h1,e,Bool.and_true]
theorem T4 (s:Int) (l:List Int) (h:Ao l=true):Ce s (Ce s l)=l:=by
 induction l generalizing s with
 |nil=>rfl
 |cons x l ih =>
  simp only[Ao,List.all_cons,Bool.and_eq_true,Cw,decide_eq_true_eq] at h
  have h1:=h.1
  rw[Ce,Ce,ih _ (by simpa[Ao,Cw] using h.2)]
  have:(((x+s/64%2)%2+s/64%2)%2)=x:=by omega
  rw[this]
end Go.Pw
end
section
open Go Go.Pw
namespace Go.Pw
def Kh (b:Nat) (s:Int):List Int:=(List.range (4/b)).map fun j=>s/2^((4/b-1-j)*b)%2^b
def G_ (b:Nat) (l:List Int):Int:=l.foldl (fun a w=>a*2^b+w) 0
theorem H1 (b:Nat) (s:Int):(Kh b s).length=4/b:=by simp[Kh]
theorem U4 {b:Nat}(s w:Int) (h:w∈Kh b s):0<=w/\w<=2^b-1:=by
 simp only[Kh,List.mem_map] at h
 obtain⟨j,_,rfl⟩:=h
 have h1:(0:Int)<2^b:=Int.pow_pos (by omega)
 have h2:=Int.emod_nonneg (s/2^((4/b-1-j)*b)) (show (2:Int)^b≠0 by omega)
 have h3:=Int.emod_lt_of_pos (s/2^((4/b-1-j)*b)) h1
 omega
theorem iP {b:Nat}(hb:b=1\/b=2) {s:Int}(h:0<=s/\s<=15):G_ b (Kh b s)=s:=by
 obtain⟨s,rfl⟩:∃n:Nat,s=(n:Int):=⟨s.toNat,by omega⟩
 rcases hb with rfl|rfl
 ·show (((0*2+(s:Int)/8%2)*2+(s:Int)/4%2)*2+(s:Int)/2%2)*2+(s:Int)/1%2=s
  omega
 ·show ((0*4+(s:Int)/4%4)*4+(s:Int)/1%4)=s
  omega
theorem dN {b:Nat}(hb:b=1\/b=2) {l:List Int}(hl:l.length=4/b) (h:∀w,w∈l->0<=w/\w<=2^b-1):0<=G_ b l/\G_ b l<=15:=by
 rcases hb with rfl|rfl
 ·match l,hl with
  |[x,y,z,w],_ =>
   have h1:=h x (by simp);have h2:=h y (by simp);have h3:=h z (by simp);have h4:=h w (by simp)
   simp only[G_,List.foldl]
   omega
 ·match l,hl with
  |[x,y],_ =>
   have h1:=h x (by simp);have h2:=h y (by simp)
   simp only[G_,List.foldl]
   omega
theorem Z7 (b:Nat) (l:List Int) (w:Int):G_ b (l++[w])=G_ b l*2^b+w:=by simp[G_]
def qB (n:Nat) (sy:Int) (out:List Int) (f:Int):List Int:=if 0<=f/\f/n=sy then out.set (f%n).toNat (1-out[(f%n).toNat]?.getD 0) else out
def qk (n:Nat) (sy:Int) (bits flips:List Int):List Int:=flips.foldl (qB n sy) bits
end Go.Pw
end
section
open Go Go.Pw
namespace Go.Pw
structure AX where
 code:AR
 L:Int
 P:Int
 Q:Int
 nm:Bool
 mark:List Int
 seed:Int
 errs:Int
def Ws (c:AX):List D:=[.int .i64 c.code.bits,.int .i64 c.code.out,.int .i64 c.code.least,.int .i64 c.code.most,.list c.code.nw (C7 c.code.words),.list c.code.nn (C7 c.code.next),.int .i64 c.L,.int .i64 c.P,.int .i64 c.Q,.list c.nm (Am c.mark),.int .i64 c.seed,.int .i64 c.errs]
def Dg (c:AX):D:=.agg (Ws c)
theorem AF (c:AX):Ws c=[.int .i64 c.code.bits,.int .i64 c.code.out,.int .i64 c.code.least,.int .i64 c.code.most,.list c.code.nw (C7 c.code.words),.list c.code.nn (C7 c.code.next),.int .i64 c.L,.int .i64 c.P,.int .i64 c.Q,.list c.nm (Am c.mark),.int .i64 c.seed,.int .i64 c.errs]:=rfl
theorem AG (c:AX):Dg c=.agg (Ws c):=rfl
def AR.stm (c:AR) (s:Nat):List Int:=(c.stream 0 (Kh c.bits.toNat s)).1
def AR.sz (c:AR):Nat:=4/c.bits.toNat * c.out.toNat
theorem Eb (c:AR) (s:Nat):(c.stm s).length=c.sz:=by unfold AR.stm AR.sz;rw[Qq,H1]
theorem Qe {c:AR}(h:c.ok=true):c.bits.toNat=1\/c.bits.toNat=2:=by have:=AR.ok_head h;omega
theorem EC {c:AR}(h:c.ok=true):2<=c.sz/\c.sz<=20:=by
 have h1:=AR.ok_head h
 unfold AR.sz
 have h2:1<=c.out.toNat/\c.out.toNat<=5:=by omega
 rcases Qe h with h3|h3<;>rw[h3]<;>simp<;>omega
theorem XU {c:AR}(h:c.ok=true) (s:Nat):c.stm s≠[]:=fun e=>by
 have:=Eb c s
 rw[e] at this
 have:=EC h
 simp at *;omega
theorem TS:∀(n:Nat) (w:Int),Ao (Cu n w)=true
 |0,_=>rfl
 |n+1,w=>by
  show (Cw (w/2^n%2) 0 1 && Ao (Cu n w))=true
  rw[TS n w,Bool.and_true]
  simp only[Cw,decide_eq_true_eq];omega
theorem IP {a b:List Int}(ha:Ao a=true) (hb:Ao b=true):Ao (a++b)=true:=by
 simp only[Ao,List.all_eq_true,List.mem_append] at *
 exact fun x hx=>hx.elim (ha x) (hb x)
theorem Pb (c:AR):∀(l:List Int) (s:Int),Ao (c.stream s l).1=true
 |[],_=>rfl
 |w::l,s=>IP (TS ..) (Pb c l _)
theorem NR (c:AR) (s:Nat):Ao (c.stm s)=true:=Pb ..
theorem Qi {c:AR}(h:c.ok=true) (s:Int):∀w,w∈Kh c.bits.toNat s->c.isWord w=true:=fun w hw=>by
 have h1:=U4 s w hw
 simp only[AR.isWord,Cw,decide_eq_true_eq];exact h1
theorem Qg {c:AR}(h:c.ok=true):c.isState 0=true:=by
 have:=AR.ok_head h
 simp only[AR.isState,Cw,decide_eq_true_eq];omega
theorem XN {c:AR}(h:c.ok=true) (s:Int):c.isData (Kh c.bits.toNat s)=true:=by
 simp only[AR.isData,Bool.and_eq_true,decide_eq_true_eq,List.all_eq_true]
 refine⟨?_,Qi h s⟩
 rw[H1]
 rcases Qe h with h1|h1<;>rw[h1]<;>omega
theorem kq {c:AR}(h:c.ok=true) (s:Nat):c.encode 0 (Kh c.bits.toNat s)=(c.stm s,(c.stream 0 (Kh c.bits.toNat s)).2,0):=by
 unfold AR.encode AR.stm
 simp[h,Qg h,XN h]
def JF (c:AR) (m:Nat):Bool:=(List.range m).all fun a=>(List.range a).all fun b=>decide (c.stm b≠c.stm a)
theorem QX {c:AR}{m:Nat}:JF c m=true↔∀a b,a<m->b<a->c.stm b≠c.stm a:=by
 simp only[JF,List.all_eq_true,List.mem_range,decide_eq_true_eq]
 exact⟨fun h a b ha hb=>h a ha b hb,fun h a ha b hb=>h a b ha hb⟩
theorem ku {c:AR}{m a b:Nat}(h:JF c m=true) (ha:a<m) (hb:b<m) (e:c.stm a=c.stm b):a=b:=by
 rw[QX] at h
 rcases Nat.lt_trichotomy a b with h1|h1|h1
 ·exact absurd e (h b a hb h1)
 ·exact h1
 ·exact absurd e.symm (h a b ha h1)
def SM (c:AR) (p:List Int):Option Nat:=(List.range 16).find? fun s=>decide (c.stm s=p)
theorem Lp {c:AR}{p:List Int}{s:Nat}(h:SM c p=some s):s<16/\c.stm s=p:=by
 have h1:=List.mem_of_find?_eq_some h
 have h2:=List.find?_some h
 exact⟨by simpa using h1,by simpa using h2⟩
theorem VG {c:AR}(h:JF c 16=true) {s:Nat}(hs:s<16):SM c (c.stm s)=some s:=by
 cases he:SM c (c.stm s) with
 |none =>
  unfold SM at he
  rw[List.find?_eq_none] at he
  exact absurd (by simp) (he s (by simpa using hs))
 |some t =>
  obtain⟨h1,h2⟩:=Lp he
  rw[ku h h1 hs h2]
def o9 (s:Int):Int:=IE (IE (IE (IE s)))
def lw (s x:Int):Int:=G_ 1 (Ce s (Kh 1 x))
def Cx:Int->List Int->List Int
 |_,[]=>[]
 |s,x::l=>lw s x::Cx (o9 s) l
def p4 (s:Int):Nat->Int
 |0=>s
 |n+1=>p4 (o9 s) n
theorem Dv:∀(l:List Int) (s:Int),(Cx s l).length=l.length
 |[],_=>rfl
 |x::l,s=>by simp[Cx,Dv l]
theorem Qy:∀(l:List Int) (s:Int) (i:Nat),i<l.length->(Cx s l)[i]?.getD 0=lw (p4 s i) (l[i]?.getD 0)
 |[],_,_,h=>by cases h
 |x::l,s,0,_=>rfl
 |x::l,s,i+1,h=>by
  have:=Qy l (o9 s) i (by simpa using h)
  simpa[Cx,p4] using this
theorem Sl (x:Int):Ao (Kh 1 x)=true:=by
 simp only[Ao,List.all_eq_true,Cw,decide_eq_true_eq]
 intro n hn
 have:=U4 x n hn
 omega
theorem pZ {l:List Int}(hl:l.length=4) (hb:Ao l=true):Kh 1 (G_ 1 l)=l:=by
 match l,hl with
 |[a,b,c,d],_ =>
  have h:∀x,x∈[a,b,c,d]->0<=x/\x<=1:=fun x hx=>by
   simp only[Ao,List.all_eq_true] at hb
   have:=hb x hx
   simpa[Cw] using this
  have h1:=h a (by simp);have h2:=h b (by simp);have h3:=h c (by simp);have h4:=h d (by simp)
  have e1:((((0*2+a)*2+b)*2+c)*2+d)/8%2=a:=by omega
  have e2:((((0*2+a)*2+b)*2+c)*2+d)/4%2=b:=by omega
  have e3:((((0*2+a)*2+b)*2+c)*2+d)/2%2=c:=by omega
  have e4:((((0*2+a)*2+b)*2+c)*2+d)/1%2=d:=by omega
  show [((((0*2+a)*2+b)*2+c)*2+d)/8%2,((((0*2+a)*2+b)*2+c)*2+d)/4%2,((((0*2+a)*2+b)*2+c)*2+d)/2%2,((((0*2+a)*2+b)*2+c)*2+d)/1%2]=[a,b,c,d]
  rw[e1,e2,e3,e4]
theorem jD (s x:Int):0<=lw s x/\lw s x<=15:=by
 have h1:=Ks s (Kh 1 x)
 have h2:=GR s (Kh 1 x)
 refine dN (b:=1) (.inl rfl) (by rw[h2,H1]) fun w hw=>?_
 simp only[Ao,List.all_eq_true] at h1
 have:=h1 w hw
 simp[Cw] at this
 omega
theorem jC (s:Int) {x:Int}(h:0<=x/\x<=15):lw s (lw s x)=x:=by
 have h2:=GR s (Kh 1 x)
 unfold lw
 rw[pZ (by rw[h2,H1]) (Ks ..),T4 _ _ (Sl x)]
 exact iP (.inl rfl) h
theorem Iw:∀(l:List Int) (s:Int) (x:Int),x∈Cx s l->0<=x/\x<=15
 |[],_,_,h=>by cases h
 |y::l,s,x,h=>by
  rcases List.mem_cons.1 h with rfl|h
  ·exact jD ..
  ·exact Iw l _ x h
def Hw (l:List Int):List Int:=l.flatMap (Kh 1)
def VF:List Int->List Int
 |a::b::c::d::l=>G_ 1 [a,b,c,d]::VF l
 |_=>[]
theorem RF (l:List Int):(Hw l).length=4*l.length:=by
 induction l with
 |nil=>rfl
 |cons x l ih=>simp only[Hw,List.flatMap_cons,List.length_append,H1] at *;simp only[List.length_cons];omega
theorem bA (l:List Int):Ao (Hw l)=true:=by
 induction l with
 |nil=>rfl
 |cons x l ih=>exact IP (Sl x) ih
theorem Qx:∀(a b:List Int) (s:Int),Ce s (a++b)=Ce s a++Ce (a.foldl (fun t _=>IE t) s) b
 |[],_,_=>rfl
 |x::a,b,s=>by show _::Ce (IE s) (a++b)=_;rw[Qx a b];rfl
theorem Sm:∀(l:List Int) (s:Int),VF (Ce s (Hw l))=Cx s l
 |[],_=>rfl
 |x::l,s=>by
  show VF (Ce s (Kh 1 x++Hw l))=lw s x::Cx (o9 s) l
  rw[Qx,←Sm l (o9 s)]
  rfl
def AX.syms (c:AX):Nat:=(c.Q*c.L).toNat
def AX.tot (c:AX):Nat:=c.mark.length+c.syms*c.code.sz
def AX.fnd (c:AX) (bits:List Int):Nat->Nat->Option Nat
 |0,_=>none
 |n+1,at_=>if at_+c.tot<=bits.length then (if B5 c.mark (bits.drop at_)<=c.errs then some at_ else c.fnd bits n (at_+1)) else none
def AX.find (c:AX) (bits:List Int):Option Nat:=c.fnd bits (bits.length+1) 0
theorem WL {c:AX}{bits:List Int}:∀{n a r:Nat},c.fnd bits n a=some r->a<=r/\r+c.tot<=bits.length/\B5 c.mark (bits.drop r)<=c.errs/\∀j,a<=j->j<r->c.errs<B5 c.mark (bits.drop j)
 |0,_,_,h=>by cases h
 |n+1,a,r,h=>by
  unfold AX.fnd at h
  split at h
  ·split at h
   ·cases h;exact⟨Nat.le_refl _,by assumption,by assumption,fun j h1 h2=>by omega⟩
   ·obtain⟨h1,h2,h3,h4⟩:=WL h
    refine⟨by omega,h2,h3,fun j h5 h6=>?_⟩
    by_cases e:j=a
    ·subst e;omega
    ·exact h4 j (by omega) h6
  ·cases h
theorem fy {c:AX}{bits:List Int}{r:Nat}(hr:r+c.tot<=bits.length) (hd:B5 c.mark (bits.drop r)<=c.errs) :
  ∀{n a:Nat},a<=r->r<a+n->(∀j,a<=j->j<r->c.errs<B5 c.mark (bits.drop j))->c.fnd bits n a=some r
 |0,a,h1,h2,_=>by omega
 |n+1,a,h1,h2,h3=>by
  unfold AX.fnd
  rw[if_pos (by omega)]
  by_cases e:a=r
  ·subst e;rw[if_pos hd]
  ·rw[if_neg (by have:=h3 a (Nat.le_refl _) (by omega);omega)]
   exact fy hr hd (by omega) (by omega) fun j h4 h5=>h3 j (by omega) h5
theorem Lu {c:AX}{bits:List Int}{r:Nat}:c.find bits=some r↔r+c.tot<=bits.length/\B5 c.mark (bits.drop r)<=c.errs/\∀j,j<r->c.errs<B5 c.mark (bits.drop j):=by
 constructor
 ·intro h
  obtain⟨_,h1,h2,h3⟩:=WL h
  exact⟨h1,h2,fun j hj=>h3 j (Nat.zero_le _) hj⟩
 ·rintro⟨h1,h2,h3⟩
  exact fy h1 h2 (Nat.zero_le _) (by omega) fun j _ hj=>h3 j hj
def AX.part (c:AX) (bits:List Int) (at_ i:Nat):List Int:=(bits.drop (at_+c.mark.length+i*c.code.sz)).take c.code.sz
def AX.syL (c:AX) (bits:List Int) (at_:Nat):List (Option Nat):=(List.range c.syms).map fun i=>SM c.code (c.part bits at_ i)
theorem Jf (c:AX) (bits:List Int) (at_:Nat):(c.syL bits at_).length=c.syms:=by simp[AX.syL]
def NL (l:List (Option Nat)):List Int:=l.map fun x=>((x.getD 0:Nat):Int)
def bC (l:List (Option Nat)):List Nat:=(List.range l.length).filter fun i=>(l[i]?.getD none).isNone
end Go.Pw
end
