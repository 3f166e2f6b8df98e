/- A part of the proof. -/
import Derived.Test.YtibkjeolahobbaaGreatDoorPgChcD
import Derived.Test.YtibkjeolahobbaaGreatDoorPwLaw
import Derived.Test.YtibkjeolahobbaaGreatDoorPwInt
set_option linter.all false
open Go Go.Pw Go.Proofs
namespace Go.Pw
set_option maxRecDepth 100000
set_option maxHeartbeats 1600000
section
attribute [local congr] Bf A9 A_ Aq Bg Ax Az Ay Ap Aj Ad AZ Au Ae Av BK BO BM BN BL BP BE Ah Aw Ai BC BW Ag BI BJ BD BF BH BG BA BB A8 Bj A' Ar Af
attribute [local irreducible] IntKind.wrap A4 Option.getD and or
theorem Qg (c:AU):∀(l:List Int) (s:Int),(c.stream s l).1.length=l.length*c.out.toNat
 |[],s=>by simp[AU.stream]
 |w::l,s=>by
  simp only[AU.stream,List.length_append,Ib,Qg c l,List.length_cons,Nat.succ_mul]
  omega
theorem EM {k:IntKind}{cs:List D}(h:C2 (.int k) cs):∃n,cs=[.int k n]:=by cases h with|int _ n _=>exact⟨n,rfl⟩
theorem MZ {cs:List D}(h:C2 (.list (.int .i64)) cs):∃nl l,cs=[.list nl (Am l)]:=by
 cases h with|list _ nl xs h0 h1 h2 =>
 have:∃l,xs=Am l:=by
  clear h0
  induction xs with
  |nil=>exact⟨[],rfl⟩
  |cons x xs ih =>
   obtain⟨l,rfl⟩:=ih (fun y hy=>h1 y (by simp[hy])) fun y hy=>h2 y (by simp[hy])
   obtain⟨n,hn⟩:=EM (h1 x (by simp))
   have:=h2 x (by simp)
   rw[hn] at this
   exact⟨n::l,by rw[this];rfl⟩
 obtain⟨l,rfl⟩:=this
 exact⟨nl,l,rfl⟩
theorem MY {cs:List D}(h:C2 (.list (.list (.int .i64))) cs):∃nl l,cs=[.list nl (Cd l)]:=by
 cases h with|list _ nl xs h0 h1 h2 =>
 have:∃l,xs=Cd l:=by
  clear h0
  induction xs with
  |nil=>exact⟨[],rfl⟩
  |cons x xs ih =>
   obtain⟨l,rfl⟩:=ih (fun y hy=>h1 y (by simp[hy])) fun y hy=>h2 y (by simp[hy])
   obtain⟨b,n,hn⟩:=MZ (h1 x (by simp))
   have:=h2 x (by simp)
   rw[hn] at this
   exact⟨(b,n)::l,by rw[this];rfl⟩
 obtain⟨l,rfl⟩:=this
 exact⟨nl,l,rfl⟩
theorem CH {T:Ty}{Ts:List Ty}{cs:List D}(h:C2 (.str (T::Ts)) cs):∃a b,cs=a++b/\C2 T a/\C2 (.str Ts) b:=by
 cases h with|cons _ _ a b h1 h2=>exact⟨a,b,rfl,h1,h2⟩
theorem Le {cs:List D}(h:C2 (.str []) cs):cs=[]:=by cases h;rfl
def lj:Ty:=.str [.int .i64,.int .i64,.int .i64,.int .i64,.list (.list (.int .i64)),.list (.list (.int .i64))]
def p8:Ty:=.str [.int .i64,.list (.int .i64),.list (.int .i64)]
end
section
attribute [local congr] Bf A9 A_ Aq Bg Ax Az Ay Ap Aj Ad AZ Au Ae Av BK BO BM BN BL BP BE Ah Aw Ai BC BW Ag BI BJ BD BF BH BG BA BB A8 Bj A' Ar Af
attribute [local irreducible] IntKind.wrap A4 Option.getD and or
def H_ (s:Int):Int:=(2*s+(s/64%2+s/32%2)%2)%128
def Ca:Int->List Int->List Int
 |_,[]=>[]
 |s,x::l=>((x+s/64%2)%2)::Ca (H_ s) l
def FO (s:Int) (l:List Int):Bool:=Ct s 1 127 && decide (l.length<=128) && A1 l
def Kg (s:Int) (l:List Int):List Int×Int:=if FO s l then (Ca s l,0) else ([],1)
theorem VN {s:Int}{l:List Int}(h:FO s l=true):Kg s l=(Ca s l,0):=by simp[Kg,h]
theorem Sp {s:Int}{l:List Int}(h:FO s l=false):Kg s l=([],1):=by simp[Kg,h]
theorem GQ (s:Int) (l:List Int):(Ca s l).length=l.length:=by
 induction l generalizing s with
 |nil=>rfl
 |cons x l ih=>simp[Ca,ih]
theorem XQ {s:Int}{l:List Int}(h:¬l.length<=128):FO s l=false:=by simp[FO,h]
theorem Ve (s:Int):0<=H_ s/\H_ s<=127:=by simp only[H_];omega
theorem dX:∀s:Fin 128,A4 .or .i64 (A4 .and .i64 (IntKind.i64.wrap ((s.val:Int)*2^min 1 64)) 127) (A4 .xor .i64 ((s.val:Int).fdiv (2^min 6 64)%2) ((s.val:Int).fdiv (2^min 5 64)%2))=H_ s.val:=by decide +kernel
theorem aA {s:Int}(h:0<=s/\s<=127):A4 .or .i64 (A4 .and .i64 (IntKind.i64.wrap (s*2^min 1 64)) 127) (A4 .xor .i64 (s.fdiv (2^min 6 64)%2) (s.fdiv (2^min 5 64)%2))=H_ s:=by
 have:=dX ⟨s.toNat,by omega⟩
 simp only[Int.toNat_of_nonneg h.1] at this
 exact this
theorem pC {s:Int}:s.fdiv (2^min 6 64)=s/64:=by
 rw[XK];rfl
theorem iy {x s:Int}(hx:x=0\/x=1):A4 .xor .i64 x (s.fdiv (2^min 6 64)%2)=(x+s/64%2)%2:=by
 rw[pC,TN hx (by omega)]
 split<;>omega
theorem NR (nl:Bool) (xs:List Int):B' E0 KA [.list nl (Am xs)] (.bool (A1 xs)):=by
 refine AO Nm An (by simp) fun hwf=>?_
 simp only[Dv,C7,C6,Cu,D9,D8,Fh,D7,Bl,Bs,Bt,C_,B8,List.length_map,B4,true_and,and_true] at hwf
 rw[AW];unfold Ir
 simp -implicitDefEqProofs only[go_sem]
 refine AY (α:=Int) (l0:=?l1) (m0:=?m1) (fun x=>[(3,.d (.int .i64 x))]) (fun x=>[]) (fun x=>0<=x/\x<=xs.length/\A1 (xs.drop x.toNat)=A1 xs) (fun x=>(xs.length-x).toNat) ?a1_0 ?h01 ?he1 ?he21 ?hI1 ?step1
 case h01=>(simp -implicitDefEqProofs only[go_sem];rfl)
 case he1=>rfl
 case he21=>rfl
 case' step1=>(rintro i hI;try dsimp only at hI)
 case' hI1=>try dsimp only
 ·simp
 ·by_cases hi:i<xs.length
  ·have hd:A1 (xs.drop i.toNat)=(Ct (xs[i.toNat]?.getD 0) 0 1 && A1 (xs.drop (i+1).toNat)):=by
    rw[Fw (xs:=xs) (i:=i.toNat) (by omega),show (i+1).toNat=i.toNat+1 by omega];rfl
   (try (simp -implicitDefEqProofs only[go_sem]));repeat' first|(with_reducible first|exact tI|refine aI ?_ ?_|intro _)|((first|with_reducible refine AN ?_ ?_<;>intro _|(with_reducible refine isCall ?_);first|refine AE (DG _ _ _) ?_)<;>try (simp -implicitDefEqProofs only[go_sem]))|simp (disch:=omega) only[Al]|((with_reducible refine Ao ?_);refine⟨_,rfl,?_,?_⟩)
   all_goals (first|omega|skip)
   all_goals simp_all
  ·(try (simp -implicitDefEqProofs only[go_sem]));repeat' first|(with_reducible first|exact tI|refine aI ?_ ?_|intro _)|((first|with_reducible refine AN ?_ ?_<;>intro _)<;>try (simp -implicitDefEqProofs only[go_sem]))|simp (disch:=omega) only[Al]|((with_reducible refine Ao ?_);refine⟨_,rfl,?_,?_⟩)
   all_goals first|omega|(simp;done)|(simp;omega)|skip
   have h0:xs.drop i.toNat=[]:=List.drop_eq_nil_of_le (by omega)
   rw[h0] at hI
   rw[←hI.2.2];rfl
theorem Hc (s:Int) (nl:Bool) (l:List Int):B' E0 JP [.int .i64 s,.list nl (Am l)]
  (.tup [.list (Kg s l).1.isEmpty (Am (Kg s l).1),.int .i64 (Kg s l).2]):=by
 refine AO Mo An (by simp) fun hwf=>?_
 simp only[Dv,C7,C6,Cu,D9,D8,Fh,D7,Bl,Bs,Bt,C_,B8,List.length_map,B4,true_and,and_true] at hwf
 rw[AW];unfold H5
 (try (simp -implicitDefEqProofs only[go_sem]));repeat' first|(with_reducible first|exact tI|refine aI ?_ ?_|intro _)|((first|with_reducible refine AN ?_ ?_<;>intro _|(with_reducible refine isCall ?_);first|refine AE (Ia _ _) ?_|refine AE (Ci _ _ _) ?_)<;>try (simp -implicitDefEqProofs only[go_sem]))|simp (disch:=omega) only[Al]|((with_reducible refine CY ?_);refine⟨(_,_,_,_),rfl,?_,?_⟩)
 all_goals first
  |(
    have hx:FO s l=false:=by(simp_all[FO];done)
    rw[Sp hx];rfl)
  |(
    have h9:¬l.length<=128:=by omega
    rw[Sp (XQ h9)];rfl)
  |skip
 have hb:A1 l=true:=by assumption
 have h128:l.length<=128:=by omega
 have hr:Ct s 1 127=true:=by assumption
 have hg:FO s l=true:=by simp[FO,hb,h128,hr]
 have hs:1<=s/\s<=127:=by simp[FO,Ct] at hg;omega
 rw[VN hg]
 refine AY (α:=Int×Int×Bool×(List Int)) (l0:=?l2) (m0:=?m2) (fun x=>[(25,.d (.int .i64 x.1)),(0,.d (.int .i64 x.2.1))]) (fun x=>[(37,.row TI 1 x.2.2.1 (Am x.2.2.2))]) (fun x=>0<=x.1/\x.1<=l.length/\0<=x.2.1/\x.2.1<=127/\x.2.2.2.length=x.1.toNat/\x.2.2.1=x.2.2.2.isEmpty/\x.2.2.2++Ca x.2.1 (l.drop x.1.toNat)=Ca s l) (fun x=>(l.length-x.1).toNat) (?a2_0,?a2_1,?a2_2,[]) ?h02 ?he2 ?he22 ?hI2 ?step2
 case h02=>(simp -implicitDefEqProofs only[go_sem];rfl)
 case he2=>rfl
 case he22=>rfl
 case' step2=>(rintro⟨i,t,nl',acc⟩ hI;try dsimp only at hI)
 case' hI2=>try dsimp only
 ·simp;omega
 ·by_cases hi:i<l.length
  ·have hbit:=Et hb (i:=i.toNat) (by omega)
   have hstep:Ca t (l.drop i.toNat)=((l[i.toNat]?.getD 0+t/64%2)%2)::Ca (H_ t) (l.drop (i+1).toNat):=by
     rw[Fw (xs:=l) (i:=i.toNat) (by omega),Ca,show (i+1).toNat=i.toNat+1 by omega]
   have hx:=iy (s:=t) hbit
   have hnx:=aA (s:=t) (by omega)
   have hnb:=Ve t
   (try (simp -implicitDefEqProofs only[go_sem]));repeat' first|(with_reducible first|exact tI|refine aI ?_ ?_|intro _)|((first|with_reducible refine AN ?_ ?_<;>intro _)<;>try (simp -implicitDefEqProofs only[go_sem]))|simp (disch:=omega) only[Al]|((with_reducible refine CY ?_);refine⟨(_,_,_,_),rfl,?_,?_⟩)
   all_goals (try simp only[hx,hnx])
   all_goals first|omega|(simp;done)|(simp;omega)|skip
   rw[←hI.2.2.2.2.2.2,hstep];simp
  ·(try (simp -implicitDefEqProofs only[go_sem]));repeat' first|(with_reducible first|exact tI|refine aI ?_ ?_|intro _)|((first|with_reducible refine AN ?_ ?_<;>intro _)<;>try (simp -implicitDefEqProofs only[go_sem]))|simp (disch:=omega) only[Al]|((with_reducible refine CY ?_);refine⟨(_,_,_,_),rfl,?_,?_⟩)
   all_goals first|omega|(simp;done)|(simp;omega)|skip
   have h0:l.drop i.toNat=[]:=List.drop_eq_nil_of_le (by omega)
   have h1:=hI.2.2.2.2.2.2
   rw[h0,Ca,List.append_nil] at h1
   rw[←h1,hI.2.2.2.2.2.1]
theorem Kf (s:Int) (l:List Int):A1 (Ca s l)=true:=by
 induction l generalizing s with
 |nil=>rfl
 |cons x l ih =>
  have h1:=ih (H_ s)
  have e:Ct ((x+s/64%2)%2) 0 1=true:=by simp only[Ct,decide_eq_true_eq];omega
  simp only[A1] at h1
  simp only[Ca,A1,List.all_cons,h1,e,Bool.and_true]
theorem Tl (s:Int) (l:List Int) (h:A1 l=true):Ca s (Ca s l)=l:=by
 induction l generalizing s with
 |nil=>rfl
 |cons x l ih =>
  simp only[A1,List.all_cons,Bool.and_eq_true,Ct,decide_eq_true_eq] at h
  have h1:=h.1
  rw[Ca,Ca,ih _ (by simpa[A1,Ct] using h.2)]
  have:(((x+s/64%2)%2+s/64%2)%2)=x:=by omega
  rw[this]
end
def KV (b:Nat) (s:Int):List Int:=(List.range (4/b)).map fun j=>s/2^((4/b-1-j)*b)%2^b
def G9 (b:Nat) (l:List Int):Int:=l.foldl (fun a w=>a*2^b+w) 0
theorem Hx (b:Nat) (s:Int):(KV b s).length=4/b:=by simp[KV]
theorem Um {b:Nat}(s w:Int) (h:w∈KV b s):0<=w/\w<=2^b-1:=by
 simp only[KV,List.mem_map] at h
 obtain⟨j,_,rfl⟩:=h
 have h1:(0:Int)<2^b:=Int.pow_pos (by omega)
 have h2:=Int.emod_nonneg (s/2^((4/b-1-j)*b)) (show (2:Int)^b≠0 by omega)
 have h3:=Int.emod_lt_of_pos (s/2^((4/b-1-j)*b)) h1
 omega
theorem hZ {b:Nat}(hb:b=1\/b=2) {s:Int}(h:0<=s/\s<=15):G9 b (KV b s)=s:=by
 obtain⟨s,rfl⟩:∃n:Nat,s=(n:Int):=⟨s.toNat,by omega⟩
 rcases hb with rfl|rfl
 ·show (((0*2+(s:Int)/8%2)*2+(s:Int)/4%2)*2+(s:Int)/2%2)*2+(s:Int)/1%2=s
  omega
 ·show ((0*4+(s:Int)/4%4)*4+(s:Int)/1%4)=s
  omega
theorem cy {b:Nat}(hb:b=1\/b=2) {l:List Int}(hl:l.length=4/b) (h:∀w,w∈l->0<=w/\w<=2^b-1):0<=G9 b l/\G9 b l<=15:=by
 rcases hb with rfl|rfl
 ·match l,hl with
  |[x,y,z,w],_ =>
   have h1:=h x (by simp);have h2:=h y (by simp);have h3:=h z (by simp);have h4:=h w (by simp)
   simp only[G9,List.foldl]
   omega
 ·match l,hl with
  |[x,y],_ =>
   have h1:=h x (by simp);have h2:=h y (by simp)
   simp only[G9,List.foldl]
   omega
theorem Zp (b:Nat) (l:List Int) (w:Int):G9 b (l++[w])=G9 b l*2^b+w:=by simp[G9]
def pt (n:Nat) (sy:Int) (out:List Int) (f:Int):List Int:=if 0<=f/\f/n=sy then out.set (f%n).toNat (1-out[(f%n).toNat]?.getD 0) else out
def qa (n:Nat) (sy:Int) (bits flips:List Int):List Int:=flips.foldl (pt n sy) bits
structure AX where
 code:AU
 L:Int
 P:Int
 Q:Int
 nm:Bool
 mark:List Int
 seed:Int
 errs:Int
def Wb (c:AX):List D:=[.int .i64 c.code.bits,.int .i64 c.code.out,.int .i64 c.code.least,.int .i64 c.code.most,.list c.code.nw (Cd c.code.words),.list c.code.nn (Cd c.code.next),.int .i64 c.L,.int .i64 c.P,.int .i64 c.Q,.list c.nm (Am c.mark),.int .i64 c.seed,.int .i64 c.errs]
def Dn (c:AX):D:=.agg (Wb c)
theorem AG (c:AX):Wb c=[.int .i64 c.code.bits,.int .i64 c.code.out,.int .i64 c.code.least,.int .i64 c.code.most,.list c.code.nw (Cd c.code.words),.list c.code.nn (Cd c.code.next),.int .i64 c.L,.int .i64 c.P,.int .i64 c.Q,.list c.nm (Am c.mark),.int .i64 c.seed,.int .i64 c.errs]:=rfl
theorem AH (c:AX):Dn c=.agg (Wb c):=rfl
def AU.stm (c:AU) (s:Nat):List Int:=(c.stream 0 (KV c.bits.toNat s)).1
def AU.sz (c:AU):Nat:=4/c.bits.toNat * c.out.toNat
theorem FN (c:AU) (s:Nat):(c.stm s).length=c.sz:=by unfold AU.stm AU.sz;rw[Qg,Hx]
theorem QT {c:AU}(h:c.ok=true):c.bits.toNat=1\/c.bits.toNat=2:=by have:=AU.ok_head h;omega
theorem Ef {c:AU}(h:c.ok=true):2<=c.sz/\c.sz<=20:=by
 have h1:=AU.ok_head h
 unfold AU.sz
 have h2:1<=c.out.toNat/\c.out.toNat<=5:=by omega
 rcases QT h with h3|h3<;>rw[h3]<;>simp<;>omega
theorem XB {c:AU}(h:c.ok=true) (s:Nat):c.stm s≠[]:=fun e=>by
 have:=FN c s
 rw[e] at this
 have:=Ef h
 simp at *;omega
theorem TE:∀(n:Nat) (w:Int),A1 (Cr n w)=true
 |0,_=>rfl
 |n+1,w=>by
  show (Ct (w/2^n%2) 0 1 && A1 (Cr n w))=true
  rw[TE n w,Bool.and_true]
  simp only[Ct,decide_eq_true_eq];omega
theorem IH {a b:List Int}(ha:A1 a=true) (hb:A1 b=true):A1 (a++b)=true:=by
 simp only[A1,List.all_eq_true,List.mem_append] at *
 exact fun x hx=>hx.elim (ha x) (hb x)
theorem PR (c:AU):∀(l:List Int) (s:Int),A1 (c.stream s l).1=true
 |[],_=>rfl
 |w::l,s=>IH (TE ..) (PR c l _)
theorem NG (c:AU) (s:Nat):A1 (c.stm s)=true:=PR ..
theorem QY {c:AU}(h:c.ok=true) (s:Int):∀w,w∈KV c.bits.toNat s->c.isWord w=true:=fun w hw=>by
 have h1:=Um s w hw
 simp only[AU.isWord,Ct,decide_eq_true_eq];exact h1
theorem QV {c:AU}(h:c.ok=true):c.isState 0=true:=by
 have:=AU.ok_head h
 simp only[AU.isState,Ct,decide_eq_true_eq];omega
theorem W5 {c:AU}(h:c.ok=true) (s:Int):c.isData (KV c.bits.toNat s)=true:=by
 simp only[AU.isData,Bool.and_eq_true,decide_eq_true_eq,List.all_eq_true]
 refine⟨?_,QY h s⟩
 rw[Hx]
 rcases QT h with h1|h1<;>rw[h1]<;>omega
theorem ke {c:AU}(h:c.ok=true) (s:Nat):c.encode 0 (KV c.bits.toNat s)=(c.stm s,(c.stream 0 (KV c.bits.toNat s)).2,0):=by
 unfold AU.encode AU.stm
 simp[h,QV h,W5 h]
def I8 (c:AU) (m:Nat):Bool:=(List.range m).all fun a=>(List.range a).all fun b=>decide (c.stm b≠c.stm a)
theorem UG {c:AU}{m:Nat}:I8 c m=true↔∀a b,a<m->b<a->c.stm b≠c.stm a:=by
 simp only[I8,List.all_eq_true,List.mem_range,decide_eq_true_eq]
 exact⟨fun h a b ha hb=>h a ha b hb,fun h a ha b hb=>h a b ha hb⟩
theorem kg {c:AU}{m a b:Nat}(h:I8 c m=true) (ha:a<m) (hb:b<m) (e:c.stm a=c.stm b):a=b:=by
 rw[UG] at h
 rcases Nat.lt_trichotomy a b with h1|h1|h1
 ·exact absurd e (h b a hb h1)
 ·exact h1
 ·exact absurd e.symm (h a b ha h1)
def SA (c:AU) (p:List Int):Option Nat:=(List.range 16).find? fun s=>decide (c.stm s=p)
theorem HF {c:AU}{p:List Int}{s:Nat}(h:SA c p=some s):s<16/\c.stm s=p:=by
 have h1:=List.mem_of_find?_eq_some h
 have h2:=List.find?_some h
 exact⟨by simpa using h1,by simpa using h2⟩
theorem NB {c:AU}(h:I8 c 16=true) {s:Nat}(hs:s<16):SA c (c.stm s)=some s:=by
 cases he:SA c (c.stm s) with
 |none =>
  unfold SA at he
  rw[List.find?_eq_none] at he
  exact absurd (by simp) (he s (by simpa using hs))
 |some t =>
  obtain⟨h1,h2⟩:=HF he
  rw[kg h h1 hs h2]
def oh (s:Int):Int:=H_ (H_ (H_ (H_ s)))
def lS (s x:Int):Int:=G9 1 (Ca s (KV 1 x))
def Dh:Int->List Int->List Int
 |_,[]=>[]
 |s,x::l=>lS s x::Dh (oh s) l
def pf (s:Int):Nat->Int
 |0=>s
 |n+1=>pf (oh s) n
theorem Eg:∀(l:List Int) (s:Int),(Dh s l).length=l.length
 |[],_=>rfl
 |x::l,s=>by simp[Dh,Eg l]
theorem Qp:∀(l:List Int) (s:Int) (i:Nat),i<l.length->(Dh s l)[i]?.getD 0=lS (pf s i) (l[i]?.getD 0)
 |[],_,_,h=>by cases h
 |x::l,s,0,_=>rfl
 |x::l,s,i+1,h=>by
  have:=Qp l (oh s) i (by simpa using h)
  simpa[Dh,pf] using this
theorem Sa (x:Int):A1 (KV 1 x)=true:=by
 simp only[A1,List.all_eq_true,Ct,decide_eq_true_eq]
 intro n hn
 have:=Um x n hn
 omega
theorem pI {l:List Int}(hl:l.length=4) (hb:A1 l=true):KV 1 (G9 1 l)=l:=by
 match l,hl with
 |[a,b,c,d],_ =>
  have h:∀x,x∈[a,b,c,d]->0<=x/\x<=1:=fun x hx=>by
   simp only[A1,List.all_eq_true] at hb
   have:=hb x hx
   simpa[Ct] using this
  have h1:=h a (by simp);have h2:=h b (by simp);have h3:=h c (by simp);have h4:=h d (by simp)
  have e1:((((0*2+a)*2+b)*2+c)*2+d)/8%2=a:=by omega
  have e2:((((0*2+a)*2+b)*2+c)*2+d)/4%2=b:=by omega
  have e3:((((0*2+a)*2+b)*2+c)*2+d)/2%2=c:=by omega
  have e4:((((0*2+a)*2+b)*2+c)*2+d)/1%2=d:=by omega
  show [((((0*2+a)*2+b)*2+c)*2+d)/8%2,((((0*2+a)*2+b)*2+c)*2+d)/4%2,((((0*2+a)*2+b)*2+c)*2+d)/2%2,((((0*2+a)*2+b)*2+c)*2+d)/1%2]=[a,b,c,d]
  rw[e1,e2,e3,e4]
theorem i0 (s x:Int):0<=lS s x/\lS s x<=15:=by
 have h1:=Kf s (KV 1 x)
 have h2:=GQ s (KV 1 x)
 refine cy (b:=1) (.inl rfl) (by rw[h2,Hx]) fun w hw=>?_
 simp only[A1,List.all_eq_true] at h1
 have:=h1 w hw
 simp[Ct] at this
 omega
theorem iz (s:Int) {x:Int}(h:0<=x/\x<=15):lS s (lS s x)=x:=by
 have h2:=GQ s (KV 1 x)
 unfold lS
 rw[pI (by rw[h2,Hx]) (Kf ..),Tl _ _ (Sa x)]
 exact hZ (.inl rfl) h
theorem Kh:∀(l:List Int) (s:Int) (x:Int),x∈Dh s l->0<=x/\x<=15
 |[],_,_,h=>by cases h
 |y::l,s,x,h=>by
  rcases List.mem_cons.1 h with rfl|h
  ·exact i0 ..
  ·exact Kh l _ x h
def Hs (l:List Int):List Int:=l.flatMap (KV 1)
def U1:List Int->List Int
 |a::b::c::d::l=>G9 1 [a,b,c,d]::U1 l
 |_=>[]
theorem Q8 (l:List Int):(Hs l).length=4*l.length:=by
 induction l with
 |nil=>rfl
 |cons x l ih=>simp only[Hs,List.flatMap_cons,List.length_append,Hx] at *;simp only[List.length_cons];omega
theorem ai (l:List Int):A1 (Hs l)=true:=by
 induction l with
 |nil=>rfl
 |cons x l ih=>exact IH (Sa x) ih
theorem Qo:∀(a b:List Int) (s:Int),Ca s (a++b)=Ca s a++Ca (a.foldl (fun t _=>H_ t) s) b
 |[],_,_=>rfl
 |x::a,b,s=>by show _::Ca (H_ s) (a++b)=_;rw[Qo a b];rfl
theorem Sb:∀(l:List Int) (s:Int),U1 (Ca s (Hs l))=Dh s l
 |[],_=>rfl
 |x::l,s=>by
  show U1 (Ca s (KV 1 x++Hs l))=lS s x::Dh (oh s) l
  rw[Qo,←Sb l (oh s)]
  rfl
def AX.syms (c:AX):Nat:=(c.Q*c.L).toNat
def AX.tot (c:AX):Nat:=c.mark.length+c.syms*c.code.sz
def AX.fnd (c:AX) (bits:List Int):Nat->Nat->Option Nat
 |0,_=>none
 |n+1,at_=>if at_+c.tot<=bits.length then (if CM c.mark (bits.drop at_)<=c.errs then some at_ else c.fnd bits n (at_+1)) else none
def AX.find (c:AX) (bits:List Int):Option Nat:=c.fnd bits (bits.length+1) 0
theorem V3 {c:AX}{bits:List Int}:∀{n a r:Nat},c.fnd bits n a=some r->a<=r/\r+c.tot<=bits.length/\CM c.mark (bits.drop r)<=c.errs/\∀j,a<=j->j<r->c.errs<CM c.mark (bits.drop j)
 |0,_,_,h=>by cases h
 |n+1,a,r,h=>by
  unfold AX.fnd at h
  split at h
  ·split at h
   ·cases h;exact⟨Nat.le_refl _,by assumption,by assumption,fun j h1 h2=>by omega⟩
   ·obtain⟨h1,h2,h3,h4⟩:=V3 h
    refine⟨by omega,h2,h3,fun j h5 h6=>?_⟩
    by_cases e:j=a
    ·subst e;omega
    ·exact h4 j (by omega) h6
  ·cases h
theorem ft {c:AX}{bits:List Int}{r:Nat}(hr:r+c.tot<=bits.length) (hd:CM c.mark (bits.drop r)<=c.errs) :
  ∀{n a:Nat},a<=r->r<a+n->(∀j,a<=j->j<r->c.errs<CM c.mark (bits.drop j))->c.fnd bits n a=some r
 |0,a,h1,h2,_=>by omega
 |n+1,a,h1,h2,h3=>by
  unfold AX.fnd
  rw[if_pos (by omega)]
  by_cases e:a=r
  ·subst e;rw[if_pos hd]
  ·rw[if_neg (by have:=h3 a (Nat.le_refl _) (by omega);omega)]
   exact ft hr hd (by omega) (by omega) fun j h4 h5=>h3 j (by omega) h5
theorem Ow {c:AX}{bits:List Int}{r:Nat}:c.find bits=some r↔r+c.tot<=bits.length/\CM c.mark (bits.drop r)<=c.errs/\∀j,j<r->c.errs<CM c.mark (bits.drop j):=by
 constructor
 ·intro h
  obtain⟨_,h1,h2,h3⟩:=V3 h
  exact⟨h1,h2,fun j hj=>h3 j (Nat.zero_le _) hj⟩
 ·rintro⟨h1,h2,h3⟩
  exact ft h1 h2 (Nat.zero_le _) (by omega) fun j _ hj=>h3 j hj
def AX.part (c:AX) (bits:List Int) (at_ i:Nat):List Int:=(bits.drop (at_+c.mark.length+i*c.code.sz)).take c.code.sz
def AX.syL (c:AX) (bits:List Int) (at_:Nat):List (Option Nat):=(List.range c.syms).map fun i=>SA c.code (c.part bits at_ i)
theorem Lf (c:AX) (bits:List Int) (at_:Nat):(c.syL bits at_).length=c.syms:=by simp[AX.syL]
def Pe (l:List (Option Nat)):List Int:=l.map fun x=>((x.getD 0:Nat):Int)
def g_ (l:List (Option Nat)):List Nat:=(List.range l.length).filter fun i=>(l[i]?.getD none).isNone
end Go.Pw
