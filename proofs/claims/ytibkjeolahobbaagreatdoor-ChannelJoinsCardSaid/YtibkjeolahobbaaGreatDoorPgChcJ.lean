/- A part of the proof. -/
import Derived.Test.YtibkjeolahobbaaGreatDoorPgChcD
import Derived.Test.YtibkjeolahobbaaGreatDoorPwLaw
import Derived.Test.YtibkjeolahobbaaGreatDoorPwInt
set_option linter.all false
open Go Go.Pw Go.Proofs
namespace Go.Pw
set_option maxRecDepth 100000
set_option maxHeartbeats 1600000
section
attribute [local irreducible] IntKind.wrap Ai Option.getD and or
theorem Qs (c:AW):∀(l:List Int) (s:Int),(c.stream s l).1.length=l.length*c.out.toNat
 |[],s=>by simp[AW.stream]
 |w::l,s=>by
  simp only[AW.stream,List.length_append,H2,Qs c l,List.length_cons,Nat.succ_mul]
  omega
theorem Da {k:IntKind}{cs:List D}(h:CQ (.int k) cs):∃n,cs=[.int k n]:=by cases h with|int _ n _=>exact⟨n,rfl⟩
theorem Qj {cs:List D}(h:CQ (.list (.int .i64)) cs):∃nl l,cs=[.list nl (Aa l)]:=by
 cases h with|list _ nl xs h0 h1 h2 =>
 have:∃l,xs=Aa l:=by
  clear h0
  induction xs with
  |nil=>exact⟨[],rfl⟩
  |cons x xs ih =>
   obtain⟨l,rfl⟩:=ih (fun y hy=>h1 y (by simp[hy])) fun y hy=>h2 y (by simp[hy])
   obtain⟨n,hn⟩:=Da (h1 x (by simp))
   have:=h2 x (by simp)
   rw[hn] at this
   exact⟨n::l,by rw[this];rfl⟩
 obtain⟨l,rfl⟩:=this
 exact⟨nl,l,rfl⟩
theorem MT {cs:List D}(h:CQ (.list (.list (.int .i64))) cs):∃nl l,cs=[.list nl (Bv l)]:=by
 cases h with|list _ nl xs h0 h1 h2 =>
 have:∃l,xs=Bv l:=by
  clear h0
  induction xs with
  |nil=>exact⟨[],rfl⟩
  |cons x xs ih =>
   obtain⟨l,rfl⟩:=ih (fun y hy=>h1 y (by simp[hy])) fun y hy=>h2 y (by simp[hy])
   obtain⟨b,n,hn⟩:=Qj (h1 x (by simp))
   have:=h2 x (by simp)
   rw[hn] at this
   exact⟨(b,n)::l,by rw[this];rfl⟩
 obtain⟨l,rfl⟩:=this
 exact⟨nl,l,rfl⟩
theorem Bi {T:Ty}{Ts:List Ty}{cs:List D}(h:CQ (.str (T::Ts)) cs):∃a b,cs=a++b/\CQ T a/\CQ (.str Ts) b:=by
 cases h with|cons _ _ a b h1 h2=>exact⟨a,b,rfl,h1,h2⟩
theorem LN {cs:List D}(h:CQ (.str []) cs):cs=[]:=by cases h;rfl
def ng:Ty:=.str [.int .i64,.int .i64,.int .i64,.int .i64,.list (.list (.int .i64)),.list (.list (.int .i64))]
def sG:Ty:=.str [.int .i64,.list (.int .i64),.list (.int .i64)]
end
section
attribute [local irreducible] IntKind.wrap Ai Option.getD and or
def F2 (s:Int):Int:=(2*s+(s/64%2+s/32%2)%2)%128
def BK:Int->List Int->List Int
 |_,[]=>[]
 |s,x::l=>((x+s/64%2)%2)::BK (F2 s) l
def Cj (s:Int) (l:List Int):Bool:=B_ s 1 127 && decide (l.length<=128) && Al l
def Gn (s:Int) (l:List Int):List Int×Int:=if Cj s l then (BK s l,0) else ([],1)
theorem NF {s:Int}{l:List Int}(h:Cj s l=true):Gn s l=(BK s l,0):=by simp[Gn,h]
theorem LR {s:Int}{l:List Int}(h:Cj s l=false):Gn s l=([],1):=by simp[Gn,h]
theorem Db (s:Int) (l:List Int):(BK s l).length=l.length:=by
 induction l generalizing s with
 |nil=>rfl
 |cons x l ih=>simp[BK,ih]
theorem Q6 {s:Int}{l:List Int}(h:¬l.length<=128):Cj s l=false:=by simp[Cj,h]
theorem PX (s:Int):0<=F2 s/\F2 s<=127:=by simp only[F2];omega
theorem eQ:∀s:Fin 128,Ai .or .i64 (Ai .and .i64 (IntKind.i64.wrap ((s.val:Int)*2^min 1 64)) 127) (Ai .xor .i64 ((s.val:Int).fdiv (2^min 6 64)%2) ((s.val:Int).fdiv (2^min 5 64)%2))=F2 s.val:=by decide +kernel
theorem aw {s:Int}(h:0<=s/\s<=127):Ai .or .i64 (Ai .and .i64 (IntKind.i64.wrap (s*2^min 1 64)) 127) (Ai .xor .i64 (s.fdiv (2^min 6 64)%2) (s.fdiv (2^min 5 64)%2))=F2 s:=by
 have:=eQ ⟨s.toNat,by omega⟩
 simp only[Int.toNat_of_nonneg h.1] at this
 exact this
theorem q_ {s:Int}:s.fdiv (2^min 6 64)=s/64:=by
 rw[T5];rfl
theorem kA {x s:Int}(hx:x=0\/x=1):Ai .xor .i64 x (s.fdiv (2^min 6 64)%2)=(x+s/64%2)%2:=by
 rw[q_,Tm hx (by omega)]
 split<;>omega
theorem eg:∀s:Fin 128,(IntKind.i64.wrap (2*(s.val:Int)+(IntKind.i64.wrap ((IntKind.i64.wrap ((s.val:Int).tdiv 64)).tmod 2+(IntKind.i64.wrap ((s.val:Int).tdiv 32)).tmod 2)).tmod 2)).tmod 128=F2 s.val:=by decide +kernel
theorem a_ {s:Int}(h:0<=s/\s<=127):(IntKind.i64.wrap (2*s+(IntKind.i64.wrap ((IntKind.i64.wrap (s.tdiv 64)).tmod 2+(IntKind.i64.wrap (s.tdiv 32)).tmod 2)).tmod 2)).tmod 128=F2 s:=by
 have:=eg ⟨s.toNat,by omega⟩
 simp only[Int.toNat_of_nonneg h.1] at this
 exact this
theorem ef:∀s:Fin 128,∀x:Fin 2,(IntKind.i64.wrap ((x.val:Int)+(IntKind.i64.wrap ((s.val:Int).tdiv 64)).tmod 2)).tmod 2=((x.val:Int)+(s.val:Int)/64%2)%2:=by decide +kernel
theorem kI {x s:Int}(hx:x=0\/x=1) (h:0<=s/\s<=127):(IntKind.i64.wrap (x+(IntKind.i64.wrap (s.tdiv 64)).tmod 2)).tmod 2=(x+s/64%2)%2:=by
 have:=ef ⟨s.toNat,by omega⟩ ⟨x.toNat,by omega⟩
 simp only[Int.toNat_of_nonneg h.1,Int.toNat_of_nonneg (show 0<=x by omega)] at this
 exact this
theorem E4 (nl:Bool) (xs:List Int):BR E0 Jt [.list nl (Aa xs)] (.bool (Al xs)):=by
 refine AM Nk Af (by simp) fun hwf=>?_
 simp only[CU,Bu,Bt,Bq,Cd,Cc,Dt,Cb,A2,A9,A_,Bz,BG,List.length_map,BH,true_and,and_true] at hwf
 rw[AQ];unfold IJ
 simp -implicitDefEqProofs only[go_sem]
 refine AU (α:=Int) (l0:=?l1) (m0:=?m1) (fun x=>[(3,.d (.int .i64 x))]) (fun x=>[]) (fun x=>0<=x/\x<=xs.length/\Al (xs.drop x.toNat)=Al xs) (fun x=>(xs.length-x).toNat) ?a1_0 ?h01 ?he1 ?he21 ?hI1 ?step1
 case h01=>(simp -implicitDefEqProofs only[go_sem];rfl)
 case he1=>rfl
 case he21=>rfl
 case' step1=>(rintro i hI;try dsimp only at hI)
 case' hI1=>try dsimp only
 ·simp
 ·by_cases hi:i<xs.length
  ·have hd:Al (xs.drop i.toNat)=(B_ (xs[i.toNat]?.getD 0) 0 1 && Al (xs.drop (i+1).toNat)):=by
    rw[ER (xs:=xs) (i:=i.toNat) (by omega),show (i+1).toNat=i.toNat+1 by omega];rfl
   (try (simp -implicitDefEqProofs only[go_sem]));repeat' first|(with_reducible first|exact tI|refine aI ?_ ?_|intro _)|((first|with_reducible refine AJ ?_ ?_<;>intro _|(with_reducible refine isCall ?_);first|refine AE (B7 _ _ _) ?_)<;>try (simp -implicitDefEqProofs only[go_sem]))|simp (disch:=omega) only[Ad]|((with_reducible apply Ab);exact rfl)
   all_goals (first|omega|skip)
   all_goals simp_all
  ·(try (simp -implicitDefEqProofs only[go_sem]));repeat' first|(with_reducible first|exact tI|refine aI ?_ ?_|intro _|refine AJ ?_ ?_<;>intro _<;>try simp -implicitDefEqProofs only[go_sem])|simp (disch:=omega) only[Ad]|((with_reducible apply Ab);exact rfl)
   all_goals first|omega|(simp<;>omega)|skip
   have h0:xs.drop i.toNat=[]:=List.drop_eq_nil_of_le (by omega)
   rw[h0] at hI
   rw[←hI.2.2];rfl
theorem G8 (s:Int) (nl:Bool) (l:List Int):BR E0 I4 [.int .i64 s,.list nl (Aa l)]
  (.tup [.list (Gn s l).1.isEmpty (Aa (Gn s l).1),.int .i64 (Gn s l).2]):=by
 refine AM Mn Af (by simp) fun hwf=>?_
 simp only[CU,Bu,Bt,Bq,Cd,Cc,Dt,Cb,A2,A9,A_,Bz,BG,List.length_map,BH,true_and,and_true] at hwf
 rw[AQ];unfold Hb
 (try (simp -implicitDefEqProofs only[go_sem]));repeat' first|(with_reducible first|exact tI|refine aI ?_ ?_|intro _)|((first|with_reducible refine AJ ?_ ?_<;>intro _|(with_reducible refine isCall ?_);first|refine AE (H0 _ _) ?_|refine AE (CA _ _ _) ?_)<;>try (simp -implicitDefEqProofs only[go_sem]))|simp (disch:=omega) only[Ad]|((with_reducible apply A8);exact rfl)
 all_goals first
  |(
    have hx:Cj s l=false:=by(simp_all[Cj];done)
    rw[LR hx];rfl)
  |(
    have h9:¬l.length<=128:=by omega
    rw[LR (Q6 h9)];rfl)
  |skip
 have hb:Al l=true:=by assumption
 have h128:l.length<=128:=by omega
 have hr:B_ s 1 127=true:=by assumption
 have hg:Cj s l=true:=by simp[Cj,hb,h128,hr]
 have hs:1<=s/\s<=127:=by simp[Cj,B_] at hg;omega
 rw[NF hg]
 refine AU (α:=Int×Int×Bool×(List Int)) (l0:=?l2) (m0:=?m2) (fun x=>[(25,.d (.int .i64 x.1)),(0,.d (.int .i64 x.2.1))]) (fun x=>[(37,.row SR 1 x.2.2.1 (Aa x.2.2.2))]) (fun x=>0<=x.1/\x.1<=l.length/\0<=x.2.1/\x.2.1<=127/\x.2.2.2.length=x.1.toNat/\x.2.2.1=x.2.2.2.isEmpty/\x.2.2.2++BK x.2.1 (l.drop x.1.toNat)=BK s l) (fun x=>(l.length-x.1).toNat) (?a2_0,?a2_1,?a2_2,[]) ?h02 ?he2 ?he22 ?hI2 ?step2
 case h02=>(simp -implicitDefEqProofs only[go_sem];rfl)
 case he2=>rfl
 case he22=>rfl
 case' step2=>(rintro⟨i,t,nl',acc⟩ hI;try dsimp only at hI)
 case' hI2=>try dsimp only
 ·simp;omega
 ·by_cases hi:i<l.length
  ·have hbit:=Et hb (i:=i.toNat) (by omega)
   have hstep:BK t (l.drop i.toNat)=((l[i.toNat]?.getD 0+t/64%2)%2)::BK (F2 t) (l.drop (i+1).toNat):=by
     rw[ER (xs:=l) (i:=i.toNat) (by omega),BK,show (i+1).toNat=i.toNat+1 by omega]
   have hx:=kA (s:=t) hbit
   have hnx:=aw (s:=t) (by omega)
   have hnb:=PX t
   (try (simp -implicitDefEqProofs only[go_sem]));repeat' first|(with_reducible first|exact tI|refine aI ?_ ?_|intro _|refine AJ ?_ ?_<;>intro _<;>try simp -implicitDefEqProofs only[go_sem])|simp (disch:=omega) only[Ad]|((with_reducible apply A8);exact rfl)
   all_goals (try simp only[hx,hnx])
   all_goals first|omega|(simp<;>omega)|skip
   rw[←hI.2.2.2.2.2.2,hstep];simp
  ·(try (simp -implicitDefEqProofs only[go_sem]));repeat' first|(with_reducible first|exact tI|refine aI ?_ ?_|intro _|refine AJ ?_ ?_<;>intro _<;>try simp -implicitDefEqProofs only[go_sem])|simp (disch:=omega) only[Ad]|((with_reducible apply A8);exact rfl)
   all_goals first|omega|(simp<;>omega)|skip
   have h0:l.drop i.toNat=[]:=List.drop_eq_nil_of_le (by omega)
   have h1:=hI.2.2.2.2.2.2
   rw[h0,BK,List.append_nil] at h1
   rw[←h1,hI.2.2.2.2.2.1]
theorem MX (s:Int) (nl:Bool) (l:List Int):BR E0 Iy [.int .i64 s,.list nl (Aa l)]
  (.tup [.list (Gn s l).1.isEmpty (Aa (Gn s l).1),.int .i64 (Gn s l).2]):=by
 refine AM Mi Af (by simp) fun hwf=>?_
 simp only[CU,Bu,Bt,Bq,Cd,Cc,Dt,Cb,A2,A9,A_,Bz,BG,List.length_map,BH,true_and,and_true] at hwf
 rw[AQ];unfold HW
 (try (simp -implicitDefEqProofs only[go_sem]));repeat' first|(with_reducible first|exact tI|refine aI ?_ ?_|intro _)|((first|with_reducible refine AJ ?_ ?_<;>intro _|(with_reducible refine isCall ?_);first|refine AE (E4 _ _) ?_|refine AE (B7 _ _ _) ?_)<;>try (simp -implicitDefEqProofs only[go_sem]))|simp (disch:=omega) only[Ad]|((with_reducible apply A8);exact rfl)
 all_goals first
  |(
    have hx:Cj s l=false:=by(simp_all[Cj];done)
    rw[LR hx];rfl)
  |(
    have h9:¬l.length<=128:=by omega
    rw[LR (Q6 h9)];rfl)
  |skip
 have hb:Al l=true:=by assumption
 have h128:l.length<=128:=by omega
 have hr:B_ s 1 127=true:=by assumption
 have hg:Cj s l=true:=by simp[Cj,hb,h128,hr]
 have hs:1<=s/\s<=127:=by simp[Cj,B_] at hg;omega
 rw[NF hg]
 refine AU (α:=Int×Int×Bool×(List Int)) (l0:=?l3) (m0:=?m3) (fun x=>[(8,.d (.int .i64 x.1)),(7,.d (.int .i64 x.2.1))]) (fun x=>[(46,.row SR 1 x.2.2.1 (Aa x.2.2.2))]) (fun x=>0<=x.1/\x.1<=l.length/\0<=x.2.1/\x.2.1<=127/\x.2.2.2.length=x.1.toNat/\x.2.2.1=x.2.2.2.isEmpty/\x.2.2.2++BK x.2.1 (l.drop x.1.toNat)=BK s l) (fun x=>(l.length-x.1).toNat) (?a3_0,?a3_1,?a3_2,[]) ?h03 ?he3 ?he23 ?hI3 ?step3
 case h03=>(simp -implicitDefEqProofs only[go_sem];rfl)
 case he3=>rfl
 case he23=>rfl
 case' step3=>(rintro⟨i,t,nl',acc⟩ hI;try dsimp only at hI)
 case' hI3=>try dsimp only
 ·simp;omega
 ·by_cases hi:i<l.length
  ·have hbit:=Et hb (i:=i.toNat) (by omega)
   have hstep:BK t (l.drop i.toNat)=((l[i.toNat]?.getD 0+t/64%2)%2)::BK (F2 t) (l.drop (i+1).toNat):=by
     rw[ER (xs:=l) (i:=i.toNat) (by omega),BK,show (i+1).toNat=i.toNat+1 by omega]
   have hx:=kI (s:=t) hbit (by omega)
   have hnx:=a_ (s:=t) (by omega)
   have hnb:=PX t
   have hny:=hnx
   rw[Int.tmod.eq_def _ 128] at hny
   (try (simp -implicitDefEqProofs only[go_sem,hx,hnx]));repeat' first|(with_reducible first|exact tI|refine aI ?_ ?_|intro _|refine AJ ?_ ?_<;>intro _<;>try simp -implicitDefEqProofs only[go_sem,hx,hnx])|simp (disch:=omega) only[Ad]|((with_reducible apply A8);exact rfl)
   all_goals (try rw[hny])
   all_goals (try rw[hx])
   all_goals first|omega|(simp<;>omega)|skip
   rw[←hI.2.2.2.2.2.2,hstep];simp
  ·(try (simp -implicitDefEqProofs only[go_sem]));repeat' first|(with_reducible first|exact tI|refine aI ?_ ?_|intro _|refine AJ ?_ ?_<;>intro _<;>try simp -implicitDefEqProofs only[go_sem])|simp (disch:=omega) only[Ad]|((with_reducible apply A8);exact rfl)
   all_goals first|omega|(simp<;>omega)|skip
   have h0:l.drop i.toNat=[]:=List.drop_eq_nil_of_le (by omega)
   have h1:=hI.2.2.2.2.2.2
   rw[h0,BK,List.append_nil] at h1
   rw[←h1,hI.2.2.2.2.2.1]
theorem HT (s:Int) (l:List Int):Al (BK s l)=true:=by
 induction l generalizing s with
 |nil=>rfl
 |cons x l ih =>
  have h1:=ih (F2 s)
  have e:B_ ((x+s/64%2)%2) 0 1=true:=by simp only[B_,decide_eq_true_eq];omega
  simp only[Al] at h1
  simp only[BK,Al,List.all_cons,h1,e,Bool.and_true]
theorem T6 (s:Int) (l:List Int) (h:Al l=true):BK s (BK s l)=l:=by
 induction l generalizing s with
 |nil=>rfl
 |cons x l ih =>
  simp only[Al,List.all_cons,Bool.and_eq_true,B_,decide_eq_true_eq] at h
  have h1:=h.1
  rw[BK,BK,ih _ (by simpa[Al,B_] using h.2)]
  have:(((x+s/64%2)%2+s/64%2)%2)=x:=by omega
  rw[this]
end
def H8 (b:Nat) (s:Int):List Int:=(List.range (4/b)).map fun j=>s/2^((4/b-1-j)*b)%2^b
def Ft (b:Nat) (l:List Int):Int:=l.foldl (fun a w=>a*2^b+w) 0
theorem Ex (b:Nat) (s:Int):(H8 b s).length=4/b:=by simp[H8]
theorem VH {b:Nat}(s w:Int) (h:w∈H8 b s):0<=w/\w<=2^b-1:=by
 simp only[H8,List.mem_map] at h
 obtain⟨j,_,rfl⟩:=h
 have h1:(0:Int)<2^b:=Int.pow_pos (by omega)
 have h2:=Int.emod_nonneg (s/2^((4/b-1-j)*b)) (show (2:Int)^b≠0 by omega)
 have h3:=Int.emod_lt_of_pos (s/2^((4/b-1-j)*b)) h1
 omega
theorem jT {b:Nat}(hb:b=1\/b=2) {s:Int}(h:0<=s/\s<=15):Ft b (H8 b s)=s:=by
 obtain⟨s,rfl⟩:∃n:Nat,s=(n:Int):=⟨s.toNat,by omega⟩
 rcases hb with rfl|rfl
 ·show (((0*2+(s:Int)/8%2)*2+(s:Int)/4%2)*2+(s:Int)/2%2)*2+(s:Int)/1%2=s
  omega
 ·show ((0*4+(s:Int)/4%4)*4+(s:Int)/1%4)=s
  omega
theorem du {b:Nat}(hb:b=1\/b=2) {l:List Int}(hl:l.length=4/b) (h:∀w,w∈l->0<=w/\w<=2^b-1):0<=Ft b l/\Ft b l<=15:=by
 rcases hb with rfl|rfl
 ·match l,hl with
  |[x,y,z,w],_ =>
   have h1:=h x (by simp);have h2:=h y (by simp);have h3:=h z (by simp);have h4:=h w (by simp)
   simp only[Ft,List.foldl]
   omega
 ·match l,hl with
  |[x,y],_ =>
   have h1:=h x (by simp);have h2:=h y (by simp)
   simp only[Ft,List.foldl]
   omega
theorem aQ (b:Nat) (l:List Int) (w:Int):Ft b (l++[w])=Ft b l*2^b+w:=by simp[Ft]
def r3 (n:Nat) (sy:Int) (out:List Int) (f:Int):List Int:=if 0<=f/\f/n=sy then out.set (f%n).toNat (1-out[(f%n).toNat]?.getD 0) else out
def su (n:Nat) (sy:Int) (bits flips:List Int):List Int:=flips.foldl (r3 n sy) bits
structure AX where
 code:AW
 L:Int
 P:Int
 Q:Int
 nm:Bool
 mark:List Int
 seed:Int
 errs:Int
def W8 (c:AX):List D:=[.int .i64 c.code.bits,.int .i64 c.code.out,.int .i64 c.code.least,.int .i64 c.code.most,.list c.code.nw (Bv c.code.words),.list c.code.nn (Bv c.code.next),.int .i64 c.L,.int .i64 c.P,.int .i64 c.Q,.list c.nm (Aa c.mark),.int .i64 c.seed,.int .i64 c.errs]
def DJ (c:AX):D:=.agg (W8 c)
theorem AO (c:AX):W8 c=[.int .i64 c.code.bits,.int .i64 c.code.out,.int .i64 c.code.least,.int .i64 c.code.most,.list c.code.nw (Bv c.code.words),.list c.code.nn (Bv c.code.next),.int .i64 c.L,.int .i64 c.P,.int .i64 c.Q,.list c.nm (Aa c.mark),.int .i64 c.seed,.int .i64 c.errs]:=rfl
theorem AP (c:AX):DJ c=.agg (W8 c):=rfl
def AW.stm (c:AW) (s:Nat):List Int:=(c.stream 0 (H8 c.bits.toNat s)).1
def AW.sz (c:AW):Nat:=4/c.bits.toNat * c.out.toNat
theorem LO (c:AW) (s:Nat):(c.stm s).length=c.sz:=by unfold AW.stm AW.sz;rw[Qs,Ex]
theorem QW {c:AW}(h:c.ok=true):c.bits.toNat=1\/c.bits.toNat=2:=by have:=AW.ok_head h;omega
theorem Hl {c:AW}(h:c.ok=true):2<=c.sz/\c.sz<=20:=by
 have h1:=AW.ok_head h
 unfold AW.sz
 have h2:1<=c.out.toNat/\c.out.toNat<=5:=by omega
 rcases QW h with h3|h3<;>rw[h3]<;>simp<;>omega
theorem Xl {c:AW}(h:c.ok=true) (s:Nat):c.stm s≠[]:=fun e=>by
 have:=LO c s
 rw[e] at this
 have:=Hl h
 simp at *;omega
theorem Ta:∀(n:Nat) (w:Int),Al (CH n w)=true
 |0,_=>rfl
 |n+1,w=>by
  show (B_ (w/2^n%2) 0 1 && Al (CH n w))=true
  rw[Ta n w,Bool.and_true]
  simp only[B_,decide_eq_true_eq];omega
theorem Pl {a b:List Int}(ha:Al a=true) (hb:Al b=true):Al (a++b)=true:=by
 simp only[Al,List.all_eq_true,List.mem_append] at *
 exact fun x hx=>hx.elim (ha x) (hb x)
theorem PJ (c:AW):∀(l:List Int) (s:Int),Al (c.stream s l).1=true
 |[],_=>rfl
 |w::l,s=>Pl (Ta ..) (PJ c l _)
theorem d4 (c:AW) (s:Nat):Al (c.stm s)=true:=PJ ..
theorem Qb {c:AW}(h:c.ok=true) (s:Int):∀w,w∈H8 c.bits.toNat s->c.isWord w=true:=fun w hw=>by
 have h1:=VH s w hw
 simp only[AW.isWord,B_,decide_eq_true_eq];exact h1
theorem Qa {c:AW}(h:c.ok=true):c.isState 0=true:=by
 have:=AW.ok_head h
 simp only[AW.isState,B_,decide_eq_true_eq];omega
theorem Xb {c:AW}(h:c.ok=true) (s:Int):c.isData (H8 c.bits.toNat s)=true:=by
 simp only[AW.isData,Bool.and_eq_true,decide_eq_true_eq,List.all_eq_true]
 refine⟨?_,Qb h s⟩
 rw[Ex]
 rcases QW h with h1|h1<;>rw[h1]<;>omega
theorem lq {c:AW}(h:c.ok=true) (s:Nat):c.encode 0 (H8 c.bits.toNat s)=(c.stm s,(c.stream 0 (H8 c.bits.toNat s)).2,0):=by
 unfold AW.encode AW.stm
 simp[h,Qa h,Xb h]
def Ib (c:AW) (m:Nat):Bool:=(List.range m).all fun a=>(List.range a).all fun b=>decide (c.stm b≠c.stm a)
theorem Ul {c:AW}{m:Nat}:Ib c m=true↔∀a b,a<m->b<a->c.stm b≠c.stm a:=by
 simp only[Ib,List.all_eq_true,List.mem_range,decide_eq_true_eq]
 exact⟨fun h a b ha hb=>h a ha b hb,fun h a ha b hb=>h a b ha hb⟩
theorem lw {c:AW}{m a b:Nat}(h:Ib c m=true) (ha:a<m) (hb:b<m) (e:c.stm a=c.stm b):a=b:=by
 rw[Ul] at h
 rcases Nat.lt_trichotomy a b with h1|h1|h1
 ·exact absurd e (h b a hb h1)
 ·exact h1
 ·exact absurd e.symm (h a b ha h1)
def J2 (c:AW) (p:List Int):Option Nat:=(List.range 16).find? fun s=>decide (c.stm s=p)
theorem H' {c:AW}{p:List Int}{s:Nat}(h:J2 c p=some s):s<16/\c.stm s=p:=by
 have h1:=List.mem_of_find?_eq_some h
 have h2:=List.find?_some h
 exact⟨by simpa using h1,by simpa using h2⟩
theorem Qp {c:AW}(h:Ib c 16=true) {s:Nat}(hs:s<16):J2 c (c.stm s)=some s:=by
 cases he:J2 c (c.stm s) with
 |none =>
  unfold J2 at he
  rw[List.find?_eq_none] at he
  exact absurd (by simp) (he s (by simpa using hs))
 |some t =>
  obtain⟨h1,h2⟩:=H' he
  rw[lw h h1 hs h2]
def qo (s:Int):Int:=F2 (F2 (F2 (F2 s)))
def jN (s x:Int):Int:=Ft 1 (BK s (H8 1 x))
def Bd:Int->List Int->List Int
 |_,[]=>[]
 |s,x::l=>jN s x::Bd (qo s) l
def qO (s:Int):Nat->Int
 |0=>s
 |n+1=>qO (qo s) n
theorem Bm:∀(l:List Int) (s:Int),(Bd s l).length=l.length
 |[],_=>rfl
 |x::l,s=>by simp[Bd,Bm l]
theorem NG:∀(l:List Int) (s:Int) (i:Nat),i<l.length->(Bd s l)[i]?.getD 0=jN (qO s i) (l[i]?.getD 0)
 |[],_,_,h=>by cases h
 |x::l,s,0,_=>rfl
 |x::l,s,i+1,h=>by
  have:=NG l (qo s) i (by simpa using h)
  simpa[Bd,qO] using this
theorem S0 (x:Int):Al (H8 1 x)=true:=by
 simp only[Al,List.all_eq_true,B_,decide_eq_true_eq]
 intro n hn
 have:=VH x n hn
 omega
theorem nh {l:List Int}(hl:l.length=4) (hb:Al l=true):H8 1 (Ft 1 l)=l:=by
 match l,hl with
 |[a,b,c,d],_ =>
  have h:∀x,x∈[a,b,c,d]->0<=x/\x<=1:=fun x hx=>by
   simp only[Al,List.all_eq_true] at hb
   have:=hb x hx
   simpa[B_] using this
  have h1:=h a (by simp);have h2:=h b (by simp);have h3:=h c (by simp);have h4:=h d (by simp)
  have e1:((((0*2+a)*2+b)*2+c)*2+d)/8%2=a:=by omega
  have e2:((((0*2+a)*2+b)*2+c)*2+d)/4%2=b:=by omega
  have e3:((((0*2+a)*2+b)*2+c)*2+d)/2%2=c:=by omega
  have e4:((((0*2+a)*2+b)*2+c)*2+d)/1%2=d:=by omega
  show [((((0*2+a)*2+b)*2+c)*2+d)/8%2,((((0*2+a)*2+b)*2+c)*2+d)/4%2,((((0*2+a)*2+b)*2+c)*2+d)/2%2,((((0*2+a)*2+b)*2+c)*2+d)/1%2]=[a,b,c,d]
  rw[e1,e2,e3,e4]
theorem T7 (s x:Int):0<=jN s x/\jN s x<=15:=by
 have h1:=HT s (H8 1 x)
 have h2:=Db s (H8 1 x)
 refine du (b:=1) (.inl rfl) (by rw[h2,Ex]) fun w hw=>?_
 simp only[Al,List.all_eq_true] at h1
 have:=h1 w hw
 simp[B_] at this
 omega
theorem ZV (s:Int) {x:Int}(h:0<=x/\x<=15):jN s (jN s x)=x:=by
 have h2:=Db s (H8 1 x)
 unfold jN
 rw[nh (by rw[h2,Ex]) (HT ..),T6 _ _ (S0 x)]
 exact jT (.inl rfl) h
theorem IB:∀(l:List Int) (s:Int) (x:Int),x∈Bd s l->0<=x/\x<=15
 |[],_,_,h=>by cases h
 |y::l,s,x,h=>by
  rcases List.mem_cons.1 h with rfl|h
  ·exact T7 ..
  ·exact IB l _ x h
def Dg (l:List Int):List Int:=l.flatMap (H8 1)
def VS:List Int->List Int
 |a::b::c::d::l=>Ft 1 [a,b,c,d]::VS l
 |_=>[]
theorem IZ (l:List Int):(Dg l).length=4*l.length:=by
 induction l with
 |nil=>rfl
 |cons x l ih=>simp only[Dg,List.flatMap_cons,List.length_append,Ex] at *;simp only[List.length_cons];omega
theorem TH (l:List Int):Al (Dg l)=true:=by
 induction l with
 |nil=>rfl
 |cons x l ih=>exact Pl (S0 x) ih
theorem Q7:∀(a b:List Int) (s:Int),BK s (a++b)=BK s a++BK (a.foldl (fun t _=>F2 t) s) b
 |[],_,_=>rfl
 |x::a,b,s=>by show _::BK (F2 s) (a++b)=_;rw[Q7 a b];rfl
theorem S1:∀(l:List Int) (s:Int),VS (BK s (Dg l))=Bd s l
 |[],_=>rfl
 |x::l,s=>by
  show VS (BK s (H8 1 x++Dg l))=jN s x::Bd (qo s) l
  rw[Q7,←S1 l (qo s)]
  rfl
def AX.syms (c:AX):Nat:=(c.Q*c.L).toNat
def AX.tot (c:AX):Nat:=c.mark.length+c.syms*c.code.sz
def AX.fnd (c:AX) (bits:List Int):Nat->Nat->Option Nat
 |0,_=>none
 |n+1,at_=>if at_+c.tot<=bits.length then (if B' c.mark (bits.drop at_)<=c.errs then some at_ else c.fnd bits n (at_+1)) else none
def AX.find (c:AX) (bits:List Int):Option Nat:=c.fnd bits (bits.length+1) 0
theorem WX {c:AX}{bits:List Int}:∀{n a r:Nat},c.fnd bits n a=some r->a<=r/\r+c.tot<=bits.length/\B' c.mark (bits.drop r)<=c.errs/\∀j,a<=j->j<r->c.errs<B' c.mark (bits.drop j)
 |0,_,_,h=>by cases h
 |n+1,a,r,h=>by
  unfold AX.fnd at h
  split at h
  ·split at h
   ·cases h;exact⟨Nat.le_refl _,by assumption,by assumption,fun j h1 h2=>by omega⟩
   ·obtain⟨h1,h2,h3,h4⟩:=WX h
    refine⟨by omega,h2,h3,fun j h5 h6=>?_⟩
    by_cases e:j=a
    ·subst e;omega
    ·exact h4 j (by omega) h6
  ·cases h
theorem gf {c:AX}{bits:List Int}{r:Nat}(hr:r+c.tot<=bits.length) (hd:B' c.mark (bits.drop r)<=c.errs) :
  ∀{n a:Nat},a<=r->r<a+n->(∀j,a<=j->j<r->c.errs<B' c.mark (bits.drop j))->c.fnd bits n a=some r
 |0,a,h1,h2,_=>by omega
 |n+1,a,h1,h2,h3=>by
  unfold AX.fnd
  rw[if_pos (by omega)]
  by_cases e:a=r
  ·subst e;rw[if_pos hd]
  ·rw[if_neg (by have:=h3 a (Nat.le_refl _) (by omega);omega)]
   exact gf hr hd (by omega) (by omega) fun j h4 h5=>h3 j (by omega) h5
theorem LW {c:AX}{bits:List Int}{r:Nat}:c.find bits=some r↔r+c.tot<=bits.length/\B' c.mark (bits.drop r)<=c.errs/\∀j,j<r->c.errs<B' c.mark (bits.drop j):=by
 constructor
 ·intro h
  obtain⟨_,h1,h2,h3⟩:=WX h
  exact⟨h1,h2,fun j hj=>h3 j (Nat.zero_le _) hj⟩
 ·rintro⟨h1,h2,h3⟩
  exact gf h1 h2 (Nat.zero_le _) (by omega) fun j _ hj=>h3 j hj
def AX.part (c:AX) (bits:List Int) (at_ i:Nat):List Int:=(bits.drop (at_+c.mark.length+i*c.code.sz)).take c.code.sz
def AX.syL (c:AX) (bits:List Int) (at_:Nat):List (Option Nat):=(List.range c.syms).map fun i=>J2 c.code (c.part bits at_ i)
theorem HS (c:AX) (bits:List Int) (at_:Nat):(c.syL bits at_).length=c.syms:=by simp[AX.syL]
def GV (l:List (Option Nat)):List Int:=l.map fun x=>((x.getD 0:Nat):Int)
def J_ (l:List (Option Nat)):List Nat:=(List.range l.length).filter fun i=>(l[i]?.getD none).isNone
end Go.Pw
