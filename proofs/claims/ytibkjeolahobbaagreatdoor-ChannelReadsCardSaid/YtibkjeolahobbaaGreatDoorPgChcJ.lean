/- A part of the proof. -/
import Derived.Test.YtibkjeolahobbaaGreatDoorPgChcD
import Derived.Test.YtibkjeolahobbaaGreatDoorPwLaw
import Derived.Test.YtibkjeolahobbaaGreatDoorPwInt
set_option linter.all false
open Go Go.Pw Go.Proofs
namespace Go.Pw
set_option maxRecDepth 100000
set_option maxHeartbeats 1600000
section
attribute [local congr] Bm A' BA Au Bn Az A1 A0 Ar Al Af Aa Aw Ag Ax BM BQ BO BP BN BR BG Aj Ay Ak BE BX Ai BK BL BF BH BJ BI BC BD A_ Bp BB Av Ah
attribute [local irreducible] IntKind.wrap A3 Option.getD and or
theorem Rv (c:AW):∀(l:List Int) (s:Int),(c.stream s l).1.length=l.length*c.out.toNat
 |[],s=>by simp[AW.stream]
 |w::l,s=>by
  simp only[AW.stream,List.length_append,Iz,Rv c l,List.length_cons,Nat.succ_mul]
  omega
theorem EO {k:IntKind}{cs:List D}(h:DC (.int k) cs):∃n,cs=[.int k n]:=by cases h with|int _ n _=>exact⟨n,rfl⟩
theorem Jv {cs:List D}(h:DC (.list (.int .i64)) cs):∃nl l,cs=[.list nl (Ab l)]:=by
 cases h with|list _ nl xs h0 h1 h2 =>
 have:∃l,xs=Ab l:=by
  clear h0
  induction xs with
  |nil=>exact⟨[],rfl⟩
  |cons x xs ih =>
   obtain⟨l,rfl⟩:=ih (fun y hy=>h1 y (by simp[hy])) fun y hy=>h2 y (by simp[hy])
   obtain⟨n,hn⟩:=EO (h1 x (by simp))
   have:=h2 x (by simp)
   rw[hn] at this
   exact⟨n::l,by rw[this];rfl⟩
 obtain⟨l,rfl⟩:=this
 exact⟨nl,l,rfl⟩
theorem Rn {cs:List D}(h:DC (.list (.list (.int .i64))) cs):∃nl l,cs=[.list nl (DE l)]:=by
 cases h with|list _ nl xs h0 h1 h2 =>
 have:∃l,xs=DE l:=by
  clear h0
  induction xs with
  |nil=>exact⟨[],rfl⟩
  |cons x xs ih =>
   obtain⟨l,rfl⟩:=ih (fun y hy=>h1 y (by simp[hy])) fun y hy=>h2 y (by simp[hy])
   obtain⟨b,n,hn⟩:=Jv (h1 x (by simp))
   have:=h2 x (by simp)
   rw[hn] at this
   exact⟨(b,n)::l,by rw[this];rfl⟩
 obtain⟨l,rfl⟩:=this
 exact⟨nl,l,rfl⟩
theorem CB {T:Ty}{Ts:List Ty}{cs:List D}(h:DC (.str (T::Ts)) cs):∃a b,cs=a++b/\DC T a/\DC (.str Ts) b:=by
 cases h with|cons _ _ a b h1 h2=>exact⟨a,b,rfl,h1,h2⟩
theorem I7 {cs:List D}(h:DC (.str []) cs):cs=[]:=by cases h;rfl
def nW:Ty:=.str [.int .i64,.int .i64,.int .i64,.int .i64,.list (.list (.int .i64)),.list (.list (.int .i64))]
def rP:Ty:=.str [.int .i64,.list (.int .i64),.list (.int .i64)]
end
section
attribute [local congr] Bm A' BA Au Bn Az A1 A0 Ar Al Af Aa Aw Ag Ax BM BQ BO BP BN BR BG Aj Ay Ak BE BX Ai BK BL BF BH BJ BI BC BD A_ Bp BB Av Ah
attribute [local irreducible] IntKind.wrap A3 Option.getD and or
def Gk (s:Int):Int:=(2*s+(s/64%2+s/32%2)%2)%128
def B1:Int->List Int->List Int
 |_,[]=>[]
 |s,x::l=>((x+s/64%2)%2)::B1 (Gk s) l
def DU (s:Int) (l:List Int):Bool:=C1 s 1 127 && decide (l.length<=128) && A8 l
def Hc (s:Int) (l:List Int):List Int×Int:=if DU s l then (B1 s l,0) else ([],1)
theorem OB {s:Int}{l:List Int}(h:DU s l=true):Hc s l=(B1 s l,0):=by simp[Hc,h]
theorem MN {s:Int}{l:List Int}(h:DU s l=false):Hc s l=([],1):=by simp[Hc,h]
theorem EP (s:Int) (l:List Int):(B1 s l).length=l.length:=by
 induction l generalizing s with
 |nil=>rfl
 |cons x l ih=>simp[B1,ih]
theorem R5 {s:Int}{l:List Int}(h:¬l.length<=128):DU s l=false:=by simp[DU,h]
theorem Qh (s:Int):0<=Gk s/\Gk s<=127:=by simp only[Gk];omega
theorem fP:∀s:Fin 128,A3 .or .i64 (A3 .and .i64 (IntKind.i64.wrap ((s.val:Int)*2^min 1 64)) 127) (A3 .xor .i64 ((s.val:Int).fdiv (2^min 6 64)%2) ((s.val:Int).fdiv (2^min 5 64)%2))=Gk s.val:=by decide +kernel
theorem cJ {s:Int}(h:0<=s/\s<=127):A3 .or .i64 (A3 .and .i64 (IntKind.i64.wrap (s*2^min 1 64)) 127) (A3 .xor .i64 (s.fdiv (2^min 6 64)%2) (s.fdiv (2^min 5 64)%2))=Gk s:=by
 have:=fP ⟨s.toNat,by omega⟩
 simp only[Int.toNat_of_nonneg h.1] at this
 exact this
theorem qZ {s:Int}:s.fdiv (2^min 6 64)=s/64:=by
 rw[VE];rfl
theorem kN {x s:Int}(hx:x=0\/x=1):A3 .xor .i64 x (s.fdiv (2^min 6 64)%2)=(x+s/64%2)%2:=by
 rw[qZ,Ux hx (by omega)]
 split<;>omega
theorem fe:∀s:Fin 128,(IntKind.i64.wrap (2*(s.val:Int)+(IntKind.i64.wrap ((IntKind.i64.wrap ((s.val:Int).tdiv 64)).tmod 2+(IntKind.i64.wrap ((s.val:Int).tdiv 32)).tmod 2)).tmod 2)).tmod 128=Gk s.val:=by decide +kernel
theorem cQ {s:Int}(h:0<=s/\s<=127):(IntKind.i64.wrap (2*s+(IntKind.i64.wrap ((IntKind.i64.wrap (s.tdiv 64)).tmod 2+(IntKind.i64.wrap (s.tdiv 32)).tmod 2)).tmod 2)).tmod 128=Gk s:=by
 have:=fe ⟨s.toNat,by omega⟩
 simp only[Int.toNat_of_nonneg h.1] at this
 exact this
theorem fc:∀s:Fin 128,∀x:Fin 2,(IntKind.i64.wrap ((x.val:Int)+(IntKind.i64.wrap ((s.val:Int).tdiv 64)).tmod 2)).tmod 2=((x.val:Int)+(s.val:Int)/64%2)%2:=by decide +kernel
theorem kX {x s:Int}(hx:x=0\/x=1) (h:0<=s/\s<=127):(IntKind.i64.wrap (x+(IntKind.i64.wrap (s.tdiv 64)).tmod 2)).tmod 2=(x+s/64%2)%2:=by
 have:=fc ⟨s.toNat,by omega⟩ ⟨x.toNat,by omega⟩
 simp only[Int.toNat_of_nonneg h.1,Int.toNat_of_nonneg (show 0<=x by omega)] at this
 exact this
theorem Fq (nl:Bool) (xs:List Int):CA E0 Km [.list nl (Ab xs)] (.bool (A8 xs)):=by
 refine AL Oo An (by simp) fun hwf=>?_
 simp only[DY,Cv,Cu,Ck,Dq,Dp,FD,Dn,Bj,Bt,Bu,Cy,B6,List.length_map,B4,true_and,and_true] at hwf
 rw[AR];unfold JE
 simp -implicitDefEqProofs only[go_sem]
 refine AX (α:=Int) (l0:=?l1) (m0:=?m1) (fun x=>[(3,.d (.int .i64 x))]) (fun x=>[]) (fun x=>0<=x/\x<=xs.length/\A8 (xs.drop x.toNat)=A8 xs) (fun x=>(xs.length-x).toNat) ?a1_0 ?h01 ?he1 ?he21 ?hI1 ?step1
 case h01=>(simp -implicitDefEqProofs only[go_sem];rfl)
 case he1=>rfl
 case he21=>rfl
 case' step1=>(rintro i hI;try dsimp only at hI)
 case' hI1=>try dsimp only
 ·simp
 ·by_cases hi:i<xs.length
  ·have hd:A8 (xs.drop i.toNat)=(C1 (xs[i.toNat]?.getD 0) 0 1 && A8 (xs.drop (i+1).toNat)):=by
    rw[FJ (xs:=xs) (i:=i.toNat) (by omega),show (i+1).toNat=i.toNat+1 by omega];rfl
   (try (simp -implicitDefEqProofs only[go_sem]));repeat' first|(with_reducible first|exact tI|refine aI ?_ ?_|intro _)|((first|with_reducible refine AK ?_ ?_<;>intro _|(with_reducible refine isCall ?_);first|refine AE (Co _ _ _) ?_)<;>try (simp -implicitDefEqProofs only[go_sem]))|simp (disch:=omega) only[Ae]|((with_reducible refine Ad ?_);refine⟨_,rfl,?_,?_⟩)
   all_goals (first|omega|skip)
   all_goals simp_all
  ·(try (simp -implicitDefEqProofs only[go_sem]));repeat' first|(with_reducible first|exact tI|refine aI ?_ ?_|intro _)|((first|with_reducible refine AK ?_ ?_<;>intro _)<;>try (simp -implicitDefEqProofs only[go_sem]))|simp (disch:=omega) only[Ae]|((with_reducible refine Ad ?_);refine⟨_,rfl,?_,?_⟩)
   all_goals first|omega|(simp<;>omega)|skip
   have h0:xs.drop i.toNat=[]:=List.drop_eq_nil_of_le (by omega)
   rw[h0] at hI
   rw[←hI.2.2];rfl
theorem Hw (s:Int) (nl:Bool) (l:List Int):CA E0 Jq [.int .i64 s,.list nl (Ab l)]
  (.tup [.list (Hc s l).1.isEmpty (Ab (Hc s l).1),.int .i64 (Hc s l).2]):=by
 refine AL Nn An (by simp) fun hwf=>?_
 simp only[DY,Cv,Cu,Ck,Dq,Dp,FD,Dn,Bj,Bt,Bu,Cy,B6,List.length_map,B4,true_and,and_true] at hwf
 rw[AR];unfold IR
 (try (simp -implicitDefEqProofs only[go_sem]));repeat' first|(with_reducible first|exact tI|refine aI ?_ ?_|intro _)|((first|with_reducible refine AK ?_ ?_<;>intro _|(with_reducible refine isCall ?_);first|refine AE (Ix _ _) ?_|refine AE (Ct _ _ _) ?_)<;>try (simp -implicitDefEqProofs only[go_sem]))|simp (disch:=omega) only[Ae]|((with_reducible refine Bf ?_);refine⟨(_,_,_,_),rfl,?_,?_⟩)
 all_goals first
  |(
    have hx:DU s l=false:=by(simp_all[DU];done)
    rw[MN hx];rfl)
  |(
    have h9:¬l.length<=128:=by omega
    rw[MN (R5 h9)];rfl)
  |skip
 have hb:A8 l=true:=by assumption
 have h128:l.length<=128:=by omega
 have hr:C1 s 1 127=true:=by assumption
 have hg:DU s l=true:=by simp[DU,hb,h128,hr]
 have hs:1<=s/\s<=127:=by simp[DU,C1] at hg;omega
 rw[OB hg]
 refine AX (α:=Int×Int×Bool×(List Int)) (l0:=?l2) (m0:=?m2) (fun x=>[(25,.d (.int .i64 x.1)),(0,.d (.int .i64 x.2.1))]) (fun x=>[(37,.row TS 1 x.2.2.1 (Ab x.2.2.2))]) (fun x=>0<=x.1/\x.1<=l.length/\0<=x.2.1/\x.2.1<=127/\x.2.2.2.length=x.1.toNat/\x.2.2.1=x.2.2.2.isEmpty/\x.2.2.2++B1 x.2.1 (l.drop x.1.toNat)=B1 s l) (fun x=>(l.length-x.1).toNat) (?a2_0,?a2_1,?a2_2,[]) ?h02 ?he2 ?he22 ?hI2 ?step2
 case h02=>(simp -implicitDefEqProofs only[go_sem];rfl)
 case he2=>rfl
 case he22=>rfl
 case' step2=>(rintro⟨i,t,nl',acc⟩ hI;try dsimp only at hI)
 case' hI2=>try dsimp only
 ·simp;omega
 ·by_cases hi:i<l.length
  ·have hbit:=Fi hb (i:=i.toNat) (by omega)
   have hstep:B1 t (l.drop i.toNat)=((l[i.toNat]?.getD 0+t/64%2)%2)::B1 (Gk t) (l.drop (i+1).toNat):=by
     rw[FJ (xs:=l) (i:=i.toNat) (by omega),B1,show (i+1).toNat=i.toNat+1 by omega]
   have hx:=kN (s:=t) hbit
   have hnx:=cJ (s:=t) (by omega)
   have hnb:=Qh t
   (try (simp -implicitDefEqProofs only[go_sem]));repeat' first|(with_reducible first|exact tI|refine aI ?_ ?_|intro _)|((first|with_reducible refine AK ?_ ?_<;>intro _)<;>try (simp -implicitDefEqProofs only[go_sem]))|simp (disch:=omega) only[Ae]|((with_reducible refine Bf ?_);refine⟨(_,_,_,_),rfl,?_,?_⟩)
   all_goals (try simp only[hx,hnx])
   all_goals first|omega|(simp<;>omega)|skip
   rw[←hI.2.2.2.2.2.2,hstep];simp
  ·(try (simp -implicitDefEqProofs only[go_sem]));repeat' first|(with_reducible first|exact tI|refine aI ?_ ?_|intro _)|((first|with_reducible refine AK ?_ ?_<;>intro _)<;>try (simp -implicitDefEqProofs only[go_sem]))|simp (disch:=omega) only[Ae]|((with_reducible refine Bf ?_);refine⟨(_,_,_,_),rfl,?_,?_⟩)
   all_goals first|omega|(simp<;>omega)|skip
   have h0:l.drop i.toNat=[]:=List.drop_eq_nil_of_le (by omega)
   have h1:=hI.2.2.2.2.2.2
   rw[h0,B1,List.append_nil] at h1
   rw[←h1,hI.2.2.2.2.2.1]
theorem NV (s:Int) (nl:Bool) (l:List Int):CA E0 Jk [.int .i64 s,.list nl (Ab l)]
  (.tup [.list (Hc s l).1.isEmpty (Ab (Hc s l).1),.int .i64 (Hc s l).2]):=by
 refine AL Ni An (by simp) fun hwf=>?_
 simp only[DY,Cv,Cu,Ck,Dq,Dp,FD,Dn,Bj,Bt,Bu,Cy,B6,List.length_map,B4,true_and,and_true] at hwf
 rw[AR];unfold IK
 (try (simp -implicitDefEqProofs only[go_sem]));repeat' first|(with_reducible first|exact tI|refine aI ?_ ?_|intro _)|((first|with_reducible refine AK ?_ ?_<;>intro _|(with_reducible refine isCall ?_);first|refine AE (Fq _ _) ?_|refine AE (Co _ _ _) ?_)<;>try (simp -implicitDefEqProofs only[go_sem]))|simp (disch:=omega) only[Ae]|((with_reducible refine Bf ?_);refine⟨(_,_,_,_),rfl,?_,?_⟩)
 all_goals first
  |(
    have hx:DU s l=false:=by(simp_all[DU];done)
    rw[MN hx];rfl)
  |(
    have h9:¬l.length<=128:=by omega
    rw[MN (R5 h9)];rfl)
  |skip
 have hb:A8 l=true:=by assumption
 have h128:l.length<=128:=by omega
 have hr:C1 s 1 127=true:=by assumption
 have hg:DU s l=true:=by simp[DU,hb,h128,hr]
 have hs:1<=s/\s<=127:=by simp[DU,C1] at hg;omega
 rw[OB hg]
 refine AX (α:=Int×Int×Bool×(List Int)) (l0:=?l3) (m0:=?m3) (fun x=>[(8,.d (.int .i64 x.1)),(7,.d (.int .i64 x.2.1))]) (fun x=>[(46,.row TS 1 x.2.2.1 (Ab x.2.2.2))]) (fun x=>0<=x.1/\x.1<=l.length/\0<=x.2.1/\x.2.1<=127/\x.2.2.2.length=x.1.toNat/\x.2.2.1=x.2.2.2.isEmpty/\x.2.2.2++B1 x.2.1 (l.drop x.1.toNat)=B1 s l) (fun x=>(l.length-x.1).toNat) (?a3_0,?a3_1,?a3_2,[]) ?h03 ?he3 ?he23 ?hI3 ?step3
 case h03=>(simp -implicitDefEqProofs only[go_sem];rfl)
 case he3=>rfl
 case he23=>rfl
 case' step3=>(rintro⟨i,t,nl',acc⟩ hI;try dsimp only at hI)
 case' hI3=>try dsimp only
 ·simp;omega
 ·by_cases hi:i<l.length
  ·have hbit:=Fi hb (i:=i.toNat) (by omega)
   have hstep:B1 t (l.drop i.toNat)=((l[i.toNat]?.getD 0+t/64%2)%2)::B1 (Gk t) (l.drop (i+1).toNat):=by
     rw[FJ (xs:=l) (i:=i.toNat) (by omega),B1,show (i+1).toNat=i.toNat+1 by omega]
   have hx:=kX (s:=t) hbit (by omega)
   have hnx:=cQ (s:=t) (by omega)
   have hnb:=Qh t
   have hny:=hnx
   rw[Int.tmod.eq_def _ 128] at hny
   (try (simp -implicitDefEqProofs only[go_sem,hx,hnx]));repeat' first|(with_reducible first|exact tI|refine aI ?_ ?_|intro _)|((first|with_reducible refine AK ?_ ?_<;>intro _)<;>try (simp -implicitDefEqProofs only[go_sem,hx,hnx]))|simp (disch:=omega) only[Ae]|((with_reducible refine Bf ?_);refine⟨(_,_,_,_),rfl,?_,?_⟩)
   all_goals (try rw[hny])
   all_goals (try rw[hx])
   all_goals first|omega|(simp<;>omega)|skip
   rw[←hI.2.2.2.2.2.2,hstep];simp
  ·(try (simp -implicitDefEqProofs only[go_sem]));repeat' first|(with_reducible first|exact tI|refine aI ?_ ?_|intro _)|((first|with_reducible refine AK ?_ ?_<;>intro _)<;>try (simp -implicitDefEqProofs only[go_sem]))|simp (disch:=omega) only[Ae]|((with_reducible refine Bf ?_);refine⟨(_,_,_,_),rfl,?_,?_⟩)
   all_goals first|omega|(simp<;>omega)|skip
   have h0:l.drop i.toNat=[]:=List.drop_eq_nil_of_le (by omega)
   have h1:=hI.2.2.2.2.2.2
   rw[h0,B1,List.append_nil] at h1
   rw[←h1,hI.2.2.2.2.2.1]
theorem IE (s:Int) (l:List Int):A8 (B1 s l)=true:=by
 induction l generalizing s with
 |nil=>rfl
 |cons x l ih =>
  have h1:=ih (Gk s)
  have e:C1 ((x+s/64%2)%2) 0 1=true:=by simp only[C1,decide_eq_true_eq];omega
  simp only[A8] at h1
  simp only[B1,A8,List.all_cons,h1,e,Bool.and_true]
theorem VG (s:Int) (l:List Int) (h:A8 l=true):B1 s (B1 s l)=l:=by
 induction l generalizing s with
 |nil=>rfl
 |cons x l ih =>
  simp only[A8,List.all_cons,Bool.and_eq_true,C1,decide_eq_true_eq] at h
  have h1:=h.1
  rw[B1,B1,ih _ (by simpa[A8,C1] using h.2)]
  have:(((x+s/64%2)%2+s/64%2)%2)=x:=by omega
  rw[this]
end
def I5 (b:Nat) (s:Int):List Int:=(List.range (4/b)).map fun j=>s/2^((4/b-1-j)*b)%2^b
def Gb (b:Nat) (l:List Int):Int:=l.foldl (fun a w=>a*2^b+w) 0
theorem Fn (b:Nat) (s:Int):(I5 b s).length=4/b:=by simp[I5]
theorem WR {b:Nat}(s w:Int) (h:w∈I5 b s):0<=w/\w<=2^b-1:=by
 simp only[I5,List.mem_map] at h
 obtain⟨j,_,rfl⟩:=h
 have h1:(0:Int)<2^b:=Int.pow_pos (by omega)
 have h2:=Int.emod_nonneg (s/2^((4/b-1-j)*b)) (show (2:Int)^b≠0 by omega)
 have h3:=Int.emod_lt_of_pos (s/2^((4/b-1-j)*b)) h1
 omega
theorem jj {b:Nat}(hb:b=1\/b=2) {s:Int}(h:0<=s/\s<=15):Gb b (I5 b s)=s:=by
 obtain⟨s,rfl⟩:∃n:Nat,s=(n:Int):=⟨s.toNat,by omega⟩
 rcases hb with rfl|rfl
 ·show (((0*2+(s:Int)/8%2)*2+(s:Int)/4%2)*2+(s:Int)/2%2)*2+(s:Int)/1%2=s
  omega
 ·show ((0*4+(s:Int)/4%4)*4+(s:Int)/1%4)=s
  omega
theorem en {b:Nat}(hb:b=1\/b=2) {l:List Int}(hl:l.length=4/b) (h:∀w,w∈l->0<=w/\w<=2^b-1):0<=Gb b l/\Gb b l<=15:=by
 rcases hb with rfl|rfl
 ·match l,hl with
  |[x,y,z,w],_ =>
   have h1:=h x (by simp);have h2:=h y (by simp);have h3:=h z (by simp);have h4:=h w (by simp)
   simp only[Gb,List.foldl]
   omega
 ·match l,hl with
  |[x,y],_ =>
   have h1:=h x (by simp);have h2:=h y (by simp)
   simp only[Gb,List.foldl]
   omega
theorem bh (b:Nat) (l:List Int) (w:Int):Gb b (l++[w])=Gb b l*2^b+w:=by simp[Gb]
def rC (n:Nat) (sy:Int) (out:List Int) (f:Int):List Int:=if 0<=f/\f/n=sy then out.set (f%n).toNat (1-out[(f%n).toNat]?.getD 0) else out
def r9 (n:Nat) (sy:Int) (bits flips:List Int):List Int:=flips.foldl (rC n sy) bits
structure AY where
 code:AW
 L:Int
 P:Int
 Q:Int
 nm:Bool
 mark:List Int
 seed:Int
 errs:Int
def YG (c:AY):List D:=[.int .i64 c.code.bits,.int .i64 c.code.out,.int .i64 c.code.least,.int .i64 c.code.most,.list c.code.nw (DE c.code.words),.list c.code.nn (DE c.code.next),.int .i64 c.L,.int .i64 c.P,.int .i64 c.Q,.list c.nm (Ab c.mark),.int .i64 c.seed,.int .i64 c.errs]
def DX (c:AY):D:=.agg (YG c)
theorem AO (c:AY):YG c=[.int .i64 c.code.bits,.int .i64 c.code.out,.int .i64 c.code.least,.int .i64 c.code.most,.list c.code.nw (DE c.code.words),.list c.code.nn (DE c.code.next),.int .i64 c.L,.int .i64 c.P,.int .i64 c.Q,.list c.nm (Ab c.mark),.int .i64 c.seed,.int .i64 c.errs]:=rfl
theorem AP (c:AY):DX c=.agg (YG c):=rfl
def AW.stm (c:AW) (s:Nat):List Int:=(c.stream 0 (I5 c.bits.toNat s)).1
def AW.sz (c:AW):Nat:=4/c.bits.toNat * c.out.toNat
theorem Jx (c:AW) (s:Nat):(c.stm s).length=c.sz:=by unfold AW.stm AW.sz;rw[Rv,Fn]
theorem Rf {c:AW}(h:c.ok=true):c.bits.toNat=1\/c.bits.toNat=2:=by have:=AW.ok_head h;omega
theorem Ha {c:AW}(h:c.ok=true):2<=c.sz/\c.sz<=20:=by
 have h1:=AW.ok_head h
 unfold AW.sz
 have h2:1<=c.out.toNat/\c.out.toNat<=5:=by omega
 rcases Rf h with h3|h3<;>rw[h3]<;>simp<;>omega
theorem U2 {c:AW}(h:c.ok=true) (s:Nat):c.stm s≠[]:=fun e=>by
 have:=Jx c s
 rw[e] at this
 have:=Ha h
 simp at *;omega
theorem Um:∀(n:Nat) (w:Int),A8 (C5 n w)=true
 |0,_=>rfl
 |n+1,w=>by
  show (C1 (w/2^n%2) 0 1 && A8 (C5 n w))=true
  rw[Um n w,Bool.and_true]
  simp only[C1,decide_eq_true_eq];omega
theorem Qt {a b:List Int}(ha:A8 a=true) (hb:A8 b=true):A8 (a++b)=true:=by
 simp only[A8,List.all_eq_true,List.mem_append] at *
 exact fun x hx=>hx.elim (ha x) (hb x)
theorem QU (c:AW):∀(l:List Int) (s:Int),A8 (c.stream s l).1=true
 |[],_=>rfl
 |w::l,s=>Qt (Um ..) (QU c l _)
theorem ep (c:AW) (s:Nat):A8 (c.stm s)=true:=QU ..
theorem Rk {c:AW}(h:c.ok=true) (s:Int):∀w,w∈I5 c.bits.toNat s->c.isWord w=true:=fun w hw=>by
 have h1:=WR s w hw
 simp only[AW.isWord,C1,decide_eq_true_eq];exact h1
theorem Rj {c:AW}(h:c.ok=true):c.isState 0=true:=by
 have:=AW.ok_head h
 simp only[AW.isState,C1,decide_eq_true_eq];omega
theorem Yi {c:AW}(h:c.ok=true) (s:Int):c.isData (I5 c.bits.toNat s)=true:=by
 simp only[AW.isData,Bool.and_eq_true,decide_eq_true_eq,List.all_eq_true]
 refine⟨?_,Rk h s⟩
 rw[Fn]
 rcases Rf h with h1|h1<;>rw[h1]<;>omega
theorem mJ {c:AW}(h:c.ok=true) (s:Nat):c.encode 0 (I5 c.bits.toNat s)=(c.stm s,(c.stream 0 (I5 c.bits.toNat s)).2,0):=by
 unfold AW.encode AW.stm
 simp[h,Rj h,Yi h]
def JV (c:AW) (m:Nat):Bool:=(List.range m).all fun a=>(List.range a).all fun b=>decide (c.stm b≠c.stm a)
theorem Vt {c:AW}{m:Nat}:JV c m=true↔∀a b,a<m->b<a->c.stm b≠c.stm a:=by
 simp only[JV,List.all_eq_true,List.mem_range,decide_eq_true_eq]
 exact⟨fun h a b ha hb=>h a ha b hb,fun h a ha b hb=>h a b ha hb⟩
theorem mL {c:AW}{m a b:Nat}(h:JV c m=true) (ha:a<m) (hb:b<m) (e:c.stm a=c.stm b):a=b:=by
 rw[Vt] at h
 rcases Nat.lt_trichotomy a b with h1|h1|h1
 ·exact absurd e (h b a hb h1)
 ·exact h1
 ·exact absurd e.symm (h a b ha h1)
def Kw (c:AW) (p:List Int):Option Nat:=(List.range 16).find? fun s=>decide (c.stm s=p)
theorem MI {c:AW}{p:List Int}{s:Nat}(h:Kw c p=some s):s<16/\c.stm s=p:=by
 have h1:=List.mem_of_find?_eq_some h
 have h2:=List.find?_some h
 exact⟨by simpa using h1,by simpa using h2⟩
theorem Rs {c:AW}(h:JV c 16=true) {s:Nat}(hs:s<16):Kw c (c.stm s)=some s:=by
 cases he:Kw c (c.stm s) with
 |none =>
  unfold Kw at he
  rw[List.find?_eq_none] at he
  exact absurd (by simp) (he s (by simpa using hs))
 |some t =>
  obtain⟨h1,h2⟩:=MI he
  rw[mL h h1 hs h2]
def qL (s:Int):Int:=Gk (Gk (Gk (Gk s)))
def nD (s x:Int):Int:=Gb 1 (B1 s (I5 1 x))
def CG:Int->List Int->List Int
 |_,[]=>[]
 |s,x::l=>nD s x::CG (qL s) l
def q7 (s:Int):Nat->Int
 |0=>s
 |n+1=>q7 (qL s) n
theorem CX:∀(l:List Int) (s:Int),(CG s l).length=l.length
 |[],_=>rfl
 |x::l,s=>by simp[CG,CX l]
theorem R7:∀(l:List Int) (s:Int) (i:Nat),i<l.length->(CG s l)[i]?.getD 0=nD (q7 s i) (l[i]?.getD 0)
 |[],_,_,h=>by cases h
 |x::l,s,0,_=>rfl
 |x::l,s,i+1,h=>by
  have:=R7 l (qL s) i (by simpa using h)
  simpa[CG,q7] using this
theorem T5 (x:Int):A8 (I5 1 x)=true:=by
 simp only[A8,List.all_eq_true,C1,decide_eq_true_eq]
 intro n hn
 have:=WR x n hn
 omega
theorem nX {l:List Int}(hl:l.length=4) (hb:A8 l=true):I5 1 (Gb 1 l)=l:=by
 match l,hl with
 |[a,b,c,d],_ =>
  have h:∀x,x∈[a,b,c,d]->0<=x/\x<=1:=fun x hx=>by
   simp only[A8,List.all_eq_true] at hb
   have:=hb x hx
   simpa[C1] using this
  have h1:=h a (by simp);have h2:=h b (by simp);have h3:=h c (by simp);have h4:=h d (by simp)
  have e1:((((0*2+a)*2+b)*2+c)*2+d)/8%2=a:=by omega
  have e2:((((0*2+a)*2+b)*2+c)*2+d)/4%2=b:=by omega
  have e3:((((0*2+a)*2+b)*2+c)*2+d)/2%2=c:=by omega
  have e4:((((0*2+a)*2+b)*2+c)*2+d)/1%2=d:=by omega
  show [((((0*2+a)*2+b)*2+c)*2+d)/8%2,((((0*2+a)*2+b)*2+c)*2+d)/4%2,((((0*2+a)*2+b)*2+c)*2+d)/2%2,((((0*2+a)*2+b)*2+c)*2+d)/1%2]=[a,b,c,d]
  rw[e1,e2,e3,e4]
theorem kQ (s x:Int):0<=nD s x/\nD s x<=15:=by
 have h1:=IE s (I5 1 x)
 have h2:=EP s (I5 1 x)
 refine en (b:=1) (.inl rfl) (by rw[h2,Fn]) fun w hw=>?_
 simp only[A8,List.all_eq_true] at h1
 have:=h1 w hw
 simp[C1] at this
 omega
theorem kP (s:Int) {x:Int}(h:0<=x/\x<=15):nD s (nD s x)=x:=by
 have h2:=EP s (I5 1 x)
 unfold nD
 rw[nX (by rw[h2,Fn]) (IE ..),VG _ _ (T5 x)]
 exact jj (.inl rfl) h
theorem Hd:∀(l:List Int) (s:Int) (x:Int),x∈CG s l->0<=x/\x<=15
 |[],_,_,h=>by cases h
 |y::l,s,x,h=>by
  rcases List.mem_cons.1 h with rfl|h
  ·exact kQ ..
  ·exact Hd l _ x h
def EW (l:List Int):List Int:=l.flatMap (I5 1)
def Wb:List Int->List Int
 |a::b::c::d::l=>Gb 1 [a,b,c,d]::Wb l
 |_=>[]
theorem JT (l:List Int):(EW l).length=4*l.length:=by
 induction l with
 |nil=>rfl
 |cons x l ih=>simp only[EW,List.flatMap_cons,List.length_append,Fn] at *;simp only[List.length_cons];omega
theorem UR (l:List Int):A8 (EW l)=true:=by
 induction l with
 |nil=>rfl
 |cons x l ih=>exact Qt (T5 x) ih
theorem R6:∀(a b:List Int) (s:Int),B1 s (a++b)=B1 s a++B1 (a.foldl (fun t _=>Gk t) s) b
 |[],_,_=>rfl
 |x::a,b,s=>by show _::B1 (Gk s) (a++b)=_;rw[R6 a b];rfl
theorem T6:∀(l:List Int) (s:Int),Wb (B1 s (EW l))=CG s l
 |[],_=>rfl
 |x::l,s=>by
  show Wb (B1 s (I5 1 x++EW l))=nD s x::CG (qL s) l
  rw[R6,←T6 l (qL s)]
  rfl
def AY.syms (c:AY):Nat:=(c.Q*c.L).toNat
def AY.tot (c:AY):Nat:=c.mark.length+c.syms*c.code.sz
def AY.fnd (c:AY) (bits:List Int):Nat->Nat->Option Nat
 |0,_=>none
 |n+1,at_=>if at_+c.tot<=bits.length then (if Cs c.mark (bits.drop at_)<=c.errs then some at_ else c.fnd bits n (at_+1)) else none
def AY.find (c:AY) (bits:List Int):Option Nat:=c.fnd bits (bits.length+1) 0
theorem Xk {c:AY}{bits:List Int}:∀{n a r:Nat},c.fnd bits n a=some r->a<=r/\r+c.tot<=bits.length/\Cs c.mark (bits.drop r)<=c.errs/\∀j,a<=j->j<r->c.errs<Cs c.mark (bits.drop j)
 |0,_,_,h=>by cases h
 |n+1,a,r,h=>by
  unfold AY.fnd at h
  split at h
  ·split at h
   ·cases h;exact⟨Nat.le_refl _,by assumption,by assumption,fun j h1 h2=>by omega⟩
   ·obtain⟨h1,h2,h3,h4⟩:=Xk h
    refine⟨by omega,h2,h3,fun j h5 h6=>?_⟩
    by_cases e:j=a
    ·subst e;omega
    ·exact h4 j (by omega) h6
  ·cases h
theorem iP {c:AY}{bits:List Int}{r:Nat}(hr:r+c.tot<=bits.length) (hd:Cs c.mark (bits.drop r)<=c.errs) :
  ∀{n a:Nat},a<=r->r<a+n->(∀j,a<=j->j<r->c.errs<Cs c.mark (bits.drop j))->c.fnd bits n a=some r
 |0,a,h1,h2,_=>by omega
 |n+1,a,h1,h2,h3=>by
  unfold AY.fnd
  rw[if_pos (by omega)]
  by_cases e:a=r
  ·subst e;rw[if_pos hd]
  ·rw[if_neg (by have:=h3 a (Nat.le_refl _) (by omega);omega)]
   exact iP hr hd (by omega) (by omega) fun j h4 h5=>h3 j (by omega) h5
theorem MR {c:AY}{bits:List Int}{r:Nat}:c.find bits=some r↔r+c.tot<=bits.length/\Cs c.mark (bits.drop r)<=c.errs/\∀j,j<r->c.errs<Cs c.mark (bits.drop j):=by
 constructor
 ·intro h
  obtain⟨_,h1,h2,h3⟩:=Xk h
  exact⟨h1,h2,fun j hj=>h3 j (Nat.zero_le _) hj⟩
 ·rintro⟨h1,h2,h3⟩
  exact iP h1 h2 (Nat.zero_le _) (by omega) fun j _ hj=>h3 j hj
def AY.part (c:AY) (bits:List Int) (at_ i:Nat):List Int:=(bits.drop (at_+c.mark.length+i*c.code.sz)).take c.code.sz
def AY.syL (c:AY) (bits:List Int) (at_:Nat):List (Option Nat):=(List.range c.syms).map fun i=>Kw c.code (c.part bits at_ i)
theorem Jw (c:AY) (bits:List Int) (at_:Nat):(c.syL bits at_).length=c.syms:=by simp[AY.syL]
def HJ (l:List (Option Nat)):List Int:=l.map fun x=>((x.getD 0:Nat):Int)
def Na (l:List (Option Nat)):List Nat:=(List.range l.length).filter fun i=>(l[i]?.getD none).isNone
end Go.Pw
