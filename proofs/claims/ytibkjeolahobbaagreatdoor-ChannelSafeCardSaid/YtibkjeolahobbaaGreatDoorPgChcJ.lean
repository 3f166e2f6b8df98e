/- A part of the proof. -/
import Derived.Test.YtibkjeolahobbaaGreatDoorPgChcD
import Derived.Test.YtibkjeolahobbaaGreatDoorPwLaw
import Derived.Test.YtibkjeolahobbaaGreatDoorPwInt
set_option linter.all false
section
open Go Go.Pw Go.Proofs
namespace Go.Pw
set_option linter.unusedSimpArgs false
set_option linter.unusedVariables false
set_option maxRecDepth 100000
set_option maxHeartbeats 1600000
attribute [local congr] Bh A_ A' Ap Bi Av Ax Aw Ao Ah Ab AZ Ar Ac As BI BM BK BL BJ BN BF Af Au Ag BD BQ Ae BG BH BE BB BC A9 BA Aq Ad
attribute [local irreducible] IntKind.wrap A5 Option.getD and or
theorem PU (c:AU):∀(l:List Int) (s:Int),(c.stream s l).1.length=l.length * c.out.toNat
 |[],s=>by simp [AU.stream]
 |w :: l,s=>by
  simp only [AU.stream,List.length_append,H2,PU c l,List.length_cons,Nat.succ_mul]
  omega
theorem Dy {k:IntKind} {cs:List D} (h:Cr (.int k) cs):∃n,cs=[.int k n]:=by cases h with|int _ n _=>exact⟨n,rfl⟩
theorem Gs {cs:List D} (h:Cr (.list (.int .i64)) cs):∃nl l,cs=[.list nl (Ai l)]:=by
 cases h with|list _ nl xs h0 h1 h2 =>
 have:∃l,xs=Ai l:=by
  clear h0
  induction xs with
  |nil=>exact⟨[],rfl⟩
  |cons x xs ih =>
   obtain⟨l,rfl⟩:=ih (fun y hy=>h1 y (by simp [hy])) fun y hy=>h2 y (by simp [hy])
   obtain⟨n,hn⟩:=Dy (h1 x (by simp))
   have:=h2 x (by simp)
   rw [hn] at this
   exact⟨n :: l,by rw [this];rfl⟩
 obtain⟨l,rfl⟩:=this
 exact⟨nl,l,rfl⟩
theorem PM {cs:List D} (h:Cr (.list (.list (.int .i64))) cs):∃nl l,cs=[.list nl (F4 l)]:=by
 cases h with|list _ nl xs h0 h1 h2 =>
 have:∃l,xs=F4 l:=by
  clear h0
  induction xs with
  |nil=>exact⟨[],rfl⟩
  |cons x xs ih =>
   obtain⟨l,rfl⟩:=ih (fun y hy=>h1 y (by simp [hy])) fun y hy=>h2 y (by simp [hy])
   obtain⟨b,n,hn⟩:=Gs (h1 x (by simp))
   have:=h2 x (by simp)
   rw [hn] at this
   exact⟨(b,n) :: l,by rw [this];rfl⟩
 obtain⟨l,rfl⟩:=this
 exact⟨nl,l,rfl⟩
theorem Bq {T:Ty} {Ts:List Ty} {cs:List D} (h:Cr (.str (T :: Ts)) cs):∃a b,cs=a++b∧Cr T a∧Cr (.str Ts) b:=by
 cases h with|cons _ _ a b h1 h2=>exact⟨a,b,rfl,h1,h2⟩
theorem H7 {cs:List D} (h:Cr (.str []) cs):cs=[]:=by cases h;rfl
def jL:Ty:=.str [.int .i64,.int .i64,.int .i64,.int .i64,.list (.list (.int .i64)),.list (.list (.int .i64))]
def ml:Ty:=.str [.int .i64,.list (.int .i64),.list (.int .i64)]
end Go.Pw
end
section
open Go Go.Pw Go.Proofs
namespace Go.Pw
set_option linter.unusedSimpArgs false
set_option linter.unusedVariables false
set_option maxRecDepth 100000
set_option maxHeartbeats 800000
attribute [local congr] Bh A_ A' Ap Bi Av Ax Aw Ao Ah Ab AZ Ar Ac As BI BM BK BL BJ BN BF Af Au Ag BD BQ Ae BG BH BE BB BC A9 BA Aq Ad
attribute [local irreducible] IntKind.wrap A5 Option.getD and or
def Hi (s:Int):Int:=(2 * s+(s / 64 % 2+s / 32 % 2) % 2) % 128
def CR:Int→List Int→List Int
 |_,[]=>[]
 |s,x :: l=>((x+s / 64 % 2) % 2) :: CR (Hi s) l
def E1 (s:Int) (l:List Int):Bool:=Cj s 1 127 && decide (l.length≤128) && Ak l
def J' (s:Int) (l:List Int):List Int×Int:=if E1 s l then (CR s l,0) else ([],1)
theorem T8 {s:Int} {l:List Int} (h:E1 s l=true):J' s l=(CR s l,0):=by simp [J',h]
theorem RZ {s:Int} {l:List Int} (h:E1 s l=false):J' s l=([],1):=by simp [J',h]
theorem Fz (s:Int) (l:List Int):(CR s l).length=l.length:=by
 induction l generalizing s with
 |nil=>rfl
 |cons x l ih=>simp [CR,ih]
theorem V4 {s:Int} {l:List Int} (h:¬l.length≤128):E1 s l=false:=by simp [E1,h]
theorem UQ (s:Int):0≤Hi s∧Hi s≤127:=by simp only [Hi];omega
theorem bF:∀s:Fin 128,A5 .or .i64 (A5 .and .i64 (IntKind.i64.wrap ((s.val:Int) * 2 ^ min 1 64)) 127) (A5 .xor .i64 ((s.val:Int).fdiv (2 ^ min 6 64) % 2) ((s.val:Int).fdiv (2 ^ min 5 64) % 2))=Hi s.val:=by decide +kernel
theorem Yg {s:Int} (h:0≤s∧s≤127):A5 .or .i64 (A5 .and .i64 (IntKind.i64.wrap (s * 2 ^ min 1 64)) 127) (A5 .xor .i64 (s.fdiv (2 ^ min 6 64) % 2) (s.fdiv (2 ^ min 5 64) % 2))=Hi s:=by
 have:=bF ⟨s.toNat,by omega⟩
 simp only [Int.toNat_of_nonneg h.1] at this
 exact this
theorem ll {s:Int}:s.fdiv (2 ^ min 6 64)=s / 64:=by
 rw [Vv];rfl
theorem fN {x s:Int} (hx:x=0∨x=1):A5 .xor .i64 x (s.fdiv (2 ^ min 6 64) % 2)=(x+s / 64 % 2) % 2:=by
 rw [ll,SA hx (by omega)]
 split<;>omega
theorem EE (nl:Bool) (xs:List Int):CF E0 Jh [.list nl (Ai xs)] (.bool (Ak xs)):=by
 refine AO M4 Am (by simp) fun hwf=>?_
 simp only [Dl,DB,DA,Cw,D7,D6,Fi,D5,Bd,Bo,Bp,DC,B1,List.length_map,Bx,true_and,and_true] at hwf
 rw [AW];unfold IE
 simp -implicitDefEqProofs only [go_sem]
 refine AY (α:=Int) (l0:=?l1) (m0:=?m1) (fun x=>[(3,.d (.int .i64 x))]) (fun x=>[]) (fun x=>0≤x∧x≤xs.length∧Ak (xs.drop x.toNat)=Ak xs) (fun x=>(xs.length - x).toNat) ?a1_0 ?h01 ?he1 ?he21 ?hI1 ?step1
 case h01=>(simp -implicitDefEqProofs only [go_sem];rfl)
 case he1=>rfl
 case he21=>rfl
 case' step1=>(rintro i hI;try dsimp only at hI)
 case' hI1=>try dsimp only
 ·simp
 ·by_cases hi:i < xs.length
  ·have hd:Ak (xs.drop i.toNat)=(Cj (xs[i.toNat]?.getD 0) 0 1 && Ak (xs.drop (i+1).toNat)):=by
    rw [FS (xs:=xs) (i:=i.toNat) (by omega),show (i+1).toNat=i.toNat+1 by omega];rfl
   (try (simp -implicitDefEqProofs only [go_sem]));repeat' first|(with_reducible first|exact True.intro|refine And.intro ?_ ?_|intro _)|(((with_reducible refine isCall ?_);first|refine AF (Al _ _ _) rfl ?_ ?_|refine AE (Al _ _ _) rfl ?_|refine AB (Al _ _ _) rfl ?_ ?_|refine AG (Al _ _ _) rfl rfl ?_)<;>try (simp -implicitDefEqProofs only [go_sem]))|(((with_reducible refine AS ?_ ?_)<;>intro _)<;>try (simp -implicitDefEqProofs only [go_sem]))|simp (disch:=omega) only [AC,AH,AP,AJ,AD,AQ,AI,AA]|((with_reducible refine A4 ?_);refine⟨_,rfl,?_,?_⟩)
   all_goals (first|omega|skip)
   all_goals simp_all
  ·(try (simp -implicitDefEqProofs only [go_sem]));repeat' first|(with_reducible first|exact True.intro|refine And.intro ?_ ?_|intro _)|(((with_reducible refine AS ?_ ?_)<;>intro _)<;>try (simp -implicitDefEqProofs only [go_sem]))|simp (disch:=omega) only [AC,AH,AP,AJ,AD,AQ,AI,AA]|((with_reducible refine A4 ?_);refine⟨_,rfl,?_,?_⟩)
   all_goals first|omega|(simp;done)|(simp;omega)|skip
   have h0:xs.drop i.toNat=[]:=List.drop_eq_nil_of_le (by omega)
   rw [h0] at hI
   rw [←hI.2.2];rfl
theorem HB (s:Int) (nl:Bool) (l:List Int):CF E0 It [.int .i64 s,.list nl (Ai l)]
  (.tup [.list (J' s l).1.isEmpty (Ai (J' s l).1),.int .i64 (J' s l).2]):=by
 refine AO L9 Am (by simp) fun hwf=>?_
 simp only [Dl,DB,DA,Cw,D7,D6,Fi,D5,Bd,Bo,Bp,DC,B1,List.length_map,Bx,true_and,and_true] at hwf
 rw [AW];unfold Hd
 (try (simp -implicitDefEqProofs only [go_sem]));repeat' first|(with_reducible first|exact True.intro|refine And.intro ?_ ?_|intro _)|(((with_reducible refine isCall ?_);first|refine AF (Bw _ _) rfl ?_ ?_|refine AE (Bw _ _) rfl ?_|refine AB (Bw _ _) rfl ?_ ?_|refine AG (Bw _ _) rfl rfl ?_|refine AF (A8 _ _ _) rfl ?_ ?_|refine AE (A8 _ _ _) rfl ?_|refine AB (A8 _ _ _) rfl ?_ ?_|refine AG (A8 _ _ _) rfl rfl ?_)<;>try (simp -implicitDefEqProofs only [go_sem]))|(((with_reducible refine AS ?_ ?_)<;>intro _)<;>try (simp -implicitDefEqProofs only [go_sem]))|simp (disch:=omega) only [AC,AH,AP,AJ,AD,AQ,AI,AA]|((with_reducible refine CP ?_);refine⟨(_,_,_,_),rfl,?_,?_⟩)
 all_goals first
  |(
    have hx:E1 s l=false:=by(simp_all [E1];done)
    rw [RZ hx];rfl)
  |(
    have h9:¬l.length≤128:=by omega
    rw [RZ (V4 h9)];rfl)
  |skip
 have hb:Ak l=true:=by assumption
 have h128:l.length≤128:=by omega
 have hr:Cj s 1 127=true:=by assumption
 have hg:E1 s l=true:=by simp [E1,hb,h128,hr]
 have hs:1≤s∧s≤127:=by simp [E1,Cj] at hg;omega
 rw [T8 hg]
 refine AY (α:=Int×Int×Bool×(List Int)) (l0:=?l2) (m0:=?m2) (fun x=>[(25,.d (.int .i64 x.1)),(0,.d (.int .i64 x.2.1))]) (fun x=>[(37,.row R6 1 x.2.2.1 (Ai x.2.2.2))]) (fun x=>0≤x.1∧x.1≤l.length∧0≤x.2.1∧x.2.1≤127∧x.2.2.2.length=x.1.toNat∧x.2.2.1=x.2.2.2.isEmpty∧x.2.2.2++CR x.2.1 (l.drop x.1.toNat)=CR s l) (fun x=>(l.length - x.1).toNat) (?a2_0,?a2_1,?a2_2,[]) ?h02 ?he2 ?he22 ?hI2 ?step2
 case h02=>(simp -implicitDefEqProofs only [go_sem];rfl)
 case he2=>rfl
 case he22=>rfl
 case' step2=>(rintro⟨i,t,nl',acc⟩ hI;try dsimp only at hI)
 case' hI2=>try dsimp only
 ·simp;omega
 ·by_cases hi:i < l.length
  ·have hbit:=ET hb (i:=i.toNat) (by omega)
   have hstep:CR t (l.drop i.toNat)=((l[i.toNat]?.getD 0+t / 64 % 2) % 2) :: CR (Hi t) (l.drop (i+1).toNat):=by
     rw [FS (xs:=l) (i:=i.toNat) (by omega),CR,show (i+1).toNat=i.toNat+1 by omega]
   have hx:=fN (s:=t) hbit
   have hnx:=Yg (s:=t) (by omega)
   have hnb:=UQ t
   (try (simp -implicitDefEqProofs only [go_sem]));repeat' first|(with_reducible first|exact True.intro|refine And.intro ?_ ?_|intro _)|(((with_reducible refine AS ?_ ?_)<;>intro _)<;>try (simp -implicitDefEqProofs only [go_sem]))|simp (disch:=omega) only [AC,AH,AP,AJ,AD,AQ,AI,AA]|((with_reducible refine CP ?_);refine⟨(_,_,_,_),rfl,?_,?_⟩)
   all_goals (try simp only [hx,hnx])
   all_goals first|omega|(simp;done)|(simp;omega)|skip
   rw [←hI.2.2.2.2.2.2,hstep];simp
  ·(try (simp -implicitDefEqProofs only [go_sem]));repeat' first|(with_reducible first|exact True.intro|refine And.intro ?_ ?_|intro _)|(((with_reducible refine AS ?_ ?_)<;>intro _)<;>try (simp -implicitDefEqProofs only [go_sem]))|simp (disch:=omega) only [AC,AH,AP,AJ,AD,AQ,AI,AA]|((with_reducible refine CP ?_);refine⟨(_,_,_,_),rfl,?_,?_⟩)
   all_goals first|omega|(simp;done)|(simp;omega)|skip
   have h0:l.drop i.toNat=[]:=List.drop_eq_nil_of_le (by omega)
   have h1:=hI.2.2.2.2.2.2
   rw [h0,CR,List.append_nil] at h1
   rw [←h1,hI.2.2.2.2.2.1]
theorem J_ (s:Int) (l:List Int):Ak (CR s l)=true:=by
 induction l generalizing s with
 |nil=>rfl
 |cons x l ih =>
  have h1:=ih (Hi s)
  have e:Cj ((x+s / 64 % 2) % 2) 0 1=true:=by simp only [Cj,decide_eq_true_eq];omega
  simp only [Ak] at h1
  simp only [CR,Ak,List.all_cons,h1,e,Bool.and_true]
theorem SX (s:Int) (l:List Int) (h:Ak l=true):CR s (CR s l)=l:=by
 induction l generalizing s with
 |nil=>rfl
 |cons x l ih =>
  simp only [Ak,List.all_cons,Bool.and_eq_true,Cj,decide_eq_true_eq] at h
  have h1:=h.1
  rw [CR,CR,ih _ (by simpa [Ak,Cj] using h.2)]
  have:(((x+s / 64 % 2) % 2+s / 64 % 2) % 2)=x:=by omega
  rw [this]
end Go.Pw
end
section
open Go Go.Pw
namespace Go.Pw
set_option linter.unusedVariables false
def J1 (b:Nat) (s:Int):List Int:=(List.range (4 / b)).map fun j=>s / 2 ^ ((4 / b - 1 - j) * b) % 2 ^ b
def Gd (b:Nat) (l:List Int):Int:=l.foldl (fun a w=>a * 2 ^ b+w) 0
theorem HU (b:Nat) (s:Int):(J1 b s).length=4 / b:=by simp [J1]
theorem TT {b:Nat} (s w:Int) (h:w∈J1 b s):0≤w∧w≤2 ^ b - 1:=by
 simp only [J1,List.mem_map] at h
 obtain⟨j,_,rfl⟩:=h
 have h1:(0:Int) < 2 ^ b:=Int.pow_pos (by omega)
 have h2:=Int.emod_nonneg (s / 2 ^ ((4 / b - 1 - j) * b)) (show (2:Int) ^ b≠0 by omega)
 have h3:=Int.emod_lt_of_pos (s / 2 ^ ((4 / b - 1 - j) * b)) h1
 omega
theorem eZ {b:Nat} (hb:b=1∨b=2) {s:Int} (h:0≤s∧s≤15):Gd b (J1 b s)=s:=by
 obtain⟨s,rfl⟩:∃n:Nat,s=(n:Int):=⟨s.toNat,by omega⟩
 rcases hb with rfl|rfl
 ·show (((0 * 2+(s:Int) / 8 % 2) * 2+(s:Int) / 4 % 2) * 2+(s:Int) / 2 % 2) * 2+(s:Int) / 1 % 2=s
  omega
 ·show ((0 * 4+(s:Int) / 4 % 4) * 4+(s:Int) / 1 % 4)=s
  omega
theorem ah {b:Nat} (hb:b=1∨b=2) {l:List Int} (hl:l.length=4 / b) (h:∀w,w∈l→0≤w∧w≤2 ^ b - 1):0≤Gd b l∧Gd b l≤15:=by
 rcases hb with rfl|rfl
 ·match l,hl with
  |[x,y,z,w],_ =>
   have h1:=h x (by simp);have h2:=h y (by simp);have h3:=h z (by simp);have h4:=h w (by simp)
   simp only [Gd,List.foldl]
   omega
 ·match l,hl with
  |[x,y],_ =>
   have h1:=h x (by simp);have h2:=h y (by simp)
   simp only [Gd,List.foldl]
   omega
theorem YI (b:Nat) (l:List Int) (w:Int):Gd b (l++[w])=Gd b l * 2 ^ b+w:=by simp [Gd]
def mY (n:Nat) (sy:Int) (out:List Int) (f:Int):List Int:=if 0≤f∧f / n=sy then out.set (f % n).toNat (1 - out[(f % n).toNat]?.getD 0) else out
def nV (n:Nat) (sy:Int) (bits flips:List Int):List Int:=flips.foldl (mY n sy) bits
end Go.Pw
end
section
open Go Go.Pw
namespace Go.Pw
set_option linter.unusedSimpArgs false
set_option linter.unusedVariables false
structure AX where
 code:AU
 L:Int
 P:Int
 Q:Int
 nm:Bool
 mark:List Int
 seed:Int
 errs:Int
def VA (c:AX):List D:=[.int .i64 c.code.bits,.int .i64 c.code.out,.int .i64 c.code.least,.int .i64 c.code.most,.list c.code.nw (F4 c.code.words),.list c.code.nn (F4 c.code.next),.int .i64 c.L,.int .i64 c.P,.int .i64 c.Q,.list c.nm (Ai c.mark),.int .i64 c.seed,.int .i64 c.errs]
def FT (c:AX):D:=.agg (VA c)
theorem AK (c:AX):VA c=[.int .i64 c.code.bits,.int .i64 c.code.out,.int .i64 c.code.least,.int .i64 c.code.most,.list c.code.nw (F4 c.code.words),.list c.code.nn (F4 c.code.next),.int .i64 c.L,.int .i64 c.P,.int .i64 c.Q,.list c.nm (Ai c.mark),.int .i64 c.seed,.int .i64 c.errs]:=rfl
theorem AL (c:AX):FT c=.agg (VA c):=rfl
def AU.stm (c:AU) (s:Nat):List Int:=(c.stream 0 (J1 c.bits.toNat s)).1
def AU.sz (c:AU):Nat:=4 / c.bits.toNat * c.out.toNat
theorem K8 (c:AU) (s:Nat):(c.stm s).length=c.sz:=by unfold AU.stm AU.sz;rw [PU,HU]
theorem PH {c:AU} (h:c.ok=true):c.bits.toNat=1∨c.bits.toNat=2:=by have:=AU.ok_head h;omega
theorem Gt {c:AU} (h:c.ok=true):2≤c.sz∧c.sz≤20:=by
 have h1:=AU.ok_head h
 unfold AU.sz
 have h2:1≤c.out.toNat∧c.out.toNat≤5:=by omega
 rcases PH h with h3|h3<;>rw [h3]<;>simp<;>omega
theorem Vm {c:AU} (h:c.ok=true) (s:Nat):c.stm s≠[]:=fun e=>by
 have:=K8 c s
 rw [e] at this
 have:=Gt h
 simp at *;omega
theorem R1:∀(n:Nat) (w:Int),Ak (Cg n w)=true
 |0,_=>rfl
 |n+1,w=>by
  show (Cj (w / 2 ^ n % 2) 0 1 && Ak (Cg n w))=true
  rw [R1 n w,Bool.and_true]
  simp only [Cj,decide_eq_true_eq];omega
theorem Ho {a b:List Int} (ha:Ak a=true) (hb:Ak b=true):Ak (a++b)=true:=by
 simp only [Ak,List.all_eq_true,List.mem_append] at *
 exact fun x hx=>hx.elim (ha x) (hb x)
theorem OI (c:AU):∀(l:List Int) (s:Int),Ak (c.stream s l).1=true
 |[],_=>rfl
 |w :: l,s=>Ho (R1 ..) (OI c l _)
theorem Tj (c:AU) (s:Nat):Ak (c.stm s)=true:=OI ..
theorem PL {c:AU} (h:c.ok=true) (s:Int):∀w,w∈J1 c.bits.toNat s→c.isWord w=true:=fun w hw=>by
 have h1:=TT s w hw
 simp only [AU.isWord,Cj,decide_eq_true_eq];exact h1
theorem PJ {c:AU} (h:c.ok=true):c.isState 0=true:=by
 have:=AU.ok_head h
 simp only [AU.isState,Cj,decide_eq_true_eq];omega
theorem Ve {c:AU} (h:c.ok=true) (s:Int):c.isData (J1 c.bits.toNat s)=true:=by
 simp only [AU.isData,Bool.and_eq_true,decide_eq_true_eq,List.all_eq_true]
 refine⟨?_,PL h s⟩
 rw [HU]
 rcases PH h with h1|h1<;>rw [h1]<;>omega
theorem hC {c:AU} (h:c.ok=true) (s:Nat):c.encode 0 (J1 c.bits.toNat s)=(c.stm s,(c.stream 0 (J1 c.bits.toNat s)).2,0):=by
 unfold AU.encode AU.stm
 simp [h,PJ h,Ve h]
def Kd (c:AU) (m:Nat):Bool:=(List.range m).all fun a=>(List.range a).all fun b=>decide (c.stm b≠c.stm a)
theorem S0 {c:AU} {m:Nat}:Kd c m=true↔∀a b,a < m→b < a→c.stm b≠c.stm a:=by
 simp only [Kd,List.all_eq_true,List.mem_range,decide_eq_true_eq]
 exact⟨fun h a b ha hb=>h a ha b hb,fun h a ha b hb=>h a b ha hb⟩
theorem h_ {c:AU} {m a b:Nat} (h:Kd c m=true) (ha:a < m) (hb:b < m) (e:c.stm a=c.stm b):a=b:=by
 rw [S0] at h
 rcases Nat.lt_trichotomy a b with h1|h1|h1
 ·exact absurd e (h b a hb h1)
 ·exact h1
 ·exact absurd e.symm (h a b ha h1)
def SH (c:AU) (p:List Int):Option Nat:=(List.range 16).find? fun s=>decide (c.stm s=p)
theorem RH {c:AU} {p:List Int} {s:Nat} (h:SH c p=some s):s < 16∧c.stm s=p:=by
 have h1:=List.mem_of_find?_eq_some h
 have h2:=List.find?_some h
 exact⟨by simpa using h1,by simpa using h2⟩
theorem Ti {c:AU} (h:Kd c 16=true) {s:Nat} (hs:s < 16):SH c (c.stm s)=some s:=by
 cases he:SH c (c.stm s) with
 |none =>
  unfold SH at he
  rw [List.find?_eq_none] at he
  exact absurd (by simp) (he s (by simpa using hs))
 |some t =>
  obtain⟨h1,h2⟩:=RH he
  rw [h_ h h1 hs h2]
def lO (s:Int):Int:=Hi (Hi (Hi (Hi s)))
def i_ (s x:Int):Int:=Gd 1 (CR s (J1 1 x))
def Ck:Int→List Int→List Int
 |_,[]=>[]
 |s,x :: l=>i_ s x :: Ck (lO s) l
def mO (s:Int):Nat→Int
 |0=>s
 |n+1=>mO (lO s) n
theorem Db:∀(l:List Int) (s:Int),(Ck s l).length=l.length
 |[],_=>rfl
 |x :: l,s=>by simp [Ck,Db l]
theorem Pg:∀(l:List Int) (s:Int) (i:Nat),i < l.length→(Ck s l)[i]?.getD 0=i_ (mO s i) (l[i]?.getD 0)
 |[],_,_,h=>by cases h
 |x :: l,s,0,_=>rfl
 |x :: l,s,i+1,h=>by
  have:=Pg l (lO s) i (by simpa using h)
  simpa [Ck,mO] using this
theorem RD (x:Int):Ak (J1 1 x)=true:=by
 simp only [Ak,List.all_eq_true,Cj,decide_eq_true_eq]
 intro n hn
 have:=TT x n hn
 omega
theorem lx {l:List Int} (hl:l.length=4) (hb:Ak l=true):J1 1 (Gd 1 l)=l:=by
 match l,hl with
 |[a,b,c,d],_ =>
  have h:∀x,x∈[a,b,c,d]→0≤x∧x≤1:=fun x hx=>by
   simp only [Ak,List.all_eq_true] at hb
   have:=hb x hx
   simpa [Cj] using this
  have h1:=h a (by simp);have h2:=h b (by simp);have h3:=h c (by simp);have h4:=h d (by simp)
  have e1:((((0 * 2+a) * 2+b) * 2+c) * 2+d) / 8 % 2=a:=by omega
  have e2:((((0 * 2+a) * 2+b) * 2+c) * 2+d) / 4 % 2=b:=by omega
  have e3:((((0 * 2+a) * 2+b) * 2+c) * 2+d) / 2 % 2=c:=by omega
  have e4:((((0 * 2+a) * 2+b) * 2+c) * 2+d) / 1 % 2=d:=by omega
  show [((((0 * 2+a) * 2+b) * 2+c) * 2+d) / 8 % 2,((((0 * 2+a) * 2+b) * 2+c) * 2+d) / 4 % 2,((((0 * 2+a) * 2+b) * 2+c) * 2+d) / 2 % 2,((((0 * 2+a) * 2+b) * 2+c) * 2+d) / 1 % 2]=[a,b,c,d]
  rw [e1,e2,e3,e4]
theorem fP (s x:Int):0≤i_ s x∧i_ s x≤15:=by
 have h1:=J_ s (J1 1 x)
 have h2:=Fz s (J1 1 x)
 refine ah (b:=1) (.inl rfl) (by rw [h2,HU]) fun w hw=>?_
 simp only [Ak,List.all_eq_true] at h1
 have:=h1 w hw
 simp [Cj] at this
 omega
theorem fO (s:Int) {x:Int} (h:0≤x∧x≤15):i_ s (i_ s x)=x:=by
 have h2:=Fz s (J1 1 x)
 unfold i_
 rw [lx (by rw [h2,HU]) (J_ ..),SX _ _ (RD x)]
 exact eZ (.inl rfl) h
theorem H9:∀(l:List Int) (s:Int) (x:Int),x∈Ck s l→0≤x∧x≤15
 |[],_,_,h=>by cases h
 |y :: l,s,x,h=>by
  rcases List.mem_cons.1 h with rfl|h
  ·exact fP ..
  ·exact H9 l _ x h
def HP (l:List Int):List Int:=l.flatMap (J1 1)
def Th:List Int→List Int
 |a :: b :: c :: d :: l=>Gd 1 [a,b,c,d] :: Th l
 |_=>[]
theorem Pu (l:List Int):(HP l).length=4 * l.length:=by
 induction l with
 |nil=>rfl
 |cons x l ih=>simp only [HP,List.flatMap_cons,List.length_append,HU] at *;simp only [List.length_cons];omega
theorem Y4 (l:List Int):Ak (HP l)=true:=by
 induction l with
 |nil=>rfl
 |cons x l ih=>exact Ho (RD x) ih
theorem Pf:∀(a b:List Int) (s:Int),CR s (a++b)=CR s a++CR (a.foldl (fun t _=>Hi t) s) b
 |[],_,_=>rfl
 |x :: a,b,s=>by show _ :: CR (Hi s) (a++b)=_;rw [Pf a b];rfl
theorem RE:∀(l:List Int) (s:Int),Th (CR s (HP l))=Ck s l
 |[],_=>rfl
 |x :: l,s=>by
  show Th (CR s (J1 1 x++HP l))=i_ s x :: Ck (lO s) l
  rw [Pf,←RE l (lO s)]
  rfl
def AX.syms (c:AX):Nat:=(c.Q * c.L).toNat
def AX.tot (c:AX):Nat:=c.mark.length+c.syms * c.code.sz
def AX.fnd (c:AX) (bits:List Int):Nat→Nat→Option Nat
 |0,_=>none
 |n+1,at_=>if at_+c.tot≤bits.length then (if CX c.mark (bits.drop at_)≤c.errs then some at_ else c.fnd bits n (at_+1)) else none
def AX.find (c:AX) (bits:List Int):Option Nat:=c.fnd bits (bits.length+1) 0
theorem Un {c:AX} {bits:List Int}:∀{n a r:Nat},c.fnd bits n a=some r→a≤r∧r+c.tot≤bits.length∧CX c.mark (bits.drop r)≤c.errs∧∀j,a≤j→j < r→c.errs < CX c.mark (bits.drop j)
 |0,_,_,h=>by cases h
 |n+1,a,r,h=>by
  unfold AX.fnd at h
  split at h
  ·split at h
   ·cases h;exact⟨Nat.le_refl _,by assumption,by assumption,fun j h1 h2=>by omega⟩
   ·obtain⟨h1,h2,h3,h4⟩:=Un h
    refine⟨by omega,h2,h3,fun j h5 h6=>?_⟩
    by_cases e:j=a
    ·subst e;omega
    ·exact h4 j (by omega) h6
  ·cases h
theorem dJ {c:AX} {bits:List Int} {r:Nat} (hr:r+c.tot≤bits.length) (hd:CX c.mark (bits.drop r)≤c.errs) :
  ∀{n a:Nat},a≤r→r < a+n→(∀j,a≤j→j < r→c.errs < CX c.mark (bits.drop j))→c.fnd bits n a=some r
 |0,a,h1,h2,_=>by omega
 |n+1,a,h1,h2,h3=>by
  unfold AX.fnd
  rw [if_pos (by omega)]
  by_cases e:a=r
  ·subst e;rw [if_pos hd]
  ·rw [if_neg (by have:=h3 a (Nat.le_refl _) (by omega);omega)]
   exact dJ hr hd (by omega) (by omega) fun j h4 h5=>h3 j (by omega) h5
theorem Nx {c:AX} {bits:List Int} {r:Nat}:c.find bits=some r↔r+c.tot≤bits.length∧CX c.mark (bits.drop r)≤c.errs∧∀j,j < r→c.errs < CX c.mark (bits.drop j):=by
 constructor
 ·intro h
  obtain⟨_,h1,h2,h3⟩:=Un h
  exact⟨h1,h2,fun j hj=>h3 j (Nat.zero_le _) hj⟩
 ·rintro⟨h1,h2,h3⟩
  exact dJ h1 h2 (Nat.zero_le _) (by omega) fun j _ hj=>h3 j hj
def AX.part (c:AX) (bits:List Int) (at_ i:Nat):List Int:=(bits.drop (at_+c.mark.length+i * c.code.sz)).take c.code.sz
def AX.syL (c:AX) (bits:List Int) (at_:Nat):List (Option Nat):=(List.range c.syms).map fun i=>SH c.code (c.part bits at_ i)
theorem K7 (c:AX) (bits:List Int) (at_:Nat):(c.syL bits at_).length=c.syms:=by simp [AX.syL]
def MR (l:List (Option Nat)):List Int:=l.map fun x=>((x.getD 0:Nat):Int)
def Y6 (l:List (Option Nat)):List Nat:=(List.range l.length).filter fun i=>(l[i]?.getD none).isNone
end Go.Pw
end
