/- A part of the proof. -/
import Derived.Test.YtmdklgapccickaaGreatDoorPgMvChcD
import Derived.Test.YtmdklgapccickaaGreatDoorPwLaw
import Derived.Test.YtmdklgapccickaaGreatDoorPwInt
set_option linter.all false
open Go Go.Pw Go.Proofs
namespace Go.Pw
set_option maxRecDepth 100000
set_option maxHeartbeats 1600000
section
attribute [local congr] Bm BC BD Ak Bn Aq Au Ar Aj Af AY AU Am AZ BR BS BP Ao An Ad Ap Ae BH BZ Ab BM BN BI BJ BL BK BF BG BB Bq BE Al Aa Ba Ag Av BQ
attribute [local irreducible] IntKind.wrap A0 Option.getD and or
theorem ND (c:GCode):∀(l:List Int) (s:Int),(c.stream s l).1.length=l.length*c.out.toNat
 |[],s=>by simp[GCode.stream]
 |w::l,s=>by
  simp only[GCode.stream,List.length_append,Fp,ND c l,List.length_cons,Nat.succ_mul]
  omega
def ly:Ty:=.str [.int .i64,.int .i64,.int .i64,.int .i64,.list (.list (.int .i64)),.list (.list (.int .i64))]
def rf:Ty:=.str [.int .i64,.list (.int .i64),.list (.int .i64)]
end
section
attribute [local congr] Bm BC BD Ak Bn Aq Au Ar Aj Af AY AU Am AZ BR BS BP Ao An Ad Ap Ae BH BZ Ab BM BN BI BJ BL BK BF BG BB Bq BE Al Aa Ba Ag Av BQ
attribute [local irreducible] IntKind.wrap A0 Option.getD and or
def IW (s:Int):Int:=(2*s+(s/64%2+s/32%2)%2)%128
def Dq:Int->List Int->List Int
 |_,[]=>[]
 |s,x::l=>((x+s/64%2)%2)::Dq (IW s) l
def Fv (s:Int) (l:List Int):Bool:=DE s 1 127 && decide (l.length<=128) && Bf l
def LA (s:Int) (l:List Int):List Int×Int:=if Fv s l then (Dq s l,0) else ([],1)
theorem V7 {s:Int}{l:List Int}(h:Fv s l=true):LA s l=(Dq s l,0):=by simp[LA,h]
theorem Tf {s:Int}{l:List Int}(h:Fv s l=false):LA s l=([],1):=by simp[LA,h]
theorem Ip (s:Int) (l:List Int):(Dq s l).length=l.length:=by
 induction l generalizing s with
 |nil=>rfl
 |cons x l ih=>simp[Dq,ih]
theorem Xy {s:Int}{l:List Int}(h:¬l.length<=128):Fv s l=false:=by simp[Fv,h]
theorem WN (s:Int):0<=IW s/\IW s<=127:=by simp only[IW];omega
theorem ef:∀s:Fin 128,A0 .or .i64 (A0 .and .i64 (IntKind.i64.wrap ((s.val:Int)*2^min 1 64)) 127) (A0 .xor .i64 ((s.val:Int).fdiv (2^min 6 64)%2) ((s.val:Int).fdiv (2^min 5 64)%2))=IW s.val:=by decide +kernel
theorem ak {s:Int}(h:0<=s/\s<=127):A0 .or .i64 (A0 .and .i64 (IntKind.i64.wrap (s*2^min 1 64)) 127) (A0 .xor .i64 (s.fdiv (2^min 6 64)%2) (s.fdiv (2^min 5 64)%2))=IW s:=by
 have:=ef ⟨s.toNat,by omega⟩
 simp only[Int.toNat_of_nonneg h.1] at this
 exact this
theorem p6 {s:Int}:s.fdiv (2^min 6 64)=s/64:=by
 rw[eO];rfl
theorem jJ {x s:Int}(hx:x=0\/x=1):A0 .xor .i64 x (s.fdiv (2^min 6 64)%2)=(x+s/64%2)%2:=by
 rw[p6,ZP hx (by omega)]
 split<;>omega
theorem Nx (nl:Bool) (xs:List Int):Cc E0 Kl [.list nl (BU xs)] (.bool (Bf xs)):=by
 refine AN OM Ay (by simp) fun hwf=>?_
 simp only[FL,Ea,EZ,EM,Fd,Fc,HI,Fb,CI,CX,CY,Eb,C9,List.length_map,CR,true_and,and_true] at hwf
 rw[AP];unfold JB
 simp -implicitDefEqProofs only[go_sem]
 refine Bh (α:=Int) (fun x=>[(3,.d (.int .i64 x))]) (fun x=>[]) (fun x=>0<=x/\x<=xs.length/\Bf (xs.drop x.toNat)=Bf xs) (fun x=>(xs.length-x).toNat) ?a1_0 ?hI1 ?step1
 case' step1=>(rintro i hI;try dsimp only at hI)
 case' hI1=>try dsimp only
 ·simp
 ·by_cases hi:i<xs.length
  ·have hd:Bf (xs.drop i.toNat)=(DE (xs[i.toNat]?.getD 0) 0 1 && Bf (xs.drop (i+1).toNat)):=by
    rw[JW (xs:=xs) (i:=i.toNat) (by omega),show (i+1).toNat=i.toNat+1 by omega];rfl
   refine' H9;repeat' first|(refine' CQ;(first|refine AG (DQ _ _ _) ?_)<;>refine' H9)|refine' CP|done
   all_goals (first|omega|skip)
   all_goals simp_all
  ·refine' HO
   all_goals try exact Ca
   have h0:xs.drop i.toNat=[]:=List.drop_eq_nil_of_le (by omega)
   rw[h0] at hI
   rw[←hI.2.2];rfl
theorem H0 (s:Int) (nl:Bool) (l:List Int):Cc E0 Ji [.int .i64 s,.list nl (BU l)]
  (.tup [.list (LA s l).1.isEmpty (BU (LA s l).1),.int .i64 (LA s l).2]):=by
 refine AN NV Ay (by simp) fun hwf=>?_
 simp only[FL,Ea,EZ,EM,Fd,Fc,HI,Fb,CI,CX,CY,Eb,C9,List.length_map,CR,true_and,and_true] at hwf
 rw[AP];unfold IQ
 refine' H9;repeat' first|(refine' CQ;(first|refine AG (E' _ _) ?_|refine AG (DS _ _ _) ?_)<;>refine' H9)|refine' CP|done
 all_goals first
  |(
    have hx:Fv s l=false:=by(simp_all[Fv];done)
    rw[Tf hx];rfl)
  |(
    have h9:¬l.length<=128:=by omega
    rw[Tf (Xy h9)];rfl)
  |skip
 have hb:Bf l=true:=by assumption
 have h128:l.length<=128:=by omega
 have hr:DE s 1 127=true:=by assumption
 have hg:Fv s l=true:=by simp[Fv,hb,h128,hr]
 have hs:1<=s/\s<=127:=by simp[Fv,DE] at hg;omega
 rw[V7 hg]
 refine Bh (α:=Int×Int×Bool×(List Int)) (fun x=>[(25,.d (.int .i64 x.1)),(0,.d (.int .i64 x.2.1))]) (fun x=>[(37,.row UJ 1 x.2.2.1 (BU x.2.2.2))]) (fun x=>0<=x.1/\x.1<=l.length/\0<=x.2.1/\x.2.1<=127/\x.2.2.2.length=x.1.toNat/\x.2.2.1=x.2.2.2.isEmpty/\x.2.2.2++Dq x.2.1 (l.drop x.1.toNat)=Dq s l) (fun x=>(l.length-x.1).toNat) (?a2_0,?a2_1,?a2_2,[]) ?hI2 ?step2
 case' step2=>(rintro⟨i,t,nl',acc⟩ hI;try dsimp only at hI)
 case' hI2=>try dsimp only
 ·simp;omega
 ·by_cases hi:i<l.length
  ·have hbit:=Lr hb (i:=i.toNat) (by omega)
   have hstep:Dq t (l.drop i.toNat)=((l[i.toNat]?.getD 0+t/64%2)%2)::Dq (IW t) (l.drop (i+1).toNat):=by
     rw[JW (xs:=l) (i:=i.toNat) (by omega),Dq,show (i+1).toNat=i.toNat+1 by omega]
   have hx:=jJ (s:=t) hbit
   have hnx:=ak (s:=t) (by omega)
   have hnb:=WN t
   refine' HO
   all_goals (try simp only[hx,hnx])
   all_goals try exact Ca
   rw[←hI.2.2.2.2.2.2,hstep];simp
  ·refine' HO
   all_goals try exact Ca
   have h0:l.drop i.toNat=[]:=List.drop_eq_nil_of_le (by omega)
   have h1:=hI.2.2.2.2.2.2
   rw[h0,Dq,List.append_nil] at h1
   rw[←h1,hI.2.2.2.2.2.1]
theorem QK (s:Int) (l:List Int):Bf (Dq s l)=true:=by
 induction l generalizing s with
 |nil=>rfl
 |cons x l ih =>
  have h1:=ih (IW s)
  have e:DE ((x+s/64%2)%2) 0 1=true:=by simp only[DE,decide_eq_true_eq];omega
  simp only[Bf] at h1
  simp only[Dq,Bf,List.all_cons,h1,e,Bool.and_true]
end
def Jj (b:Nat) (s:Int):List Int:=(List.range (4/b)).map fun j=>s/2^((4/b-1-j)*b)%2^b
def H_ (b:Nat) (l:List Int):Int:=l.foldl (fun a w=>a*2^b+w) 0
theorem HV (b:Nat) (s:Int):(Jj b s).length=4/b:=by simp[Jj]
theorem Va {b:Nat}(s w:Int) (h:w∈Jj b s):0<=w/\w<=2^b-1:=by
 simp only[Jj,List.mem_map] at h
 obtain⟨j,_,rfl⟩:=h
 have h1:(0:Int)<2^b:=Int.pow_pos (by omega)
 have h2:=Int.emod_nonneg (s/2^((4/b-1-j)*b)) (show (2:Int)^b≠0 by omega)
 have h3:=Int.emod_lt_of_pos (s/2^((4/b-1-j)*b)) h1
 omega
theorem eG {b:Nat}(hb:b=1\/b=2) {l:List Int}(hl:l.length=4/b) (h:∀w,w∈l->0<=w/\w<=2^b-1):0<=H_ b l/\H_ b l<=15:=by
 rcases hb with rfl|rfl
 ·match l,hl with
  |[x,y,z,w],_ =>
   have h1:=h x (by simp);have h2:=h y (by simp);have h3:=h z (by simp);have h4:=h w (by simp)
   simp only[H_,List.foldl]
   omega
 ·match l,hl with
  |[x,y],_ =>
   have h1:=h x (by simp);have h2:=h y (by simp)
   simp only[H_,List.foldl]
   omega
theorem aG (b:Nat) (l:List Int) (w:Int):H_ b (l++[w])=H_ b l*2^b+w:=by simp[H_]
def rL (n:Nat) (sy:Int) (out:List Int) (f:Int):List Int:=if 0<=f/\f/n=sy then out.set (f%n).toNat (1-out[(f%n).toNat]?.getD 0) else out
def tJ (n:Nat) (sy:Int) (bits flips:List Int):List Int:=flips.foldl (rL n sy) bits
structure Bb where
 code:GCode
 L:Int
 P:Int
 Q:Int
 nm:Bool
 mark:List Int
 seed:Int
 errs:Int
def W8 (c:Bb):List D:=[.int .i64 c.code.bits,.int .i64 c.code.out,.int .i64 c.code.least,.int .i64 c.code.most,.list c.code.nw (Gv c.code.words),.list c.code.nn (Gv c.code.next),.int .i64 c.L,.int .i64 c.P,.int .i64 c.Q,.list c.nm (BU c.mark),.int .i64 c.seed,.int .i64 c.errs]
def Ib (c:Bb):D:=.agg (W8 c)
theorem A9 (c:Bb):W8 c=[.int .i64 c.code.bits,.int .i64 c.code.out,.int .i64 c.code.least,.int .i64 c.code.most,.list c.code.nw (Gv c.code.words),.list c.code.nn (Gv c.code.next),.int .i64 c.L,.int .i64 c.P,.int .i64 c.Q,.list c.nm (BU c.mark),.int .i64 c.seed,.int .i64 c.errs]:=rfl
theorem A_ (c:Bb):Ib c=.agg (W8 c):=rfl
def GCode.stm (c:GCode) (s:Nat):List Int:=(c.stream 0 (Jj c.bits.toNat s)).1
def GCode.sz (c:GCode):Nat:=4/c.bits.toNat * c.out.toNat
theorem No (c:GCode) (s:Nat):(c.stm s).length=c.sz:=by unfold GCode.stm GCode.sz;rw[ND,HV]
theorem RO {c:GCode}(h:c.ok=true):c.bits.toNat=1\/c.bits.toNat=2:=by have:=GCode.ok_head h;omega
theorem Re {c:GCode}(h:c.ok=true):2<=c.sz/\c.sz<=20:=by
 have h1:=GCode.ok_head h
 unfold GCode.sz
 have h2:1<=c.out.toNat/\c.out.toNat<=5:=by omega
 rcases RO h with h3|h3<;>rw[h3]<;>simp<;>omega
theorem Xg {c:GCode}(h:c.ok=true) (s:Nat):c.stm s≠[]:=fun e=>by
 have:=No c s
 rw[e] at this
 have:=Re h
 simp at *;omega
theorem UD:∀(n:Nat) (w:Int),Bf (B8 n w)=true
 |0,_=>rfl
 |n+1,w=>by
  show (DE (w/2^n%2) 0 1 && Bf (B8 n w))=true
  rw[UD n w,Bool.and_true]
  simp only[DE,decide_eq_true_eq];omega
theorem Qg {a b:List Int}(ha:Bf a=true) (hb:Bf b=true):Bf (a++b)=true:=by
 simp only[Bf,List.all_eq_true,List.mem_append] at *
 exact fun x hx=>hx.elim (ha x) (hb x)
theorem QH (c:GCode):∀(l:List Int) (s:Int),Bf (c.stream s l).1=true
 |[],_=>rfl
 |w::l,s=>Qg (UD ..) (QH c l _)
theorem Vj (c:GCode) (s:Nat):Bf (c.stm s)=true:=QH ..
theorem Jm {c:GCode}(h:c.ok=true) (s:Int):∀w,w∈Jj c.bits.toNat s->c.isWord w=true:=fun w hw=>by
 have h1:=Va s w hw
 simp only[GCode.isWord,DE,decide_eq_true_eq];exact h1
theorem Jk {c:GCode}(h:c.ok=true):c.isState 0=true:=by
 have:=GCode.ok_head h
 simp only[GCode.isState,DE,decide_eq_true_eq];omega
theorem XS {c:GCode}(h:c.ok=true) (s:Int):c.isData (Jj c.bits.toNat s)=true:=by
 simp only[GCode.isData,Bool.and_eq_true,decide_eq_true_eq,List.all_eq_true]
 refine⟨?_,Jm h s⟩
 rw[HV]
 rcases RO h with h1|h1<;>rw[h1]<;>omega
theorem kh {c:GCode}(h:c.ok=true) (s:Nat):c.encode 0 (Jj c.bits.toNat s)=(c.stm s,(c.stream 0 (Jj c.bits.toNat s)).2,0):=by
 unfold GCode.encode GCode.stm
 simp[h,Jk h,XS h]
def OI (c:GCode) (m:Nat):Bool:=(List.range m).all fun a=>(List.range a).all fun b=>decide (c.stm b≠c.stm a)
theorem Zt {c:GCode}{m:Nat}:OI c m=true↔∀a b,a<m->b<a->c.stm b≠c.stm a:=by
 simp only[OI,List.all_eq_true,List.mem_range,decide_eq_true_eq]
 exact⟨fun h a b ha hb=>h a ha b hb,fun h a ha b hb=>h a b ha hb⟩
def qg (c:GCode) (p:List Int):Option Nat:=(List.range 16).find? fun s=>decide (c.stm s=p)
def qX (s:Int):Int:=IW (IW (IW (IW s)))
def qT (s x:Int):Int:=H_ 1 (Dq s (Jj 1 x))
def Jp:Int->List Int->List Int
 |_,[]=>[]
 |s,x::l=>qT s x::Jp (qX s) l
def sV (s:Int):Nat->Int
 |0=>s
 |n+1=>sV (qX s) n
theorem I5:∀(l:List Int) (s:Int),(Jp s l).length=l.length
 |[],_=>rfl
 |x::l,s=>by simp[Jp,I5 l]
theorem Z6 (x:Int):Bf (Jj 1 x)=true:=by
 simp only[Bf,List.all_eq_true,DE,decide_eq_true_eq]
 intro n hn
 have:=Va x n hn
 omega
theorem jK (s x:Int):0<=qT s x/\qT s x<=15:=by
 have h1:=QK s (Jj 1 x)
 have h2:=Ip s (Jj 1 x)
 refine eG (b:=1) (.inl rfl) (by rw[h2,HV]) fun w hw=>?_
 simp only[Bf,List.all_eq_true] at h1
 have:=h1 w hw
 simp[DE] at this
 omega
theorem V8:∀(l:List Int) (s:Int) (x:Int),x∈Jp s l->0<=x/\x<=15
 |[],_,_,h=>by cases h
 |y::l,s,x,h=>by
  rcases List.mem_cons.1 h with rfl|h
  ·exact jK ..
  ·exact V8 l _ x h
def IA (l:List Int):List Int:=l.flatMap (Jj 1)
def Vh:List Int->List Int
 |a::b::c::d::l=>H_ 1 [a,b,c,d]::Vh l
 |_=>[]
theorem R9 (l:List Int):(IA l).length=4*l.length:=by
 induction l with
 |nil=>rfl
 |cons x l ih=>simp only[IA,List.flatMap_cons,List.length_append,HV] at *;simp only[List.length_cons];omega
theorem bP (l:List Int):Bf (IA l)=true:=by
 induction l with
 |nil=>rfl
 |cons x l ih=>exact Qg (Z6 x) ih
theorem Rq:∀(a b:List Int) (s:Int),Dq s (a++b)=Dq s a++Dq (a.foldl (fun t _=>IW t) s) b
 |[],_,_=>rfl
 |x::a,b,s=>by show _::Dq (IW s) (a++b)=_;rw[Rq a b];rfl
theorem TS:∀(l:List Int) (s:Int),Vh (Dq s (IA l))=Jp s l
 |[],_=>rfl
 |x::l,s=>by
  show Vh (Dq s (Jj 1 x++IA l))=qT s x::Jp (qX s) l
  rw[Rq,←TS l (qX s)]
  rfl
def Bb.syms (c:Bb):Nat:=(c.Q*c.L).toNat
def Bb.tot (c:Bb):Nat:=c.mark.length+c.syms*c.code.sz
def Bb.fnd (c:Bb) (bits:List Int):Nat->Nat->Option Nat
 |0,_=>none
 |n+1,at_=>if at_+c.tot<=bits.length then (if Lh c.mark (bits.drop at_)<=c.errs then some at_ else c.fnd bits n (at_+1)) else none
def Bb.find (c:Bb) (bits:List Int):Option Nat:=c.fnd bits (bits.length+1) 0
def Bb.part (c:Bb) (bits:List Int) (at_ i:Nat):List Int:=(bits.drop (at_+c.mark.length+i*c.code.sz)).take c.code.sz
def Bb.syL (c:Bb) (bits:List Int) (at_:Nat):List (Option Nat):=(List.range c.syms).map fun i=>qg c.code (c.part bits at_ i)
def rG (l:List (Option Nat)):List Int:=l.map fun x=>((x.getD 0:Nat):Int)
def ru (l:List (Option Nat)):List Nat:=(List.range l.length).filter fun i=>(l[i]?.getD none).isNone
end Go.Pw
