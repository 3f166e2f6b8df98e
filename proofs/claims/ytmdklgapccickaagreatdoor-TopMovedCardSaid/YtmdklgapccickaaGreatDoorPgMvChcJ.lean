/- Part. -/
import Derived.Test.YtmdklgapccickaaGreatDoorPgMvChcD
import Derived.Test.YtmdklgapccickaaGreatDoorPwLaw
import Derived.Test.YtmdklgapccickaaGreatDoorPwInt
set_option linter.all false
open List renaming range->aa,all_eq_true->ax,length_append->ay,length_cons->az,length_map->ck,drop_eq_nil_of_le->cp,all_cons->cw,foldl->c8
open Go Go.Pw Go.Proofs
namespace Go.Pw
set_option maxRecDepth 100000
set_option maxHeartbeats 1600000
section
attribute [local irreducible] IntKind.wrap Ah Option.getD and or
theorem U9(c:GCode):∀(l:List Int) (s:Int),(c.stream s l).1.length=l.length*c.out.toNat
 |[],s=>by simp[GCode.stream]
 |w::l,s=>by
  simp only[GCode.stream,ay,Hm,U9 c l,az,Nat.succ_mul];omega
def xZ:Ty:=.str [.int .i64,.int .i64,.int .i64,.int .i64,.list (.list (.int .i64)),.list (.list (.int .i64))]
end
section
attribute [local irreducible] IntKind.wrap Ah Option.getD and or
def J3(s:Int):Int:=(2*s+(s/64%2+s/32%2)%2)%128
def Cy:Int->List Int->List Int
 |_,[]=>[]
 |s,x::l=>((x+s/64%2)%2)::Cy (J3 s) l
def GF(s:Int)(l:List Int):Bool:=Cw s 1 127 && decide (l.length<=128) && Ap l
def NA(s:Int)(l:List Int):List Int×Int:=if GF s l then(Cy s l,0)else([],1)
theorem bK{s:Int}{l:List Int}(h:GF s l=true):NA s l=(Cy s l,0):=by simp[NA,h]
theorem Xd{s:Int}{l:List Int}(h:GF s l=false):NA s l=([],1):=by simp[NA,h]
theorem Hg(s:Int)(l:List Int):(Cy s l).length=l.length:=by
 induction l generalizing s with
 |nil=>rfl
 |cons x l ih=>simp[Cy,ih]
theorem ei{s:Int}{l:List Int}(h:¬l.length<=128):GF s l=false:=by simp[GF,h]
theorem bg(s:Int):0<=J3 s/\J3 s<=127:=by simp only[J3];omega
theorem n_:∀s:Fin 128,Ah .or .i64 (Ah .and .i64 (IntKind.i64.wrap ((s.val:Int)*2^min 1 64)) 127) (Ah .xor .i64 ((s.val:Int).fdiv (2^min 6 64)%2) ((s.val:Int).fdiv (2^min 5 64)%2))=J3 s.val:=by decide +kernel
theorem kC{s:Int}(h:0<=s/\s<=127):Ah .or .i64 (Ah .and .i64 (IntKind.i64.wrap (s*2^min 1 64)) 127) (Ah .xor .i64 (s.fdiv (2^min 6 64)%2) (s.fdiv (2^min 5 64)%2))=J3 s:=by
 have:=n_ ⟨s.toNat,by omega⟩;simp only[Int.toNat_of_nonneg h.1]at this;exact this
theorem AA7{s:Int}:s.fdiv (2^min 6 64)=s/64:=by
 rw[ec];rfl
theorem tF{x s:Int}(hx:x=0\/x=1):Ah .xor .i64 x (s.fdiv (2^min 6 64)%2)=(x+s/64%2)%2:=by
 rw[AA7,UV hx (by omega)];split<;>omega
theorem Jt(nl:Bool)(xs:List Int):BU E0 Mg [.list nl (Ad xs)] (.bool (Ap xs)):=by
 refine AL RV AR (by simp) fun e=>?_
 simp only[Eo,Dv,Du,Da,FE,FD,HI,FC,Bj,B0,B1,Dw,CO,ck,Bq,true_and,and_true]at e;rw[AN];unfold Kg;simp -implicitDefEqProofs only[go_sem];refine AZ (α:=Int) (fun x=>[(3,.d (.int .i64 x))]) (fun x=>[]) (fun x=>0<=x/\x<=xs.length/\Ap (xs.drop x.toNat)=Ap xs) (fun x=>(xs.length-x).toNat) ?a1_0 ?hI1 ?step1
 case' step1=>(rintro i h;try dsimp only at h)
 case' hI1=>try dsimp only
 ·simp
 ·by_cases hi:i<xs.length
  ·have hd:Ap (xs.drop i.toNat)=(Cw (xs[i.toNat]?.getD 0) 0 1 && Ap (xs.drop (i+1).toNat)):=by
    rw[Hw (xs:=xs) (i:=i.toNat) (by omega),show(i+1).toNat=i.toNat+1 by omega];rfl
   refine' Fp;repeat' first|(refine' BJ;(first|refine AF (Dg _ _ _) ?_)<;>refine' Fp)|refine' BI|done
   all_goals(first|omega|skip)
   all_goals simp_all
  ·refine' FP
   all_goals try exact BL
   have h0:xs.drop i.toNat=[]:=cp (by omega);rw[h0]at h;rw[←h.2.2];rfl
theorem JM(s:Int)(nl:Bool)(l:List Int):BU E0 LT [.int .i64 s,.list nl (Ad l)]
  (.tup [.list (NA s l).1.isEmpty (Ad (NA s l).1),.int .i64 (NA s l).2]):=by
 refine AL QD AR (by simp) fun o=>?_
 simp only[Eo,Dv,Du,Da,FE,FD,HI,FC,Bj,B0,B1,Dw,CO,ck,Bq,true_and,and_true]at o;rw[AN];unfold J0;refine' Fp;repeat' first|(refine' BJ;(first|refine AF (KP _ _) ?_|refine AF (C8 _ _ _) ?_)<;>refine' Fp)|refine' BI|done
 all_goals first
  |(
    have hx:GF s l=false:=by(simp_all[GF];done)
    rw[Xd hx];rfl)
  |(
    have q:¬l.length<=128:=by omega
    rw[Xd (ei q)];rfl)
  |skip
 have hb:Ap l=true:=by assumption
 have j:l.length<=128:=by omega
 have hr:Cw s 1 127=true:=by assumption
 have hg:GF s l=true:=by simp[GF,hb,j,hr]
 have hs:1<=s/\s<=127:=by simp[GF,Cw]at hg;omega
 rw[bK hg];refine AZ (α:=Int×Int×Bool×(List Int)) (fun x=>[(25,.d (.int .i64 x.1)),(0,.d (.int .i64 x.2.1))]) (fun x=>[(37,.row YL 1 x.2.2.1 (Ad x.2.2.2))]) (fun x=>0<=x.1/\x.1<=l.length/\0<=x.2.1/\x.2.1<=127/\x.2.2.2.length=x.1.toNat/\x.2.2.1=x.2.2.2.isEmpty/\x.2.2.2++Cy x.2.1 (l.drop x.1.toNat)=Cy s l) (fun x=>(l.length-x.1).toNat) (?a2_0,?a2_1,?a2_2,[]) ?hI2 ?step2
 case' step2=>(rintro⟨i,t,nl',acc⟩ m;try dsimp only at m)
 case' hI2=>try dsimp only
 ·simp;omega
 ·by_cases hi:i<l.length
  ·have h:=Fk hb (i:=i.toNat) (by omega)
   have e:Cy t (l.drop i.toNat)=((l[i.toNat]?.getD 0+t/64%2)%2)::Cy (J3 t) (l.drop (i+1).toNat):=by
     rw[Hw (xs:=l) (i:=i.toNat) (by omega),Cy,show(i+1).toNat=i.toNat+1 by omega]
   have hx:=tF (s:=t) h;have n:=kC (s:=t) (by omega);have p:=bg t;refine' FP
   all_goals(try simp only[hx,n])
   all_goals try exact BL
   rw[←m.2.2.2.2.2.2,e];simp
  ·refine' FP
   all_goals try exact BL
   have h0:l.drop i.toNat=[]:=cp (by omega);have h1:=m.2.2.2.2.2.2;rw[h0,Cy,List.append_nil]at h1;rw[←h1,m.2.2.2.2.2.1]
theorem M_(s:Int)(l:List Int):Ap (Cy s l)=true:=by
 induction l generalizing s with
 |nil=>rfl
 |cons x l ih =>
  have h1:=ih (J3 s);have e:Cw ((x+s/64%2)%2) 0 1=true:=by simp only[Cw,decide_eq_true_eq];omega
  simp only[Ap]at h1;simp only[Cy,Ap,cw,h1,e,Bool.and_true]
theorem Ys(s:Int)(l:List Int)(h:Ap l=true):Cy s (Cy s l)=l:=by
 induction l generalizing s with
 |nil=>rfl
 |cons x l ih =>
  simp only[Ap,cw,Bool.and_eq_true,Cw,decide_eq_true_eq]at h;have h1:=h.1;rw[Cy,Cy,ih _ (by simpa[Ap,Cw]using h.2)];have:(((x+s/64%2)%2+s/64%2)%2)=x:=by omega
  rw[this]
end
def M4(b:Nat)(s:Int):List Int:=(aa (4/b)).map fun j=>s/2^((4/b-1-j)*b)%2^b
def IZ(b:Nat)(l:List Int):Int:=l.foldl (fun a w=>a*2^b+w) 0
theorem Jm(b:Nat)(s:Int):(M4 b s).length=4/b:=by simp[M4]
theorem aK{b:Nat}(s w:Int)(h:w∈M4 b s):0<=w/\w<=2^b-1:=by
 simp only[M4,List.mem_map]at h;obtain⟨j,_,rfl⟩:=h;have h1:(0:Int)<2^b:=Int.pow_pos (by omega);have h2:=Int.emod_nonneg (s/2^((4/b-1-j)*b)) (show(2:Int)^b≠0 by omega);have e:=Int.emod_lt_of_pos (s/2^((4/b-1-j)*b)) h1;omega
theorem sI{b:Nat}(hb:b=1\/b=2){s:Int}(h:0<=s/\s<=15):IZ b (M4 b s)=s:=by
 obtain⟨s,rfl⟩:∃n:Nat,s=(n:Int):=⟨s.toNat,by omega⟩
 rcases hb with rfl|rfl
 ·show(((0*2+(s:Int)/8%2)*2+(s:Int)/4%2)*2+(s:Int)/2%2)*2+(s:Int)/1%2=s;omega
 ·show((0*4+(s:Int)/4%4)*4+(s:Int)/1%4)=s;omega
theorem nN{b:Nat}(hb:b=1\/b=2){l:List Int}(hl:l.length=4/b)(h:∀w,w∈l->0<=w/\w<=2^b-1):0<=IZ b l/\IZ b l<=15:=by
 rcases hb with rfl|rfl
 ·match l,hl with
  |[x,y,z,w],_ =>
   have h1:=h x (by simp);have h2:=h y (by simp);have i:=h z (by simp);have e:=h w (by simp);simp only[IZ,c8];omega
 ·match l,hl with
  |[x,y],_ =>
   have h1:=h x (by simp);have h2:=h y (by simp);simp only[IZ,c8];omega
theorem jk(b:Nat)(l:List Int)(w:Int):IZ b (l++[w])=IZ b l*2^b+w:=by simp[IZ]
structure Ag where
 code:GCode
 L:Int
 P:Int
 Q:Int
 nm:Bool
 mark:List Int
 seed:Int
 errs:Int
def dT(c:Ag):List D:=[.int .i64 c.code.bits,.int .i64 c.code.out,.int .i64 c.code.least,.int .i64 c.code.most,.list c.code.nw (Hn c.code.words),.list c.code.nn (Hn c.code.next),.int .i64 c.L,.int .i64 c.P,.int .i64 c.Q,.list c.nm (Ad c.mark),.int .i64 c.seed,.int .i64 c.errs]
def IU(c:Ag):D:=.agg (dT c)
theorem Aa(c:Ag):dT c=[.int .i64 c.code.bits,.int .i64 c.code.out,.int .i64 c.code.least,.int .i64 c.code.most,.list c.code.nw (Hn c.code.words),.list c.code.nn (Hn c.code.next),.int .i64 c.L,.int .i64 c.P,.int .i64 c.Q,.list c.nm (Ad c.mark),.int .i64 c.seed,.int .i64 c.errs]:=rfl
theorem Ab(c:Ag):IU c=.agg (dT c):=rfl
def GCode.stm(c:GCode)(s:Nat):List Int:=(c.stream 0 (M4 c.bits.toNat s)).1
def GCode.sz(c:GCode):Nat:=4/c.bits.toNat * c.out.toNat
theorem Qc(c:GCode)(s:Nat):(c.stm s).length=c.sz:=by unfold GCode.stm GCode.sz;rw[U9,Jm]
theorem Uo{c:GCode}(h:c.ok=true):c.bits.toNat=1\/c.bits.toNat=2:=by have:=GCode.ok_head h;omega
theorem Ir{c:GCode}(h:c.ok=true):2<=c.sz/\c.sz<=20:=by
 have h1:=GCode.ok_head h;unfold GCode.sz;have h2:1<=c.out.toNat/\c.out.toNat<=5:=by omega
 rcases Uo h with e|e<;>rw[e]<;>simp<;>omega
theorem eN{c:GCode}(h:c.ok=true)(s:Nat):c.stm s≠[]:=fun e=>by
 have:=Qc c s;rw[e]at this;have:=Ir h;simp at *;omega
theorem YE:∀(n:Nat) (w:Int),Ap (CJ n w)=true
 |0,_=>rfl
 |n+1,w=>by
  show(Cw (w/2^n%2) 0 1 && Ap (CJ n w))=true;rw[YE n w,Bool.and_true];simp only[Cw,decide_eq_true_eq];omega
theorem J9{a b:List Int}(e:Ap a=true)(hb:Ap b=true):Ap (a++b)=true:=by
 simp only[Ap,ax,List.mem_append]at *;exact fun x hx=>hx.elim (e x) (hb x)
theorem TQ(c:GCode):∀(l:List Int) (s:Int),Ap (c.stream s l).1=true
 |[],_=>rfl
 |w::l,s=>J9 (YE ..) (TQ c l _)
theorem nP(c:GCode)(s:Nat):Ap (c.stm s)=true:=TQ ..
theorem U0{c:GCode}(h:c.ok=true)(s:Int):∀w,w∈M4 c.bits.toNat s->c.isWord w=true:=fun w e=>by
 have h1:=aK s w e;simp only[GCode.isWord,Cw,decide_eq_true_eq];exact h1
theorem Uv{c:GCode}(h:c.ok=true):c.isState 0=true:=by
 have:=GCode.ok_head h;simp only[GCode.isState,Cw,decide_eq_true_eq];omega
theorem d6{c:GCode}(h:c.ok=true)(s:Int):c.isData (M4 c.bits.toNat s)=true:=by
 simp only[GCode.isData,Bool.and_eq_true,decide_eq_true_eq,ax];refine⟨?_,U0 h s⟩;rw[Jm];rcases Uo h with h1|h1<;>rw[h1]<;>omega
theorem vU{c:GCode}(h:c.ok=true)(s:Nat):c.encode 0 (M4 c.bits.toNat s)=(c.stm s,(c.stream 0 (M4 c.bits.toNat s)).2,0):=by
 unfold GCode.encode GCode.stm;simp[h,Uv h,d6 h]
def Nm(c:GCode)(m:Nat):Bool:=(aa m).all fun a=>(aa a).all fun b=>decide (c.stm b≠c.stm a)
theorem ZR{c:GCode}{m:Nat}:Nm c m=true↔∀a b,a<m->b<a->c.stm b≠c.stm a:=by
 simp only[Nm,ax,List.mem_range,decide_eq_true_eq];exact⟨fun h a b e hb=>h a e b hb,fun h a e b hb=>h a b e hb⟩
theorem vW{c:GCode}{m a b:Nat}(h:Nm c m=true)(i:a<m)(hb:b<m)(e:c.stm a=c.stm b):a=b:=by
 rw[ZR]at h;rcases Nat.lt_trichotomy a b with h1|h1|h1
 ·exact absurd e (h b a hb h1)
 ·exact h1
 ·exact absurd e.symm (h a b i h1)
def YY(c:GCode)(p:List Int):Option Nat:=(aa 16).find? fun s=>decide (c.stm s=p)
theorem XO{c:GCode}{p:List Int}{s:Nat}(h:YY c p=some s):s<16/\c.stm s=p:=by
 have h1:=List.mem_of_find?_eq_some h;have h2:=List.find?_some h;exact⟨by simpa using h1,by simpa using h2⟩
theorem ab{c:GCode}(h:Nm c 16=true){s:Nat}(hs:s<16):YY c (c.stm s)=some s:=by
 cases he:YY c (c.stm s)with
 |none =>
  unfold YY at he;rw[List.find?_eq_none]at he;exact absurd (by simp) (he s (by simpa using hs))
 |some t =>
  obtain⟨h1,h2⟩:=XO he;rw[vW h h1 hs h2]
def nx4(s:Int):Int:=J3 (J3 (J3 (J3 s)))
def xG(s x:Int):Int:=IZ 1 (Cy s (M4 1 x))
def DL:Int->List Int->List Int
 |_,[]=>[]
 |s,x::l=>xG s x::DL (nx4 s) l
def stS(s:Int):Nat->Int
 |0=>s
 |n+1=>stS (nx4 s) n
theorem D7:∀(l:List Int) (s:Int),(DL s l).length=l.length
 |[],_=>rfl
 |x::l,s=>by simp[DL,D7 l]
theorem VI:∀(l:List Int) (s:Int) (i:Nat),i<l.length->(DL s l)[i]?.getD 0=xG (stS s i) (l[i]?.getD 0)
 |[],_,_,h=>by cases h
 |x::l,s,0,_=>rfl
 |x::l,s,i+1,h=>by
  have:=VI l (nx4 s) i (by simpa using h);simpa[DL,stS]using this
theorem XI(x:Int):Ap (M4 1 x)=true:=by
 simp only[Ap,ax,Cw,decide_eq_true_eq];intro n hn;have:=aK x n hn;omega
theorem ABH{l:List Int}(hl:l.length=4)(hb:Ap l=true):M4 1 (IZ 1 l)=l:=by
 match l,hl with
 |[a,b,c,d],_ =>
  have h:∀x,x∈[a,b,c,d]->0<=x/\x<=1:=fun x hx=>by
   simp only[Ap,ax]at hb;have:=hb x hx;simpa[Cw]using this
  have h1:=h a (by simp);have h2:=h b (by simp);have m:=h c (by simp);have j:=h d (by simp);have e1:((((0*2+a)*2+b)*2+c)*2+d)/8%2=a:=by omega
  have e2:((((0*2+a)*2+b)*2+c)*2+d)/4%2=b:=by omega
  have i:((((0*2+a)*2+b)*2+c)*2+d)/2%2=c:=by omega
  have e:((((0*2+a)*2+b)*2+c)*2+d)/1%2=d:=by omega
  show [((((0*2+a)*2+b)*2+c)*2+d)/8%2,((((0*2+a)*2+b)*2+c)*2+d)/4%2,((((0*2+a)*2+b)*2+c)*2+d)/2%2,((((0*2+a)*2+b)*2+c)*2+d)/1%2]=[a,b,c,d]
  rw[e1,e2,i,e]
theorem tH(s x:Int):0<=xG s x/\xG s x<=15:=by
 have h1:=M_ s (M4 1 x);have h2:=Hg s (M4 1 x);refine nN (b:=1) (.inl rfl) (by rw[h2,Jm]) fun w e=>?_
 simp only[Ap,ax]at h1;have:=h1 w e;simp[Cw]at this;omega
theorem tG(s:Int){x:Int}(h:0<=x/\x<=15):xG s (xG s x)=x:=by
 have h2:=Hg s (M4 1 x);unfold xG;rw[ABH (by rw[h2,Jm]) (M_ ..),Ys _ _ (XI x)];exact sI (.inl rfl) h
theorem KY:∀(l:List Int) (s:Int) (x:Int),x∈DL s l->0<=x/\x<=15
 |[],_,_,h=>by cases h
 |y::l,s,x,h=>by
  rcases List.mem_cons.1 h with rfl|h
  ·exact tH ..
  ·exact KY l _ x h
def Je(l:List Int):List Int:=l.flatMap (M4 1)
def aZ:List Int->List Int
 |a::b::c::d::l=>IZ 1 [a,b,c,d]::aZ l
 |_=>[]
theorem VY(l:List Int):(Je l).length=4*l.length:=by
 induction l with
 |nil=>rfl
 |cons x l ih=>simp only[Je,List.flatMap_cons,ay,Jm]at *;simp only[az];omega
theorem kg(l:List Int):Ap (Je l)=true:=by
 induction l with
 |nil=>rfl
 |cons x l ih=>exact J9 (XI x) ih
theorem VH:∀(a b:List Int) (s:Int),Cy s (a++b)=Cy s a++Cy (a.foldl (fun t _=>J3 t) s) b
 |[],_,_=>rfl
 |x::a,b,s=>by show _::Cy (J3 s) (a++b)=_;rw[VH a b];rfl
theorem XL:∀(l:List Int) (s:Int),aZ (Cy s (Je l))=DL s l
 |[],_=>rfl
 |x::l,s=>by
  show aZ (Cy s (M4 1 x++Je l))=xG s x::DL (nx4 s) l;rw[VH,←XL l (nx4 s)];rfl
def Ag.syms(c:Ag):Nat:=(c.Q*c.L).toNat
def Ag.tot(c:Ag):Nat:=c.mark.length+c.syms*c.code.sz
def Ag.fnd(c:Ag)(bits:List Int):Nat->Nat->Option Nat
 |0,_=>none
 |n+1,at_=>if at_+c.tot<=bits.length then(if FI c.mark (bits.drop at_)<=c.errs then some at_ else c.fnd bits n (at_+1))else none
def Ag.find(c:Ag)(bits:List Int):Option Nat:=c.fnd bits (bits.length+1) 0
theorem ce{c:Ag}{bits:List Int}:∀{n a r:Nat},c.fnd bits n a=some r->a<=r/\r+c.tot<=bits.length/\FI c.mark (bits.drop r)<=c.errs/\∀j,a<=j->j<r->c.errs<FI c.mark (bits.drop j)
 |0,_,_,h=>by cases h
 |n+1,a,r,h=>by
  unfold Ag.fnd at h;split at h
  ·split at h
   ·cases h;exact⟨Nat.le_refl _,by assumption,by assumption,fun j h1 h2=>by omega⟩
   ·obtain⟨h1,h2,m,i⟩:=ce h;refine⟨by omega,h2,m,fun j o l=>?_⟩
    by_cases e:j=a
    ·subst e;omega
    ·exact i j (by omega) l
  ·cases h
theorem qW{c:Ag}{bits:List Int}{r:Nat}(hr:r+c.tot<=bits.length)(hd:FI c.mark (bits.drop r)<=c.errs) :
  ∀{n a:Nat},a<=r->r<a+n->(∀j,a<=j->j<r->c.errs<FI c.mark (bits.drop j))->c.fnd bits n a=some r
 |0,a,h1,h2,_=>by omega
 |n+1,a,h1,h2,h3=>by
  unfold Ag.fnd;rw[if_pos (by omega)]
  by_cases e:a=r
  ·subst e;rw[if_pos hd]
  ·rw[if_neg (by have:=h3 a (Nat.le_refl _) (by omega);omega)];exact qW hr hd (by omega) (by omega) fun j i h=>h3 j (by omega) h
theorem Sp{c:Ag}{bits:List Int}{r:Nat}:c.find bits=some r↔r+c.tot<=bits.length/\FI c.mark (bits.drop r)<=c.errs/\∀j,j<r->c.errs<FI c.mark (bits.drop j):=by
 constructor
 ·intro h;obtain⟨_,h1,h2,e⟩:=ce h;exact⟨h1,h2,fun j i=>e j (Nat.zero_le _) i⟩
 ·rintro⟨h1,h2,e⟩;exact qW h1 h2 (Nat.zero_le _) (by omega) fun j _ i=>e j i
def Ag.part(c:Ag)(bits:List Int)(at_ i:Nat):List Int:=(bits.drop (at_+c.mark.length+i*c.code.sz)).take c.code.sz
def Ag.syL(c:Ag)(bits:List Int)(at_:Nat):List (Option Nat):=(aa c.syms).map fun i=>YY c.code (c.part bits at_ i)
theorem UY(c:Ag)(bits:List Int)(at_:Nat):(c.syL bits at_).length=c.syms:=by simp[Ag.syL]
def Q_(l:List (Option Nat)):List Int:=l.map fun x=>((x.getD 0:Nat):Int)
def mq(l:List (Option Nat)):List Nat:=(aa l.length).filter fun i=>(l[i]?.getD none).isNone
end Go.Pw
