/- A part of the proof. -/
import Derived.Test.YtmdklgapccickaaGreatDoorMvPC
import Derived.Test.YtmdklgapccickaaGreatDoorCorrectSpec
set_option linter.all false
section
open Go Go.Pw Go.Proofs
namespace Go.Pw
set_option maxRecDepth 100000
set_option maxHeartbeats 1600000
theorem mK (n:Nat):(Int.tmod (n:Int) 15)=((n%15:Nat):Int):=by rw[Int.tmod_eq_emod_of_nonneg (by omega)];omega
def sQ:Nat->F->Nat->F->F
 |0,_,_,n=>n
 |k+1,a,b,n=>sQ k (fm 2 a) (b/2) (if b%2=1 then fa n a else n)
attribute [local congr] Bm BC BD Ak Bn Aq Au Ar Aj Af AY AU Am AZ BR BS BP Ao An Ad Ap Ae BH BZ Ab BM BN BI BJ BL BK BF BG BB Bq BE Al Aa Ba Ag Av BQ
attribute [local irreducible] IntKind.wrap A0 Option.getD and or
theorem IZ (n:Nat) (hn:n<=1000000):Cc E0 Kr [.int .i64 n] (.int .u8 ((gp n).val:Int)):=by
 refine AN OW Ay (by simp) fun hwf=>?_
 rw[AP];unfold JK
 refine' Pc @mK @jQ
 all_goals try exact Ca
theorem IY (a b:F):Cc E0 GU [.int .u8 (a.val:Int),.int .u8 (b.val:Int)] (.int .u8 ((fm a b).val:Int)):=by
 refine AN I0 Ay (by simp) fun hwf=>?_
 rw[AP];unfold F8
 have hl:=lc a
 have hl2:=lc b
 have hv:=dw a
 have hv2:=dw b
 have hw:IntKind.i64.wrap ((lg a:Int)+(lg b:Int))=((lg a+lg b:Nat):Int):=by rw[Bd _ (by omega)];omega
 have c1:=IZ (lg a+lg b) (by omega)
 by_cases ha:a=0
 ·subst ha
  refine' K5 @iP
  all_goals first|rfl|(simp at *;done)
 ·by_cases hb:b=0
  ·subst hb
   refine' Pc @kR ha
   all_goals first|rfl|(simp at *;done)
  ·have hf:fm a b=gp (lg a+lg b):=by unfold fm;rw[if_neg (by simp[ha,hb])]
   refine' MR hw ha hb hf;repeat' first|(refine' CQ;(first|refine AG c1 ?_)<;>refine' MR hw ha hb hf)|refine' CP|done
   all_goals try exact Ca
   all_goals first|rfl|(simp at *;done)
end Go.Pw
end
section
open Go Go.Pw Go.Proofs
namespace Go.Pw
set_option maxRecDepth 100000
set_option maxHeartbeats 1600000
def qB (L P:Nat):D:=.agg [.int .i64 L,.int .i64 P]
theorem Zv (L P:Nat):qB L P=.agg [.int .i64 L,.int .i64 P]:=rfl
attribute [local congr] Bm BC BD Ak Bn Aq Au Ar Aj Af AY AU Am AZ BR BS BP Ao An Ad Ap Ae BH BZ Ab BM BN BI BJ BL BK BF BG BB Bq BE Al Aa Ba Ag Av BQ
attribute [local irreducible] IntKind.wrap A0 Option.getD and or
end Go.Pw
end
section
open Go Go.Pw Go.Proofs
namespace Go.Pw
set_option maxRecDepth 100000
set_option maxHeartbeats 1600000
def ov (a b:F):F:=if b=0 then 0 else fm a (fi b)
def FG (L P:Int):Bool:=decide (2<=L/\L<=15/\1<=P/\P<=8/\P<L)
def Sw (n:Int):Bool:=decide (0<=n/\n<=15)
def Ed (l:List Int) (m:Int):Bool:=decide ((l.length:Int)=m) && l.all Sw
def sm (l:List Int) (m:Int) (i:Nat):Bool:=decide (0<=l[i]?.getD 0/\l[i]?.getD 0<m/\(0<i->l[i-1]?.getD 0<l[i]?.getD 0))
def Pa (l:List Int) (m:Int):Bool:=(List.range l.length).all (sm l m)
def su (l:List Int) (n:Int):Bool:=l.contains n
theorem ou:∀a:F,IntKind.u8.wrap (a.val:Int)=(a.val:Int):=by decide +kernel
theorem l9:∀a:F,IntKind.i64.wrap (a.val:Int)=(a.val:Int):=by decide +kernel
attribute [local congr] Bm BC BD Ak Bn Aq Au Ar Aj Af AY AU Am AZ BR BS BP Ao An Ad Ap Ae BH BZ Ab BM BN BI BJ BL BK BF BG BB Bq BE Al Aa Ba Ag Av BQ
attribute [local irreducible] IntKind.wrap A0 Option.getD and or
theorem I9 (n lo hi:Int):Cc E0 Ly [.int .i64 n,.int .i64 lo,.int .i64 hi] (.bool (decide (lo<=n/\n<=hi))):=by
 refine AN Pq Ay (by simp) fun hwf=>?_
 rw[AP];unfold KN
 refine' HO
 all_goals first|omega|(simp_all;done)|(simp_all;omega)
theorem Ok (L P:Int):Cc E0 Ks [.agg [.int .i64 L,.int .i64 P]] (.int .i64 (if FG L P then 0 else 50)):=by
 refine AN OY Ay (by simp) fun hwf=>?_
 rw[AP];unfold JM FG
 refine' HO
 all_goals first|omega|(simp_all;done)|(simp_all;omega)|grind
theorem Qt (L P:Int):Cc E0 M3 [.agg [.int .i64 L,.int .i64 P]] (.int .i64 (if FG L P then 0 else 50)):=by
 refine AN Q5 Ay (by simp) fun hwf=>?_
 rw[AP];unfold LM FG
 have c1:=I9
 refine' H9;repeat' first|(refine' CQ;(first|refine AG (c1 _ _ _) ?_)<;>refine' H9)|refine' CP|done
 all_goals first|omega|(simp_all;done)|(simp_all;omega)|grind
theorem Oj (n:Int):Cc E0 E5 [.int .i64 n] (.bool (!Sw n)):=by
 refine AN OX Ay (by simp) fun hwf=>?_
 rw[AP];unfold JL Sw
 refine' HO
 all_goals first|omega|(simp_all;done)|(simp_all;omega)|grind
theorem ZA:Bk E0.P E5=true:=by kernel_rfl
theorem O3 (nl:Bool) (xs:List Int) (f:FuncId) (cs:List D) (p:Int->Bool) (hb:Bk E0.P f=true) (hcs:BV AV.toD1 (cs.map .d)=some cs) (h:∀x,x∈xs->Cc E0 f (.int .i64 x::cs) (.bool (p x))) :
  Cc E0 D9 [.list nl (BU xs),.fn f cs] (.int .i64 (match xs.findIdx? p with|some i=>i|none=>-1)):=by
 refine AN E2 Ay (by simp) fun hwf=>?_
 simp only[FL,Ea,EZ,EM,Fd,Fc,HI,Fb,CI,CX,CY,Eb,C9,List.length_map,CR,true_and,and_true] at hwf
 rw[AP];unfold Dr
 simp -implicitDefEqProofs only[go_sem]
 refine Bh (α:=Int) (fun x=>[(8,.d (.int .i64 x))]) (fun x=>[]) (fun x=>0<=x/\x<=xs.length/\∀(j:Nat) (hj:j<xs.length),(j:Int)<x->p xs[j]=false) (fun x=>(xs.length-x).toNat) ?a1_0 ?hI1 ?step1
 case' step1=>(rintro i hI;try dsimp only at hI)
 case' hI1=>try dsimp only
 ·simp
  omega
 ·refine' HO
  all_goals try exact Ca
  ·have hx:xs[i.toNat]?.getD 0=xs[i.toNat]'(by omega):=by rw[List.getElem?_eq_getElem (by omega),Option.getD_some]
   rw[hx]
   refine Y_ (h _ (List.getElem_mem _)) (Lq rfl hcs) (fun hp=>?_) (fun hp=>?_)
   ·simp -implicitDefEqProofs only[go_sem]
    have:xs.findIdx? p=some i.toNat:=by rw[List.findIdx?_eq_some_iff_getElem];exact⟨by omega,hp,fun j hj=>by simp[hI.2.2 j (by omega) (by omega)]⟩
    rw[this];simp;omega
   ·refine' HO
    all_goals try exact Ca
    rename_i j hj hlt
    by_cases hjk:j=i.toNat
    ·subst hjk;exact hp
    ·exact hI.2.2 j hj (by omega)
  ·have:xs.findIdx? p=none:=by
    rw[List.findIdx?_eq_none_iff];intro x hx;obtain⟨j,hj,rfl⟩:=List.getElem_of_mem hx;exact hI.2.2 j hj (by omega)
   rw[this]
theorem MB (nl:Bool) (xs:List Int) (f:FuncId) (cs:List D) (p:Int->Bool) (hb:Bk E0.P f=true) (hcs:BV AV.toD1 (cs.map .d)=some cs) (h:∀x,x∈xs->Cc E0 f (.int .i64 x::cs) (.bool (p x))) :
  Cc E0 Cd [.list nl (BU xs),.fn f cs] (.bool (xs.any p)):=by
 refine AN EW Ay (by simp) fun hwf=>?_
 rw[AP];unfold DR
 simp -implicitDefEqProofs only[go_sem]
 refine HE (O3 nl xs f cs p hb hcs h) rfl ?_
 simp -implicitDefEqProofs only[go_sem]
 have key:(0:Int)<=(match xs.findIdx? p with|some i=>(i:Int)|none=>-1)↔xs.any p=true:=by
  cases hf:xs.findIdx? p with
  |none=>rw[List.findIdx?_eq_none_iff] at hf;simp;intro x hx;simp[hf x hx]
  |some i=>rw[List.findIdx?_eq_some_iff_getElem] at hf;simp;exact⟨_,List.getElem_mem hf.1,hf.2.1⟩
 grind
theorem lL (xs:List Int) (p:Int->Bool):(!xs.any fun n=>!p n)=xs.all p:=by
 rw[List.all_eq_not_any_not]
theorem RB (nl:Bool) (xs:List Int) (m:Int):Cc E0 M7 [.list nl (BU xs),.int .i64 m] (.bool (Ed xs m)):=by
 refine AN Q9 Ay (by simp) fun hwf=>?_
 rw[AP];unfold LQ
 have c1:Cc E0 Cd [.list nl (BU xs),.fn E5 []] (.bool (xs.any fun n=>!Sw n)) :=
  MB nl xs E5 [] (fun n=>!Sw n) ZA rfl fun x _=>Oj x
 have ha:=lL xs Sw
 by_cases hm:(xs.length:Int)=m
 ·have hs:Ed xs m=xs.all Sw:=by unfold Ed;simp[hm]
  rw[hs]
  cases hx:xs.any fun n=>!Sw n with
  |true =>
   rw[hx] at c1 ha
   refine' VX hm;repeat' first|(refine' CQ;(first|refine AG c1 ?_)<;>refine' VX hm)|refine' CP|done
   all_goals first|(rw[←ha];done)|(rw[←ha];rfl)|(simp at *;done)|omega
  |false =>
   rw[hx] at c1 ha
   refine' VX hm;repeat' first|(refine' CQ;(first|refine AG c1 ?_)<;>refine' VX hm)|refine' CP|done
   all_goals first|(rw[←ha];done)|(rw[←ha];rfl)|(simp at *;done)|omega
 ·have hs:Ed xs m=false:=by unfold Ed;simp[hm]
  rw[hs]
  refine' K5 hm
  all_goals first|rfl|(simp at *;done)|omega
end Go.Pw
end
section
open Go Go.Pw Go.Proofs
namespace Go.Pw
set_option maxRecDepth 100000
set_option maxHeartbeats 3200000
def ni (l:List Nat):List Int:=l.map fun n:Nat=>(n:Int)
attribute [local congr] Bm BC BD Ak Bn Aq Au Ar Aj Af AY AU Am AZ BR BS BP Ao An Ad Ap Ae BH BZ Ab BM BN BI BJ BL BK BF BG BB Bq BE Al Aa Ba Ag Av BQ
attribute [local irreducible] IntKind.wrap A0 Option.getD and or
end Go.Pw
end
section
open Go Go.Pw Go.Proofs
namespace Go.Pw
set_option maxRecDepth 100000
set_option maxHeartbeats 3200000
attribute [local congr] Bm BC BD Ak Bn Aq Au Ar Aj Af AY AU Am AZ BR BS BP Ao An Ad Ap Ae BH BZ Ab BM BN BI BJ BL BK BF BG BB Bq BE Al Aa Ba Ag Av BQ
attribute [local irreducible] IntKind.wrap A0 Option.getD and or
theorem M_ (nl:Bool) (xs:List F) (hl:xs.length<=1000) (hne:0<xs.length) (hnl:nl=false):Ft E0 Cy [] [.d (.list nl (us xs))] [(7,1,.row 180 1 false (us xs))] (.own 7 1):=by
 subst hnl
 refine CT ET Ay (by simp) (by simp[Jv,Dt,C_]) (by simp[It]) fun hwf hwo=>?_
 rw[Cg];unfold Cn
 have hn:¬xs=[]:=by intro h;rw[h] at hne;simp at hne
 refine' K5 hn
 all_goals first|omega|rfl
end Go.Pw
end
section
open Go Go.Pw Go.Proofs
namespace Go.Pw
set_option maxRecDepth 100000
set_option maxHeartbeats 3200000
theorem rE:(0:Int)<((2:Nat):Int):=by decide
theorem rD:(1:Int)<((2:Nat):Int):=by decide
theorem bS:¬(2:Int)<((2:Nat):Int):=by decide
theorem mA:IntKind.i64.wrap 0=0:=by decide
theorem l_:IntKind.i64.wrap (0-((0:Nat):Int))=0:=by decide
theorem ZX {α:Type}(n:Nat) (x:α) (h:0<n):(List.replicate n x).isEmpty=false:=by cases n with
 |zero=>omega
 |succ n=>rfl
attribute [local congr] Bm BC BD Ak Bn Aq Au Ar Aj Af AY AU Am AZ BR BS BP Ao An Ad Ap Ae BH BZ Ab BM BN BI BJ BL BK BF BG BB Bq BE Al Aa Ba Ag Av BQ
attribute [local irreducible] IntKind.wrap A0 Option.getD and or
theorem VT (n:Nat) (hn:0<n) (hl:n<=1000000):Ft E0 Bx [] [.d (.list true []),.d (.int .i64 n)] [(22,2,.row 180 1 false [])] (.own 22 2):=by
 refine CT Co Ay (by simp) (by simp[Jv,Dt,C_]) (by simp[It]) fun hwf hwo=>?_
 rw[Cg];unfold CA
 have h0:¬(n:Int)<0:=by omega
 have h1:(0:Int)<(n:Int):=by omega
 have hw:IntKind.i64.wrap (n:Int)=(n:Int):=Bd _ (by omega)
 have hw2:IntKind.i64.wrap ((n:Int)-0)=(n:Int):=by rw[Int.sub_zero];exact hw
 (try (simp -implicitDefEqProofs only[go_sem,h0,h1,hw,ZX n _ hn,List.length_replicate,mA,l_,hw2,Int.sub_zero]));repeat' first|(with_reducible first|exact tI|refine aI ?_ ?_|intro _)|((first|with_reducible refine Gs ?_ ?_<;>intro _)<;>try (simp -implicitDefEqProofs only[go_sem,h0,h1,hw,ZX n _ hn,List.length_replicate,mA,l_,hw2,Int.sub_zero]))|simp (disch:=omega) only[IE]
 all_goals first|omega|rfl|(simp at *;done)|skip
theorem VU:Cc E0 Bx [.list true [],.int .i64 0] (.list true []):=by
 refine AN Co Ay (by simp) fun hwf=>?_
 rw[AP];unfold CA
 refine' Pb @mA @l_ @Int.sub_zero
 all_goals first|omega|rfl|(simp at *;done)|skip
theorem Sq (n1 n2:Bool) (a b:List F) (ha:a.length<=100000) (hb:b.length<=100000):Cc E0 Cq [.list false [.list n1 (us a),.list n2 (us b)]] (.list (a++b).isEmpty (us (a++b))):=by
 refine AN EP Ay (by simp) fun hwf=>?_
 rw[AP];unfold Cj
 have w1:IntKind.i64.wrap (0+(a.length:Int))=(a.length:Int):=by rw[Int.zero_add];exact Bd _ (by omega)
 have w2:IntKind.i64.wrap ((a.length:Int)+(b.length:Int))=((a.length+b.length:Nat):Int):=by rw[Bd _ (by omega)];omega
 have w3:IntKind.i64.wrap (0+1)=1:=by rw[Bd _ (by omega)];rfl
 have w4:IntKind.i64.wrap (1+1)=2:=by rw[Bd _ (by omega)];rfl
 have q1:¬(a.length:Int)<0:=by omega
 have q2:¬((a.length+b.length:Nat):Int)<0:=by omega
 refine' HO
 refine Bh (α:=Int×Int) (fun x=>[(11,.d (.int .i64 x.1)),(3,.d (.int .i64 x.2))]) (fun x=>[]) (fun x=>(x.1=0/\x.2=0)\/(x.1=1/\x.2=a.length)\/(x.1=2/\x.2=((a.length+b.length:Nat):Int))) (fun x=>(2-x.1).toNat) (0,0) ?hI1 ?step1
 case' step1=>(rintro⟨i,n⟩ hI;try dsimp only at hI)
 case' hI1=>try dsimp only
 ·exact .inl ⟨rfl,rfl⟩
 rcases hI with⟨rfl,rfl⟩|⟨rfl,rfl⟩|⟨rfl,rfl⟩
 ·refine' fY w1 w3 q1 @rE
  all_goals first|omega|(simp at *;done)|skip
 ·refine' fY w2 w4 q2 @rD
  all_goals first|omega|(simp at *;done)|skip
 ·by_cases h0:a.length+b.length=0
  ·have ea:a=[]:=List.eq_nil_of_length_eq_zero (by omega)
   have eb:b=[]:=List.eq_nil_of_length_eq_zero (by omega)
   subst ea eb
   have c1:Cc E0 Bx [.list true [],.int .i64 (((([]:List F).length+([]:List F).length:Nat)):Int)] (.list true []):=VU
   refine' VX @bS;repeat' first|(refine' CQ;(first|refine AG c1 ?_)<;>refine' VX @bS)|refine' CP|done
   refine Bh (α:=Int) (fun x=>[(27,.d (.int .i64 x))]) (fun x=>[(33,.row 180 1 true [])]) (fun x=>x=0\/x=1\/x=2) (fun x=>(2-x).toNat) 0 ?hI2 ?step2
   case' step2=>(rintro i hI2;try dsimp only at hI2)
   case' hI2=>try dsimp only
   ·exact .inl rfl
   rcases hI2 with rfl|rfl|rfl
   ·refine' K5 w3
    all_goals first|omega|(simp at *;done)|skip
   ·refine' K5 w4
    all_goals first|omega|(simp at *;done)|skip
   ·refine' K5 @bS
    all_goals first|omega|(simp at *;done)|rfl|skip
  ·have he:(a++b).isEmpty=false:=by cases a<;>cases b<;>simp_all
   have c1:=VT (a.length+b.length) (by omega) (by omega)
   refine' VX @bS;repeat' first|(refine' CQ;(first|refine Cz ([]) ([((22,2),(24,1))]) (c1) ?_)<;>refine' VX @bS)|refine' CP|done
   refine Bh (α:=Int×(List F)) (fun x=>[(27,.d (.int .i64 x.1))]) (fun x=>[(24,.row 180 1 false (us x.2))]) (fun x=>(x.1=0/\x.2=[])\/(x.1=1/\x.2=a)\/(x.1=2/\x.2=a++b)) (fun x=>(2-x.1).toNat) (0,[]) ?hI3 ?step3
   case' step3=>(rintro⟨i,l⟩ hI3;try dsimp only at hI3)
   case' hI3=>try dsimp only
   ·exact .inl ⟨rfl,rfl⟩
   rcases hI3 with⟨rfl,rfl⟩|⟨rfl,rfl⟩|⟨rfl,rfl⟩
   ·refine' Pc w3 @List.nil_append.{0}
    all_goals first|omega|(simp at *;done)|skip
   ·refine' K5 w4
    all_goals first|omega|(simp at *;done)|skip
   ·refine' Pc he @bS
    all_goals first|omega|(simp at *;done)|rfl|skip
end Go.Pw
end
section
namespace Go.Pw
def p9:List F->List F->F
 |a::asq,b::bs=>fa (fm a b) (p9 asq bs)
 |_,_=>0
def rZ (r o:List F) (b:F):List F:=List.zipWith (fun x y=>fa x (fm y b)) r o
def sY (r:List F) (b:F):List F:=r.map fun x=>fm x b
def rT (r:List F) (j:Nat):F:=r[j]?.getD 0
def V9 (M:List (List F)) (i:Nat):List F:=M[i]?.getD []
def ent (M:List (List F)) (i j:Nat):F:=rT (V9 M i) j
def ra (c:F) (M:List (List F)) (v:List F):Prop:=∀i,i<M.length->p9 (V9 M i) (v++[c])=0
structure tT (M:List (List F)) (n m:Nat):Prop where
 len:M.length=n
 row:∀i,i<n->(V9 M i).length=m
def qw (f:F->F->F) (M:List (List F)) (k:Nat):List (List F):=(List.range M.length).map fun i=>if i=k then V9 M k else rZ (V9 M i) (V9 M k) (f (ent M i k) (ent M k k))
def tY (M:List (List F)) (k p:Nat):List (List F):=(M.set k (V9 M p)).set p (V9 M k)
structure tU (M:List (List F)) (k:Nat):Prop where
 off:∀i j,i<M.length->j<k->i≠j->ent M i j=0
 dia:∀j,j<k->ent M j j≠0
end Go.Pw
end
section
namespace Go.Pw
def tR (v w:List F):List F:=List.zipWith fa v w
def tF (x:F):Nat->F
 |0=>1
 |n+1=>fm x (tF x n)
def sD (L i j:Nat):F:=gp (i*(L-1-j))
def sE (L P:Nat) (at_:List Nat) (s:List F):List (List F):=(List.range P).map fun i=>(at_.map fun j=>sD L i j)++[rT s i]
structure t9 (L:Nat) (at_:List Nat):Prop where
 nd:at_.Nodup
 lt:∀j,j∈at_->j<L
open Classical in
noncomputable def qm (L P:Nat) (at_:List Nat) (s:List F):Option (List F) :=
 if h:∃v:List F,v.length=at_.length/\ra 1 (sE L P at_ s) v then some h.choose else none
end Go.Pw
end
section
open Go Go.Pw Go.Proofs
namespace Go.Pw
set_option maxRecDepth 100000
set_option maxHeartbeats 3200000
attribute [local congr] Bm BC BD Ak Bn Aq Au Ar Aj Af AY AU Am AZ BR BS BP Ao An Ad Ap Ae BH BZ Ab BM BN BI BJ BL BK BF BG BB Bq BE Al Aa Ba Ag Av BQ
attribute [local irreducible] IntKind.wrap A0 Option.getD and or
end Go.Pw
end
section
namespace Go.Pw
def lm (ix:List Nat) (R:List (List F)):List (List F):=ix.map fun j=>R[j]?.getD []
structure PQ (n:Nat) (ix:List Nat) (R:List (List F)):Prop where
 li:ix.length=n
 lr:R.length=n
 nd:ix.Nodup
 lt:∀j,j∈ix->j<n
def tk (ix:List Nat) (i:Nat):Nat:=ix[i]?.getD 0
structure t7 (L P:Nat) (at_:List Nat) (s:List F) (ix:List Nat) (R:List (List F)) (k:Nat):Prop where
 pq:PQ P ix R
 shp:tT (lm ix R) P (at_.length+1)
 red:tU (lm ix R) k
 sat:∀c v,v.length=at_.length->(ra c (lm ix R) v↔ra c (sE L P at_ s) v)
end Go.Pw
end
section
open Go Go.Pw Go.Proofs
namespace Go.Pw
set_option maxRecDepth 100000
set_option maxHeartbeats 6400000
def sW (o:Option (List F)):D:=match o with
 |some v=>.tup [.list v.isEmpty (us v),.bool true]
 |none=>.tup [.list true [],.bool false]
theorem GH {α:Type}(w:List α) (d:α) (i:Nat) (h:i<w.length):w.take i++[w[i]?.getD d]=w.take (i+1):=by
 rw[List.take_add_one,List.getElem?_eq_getElem h];rfl
attribute [local congr] Bm BC BD Ak Bn Aq Au Ar Aj Af AY AU Am AZ BR BS BP Ao An Ad Ap Ae BH BZ Ab BM BN BI BJ BL BK BF BG BB Bq BE Al Aa Ba Ag Av BQ
attribute [local irreducible] IntKind.wrap A0 Option.getD and or
end Go.Pw
end
section
open Go Go.Pw Go.Proofs
namespace Go.Pw
set_option maxRecDepth 100000
set_option maxHeartbeats 6400000
def sX (o:Option (List F)):D:=match o with
 |some v=>.tup [.list v.isEmpty (BU (iv v)),.bool true]
 |none=>.tup [.list true [],.bool false]
def rQ (L i:Nat):List F:=(List.range L).map fun j=>sD L i j
def pD (L P:Nat) (w:List F):List F:=(List.range P).map fun i=>p9 w (rQ L i)
attribute [local congr] Bm BC BD Ak Bn Aq Au Ar Aj Af AY AU Am AZ BR BS BP Ao An Ad Ap Ae BH BZ Ab BM BN BI BJ BL BK BF BG BB Bq BE Al Aa Ba Ag Av BQ
attribute [local irreducible] IntKind.wrap A0 Option.getD and or
end Go.Pw
end
section
open Go Go.Pw Go.Proofs
namespace Go.Pw
set_option maxRecDepth 100000
set_option maxHeartbeats 3200000
def dn:List F->List Nat->List F->List F
 |w,j::js,x::xs=>dn (w.set j x) js xs
 |w,_,_=>w
attribute [local congr] Bm BC BD Ak Bn Aq Au Ar Aj Af AY AU Am AZ BR BS BP Ao An Ad Ap Ae BH BZ Ab BM BN BI BJ BL BK BF BG BB Bq BE Al Aa Ba Ag Av BQ
attribute [local irreducible] IntKind.wrap A0 Option.getD and or
end Go.Pw
end
section
open Go Go.Pw Go.Proofs
namespace Go.Pw
set_option maxRecDepth 100000
set_option maxHeartbeats 3200000
def vv (b:Bool) (o:List F) (fnd:Bool):List (Nat×Nat×AW):=[(900004,0,.cells [.d (.list b (us o))]),(901004,0,.cells [.d (.bool fnd)])]
def vh (b:Bool) (o:List F) (fnd:Bool) (r:Option (List F)):List (Nat×Nat×AW):=match r with|some z=>vv false z true|none=>vv b o fnd
def rY (w:List F) (at_:List Nat) (v:List F):List F:=List.zipWith (fun j x=>fa (w[j]?.getD 0) x) at_ v
noncomputable def hit (L P:Nat) (w:List F) (mk:List Nat) (l:List Nat):Option (List F) :=
 (qm L P (mk++l) (pD L P w)).map fun v=>dn w (mk++l) (rY w (mk++l) v)
attribute [local congr] Bm BC BD Ak Bn Aq Au Ar Aj Af AY AU Am AZ BR BS BP Ao An Ad Ap Ae BH BZ Ab BM BN BI BJ BL BK BF BG BB Bq BE Al Aa Ba Ag Av BQ
attribute [local irreducible] IntKind.wrap A0 Option.getD and or
end Go.Pw
end
section
namespace Go.Pw
def uB (L P:Nat) (w:List F):Prop:=∀i,i<P->rT (pD L P w) i=0
def eP (L:Nat) (mk:List Nat):Nat->Nat->List (List Nat)
 |0,_=>[[]]
 |m+1,fr=>((List.range' fr (L-fr)).filter fun j=>!mk.contains j).flatMap fun j=>(eP L mk m (j+1)).map (j :: ·)
structure sO (L:Nat) (mk:List Nat) (fr:Nat) (l:List Nat):Prop where
 asc:l.Pairwise (· < ·)
 ge:∀j,j∈l->fr<=j
 lt:∀j,j∈l->j<L
 un:∀j,j∈l->j∉mk
structure t_ (L:Nat) (mk:List Nat):Prop where
 asc:mk.Pairwise (· < ·)
 lt:∀j,j∈mk->j<L
noncomputable def p_ (L P:Nat) (w:List F) (mk:List Nat):Option (List F) :=
 if mk.length<=P then (List.range ((P-mk.length)/2+1)).findSome? fun e=>(eP L mk e 0).findSome? (hit L P w mk) else none
def tp (L:Nat) (a b:List F) (mk:List Nat):List Nat:=(List.range L).filter fun j=>decide (a[j]?.getD 0≠b[j]?.getD 0) && !mk.contains j
end Go.Pw
end
section
open Go Go.Pw Go.Proofs
namespace Go.Pw
set_option maxRecDepth 100000
set_option maxHeartbeats 3200000
abbrev r7:Ren:=[((900004,0),(900004,0)),((901004,0),(901004,0))]
structure t6 (G:List Nat->Option (List F)) (A:List Nat->Prop) (f:FuncId) (cs:List AV):Prop where
 body:Bk E0.P f=true
 st:AV.sites.sitesL cs=[900004,901004]
 nr:∀(V:AL) (os:List Nat),AV.nrm.live V os 900004 0=true->AV.nrm.live V os 901004 0=true->AV.nrm.nrmL V os cs=cs
 rn:AV.ren.renL r7 cs=some cs
 ar:Sf r7 cs cs
 call:∀(nl:Bool) (l:List Nat) (b:Bool) (o:List F) (fnd:Bool),A l->(nl=true->l=[])->Ft E0 f (vv b o fnd) (.d (.list nl (BU (ni l)))::cs) (vh b o fnd (G l)) (.d (.bool (G l).isNone))
theorem any_cons {α:Type}(l:List α):True:=trivial
attribute [local congr] Bm BC BD Ak Bn Aq Au Ar Aj Af AY AU Am AZ BR BS BP Ao An Ad Ap Ae BH BZ Ab BM BN BI BJ BL BK BF BG BB Bq BE Al Aa Ba Ag Av BQ
attribute [local irreducible] IntKind.wrap A0 Option.getD and or
end Go.Pw
end
section
open Go Go.Pw Go.Proofs
namespace Go.Pw
set_option maxRecDepth 100000
set_option maxHeartbeats 3200000
def decR (o:Option (List F)):D:=match o with
 |some r=>.tup [.list false (us r),.bool true]
 |none=>.tup [.list true [],.bool false]
noncomputable def tN (L P:Nat) (w:List F) (mk:List Nat) (e:Nat):Option (List F):=(eP L mk e 0).findSome? (hit L P w mk)
attribute [local congr] Bm BC BD Ak Bn Aq Au Ar Aj Af AY AU Am AZ BR BS BP Ao An Ad Ap Ae BH BZ Ab BM BN BI BJ BL BK BF BG BB Bq BE Al Aa Ba Ag Av BQ
attribute [local irreducible] IntKind.wrap A0 Option.getD and or
end Go.Pw
end
section
namespace Go.Pw
def tn (i:Nat) (w:List F):F:=p9 w (rQ w.length i)
def FH:List F->Nat->F->List F->List F
 |l,o,b,[]=>l
 |l,o,b,y::ys=>FH (l.set o (fa (l[o]?.getD 0) (fm b y))) (o+1) b ys
theorem Jd:∀(g l:List F) (o:Nat) (b:F),(FH l o b g).length=l.length
 |[],l,o,b=>rfl
 |y::ys,l,o,b=>by show (FH _ (o+1) b ys).length=_;rw[Jd ys];simp
theorem Sm (y:F):∀(g l:List F) (o:Nat) (b:F),FH l o b (g++[y])=(FH l o b g).set (o+g.length) (fa ((FH l o b g)[o+g.length]?.getD 0) (fm b y))
 |[],l,o,b=>rfl
 |z::zs,l,o,b=>by
  show FH _ (o+1) b (zs++[y])=_
  rw[Sm y zs]
  show _=(FH (l.set o (fa (l[o]?.getD 0) (fm b z))) (o+1) b zs).set (o+(zs.length+1)) (fa ((FH (l.set o (fa (l[o]?.getD 0) (fm b z))) (o+1) b zs)[o+(zs.length+1)]?.getD 0) (fm b y))
  rw[show o+1+zs.length=o+(zs.length+1) by omega]
def Pk:Nat->List F
 |0=>[1]
 |i+1=>FH (Pk i++[0]) 1 (gp i) (Pk i)
theorem Ww:∀i,(Pk i).length=i+1
 |0=>rfl
 |i+1=>by show (FH (Pk i++[0]) 1 (gp i) (Pk i)).length=_;rw[Jd];simp[Ww i]
def LC (g d:List F) (P:Nat):Nat->List F
 |0=>d++List.replicate P 0
 |i+1=>FH (LC g d P i) i ((LC g d P i)[i]?.getD 0) g
theorem PO (g d:List F) (P:Nat):∀i,(LC g d P i).length=d.length+P
 |0=>by simp[LC]
 |i+1=>by show (FH _ _ _ _).length=_;rw[Jd,PO g d P i]
def Qy (P:Nat) (d:List F):List F:=d++(LC (Pk P) d P d.length).drop d.length
theorem Wq (P:Nat) (d:List F):(Qy P d).length=d.length+P:=by
 unfold Qy;rw[List.length_append,List.length_drop,PO];omega
end Go.Pw
end
section
open Go Go.Pw Go.Proofs
namespace Go.Pw
set_option maxRecDepth 100000
set_option maxHeartbeats 3200000
theorem Sl (l g:List F) (o k:Nat) (b:F) (h:k<g.length):(FH l o b (g.take k)).set (o+k) (fa ((FH l o b (g.take k))[o+k]?.getD 0) (fm b (g[k]?.getD 0)))=FH l o b (g.take (k+1)):=by
 rw[←GH g 0 k h,Sm]
 rw[show (g.take k).length=k by simp;omega]
theorem XJ (l g:List F) (k:Nat) (b:F) (h:k<g.length):(FH l 1 b (g.take k)).set (k+1) (fa ((FH l 1 b (g.take k))[k+1]?.getD 0) (fm (g[k]?.getD 0) b))=FH l 1 b (g.take (k+1)):=by
 rw[←Sl l g 1 k b h,kS b,Nat.add_comm 1 k]
attribute [local congr] Bm BC BD Ak Bn Aq Au Ar Aj Af AY AU Am AZ BR BS BP Ao An Ad Ap Ae BH BZ Ab BM BN BI BJ BL BK BF BG BB Bq BE Al Aa Ba Ag Av BQ
attribute [local irreducible] IntKind.wrap A0 Option.getD and or
theorem NZ (L P:Nat) (n1:Bool) (d:List F) (hL:L<=15) (hP:1<=P) (hd:d.length+P=L) (hd1:1<=d.length) (hn1:n1=false) :
  Cc E0 Gc [qB L P,.list n1 (us d)] (.list false (us (Qy P d))):=by
 subst hn1
 have c0:=M_ false d (by omega) (by omega) rfl
 refine AN JX Ay (by simp) fun hwf=>?_
 rw[AP];unfold GJ
 rw[Zv]
 refine' HO
 all_goals try exact Ca
 rw[show ([D.int .u8 1]:List D)=us (Pk 0) from rfl]
 refine Bh (α:=Nat) (fun x=>[(19,.d (.int .i64 (x:Int))),(5,.d (.list false (us (Pk x))))]) (fun x=>[]) (fun x=>x<=P) (fun x=>P-x) 0 ?hI1 ?step1
 case' step1=>(rintro i hI;try dsimp only at hI)
 case' hI1=>try dsimp only
 ·exact Nat.zero_le _
 ·have hgl:=Ww i
  by_cases h:i<P
  ·have h':(i:Int)<(P:Int):=by omega
   have hwi:=Mi (i:=i) (by omega)
   have hG:Pk (i+1)=FH (Pk i++[0]) 1 (gp i) (Pk i):=rfl
   obtain⟨G,hGe⟩:∃G,Pk i=G:=⟨_,rfl⟩
   rw[hGe] at hgl hG ⊢
   have c1:=M_ false G (by omega) (by omega) rfl
   have c2:=IZ i (by omega)
   refine' HR h' @RY;repeat' first|(refine' CQ;(first|refine Cz ([]) ([((7,1),(23,1))]) (c1) ?_)<;>refine' HR h' @RY)|refine' CP|done
   all_goals try exact Ca
   refine Bh (α:=Nat) (fun x=>[(28,.d (.int .i64 (x:Int)))]) (fun x=>[(23,.row 180 1 false (us (FH (G++[0]) 1 (gp i) (G.take x))))]) (fun x=>x<=G.length) (fun x=>G.length-x) 0 ?hI2 ?step2
   case' step2=>(rintro k hI2;try dsimp only at hI2)
   case' hI2=>try dsimp only
   ·exact Nat.zero_le _
   ·have hA:=Jd (G.take k) (G++[0]) 1 (gp i)
    rw[List.length_append,List.length_singleton] at hA
    by_cases hk:k<G.length
    ·have hk':(k:Int)<(G.length:Int):=by omega
     have hwk:=Mi (i:=k) (by omega)
     have c3:=IY (G[k]?.getD 0) (gp i)
     have hst:=XJ (G++[0]) G k (gp i) hk
     refine' MR hk' hwk hA hst;repeat' first|(refine' CQ;(first|refine AG c2 ?_|refine AG c3 ?_)<;>refine' MR hk' hwk hA hst)|refine' CP|done
     all_goals try exact Ca
     all_goals first|rfl|(simp at *;done)|(simp at *;omega)|skip
    ·have hk':¬(k:Int)<(G.length:Int):=by omega
     have hke:G.take k=G:=List.take_of_length_le (by omega)
     rw[hke,←hG]
     refine' Pc hk' hwi
     all_goals try exact Ca
     all_goals first|rfl|omega|skip
  ·have h':¬(i:Int)<(P:Int):=by omega
   have hie:i=P:=by omega
   subst hie
   obtain⟨G,hGe⟩:∃G,Pk i=G:=⟨_,rfl⟩
   rw[hGe] at hgl ⊢
   refine' Gb h' @UQ @XW;repeat' first|(refine' CQ;(first|refine Cz ([]) ([((7,1),(48,1))]) (c0) ?_)<;>refine' Gb h' @UQ @XW)|refine' CP|done
   all_goals try exact Ca
   rw[show us (d++List.replicate i 0)=us (LC G d i 0) from rfl]
   refine Bh (α:=Nat) (fun x=>[(55,.d (.int .i64 (x:Int)))]) (fun x=>[(48,.row 180 1 false (us (LC G d i x)))]) (fun x=>x<=d.length) (fun x=>d.length-x) 0 ?hI3 ?step3
   case' step3=>(rintro m hI3;try dsimp only at hI3)
   case' hI3=>try dsimp only
   ·exact Nat.zero_le _
   ·have hrl:=PO G d i m
    have hrs:LC G d i (m+1)=FH (LC G d i m) m ((LC G d i m)[m]?.getD 0) G:=rfl
    obtain⟨R,hR⟩:∃R,LC G d i m=R:=⟨_,rfl⟩
    rw[hR] at hrl hrs ⊢
    by_cases hm:m<d.length
    ·have hm':(m:Int)<(d.length:Int):=by omega
     have hwm:=Mi (i:=m) (by omega)
     have hmR:m<R.length:=by omega
     obtain⟨B,hB⟩:∃B,R[m]?.getD 0=B:=⟨_,rfl⟩
     rw[hB] at hrs
     refine' Pb hm' hmR hB
     all_goals try exact Ca
     rw[show us R=us (FH R m B (G.take 0)) from rfl]
     refine Bh (α:=Nat) (fun x=>[(64,.d (.int .i64 (x:Int)))]) (fun x=>[(48,.row 180 1 false (us (FH R m B (G.take x))))]) (fun x=>x<=G.length) (fun x=>G.length-x) 0 ?hI4 ?step4
     case' step4=>(rintro k hI4;try dsimp only at hI4)
     case' hI4=>try dsimp only
     ·exact Nat.zero_le _
     ·have hA:=Jd (G.take k) R m B
      by_cases hk:k<G.length
      ·have hk':(k:Int)<(G.length:Int):=by omega
       have hwk:=Mi (i:=k) (by omega)
       have hwmk:IntKind.i64.wrap ((m:Int)+(k:Int))=((m+k:Nat):Int):=by rw[Bd _ (by omega)];omega
       have hmk:m+k<R.length:=by omega
       have c3:=IY B (G[k]?.getD 0)
       have hst:=Sl R G m k B hk
       refine' UB hk' hwk hwmk hA hmk hst;repeat' first|(refine' CQ;(first|refine AG c3 ?_)<;>refine' UB hk' hwk hwmk hA hmk hst)|refine' CP|done
       all_goals try exact Ca
       all_goals first|rfl|(simp at *;done)|(simp at *;omega)|skip
      ·have hk':¬(k:Int)<(G.length:Int):=by omega
       have hke:G.take k=G:=List.take_of_length_le (by omega)
       rw[hke,←hrs]
       refine' Pc hk' hwm
       all_goals try exact Ca
       all_goals first|rfl|omega|skip
    ·have hm':¬(m:Int)<(d.length:Int):=by omega
     have hme:m=d.length:=by omega
     have c4:=Sq false false d (R.drop d.length) (by omega) (by simp;omega)
     have hres:d++R.drop d.length=Qy i d:=by rw[←hR,hme,←hGe];rfl
     have hemp:(Qy i d).isEmpty=false:=by
      have h5:=Wq i d
      cases hE:Qy i d with
      |nil=>rw[hE] at h5;simp at h5;omega
      |cons=>rfl
     have hdr:List.take (d.length+i-d.length) (R.drop d.length)=R.drop d.length:=List.take_of_length_le (by simp;omega)
     rw[hres,hemp] at c4
     refine' Gb hm' hrl hdr;repeat' first|(refine' CQ;(first|refine AG c4 ?_)<;>refine' Gb hm' hrl hdr)|refine' CP|done
     all_goals try exact Ca
     all_goals first|rfl|(simp at *;done)|(simp at *;omega)|skip
end Go.Pw
end
section
open Go Go.Pw Go.Proofs
namespace Go.Pw
set_option maxRecDepth 100000
set_option maxHeartbeats 3200000
theorem Ot {L P:Int}(h:FG L P=true):2<=L/\L<=15/\1<=P/\P<=8/\P<L:=by simpa[FG] using h
theorem dG {L P:Int}(h:FG L P=true):∃l p:Nat,L=(l:Int)/\P=(p:Int)/\2<=l/\l<=15/\1<=p/\p<=8/\p<l:=by
 have:=Ot h
 exact⟨L.toNat,P.toNat,by omega,by omega,by omega,by omega,by omega,by omega,by omega⟩
def tG (L P n:Int):Int:=if FG L P=true then if 0<=n/\n<=L then 0 else 1 else 50
def tH (L P n:Int):Bool:=FG L P && (decide (0<=n/\n<=L) && decide (P<n+P/2))
def lO (L:Nat):Nat->Nat×Nat
 |0=>(0,1)
 |e+1=>((lO L e).1+(lO L e).2,(lO L e).2*(L-e)*15/(e+1))
def sI (L P:Nat):Nat:=(lO L (P/2+1)).1
def sH (L P:Nat):Nat:=Nat.gcd (sI L P) (2^(4*P))
def t0 (L P:Int):Int:=if FG L P=true then ((sI L.toNat P.toNat/sH L.toNat P.toNat:Nat):Int) else 0
def tz (L P:Int):Int:=if FG L P=true then ((2^(4*P.toNat)/sH L.toNat P.toNat:Nat):Int) else 0
attribute [local congr] Bm BC BD Ak Bn Aq Au Ar Aj Af AY AU Am AZ BR BS BP Ao An Ad Ap Ae BH BZ Ab BM BN BI BJ BL BK BF BG BB Bq BE Al Aa Ba Ag Av BQ
attribute [local irreducible] IntKind.wrap A0 Option.getD and or
end Go.Pw
end
section
namespace Go.Pw
def fs (xs:List Int):List F:=xs.map fun x=>Fin.ofNat 16 x.toNat
theorem lf:∀{xs:List Int},xs.all Sw=true->iv (fs xs)=xs
 |[],_=>rfl
 |x::xs,h=>by
  simp only[List.all_cons,Bool.and_eq_true] at h
  have hx:0<=x/\x<=15:=by simpa[Sw] using h.1
  show ((Fin.ofNat 16 x.toNat).val:Int)::iv (fs xs)=x::xs
  rw[lf h.2]
  congr 1
  show ((x.toNat%16:Nat):Int)=x
  omega
theorem eF {xs:List Int}{m:Int}(h:Ed xs m=true):(xs.length:Int)=m/\iv (fs xs)=xs:=by
 unfold Ed at h
 simp only[Bool.and_eq_true,decide_eq_true_eq] at h
 exact⟨h.1,lf h.2⟩
def nt (ms:List Int):List Nat:=ms.map Int.toNat
def tL (L P:Int) (xs:List Int):Int:=if FG L P=true then if Ed xs (L-P)=true then 0 else 51 else 50
def tK (L P:Int) (xs:List Int):List Int:=if FG L P=true then if Ed xs (L-P)=true then iv (Qy P.toNat (fs xs)) else [] else []
noncomputable def sF (L P:Int) (ws ms:List Int):Option (List F):=p_ L.toNat P.toNat (fs ws) (nt ms)
def oE:Option (List F)->Int
 |some _=>0
 |none=>52
def oL:Option (List F)->List F
 |some r=>r
 |none=>[]
noncomputable def tu (L P:Int) (ws ms:List Int):Int :=
 if FG L P=true then if Ed ws L=true then if Pa ms L=true then oE (sF L P ws ms) else 1 else 51 else 50
noncomputable def tq (L P:Int) (ws ms:List Int):List Int :=
 if FG L P=true then if Ed ws L=true then if Pa ms L=true then iv (oL (sF L P ws ms)) else [] else [] else []
end Go.Pw
end
section
open Go Go.Pw Go.Proofs
namespace Go.Pw
set_option maxRecDepth 100000
set_option maxHeartbeats 3200000
theorem YS (w:List F):(iv w).isEmpty=w.isEmpty:=by cases w<;>rfl
theorem jY {w:List F}(h:0<w.length):w.isEmpty=false:=by cases w<;>simp_all
theorem YR {w:List F}(h:0<w.length):(iv w).isEmpty=false:=by rw[YS];exact jY h
attribute [local congr] Bm BC BD Ak Bn Aq Au Ar Aj Af AY AU Am AZ BR BS BP Ao An Ad Ap Ae BH BZ Ab BM BN BI BJ BL BK BF BG BB Bq BE Al Aa Ba Ag Av BQ
attribute [local irreducible] IntKind.wrap A0 Option.getD and or
end Go.Pw
end
section
open Go Go.Pw Go.Proofs
namespace Go.Pw
set_option maxRecDepth 100000
set_option maxHeartbeats 3200000
def D3 (L P Q:Int):Bool:=FG L P && decide (1<=Q/\Q<=8)
theorem VZ {L P Q:Int}(h:D3 L P Q=true):FG L P=true/\1<=Q/\Q<=8:=by simpa[D3] using h
def od (L P Q:Int) (xs:List Int) (m:Int):Int:=if D3 L P Q=true then if Ed xs (Q*m)=true then 0 else 51 else 50
def qV (L P Q:Int) (e:Int):D:=if e=0 then .agg [.int .i64 L,.int .i64 P,.int .i64 Q] else .agg [.int .i64 0,.int .i64 0,.int .i64 0]
theorem fJ (L P Q:Int):qV L P Q 0=.agg [.int .i64 L,.int .i64 P,.int .i64 Q]:=rfl
theorem fI (L P Q:Int):qV L P Q 51=.agg [.int .i64 0,.int .i64 0,.int .i64 0]:=rfl
theorem Uw (L P Q:Int):qV L P Q 50=.agg [.int .i64 0,.int .i64 0,.int .i64 0]:=rfl
theorem UC:Bk E0.P Dp=true:=by kernel_rfl
theorem VK:Bk E0.P FJ=true:=by kernel_rfl
theorem aE:Ed [] 0=true:=rfl
attribute [local congr] Bm BC BD Ak Bn Aq Au Ar Aj Af AY AU Am AZ BR BS BP Ao An Ad Ap Ae BH BZ Ab BM BN BI BJ BL BK BF BG BB Bq BE Al Aa Ba Ag Av BQ
attribute [local irreducible] IntKind.wrap A0 Option.getD and or
theorem JZ (L P:Int) (h:-1000<=L/\L<=1000/\-1000<=P/\P<=1000):Cc E0 Dp [.agg [.int .i64 L,.int .i64 P]] (.int .i64 (L-P)):=by
 refine AN K1 Ay (by simp) fun hwf=>?_
 rw[AP];unfold Gx
 have hw:IntKind.i64.wrap (L-P)=L-P:=Bd _ (by omega)
 refine' K5 hw
theorem Me (L P:Int):Cc E0 FJ [.agg [.int .i64 L,.int .i64 P]] (.int .i64 0):=by
 refine AN Mb Ay (by simp) fun hwf=>?_
 rw[AP];unfold Ho
 refine' HO
theorem Gj (L P Q:Int) (nl:Bool) (xs:List Int) (f:FuncId) (m:Int) (hb:Bk E0.P f=true) (hm:0<=m/\m<=1000) (h:FG L P=true->Cc E0 f [.agg [.int .i64 L,.int .i64 P]] (.int .i64 m)) :
  Cc E0 L5 [.agg [.int .i64 L,.int .i64 P,.int .i64 Q],.list nl (BU xs),.fn f []] (.tup [qV L P Q (od L P Q xs m),.int .i64 (od L P Q xs m)]):=by
 have c1:=Ok L P
 refine AN P0 Ay (by simp) fun hwf=>?_
 rw[AP];unfold KX od D3
 cases hc:FG L P with
 |false =>
  rw[hc] at c1
  simp only[Bool.false_eq_true,if_false,Bool.false_and] at c1 ⊢
  rw[Uw]
  refine' H9;repeat' first|(refine' CQ;(first|refine AG c1 ?_)<;>refine' H9)|refine' CP|done
  all_goals first|rfl|(simp;done)|skip
 |true =>
  rw[hc] at c1
  simp only[if_true,Bool.true_and] at c1 ⊢
  by_cases hD:1<=Q/\Q<=8
  ·have h1:¬Q<1:=by omega
   have h2:¬8<Q:=by omega
   have hDm:0<=Q*m/\Q*m<=8000:=by
    constructor
    ·exact Int.mul_nonneg (by omega) (by omega)
    ·exact Int.le_trans (Int.mul_le_mul_of_nonneg_left hm.2 (by omega)) (by omega)
   have hw:IntKind.i64.wrap (Q*m)=Q*m:=Bd _ (by omega)
   rw[decide_eq_true hD]
   simp only[if_true]
   have c2:=RB nl xs (Q*m)
   have c3:=h hc
   cases hs:Ed xs (Q*m) with
   |false =>
    rw[hs] at c2
    simp only[Bool.false_eq_true,if_false]
    rw[fI]
    refine' MR h1 h2 hw hb;repeat' first|(refine' CQ;(first|refine AG c1 ?_|refine AG c2 ?_|refine AG c3 ?_)<;>refine' MR h1 h2 hw hb)|refine' CP|done
    all_goals first|rfl|(simp;done)|skip
   |true =>
    rw[hs] at c2
    simp only[if_true]
    rw[fJ]
    refine' MR h1 h2 hw hb;repeat' first|(refine' CQ;(first|refine AG c1 ?_|refine AG c2 ?_|refine AG c3 ?_)<;>refine' MR h1 h2 hw hb)|refine' CP|done
    all_goals first|rfl|(simp;done)|skip
  ·rw[decide_eq_false hD]
   simp only[Bool.false_eq_true,if_false]
   rw[Uw]
   by_cases h1:Q<1
   ·refine' VX h1;repeat' first|(refine' CQ;(first|refine AG c1 ?_)<;>refine' VX h1)|refine' CP|done
    all_goals first|rfl|(simp;done)|skip
   ·have h2:8<Q:=by omega
    refine' HR h1 h2;repeat' first|(refine' CQ;(first|refine AG c1 ?_)<;>refine' HR h1 h2)|refine' CP|done
    all_goals first|rfl|(simp;done)|skip
theorem Ol (L P Q:Int):Cc E0 Kt [.agg [.int .i64 L,.int .i64 P,.int .i64 Q]] (.tup [.int .i64 (if D3 L P Q=true then Q*(P/2) else 0),.int .i64 (if D3 L P Q=true then Q*P else 0),.int .i64 (if D3 L P Q=true then 0 else 50)]):=by
 have c1:=Gj L P Q true [] FJ 0 VK (by omega) fun _=>Me L P
 refine AN OZ Ay (by simp) fun hwf=>?_
 rw[AP];unfold JN
 unfold od at c1
 cases hw:D3 L P Q with
 |false =>
  rw[hw] at c1
  simp only[Bool.false_eq_true,if_false] at c1 ⊢
  rw[Uw] at c1
  refine' H9;repeat' first|(refine' CQ;(first|refine AG c1 ?_)<;>refine' H9)|refine' CP|done
  all_goals first|rfl|(simp;done)|skip
 |true =>
  obtain⟨hc,hD⟩:=VZ hw
  have hb:=Ot hc
  rw[hw,show Ed [] (Q*0)=true by rw[Int.mul_zero];exact aE] at c1
  simp only[if_true] at c1 ⊢
  rw[fJ] at c1
  have hd:P.tdiv 2=P/2:=Int.tdiv_eq_ediv_of_nonneg (by omega)
  have w1:IntKind.i64.wrap (P/2)=P/2:=Bd _ (by omega)
  have b1:0<=Q*(P/2)/\Q*(P/2)<=8*8:=⟨Int.mul_nonneg (by omega) (by omega),Int.mul_le_mul hD.2 (by omega) (by omega) (by omega)⟩
  have b2:0<=Q*P/\Q*P<=8*8:=⟨Int.mul_nonneg (by omega) (by omega),Int.mul_le_mul hD.2 (by omega) (by omega) (by omega)⟩
  have w2:IntKind.i64.wrap (Q*(P/2))=Q*(P/2):=Bd _ (by omega)
  have w3:IntKind.i64.wrap (Q*P)=Q*P:=Bd _ (by omega)
  refine' MR hd w1 w2 w3;repeat' first|(refine' CQ;(first|refine AG c1 ?_)<;>refine' MR hd w1 w2 w3)|refine' CP|done
  all_goals first|rfl|(simp;done)|skip
end Go.Pw
end
section
open Go Go.Pw Go.Proofs
namespace Go.Pw
set_option maxRecDepth 100000
set_option maxHeartbeats 3200000
def tP (L P:Nat) (w:List F):Bool:=(List.range P).all fun i=>decide (p9 w (rQ L i)=0)
def sc (L P:Int):Bool:=FG L P && (decide (L<=10) && decide (P<=6))
def sj (L P:Int) (d a m:List Int):Bool:=decide (m.length<=30) && (Ed d (L-P) && (Ed a L && Pa m L))
def tg (w a:List F):List F:=List.zipWith fa w a
def t5 (a b m:List Int) (n:Nat):List Nat:=(List.range n).filter fun i=>decide (a[i]?.getD 0≠b[i]?.getD 0) && !su m i
attribute [local congr] Bm BC BD Ak Bn Aq Au Ar Aj Af AY AU Am AZ Ao An Ad Ap Ae BH BZ Ab BM BN BI BJ BL BK BF BG BB BE Al Aa
attribute [local irreducible] IntKind.wrap A0 Option.getD and or
end Go.Pw
end
