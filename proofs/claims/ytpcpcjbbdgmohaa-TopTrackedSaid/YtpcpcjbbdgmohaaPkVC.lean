/- A part of the proof. -/
import Derived.Test.YtpcpcjbbdgmohaaPkZa
import Derived.IntWalk
set_option linter.all false
section
namespace Go.Pw
def Hj:Nat:=0
theorem Z7:Hj=0:=Eq.symm (Eq.symm rfl)
def IE (v:AV) (b:Bool) (A B:Prop):Prop :=
 match v with
 |.d (.bool b')=>Fh (b == b') A B
 |.tup []=>B
 |_=>False
def UM (v:AV) (t:Nat) (sl:Nat->AV) (V:AK) (KS:Ar->Prop):Prop :=
 match v with
 |.own o g=>HQ (V.get o g) fun _ _ nl l=>KS ⟨CD sl t (.d (.list nl l)),V.drop o⟩
 |_=>KS ⟨sl,V⟩
def WU (v:AV) (t:Nat) (sl:Nat->AV) (V:AK) (KS:Ar->Prop):Prop :=
 match v with
 |.ptr o g 0=>FH (V.get o g) fun xs=>An (Ak AV.toD1 xs) fun cs=>cs≠[]/\KS ⟨CD sl t (.d (.ptr cs)),V.drop o⟩
 |_=>KS ⟨sl,V⟩
def be (y:Option AR) (o g:Nat) (sl:Nat->AV) (V:AK) (KS:Ar->Prop):Prop :=
 match y with
 |some (.rowH ety l i q p)=>HQ (V.get q p) fun _ _ nl xs=>KS ⟨sl,(V.drop q).app (.keep o g (.row ety 1 false (l.set i (.list nl xs))))⟩
 |_=>KS ⟨sl,V⟩
def b9 (v:AV) (sl:Nat->AV) (V:AK) (KS:Ar->Prop):Prop :=
 match v with
 |.own o g=>be (V.get o g) o g sl V KS
 |_=>KS ⟨sl,V⟩
def b8 (v:AV) (t:Nat) (sl:Nat->AV) (V:AK) (KS:Ar->Prop):Prop :=
 match v with
 |.mref .out o g=>ab (V.get o g) fun _ _ nl ix rows=>KS ⟨CD sl t (.d (.list nl (M9 ix rows))),V.drop o⟩
 |_=>KS ⟨sl,V⟩
def bf (x:Option AR) (t o:Nat) (sl:Nat->AV) (V:AK) (KS:Ar->Prop):Prop :=
 match x with
 |some (.cells (c::l))=>KS ⟨CD sl t (.ablk false (c::l) 0),V.drop o⟩
 |_=>False
def cD (v:AV) (t:Nat) (sl:Nat->AV) (V:AK) (KS:Ar->Prop):Prop :=
 match v with
 |.ptr o g 0=>bf (V.get o g) t o sl V KS
 |_=>KS ⟨sl,V⟩
def ao (x:Option AV) (b g k:Nat) (xs:List AV) (sl:Nat->AV) (V:AK) (KS:Ar->Prop):Prop :=
 match x with
 |some (.own o p)=>HQ (V.get o p) fun _ _ nl l=>KS ⟨sl,(V.drop o).app (.keep b g (.cells (xs.set k (.d (.list nl l)))))⟩
 |_=>KS ⟨sl,V⟩
def b_ (v:AV) (off:Nat) (sl:Nat->AV) (V:AK) (KS:Ar->Prop):Prop :=
 match v with
 |.ptr b g f=>(match V.get b g with
  |some (.cells xs)=>ao xs[f+off]? b g (f+off) xs sl V KS
  |_=>KS ⟨sl,V⟩)
 |_=>KS ⟨sl,V⟩
def cB (y:Option AR) (b g k:Nat) (sl:Nat->AV) (V:AK) (KS:Ar->Prop):Prop :=
 match y with
 |some (.cells xs)=>ao xs[k]? b g k xs sl V KS
 |_=>KS ⟨sl,V⟩
def bv (v:AV) (t e2:Nat) (sl:Nat->AV) (V:AK) (KS:Ar->Prop):Prop :=
 match v with
 |.own o g=>HQ (V.get o g) fun e1 es nl l=>nl=false/\es=1/\o<C5/\(∀x,x∈l->x=.list true []) /\
  KS ⟨CD sl t (.mref .out o (V.cn o)),V.app (.fresh o (.mat e1 e2 false (List.range l.length) (List.replicate l.length (true,[]))))⟩
 |_=>KS ⟨sl,V⟩
def bw (v:AV) (t o e1 e2:Nat) (sl:Nat->AV) (V:AK) (KS:Ar->Prop):Prop :=
 match v with
 |.d (.list true [])=>o<C5/\KS ⟨CD sl t (.mref .out o (V.cn o)),V.app (.fresh o (.mat e1 e2 true [] []))⟩
 |_=>KS ⟨sl,V⟩
def Vp (v:AV) (t o ety es:Nat) (sl:Nat->AV) (V:AK) (KS:Ar->Prop):Prop :=
 match v with
 |.d (.list true [])=>o<C5/\KS ⟨CD sl t (.own o (V.cn o)),V.app (.fresh o (.row ety es true []))⟩
 |_=>KS ⟨sl,V⟩
def bU (x:Option AV) (b g k o ety es:Nat) (xs:List AV) (sl:Nat->AV) (V:AK) (KS:Ar->Prop):Prop :=
 match x with
 |some (.d (.list true []))=>o<C5/\o≠b/\KS ⟨sl,(V.app (.fresh o (.row ety es true []))).app (.keep b g (.cells (xs.set k (.own o (V.cn o)))))⟩
 |_=>KS ⟨sl,V⟩
def bV (y:Option AR) (b g k o ety es:Nat) (sl:Nat->AV) (V:AK) (KS:Ar->Prop):Prop :=
 match y with
 |some (.cells xs)=>bU xs[k]? b g k o ety es xs sl V KS
 |_=>KS ⟨sl,V⟩
def bx (v:AV) (off o ety es:Nat) (sl:Nat->AV) (V:AK) (KS:Ar->Prop):Prop :=
 match v with
 |.ptr b g f=>bV (V.get b g) b g (f+off) o ety es sl V KS
 |_=>KS ⟨sl,V⟩
section
variable {E:CI}{Q:Bq->Ar->Prop}{s s':Ar}{K:AV->BM->Prop}{KS:Ar->Prop}
theorem DH {z:Nat}{p:PC}(hz:Hj=z) (h:s=s'):pw E p Q s=pw E p Q s':=by rw[h]
theorem Bv {z:Nat}{l:List D0}(hz:Hj=z) (h:s=s'):Gv E l s KS=Gv E l s' KS:=by rw[h]
theorem BW {z:Nat}{I:D0}(hz:Hj=z) (h:s=s'):De E I s K=De E I s' K:=by rw[h]
theorem DJ {z:Nat}{dst:Option Nat}{op:A7}{V V':AK}{xs xs':List AV}(hz:Hj=z) (hV:V=V') (h:xs=xs'):ev E dst V op xs K=ev E dst V' op xs' K:=by rw[h,hV]
theorem Bd {z:Nat}{b:BinOp}{k k' k1 k2:IntKind}{x y x' y':Int}{C:AV->Prop}(hz:Hj=z) (h1:k=k1) (h2:k'=k2) (hx:x=x') (hy:y=y'):C3 b k k' x y C=C3 b k1 k2 x' y' C:=by rw[h1,h2,hx,hy]
theorem Bf {z:Nat}{c c':Bool}{A B:Prop}(hz:Hj=z) (h:c=c'):Fh c A B=Fh c' A B:=by rw[h]
theorem Be {z:Nat}{v v':AV}{A B:Prop}(hz:Hj=z) (h:v=v'):NN v A B=NN v' A B:=by rw[h]
theorem BV {z:Nat}{e e':Bq}{A:Ar->Prop}(hz:Hj=z) (he:e=e') (h:s=s'):Hk A Q e s=Hk A Q e' s':=by rw[he,h]
theorem BH {z:Nat}{i:Nat}{e e':Bq}(hz:Hj=z) (he:e=e') (h:s=s'):G8 i Q e s=G8 i Q e' s':=by rw[he,h]
theorem A' {α:Type}{z:Nat}{x y:Option α}{A:α->Prop}(hz:Hj=z) (h:x=y):An x A=An y A:=by rw[h]
theorem A0 {z:Nat}{x y:Option AR} {A} (hz:Hj=z) (h:x=y):FH x A=FH y A:=by rw[h]
theorem BZ {z:Nat}{x y:Option AR} {A} (hz:Hj=z) (h:x=y):HQ x A=HQ y A:=by rw[h]
theorem BB {z:Nat}{x y:Option AR} {A B} (hz:Hj=z) (h:x=y):Fa x A B=Fa y A B:=by rw[h]
theorem BD {z:Nat}{x y:Option AR} {A} (hz:Hj=z) (h:x=y):H3 x A=H3 y A:=by rw[h]
theorem Bb {z:Nat}{x y:Option AR} {A B} (hz:Hj=z) (h:x=y):Ls x A B=Ls y A B:=by rw[h]
theorem B3 {z:Nat}{es es':List (Nat×D×D)}{l l':List Nat} {A B} (hz:Hj=z) (h:es=es') (h':l=l'):Xk es l A B=Xk es' l' A B:=by rw[h,h']
theorem Ba {α:Type}{z:Nat}{x y:Option α}{A:α->Prop}{B:Prop}(hz:Hj=z) (h:x=y):Lr x A B=Lr y A B:=by rw[h]
theorem BF {z:Nat}{gs:List DK}(hz:Hj=z) (h:s=s'):B8 gs s KS=B8 gs s' KS:=by rw[h]
theorem Bc {z:Nat}{g:DK}(hz:Hj=z) (h:s=s'):Fd g s KS=Fd g s' KS:=by rw[h]
theorem BG {z:Nat}{dst:Option Nat}{V V':AK}{f:FuncId}{xs xs':List AV}(hz:Hj=z) (hV:V=V') (h:xs=xs'):Cr E dst V f xs K=Cr E dst V' f xs' K:=by rw[h,hV]
theorem B1 {z:Nat}{α:Type}{ag:Bool}{n n':Nat}{cs cs':List α}{off off':Nat}{mk:List α->AV}{one:α->AV}{C:AV->Prop}(hz:Hj=z) (hn:n=n') (h:cs=cs') (ho:off=off'):Bt ag n cs off mk one C=Bt ag n' cs' off' mk one C:=by rw[hn,h,ho]
theorem CX {z:Nat}{lo hi:Bool}{n n':Nat}{xs xs':List AV}{C:Nat->Nat->Prop}(hz:Hj=z) (hn:n=n') (h:xs=xs'):LB lo hi n xs C=LB lo hi n' xs' C:=by rw[hn,h]
theorem BE {z:Nat}{v v':AV}{b:Bool}{A B:Prop}(hz:Hj=z) (h:v=v'):IE v b A B=IE v' b A B:=by rw[h]
theorem B4 {z:Nat}{v v':AV}{t:Nat}{sl:Nat->AV}{V:AK}(hz:Hj=z) (h:v=v'):UM v t sl V KS=UM v' t sl V KS:=by rw[h]
theorem B2 {z:Nat}{v v':AV}{t o ety es:Nat}{sl:Nat->AV}{V:AK}(hz:Hj=z) (h:v=v'):Vp v t o ety es sl V KS=Vp v' t o ety es sl V KS:=by rw[h]
theorem Bz {z:Nat}{rs:List RT}{K:List AV->Prop}(hz:Hj=z) (h:s=s'):Fr E s rs K=Fr E s' rs K:=by rw[h]
theorem B0 {z:Nat}{r:RT}{K:AV->Prop}(hz:Hj=z) (h:s=s'):Ri E s r K=Ri E s' r K:=by rw[h]
theorem Bu {z:Nat}{y y':AV}{xs xs':List AV}{V V':AK}(hz:Hj=z) (h1:y=y') (h2:xs=xs') (h3:V=V'):Na y xs V K=Na y' xs' V' K:=by rw[h1,h2,h3]
theorem Bx {z:Nat}{α:Type}{T:α->AK} {Inv PInv m gs ks os sl e e'} (hz:Hj=z) (he:e=e') (h:s=s'):Rg T Inv PInv m gs ks os sl e s=Rg T Inv PInv m gs ks os sl e' s':=by rw[he,h]
theorem BX {z:Nat}{A:Ar->Prop} {e e'} (hz:Hj=z) (he:e=e') (h:s=s'):KW A e s=KW A e' s':=by rw[he,h]
theorem BC {z:Nat}{x y:Option AR} {A} (hz:Hj=z) (h:x=y):M3 x A=M3 y A:=by rw[h]
theorem AW {b:Bool}{A B:Prop}(h1:b=true->A) (h2:b=false->B):Fh b A B:=⟨h1,h2⟩
theorem XG {d t b op xs} {sl:Nat->AV}{V:AK}:De E ⟨d,some (t,b),op,xs⟩ ⟨sl,V⟩ K=IE (sl t) b (ev E d V op (xs.map (Gq.val sl)) K) (K (.tup []) .none):=rfl
theorem X8 {b:Bool}{A B:Prop}:IE (.d (.bool b)) true A B=Fh b A B:=by simp[IE]
theorem X9 {b:Bool}{A B:Prop}:IE (.d (.bool b)) false A B=Fh b B A:=by cases b<;>simp[IE]
theorem X7 {b:Bool}{A B:Prop}:IE (.tup []) b A B=B:=rfl
theorem WP {t:Nat}{sl:Nat->AV}{V:AK}:Fd (.freeze t) ⟨sl,V⟩ KS=UM (sl t) t sl V KS:=by
 simp only[Fd,UM]
 cases sl t with
 |own o g=>simp only;cases V.get o g with
  |none=>rfl
  |some x=>cases x<;>rfl
 |_=>rfl
theorem X' {t o g:Nat}{sl:Nat->AV}{V:AK}:UM (.own o g) t sl V KS=HQ (V.get o g) fun _ _ nl l=>KS ⟨CD sl t (.d (.list nl l)),V.drop o⟩:=rfl
theorem an {t:Nat}{x:D}{sl:Nat->AV}{V:AK}:UM (.d x) t sl V KS=KS ⟨sl,V⟩:=rfl
theorem WQ {t:Nat}{sl:Nat->AV}{V:AK}:Fd (.frzP t) ⟨sl,V⟩ KS=WU (sl t) t sl V KS:=by
 simp only[Fd,WU]
 cases sl t with
 |ptr o g f =>
  cases f with
  |zero =>
   simp only;cases V.get o g with
   |none=>rfl
   |some x =>
    cases x with
    |cells xs =>
     simp only[FH]
     cases Ak AV.toD1 xs with
     |none=>rfl
     |some l=>cases l<;>simp[An]
    |_=>rfl
  |succ n=>rfl
 |_=>rfl
theorem YA {t o g:Nat}{sl:Nat->AV}{V:AK}:WU (.ptr o g 0) t sl V KS=FH (V.get o g) fun xs=>An (Ak AV.toD1 xs) fun cs=>cs≠[]/\KS ⟨CD sl t (.d (.ptr cs)),V.drop o⟩:=rfl
theorem B5 {z:Nat}{v v':AV}{t:Nat}{sl:Nat->AV}{V:AK}(hz:Hj=z) (h:v=v'):WU v t sl V KS=WU v' t sl V KS:=by rw[h]
theorem BA {z:Nat}{x y:Option AR} {A B} (hz:Hj=z) (h:x=y):Jr x A B=Jr y A B:=by rw[h]
theorem WO {t o ety es:Nat}{sl:Nat->AV}{V:AK}:Fd (.own t o ety es) ⟨sl,V⟩ KS=Vp (sl t) t o ety es sl V KS:=rfl
theorem Xf {t o ety es:Nat}{sl:Nat->AV}{V:AK}:Vp (.d (.list true [])) t o ety es sl V KS=(o<C5/\KS ⟨CD sl t (.own o (V.cn o)),V.app (.fresh o (.row ety es true []))⟩):=rfl
theorem Xe {t o ety es o' g:Nat}{sl:Nat->AV}{V:AK}:Vp (.own o' g) t o ety es sl V KS=KS ⟨sl,V⟩:=rfl
end
theorem W6 {α:Type}(f:Nat->α) (i:Nat) (x:α) (j:Nat):CD f i x j=if j=i then x else f j:=rfl
theorem aZ {x:D}:(AV.d x).one=x.one:=rfl
theorem Xh {o g}:(AV.own o g).one=true:=rfl
theorem Xi {o g}:(AV.map o g).one=true:=rfl
theorem Wj {k n}:(D.int k n).one=true:=rfl
theorem Uq {n l}:(D.list n l).one=true:=rfl
theorem YS {f l}:(D.fn f l).one=true:=rfl
theorem aA {c}:(AV.agg c).cells?=some c:=rfl
theorem YX {c}:(AV.d (.agg c)).cells?=some (c.map .d):=rfl
theorem Z_ {k n}:(AV.d (.int k n)).cells?=some [.d (.int k n)]:=rfl
theorem YV {n l}:(AV.d (.list n l)).cells?=some [.d (.list n l)]:=rfl
theorem YW {f l}:(AV.d (.map f l)).cells?=some [.d (.map f l)]:=rfl
theorem Z' {f l}:(AV.d (.fn f l)).cells?=some [.d (.fn f l)]:=rfl
theorem Z8 {o g}:(AV.own o g).cells?=some [.own o g]:=rfl
theorem Z9 {o g}:(AV.map o g).cells?=some [.map o g]:=rfl
theorem a8 {l}:(AV.ex l).cells?=some [.ex l]:=rfl
theorem a7 {f c}:(AV.fn f c).cells?=some [.fn f c]:=rfl
theorem Y1 {k n}:AV.toD0 (.d (.int k n))=some (.int k n):=rfl
theorem Yy {k n}:AV.toD1 (.d (.int k n))=some (.int k n):=rfl
theorem XB {n l}:AV.toD1 (.d (.list n l))=some (.list n l):=rfl
theorem XD {l}:AV.toD1 (.d (.agg l))=some (.agg l):=rfl
theorem XC {f l}:AV.toD1 (.d (.map f l))=some (.map f l):=rfl
theorem Yz {f cs}:AV.toD1 (.bnd f cs)=match Ak AV.toD0 cs with|some l=>some (.bnd f l)|none=>none:=rfl
theorem UA {α β:Type}{f:α->Option β}:Ak f []=some []:=rfl
theorem R8 {α β:Type}{f:α->Option β}{x:α}{xs:List α}:Ak f (x::xs)=match f x with
 |none=>none
 |some y=>match Ak f xs with|none=>none|some ys=>some (y::ys):=rfl
theorem Y0 {cs}:AV.toD1 (.agg cs)=match Ak AV.toD0 cs with|some l=>some (.agg l)|none=>none:=rfl
theorem aL {f cs}:AV.toD1 (.fn f cs)=match Ak AV.toD0 cs with|some l=>some (.fn f l)|none=>none:=rfl
theorem Yi {V:AK} {n l}:(AV.d (.list n l)).asList V=some (n,l):=rfl
theorem bD {V:AK} {l}:(AV.ex l).asList V=some (false,l):=rfl
theorem aD {V:AK} {o g}:(AV.own o g).asList V=match V.get o g with|some (.row _ _ nil xs)=>some (nil,xs)|_=>none:=rfl
theorem bC {V:AK} {o g}:(AV.mref .out o g).asList V=match V.get o g with|some (.mat _ _ nil ix rows)=>some (nil,M9 ix rows)|_=>none:=rfl
theorem bh {V:AK} {x}:D3 V none (.d x)=match (AV.d x).asList V with|some (_,ys)=>some ys|none=>none:=rfl
theorem a9 {V:AK} {x}:D3 V none (.ex x)=match (AV.ex x).asList V with|some (_,ys)=>some ys|none=>none:=rfl
theorem UQ {es xs}:EY es xs []=some xs:=rfl
theorem SH {es xs i v rest}:EY es xs ((i,v)::rest)=match v.toD1 with
 |none=>none
 |some x=>if x.cells.length=es/\i<xs.length then EY es (xs.set i x) rest else none:=rfl
theorem UR {cs}:JU cs []=some cs:=rfl
theorem SI {cs off size v rest}:JU cs (((off,size),v)::rest)=match v.cells? with
 |none=>none
 |some vs=>if vs.length=size/\off+size<=cs.length then JU (Az cs off vs) rest else none:=rfl
theorem Uw {k n}:(D.int k n).cells=[.int k n]:=rfl
theorem Sd {n l}:(D.list n l).cells=[.list n l]:=rfl
theorem Ux {l}:(D.agg l).cells=l:=rfl
theorem Yx {k n}:up (.int k n)=.d (.int k n):=rfl
theorem W9 {b}:up (.bool b)=.d (.bool b):=rfl
theorem Yw {l}:up (.tup l)=.tup (l.map .d):=rfl
theorem TY:BM.site .none=[]:=rfl
theorem VK {a b}:BM.site (.seq a b)=a.site++b.site:=rfl
theorem RV {o x}:BM.site (.fresh o x)=[o]:=rfl
theorem TZ {o g x}:BM.site (.keep o g x)=[o]:=rfl
def CT (xs:List Int):List D:=xs.map (D.int .i64)
@[simp] theorem al:CT []=[]:=rfl
theorem Cz (xs:List Int):(CT xs).length=xs.length:=by simp[CT]
theorem UH (xs:List Int) (n:Nat):(CT xs).drop n=CT (xs.drop n):=by simp[CT]
theorem UF (xs:List Int) (n:Nat):(CT xs).take n=CT (xs.take n):=by simp[CT]
theorem UG (xs:List Int) (y:Int):CT xs++[.int .i64 y]=CT (xs++[y]):=by simp[CT]
theorem WI (xs:List Int) (i:Nat) (y:Int):(CT xs).set i (.int .i64 y)=CT (xs.set i y):=by simp[CT,List.map_set]
theorem WJ (n:Nat) (y:Int):List.replicate n (D.int .i64 y)=CT (List.replicate n y):=by simp[CT]
theorem UE (xs:List Int):Ci 1 (CT xs)=True:=by
 simp only[Ci,CT,eq_iff_iff,iff_true];intro x hx;simp at hx;obtain⟨n,_,rfl⟩:=hx;rfl
theorem U' {es:Nat}:Ci es []=True:=by simp[Ci]
theorem TE {es:Nat}{x:D}{l:List D}:Ci es (x::l)=(x.cells.length=es/\Ci es l):=by simp[Ci]
theorem Mc {α:Type}{es:Nat}{f:α->D}{l:List α}(h:∀x,(f x).cells.length=es):Ci es (l.map f)=True:=by
 simp only[Ci,eq_iff_iff,iff_true];intro x hx;simp at hx;obtain⟨y,_,rfl⟩:=hx;exact h y
theorem QN {xs:List Int}{i:Nat}{A:D->Prop}:An (CT xs)[i]? A=(i<xs.length/\A (.int .i64 (xs[i]?.getD 0))):=by
 unfold CT
 rw[List.getElem?_map]
 by_cases h:i<xs.length
 ·simp[h,An]
 ·have:xs[i]?=none:=List.getElem?_eq_none (by omega)
  simp[this,h,An]
theorem Gz {α:Type} [Inhabited α] {f:α->D}{xs:List α}{i:Nat}{A:D->Prop}:An (xs.map f)[i]? A=(i<xs.length/\A (f (xs[i]?.getD default))):=by
 rw[List.getElem?_map]
 by_cases h:i<xs.length
 ·simp[h,An]
 ·have:xs[i]?=none:=List.getElem?_eq_none (by omega)
  simp[this,h,An]
def bp {α:Type}(f:α->D) (M:List (List α)):List (Bool×List D):=M.map fun r=>(false,r.map f)
section
variable {E:CI}{dst:Option Nat}{V:AK}{K:AV->BM->Prop}{f:FuncId}{xs:List AV}
theorem J4 {ds:List D}{r:D}(h:C6 E f ds r) (ha:Dr xs=some ds) (hk:K (up r) .none):Cr E dst V f xs K:=.inl ⟨ds,r,ha,h,hk⟩
theorem J2 {ds:List D}{r:D}(h:C6 E f ds r) (ha:Ok V xs=some ds) (hf:r.flat=true) (hk:K (up r) .none):Cr E dst V f xs K:=.inr (.inl ⟨ds,r,ha,h,hf,hk⟩)
end
section
variable {E:CI}{Q:Bq->Ar->Prop}{s:Ar}
def VO (l:List (Nat×AV)) (k:Nat) (v:AV):List (Nat×AV):=l.map fun p=>if p.1=k then (k,v) else p
def VM (l:List (Nat×(Nat×AR))) (k:Nat) (x:AR):List (Nat×(Nat×AR)):=l.map fun p=>if p.1=k then (k,(0,x)) else p
def Ll (l:List (Nat×AV)):List (Nat×AV)->List (Nat×AV)
 |[]=>l
 |(k,v)::r=>VO (Ll l r) k v
def KA (l:List (Nat×(Nat×AR))):List (Nat×AR)->List (Nat×(Nat×AR))
 |[]=>l
 |(k,v)::r=>VM (KA l r) k v
theorem VN {k:Nat}{v:AV}:VO [] k v=[]:=rfl
theorem Tf {a k:Nat}{b v:AV} {l}:VO ((a,b)::l) k v=(if a=k then (k,v) else (a,b))::VO l k v:=rfl
theorem VL {k:Nat}{v:AR}:VM [] k v=[]:=rfl
theorem Tc {a k:Nat}{b:Nat×AR}{v:AR} {l}:VM ((a,b)::l) k v=(if a=k then (k,(0,v)) else (a,b))::VM l k v:=rfl
theorem Td {l}:Ll l []=l:=rfl
theorem RZ {l k v r}:Ll l ((k,v)::r)=VO (Ll l r) k v:=rfl
theorem Tb {l}:KA l []=l:=rfl
theorem RY {l k v r}:KA l ((k,v)::r)=VM (KA l r) k v:=rfl
theorem aJ {f:Nat->AV}{n:Nat}:Gq.val f (.t n)=f n:=rfl
theorem aK {f:Nat->AV}{v:AV}:Gq.val f (.k v)=v:=rfl
theorem TP {α:Type}(cs:List α) (off:Nat) (vs:List α):Az cs off vs=cs.take off++vs++cs.drop (off+vs.length):=rfl
theorem A5 {α:Type}(up:α->List (Nat×AV)) (uo:α->List (Nat×AR)) (Inv:α->Prop) (μ:α->Nat) (x0:α) {gs:List DK}{ks os:List Nat}{a:PC}
  {l0:List (Nat×AV)}{m0:List (Nat×(Nat×AR))}(h0:B8 gs s fun s1=>s1.nrm ks os=⟨Cy l0,⟨Av m0,fun _=>1⟩⟩)
  (he:Ll l0 (up x0)=l0) (he':KA m0 (uo x0)=m0) (hI:Inv x0)
  (step:∀x,Inv x->pw E a (Hk (fun s'=>B8 gs s' fun s1=>∃y,s1.nrm ks os=⟨Cy (Ll l0 (up y)),⟨Av (KA m0 (uo y)),fun _=>1⟩⟩/\Inv y/\μ y<μ x) Q) ⟨Cy (Ll l0 (up x)),⟨Av (KA m0 (uo x)),fun _=>1⟩⟩) :
  pw E (.loop gs ks os a) Q s :=
 Va (fun x=>⟨Cy (Ll l0 (up x)),⟨Av (KA m0 (uo x)),fun _=>1⟩⟩) Inv μ x0 (by rw[he,he'];exact h0) hI step
end
theorem Aw (n:Int) (h:-9223372036854775808<=n/\n<=9223372036854775807):IntKind.i64.wrap n=n:=Go.IntWalk.i64_in n h
theorem VV {E:CI} {rs r s}:aV E rs r .ret s=Fr E s rs (Lk s.V r):=rfl
theorem VX {E:CI} {s K}:Fr E s [] K=K []:=rfl
theorem Tk {E:CI} {s r l K}:Fr E s (r::l) K=Ri E s r fun v=>Fr E s l fun vs=>K (v::vs):=rfl
theorem ZL {E:CI} {s n K}:Ri E s (.t n) K=K (s.sl n):=rfl
theorem ZM {E:CI} {s a ty ag n K}:Ri E s (.c a ty ag n) K=ev E none s.V (.load ag n) [s.sl a] fun v _=>K v:=rfl
theorem XP {V r v}:Lk V r [v]=(v.snap V=some r):=rfl
theorem XO {V r v u}:Lk V r [v,u]=((Ak (AV.snap V) [v,u]).map .tup=some r):=rfl
theorem XN {V r v u t}:Lk V r [v,u,t]=((Ak (AV.snap V) [v,u,t]).map .tup=some r):=rfl
theorem Y' {V k n}:AV.snap V (.d (.int k n))=some (.int k n):=rfl
theorem XS {V b}:AV.snap V (.d (.bool b))=some (.bool b):=rfl
theorem XQ {V n l}:AV.snap V (.d (.list n l))=some (.list n l):=rfl
theorem XR {V l}:AV.snap V (.d (.ptr l))=some (.ptr l):=rfl
theorem TX {V}:AV.snap V (.d .nilptr)=some .nilptr:=rfl
theorem Y_ {V o g}:AV.snap V (.own o g)=match V.get o g with|some (.row _ _ nil xs)=>some (.list nil xs)|_=>none:=rfl
theorem ZA {V cs}:AV.snap V (.agg cs)=match Ak (AV.snap0 V) cs with|some l=>some (.agg l)|none=>none:=rfl
theorem ZF {V k n}:AV.snap0 V (.d (.int k n))=some (.int k n):=rfl
theorem aU {V l}:AV.snap0 V (.ex l)=some (.list false l):=rfl
theorem XM {α:Type}{a b:α}:(some a=some b)=(a=b):=by simp
theorem T0 {α β:Type}{f:α->β}{a:α}:Option.map f (some a)=some (f a):=rfl
section
variable {k k':IntKind}{a b:Int}{C:AV->Prop}
theorem Ye:C3 .eql k k' a b C=(k=k'/\(a=b->C (.d (.bool true)))/\(¬a=b->C (.d (.bool false)))):=by
 rw[Ul];by_cases h:a=b<;>simp[h]
theorem YY:C3 .neq k k' a b C=(k=k'/\(a=b->C (.d (.bool false)))/\(¬a=b->C (.d (.bool true)))):=by
 rw[Uf];by_cases h:a=b<;>simp[h]
theorem YZ:C3 .lss k k' a b C=(k=k'/\(a<b->C (.d (.bool true)))/\(¬a<b->C (.d (.bool false)))):=by
 rw[Uh];by_cases h:a<b<;>simp[h]
theorem Yb:C3 .leq k k' a b C=(k=k'/\(a<=b->C (.d (.bool true)))/\(¬a<=b->C (.d (.bool false)))):=by
 rw[Ui];by_cases h:a<=b<;>simp[h]
theorem Yc:C3 .gtr k k' a b C=(k=k'/\(b<a->C (.d (.bool true)))/\(¬b<a->C (.d (.bool false)))):=by
 rw[Uj];by_cases h:b<a<;>simp[h]
theorem Yd:C3 .geq k k' a b C=(k=k'/\(b<=a->C (.d (.bool true)))/\(¬b<=a->C (.d (.bool false)))):=by
 rw[Uk];by_cases h:b<=a<;>simp[h]
end
section
variable {E:CI}{dst:Option Nat}{V:AK}{K:AV->BM->Prop}{f:FuncId}{xs:List AV}
theorem Wo {ds:List D}{b:Bool}(h:C6 E f ds (.bool b)) (ha:Dr xs=some ds) (h1:b=true->K (.d (.bool true)) .none) (h2:b=false->K (.d (.bool false)) .none):Cr E dst V f xs K :=
 J4 h ha (by cases b with|true=>exact h1 rfl|false=>exact h2 rfl)
end
section
variable {E:CI}{K:Ar->Prop}
def H_ (j:Nat):List (Nat×NZ)->Option NZ
 |[]=>none
 |(i,r)::l=>if j=i then some r else H_ j l
def NW (x:Option NZ) (b:NZ):Bool:=match x with|some r=>IW r b|none=>false
def PG (need:List Nat) (i:Nat) (r:NZ) (rec:List (Nat×NZ)):List (Nat×NZ):=if need.contains i then (i,r)::rec else rec
def ME (E:CI):Nat->List Nat->List (D0×List Nat)->List (Nat×NZ)->Ar->(Ar->Prop)->Prop
 |_,_,[],_,s,K=>K s
 |i,need,(I,dy)::l,rec,s,K=>De E I s fun v ch =>
  (dy.all fun j=>NW (H_ j rec) (ch.site,C0 I s))=true /\
  ME E (i+1) need l (PG need i (ch.site,C0 I s) rec) (put s I.dst v ch) K
theorem Sv {need:List Nat}:∀{l:List (D0×List Nat)}{rec:List NZ}{recE:List (Nat×NZ)}{s:Ar},(∀j,j∈l.flatMap (·.2)->j∈need)->(∀j,j∈need->H_ j recE=rec[j]?)->Nd E l rec s K=ME E rec.length need l recE s K
 |[],_,_,_,_,_=>rfl
 |(I,dy)::l,rec,recE,s,hn,hr=>by
  simp only[Nd,ME]
  congr 1
  funext v ch
  have h1:(dy.all fun j=>match rec[j]? with|some r=>IW r (ch.site,C0 I s)|none=>false)=(dy.all fun j=>NW (H_ j recE) (ch.site,C0 I s)):=by
   rw[Bool.eq_iff_iff,List.all_eq_true,List.all_eq_true]
   have:∀j,j∈dy->(match rec[j]? with|some r=>IW r (ch.site,C0 I s)|none=>false)=NW (H_ j recE) (ch.site,C0 I s):=fun j hj=>by
    rw[hr j (hn j (by simp[hj]))];rfl
   exact⟨fun h j hj=>by rw[←this j hj];exact h j hj,fun h j hj=>by rw[this j hj];exact h j hj⟩
  refine congr (congrArg And (congrArg (fun b=>b=true) h1)) ?_
  have h2:=Sv (need:=need) (l:=l) (rec:=rec++[(ch.site,C0 I s)]) (recE:=PG need rec.length (ch.site,C0 I s) recE) (s:=put s I.dst v ch) (fun j hj=>hn j (by simp at hj ⊢;exact .inr hj)) fun j hj=>by
   unfold PG
   by_cases h:need.contains rec.length=true
   ·rw[if_pos h]
    simp only[H_]
    by_cases hjl:j=rec.length
    ·subst hjl;simp
    ·rw[if_neg hjl,hr j hj]
     by_cases hlt:j<rec.length
     ·rw[List.getElem?_append_left hlt]
     ·rw[List.getElem?_eq_none (by omega),List.getElem?_eq_none (by simp;omega)]
   ·rw[if_neg h,hr j hj]
    have hne:j≠rec.length:=by rintro rfl;exact h (by simpa using hj)
    by_cases hlt:j<rec.length
    ·rw[List.getElem?_append_left hlt]
    ·rw[List.getElem?_eq_none (by omega),List.getElem?_eq_none (by simp;omega)]
  rw[h2];simp
theorem Vb {Q:Bq->Ar->Prop}{s:Ar} {gs l ks}:pw E (.draw gs l ks) Q s=B8 gs s fun s'=>ME E 0 (l.flatMap (·.2)) l [] s' fun s'=>Q .normal (s'.keep ks):=by
 rw[XZ]
 congr 1;funext s'
 exact Sv (rec:=[]) (recE:=[]) (fun j hj=>hj) fun j hj=>by simp[H_]
theorem VR {i need r} {s:Ar}:ME E i need [] r s K=K s:=rfl
theorem Rd {i need I l r} {s:Ar}:ME E i need ((I,[])::l) r s K=De E I s fun v ch=>ME E (i+1) need l (PG need i (ch.site,C0 I s) r) (put s I.dst v ch) K:=by
 simp[ME]
theorem Th {i need I j dy l r} {s:Ar}:ME E i need ((I,j::dy)::l) r s K=De E I s fun v ch =>
 ((j::dy).all fun j=>NW (H_ j r) (ch.site,C0 I s))=true/\ME E (i+1) need l (PG need i (ch.site,C0 I s) r) (put s I.dst v ch) K:=rfl
theorem Bw {z:Nat} {i i' need need' l} {r r':List (Nat×NZ)}{s s':Ar}(hz:Hj=z) (hi:i=i') (hn:need=need') (hr:r=r') (h:s=s'):ME E i need l r s K=ME E i' need' l r' s' K:=by rw[h,hr,hi,hn]
theorem ZN {need:List Nat}{i:Nat}{r:NZ}{rec:List (Nat×NZ)}(h:need.contains i=true):PG need i r rec=(i,r)::rec:=by simp only[PG,h,if_true]
theorem ZO {need:List Nat}{i:Nat}{r:NZ}{rec:List (Nat×NZ)}(h:need.contains i=false):PG need i r rec=rec:=by simp only[PG,h,Bool.false_eq_true,if_false]
theorem T9 {j:Nat}:H_ j []=none:=rfl
theorem R5 {j i:Nat}{r:NZ} {l}:H_ j ((i,r)::l)=if j=i then some r else H_ j l:=rfl
theorem Ws {r b:NZ}:NW (some r) b=IW r b:=rfl
theorem bB {a f b f'}:IW (a,f) (b,f')=((a.all fun o=>!f'.contains o) && (b.all fun o=>!f.contains o)):=rfl
theorem Wa {d g op xs} {sl:Nat->AV}{V:AK}:C0 ⟨d,g,op,xs⟩ ⟨sl,V⟩=fp V d op (xs.map (Gq.val sl)):=rfl
theorem bO {x}:AV.sites (.d x)=[]:=by cases x<;>rfl
theorem XI {x n}:AV.sites (.dptr x n)=[]:=rfl
theorem Y7 {o g}:AV.sites (.own o g)=[o]:=rfl
theorem Y8 {o g}:AV.sites (.map o g)=[o]:=rfl
theorem Y6 {o g f}:AV.sites (.ptr o g f)=[o]:=rfl
theorem XH {o g e i f}:AV.sites (.rptr o g e i f)=[o]:=rfl
theorem Y9 {l}:AV.sites (.agg l)=AV.sites.sitesL l:=rfl
theorem Y5 {l}:AV.sites (.tup l)=AV.sites.sitesL l:=rfl
theorem XJ:AV.sites.sitesL []=[]:=rfl
theorem VG {x l}:AV.sites.sitesL (x::l)=x.sites++AV.sites.sitesL l:=rfl
section
variable {d:Option Nat}{xs:List AV}{V:AK}
theorem Zu:fp V d .mov xs=[]:=rfl
theorem YC:fp V d .pick xs=[]:=rfl
theorem Zw {b}:fp V d (.bin b) xs=[]:=rfl
theorem ap {b}:fp V d (.un b) xs=[]:=rfl
theorem WX:fp V d .nilck xs=[]:=rfl
theorem WY {a}:fp V d (.faddr a) xs=[]:=rfl
theorem WZ {a b}:fp V d (.build a b) xs=[]:=rfl
theorem UN {a}:fp V d (.minmax a) xs=[]:=rfl
theorem SC {a}:fp V d (.extract a) xs=[]:=rfl
theorem YD {a b}:fp V d (.load a b) xs=AV.sites.sitesL xs:=rfl
theorem UO {a}:fp V d (.iaddrS a) xs=AV.sites.sitesL xs:=rfl
theorem Zv {a}:fp V d (.len a) xs=AV.sites.sitesL xs:=rfl
theorem WV {a}:fp V d (.store a) xs=d.toList++AV.sites.sitesL xs:=rfl
theorem YE {a}:fp V d (.call a) xs=CH d V xs:=rfl
theorem Se {t}:CH (some t) V xs=Fs t++V.reach 3 (AV.sites.sitesL xs):=rfl
theorem Xp {t}:Fs t=[t,t+10000,t+20000,t+30000]:=rfl
theorem OH:∀{n:Nat},V.reach n []=[]
 |0=>rfl
 |n+1=>by simp only[AK.reach,List.flatMap_nil,OH,List.append_nil]
theorem XU {o l}:V.reach 3 (o::l)=(o::l)++V.reach 2 ((o::l).flatMap V.osites):=rfl
def Sz:Option (Nat×AR)->List Nat
 |some (_,.cells xs)=>AV.sites.sitesL xs
 |some (_,.rowH _ _ _ q _)=>[q]
 |some (_,.mitO q _ _ _)=>[q]
 |_=>[]
theorem Tt {ob cn o}:(AK.mk ob cn).osites o=Sz (ob o):=rfl
theorem Vx {g a l c}:Sz (some (g,.mapB a l c))=[]:=rfl
theorem WW {a b c e}:fp V d (.slice a b c e) xs=d.toList++AV.sites.sitesL xs:=rfl
theorem YB {a}:fp V d (.zero a) xs=d.toList++AV.sites.sitesL xs:=rfl
end
theorem VC {a:Nat}:(some a).toList=[a]:=rfl
theorem VD:(none:Option Nat).toList=[]:=rfl
end
theorem EZ {k n}:(D.int k n).WF=JY k n:=by rw[D.WF]
theorem D_ {b}:(D.bool b).WF=True:=by rw[D.WF]
theorem Dw {nl xs}:(D.list nl xs).WF=(xs.length<=maxLen/\∀x,x∈xs->x.WF):=by rw[D.WF]
theorem E5 {xs}:(D.agg xs).WF=(∀x,x∈xs->x.WF):=by rw[D.WF]
theorem E4 {xs}:(D.ptr xs).WF=(∀x,x∈xs->x.WF):=by rw[D.WF]
theorem HB {f xs}:(D.fn f xs).WF=(∀x,x∈xs->x.WF):=by rw[D.WF]
theorem E3 {xs}:(D.tup xs).WF=(∀x,x∈xs->x.WF):=by rw[D.WF]
theorem D9 {nl} {xs:List Int}:(D.list nl (CT xs)).WF=(xs.length<=maxLen/\∀x,x∈xs->JY .i64 x):=by
 rw[Dw,Cz];simp[CT,EZ]
theorem CJ {x:D}{l:List D}:(∀y,y∈x::l->y.WF)=(x.WF/\∀y,y∈l->y.WF):=by simp
theorem Cf:(∀y,y∈([]:List D)->y.WF)=True:=by simp
theorem Cg {α:Type}{f:α->D}{l:List α}:(∀y,y∈l.map f->y.WF)=(∀x,x∈l->(f x).WF):=by simp
theorem EB {n:Int}:JY .i64 n=(-9223372036854775808<=n/\n<=9223372036854775807):=by
 simp[JY,IntKind.min,IntKind.max,IntKind.signed,IntKind.bits]
theorem Cu:maxLen=9223372036854775807:=rfl
theorem F9 {x:AV}{d:D}{xs:List AV}{ds:List D}(h:x.toD1=some d) (h':Ak AV.toD1 xs=some ds):Dr (x::xs)=some (d::ds):=by
 simp only[Dr,Ak,h,h']
theorem Wp:CY=1073741824:=rfl
theorem Zm:C5=900000:=rfl
theorem I7 (V0:List (Nat×Nat×AR)) (xs:List AV):Ar.enterM V0 xs=⟨Cy (xs.zipIdx.map fun(d,k)=>(k,d)),⟨Av V0,fun _=>1⟩⟩:=by
 have key:∀(xs:List AV) (n t:Nat),(match xs[t]? with|some d=>d|none=>.undef)=Cy ((xs.zipIdx n).map fun(d,k)=>(k,d)) (n+t):=by
  intro xs
  induction xs with
  |nil=>intro n t;simp[Cy]
  |cons x xs ih =>
   intro n t
   cases t with
   |zero=>simp[Cy]
   |succ t =>
    have:=ih (n+1) t
    simp only[List.getElem?_cons_succ,List.zipIdx_cons,List.map_cons,Cy]
    rw[if_neg (by omega),this]
    congr 1;omega
 unfold Ar.enterM
 congr 1
 funext t
 have:=key xs 0 t
 simp only[Nat.zero_add] at this
 rw[←this]
 cases xs[t]?<;>rfl
theorem J3 {E:CI}{dst:Option Nat}{V:AK}{K:AV->BM->Prop}{f:FuncId}{xs:List AV}{V0 V1:List (Nat×Nat×AR)}{cxs:List AV}{r r':AV}{ch:BM}(ρ ρ2:D7) (h:NY E f V0 cxs V1 r) (h1:Q6 ρ cxs xs)
  (h2:D4 V (CH dst V xs) ρ V0) (h3:DN V.cn dst V0 V1 ρ ρ2=true) (h4:r.ren ρ2=some r') (h5:E2 ρ ρ2 V1=some ch) (hk:K r' ch):Cr E dst V f xs K :=
 .inr (.inr (.inr (.inl ⟨V0,cxs,V1,r,r',ch,ρ,ρ2,h1,h,h2,h3,h4,h5,hk⟩)))
theorem VW {E:CI} {rs V1 r s}:ZJ E rs V1 r .ret s=(Fr E s rs (Zk V1 s.V r)/\WL s.V V1):=rfl
theorem QH {E:CI} {rs V1 r s}:ZJ E rs V1 r .normal s=(Fr E s rs (Zk V1 s.V r)/\WL s.V V1):=rfl
section
variable {V:AK}{V1:List (Nat×Nat×AR)}
theorem ai {r v}:Zk V1 V r [v]=Oe V1 V v r:=rfl
theorem Ut {v o g}:Oe V1 V v (.own o g)=(v=.own o g):=rfl
theorem Uu {v o g}:Oe V1 V v (.map o g)=(v=.map o g):=rfl
def UJ:Option (Nat×AR)->Nat->AR->Prop
 |some (g',.map t l),g,.map t' l'=>g'=g/\t=t'/\l=l'
 |some (g',.row a b c l),g,.row a' b' c' l'=>g'=g/\a=a'/\b=b'/\c=c'/\l=l'
 |some (g',.cells l),g,.cells l'=>g'=g/\l=l'
 |some (g',.hist a b c),g,.hist a' b' c'=>g'=g/\a=a'/\b=b'/\c=c'
 |some (g',.mapB a b c),g,.mapB a' b' c'=>g'=g/\a=a'/\b=b'/\c=c'
 |some (g',.mitO a b c d),g,.mitO a' b' c' d'=>g'=g/\a=a'/\b=b'/\c=c'/\d=d'
 |some (g',.mitD a b c),g,.mitD a' b' c'=>g'=g/\a=a'/\b=b'/\c=c'
 |some (g',.rowH a b c d e),g,.rowH a' b' c' d' e'=>g'=g/\a=a'/\b=b'/\c=c'/\d=d'/\e=e'
 |some (g',.mat a b c d e),g,.mat a' b' c' d' e'=>g'=g/\a=a'/\b=b'/\c=c'/\d=d'/\e=e'
 |_,_,_=>False
theorem X6 {x:Option (Nat×AR)}{g:Nat}{y:AR}:UJ x g y=(x=some (g,y)):=by
 cases x with
 |none=>simp[UJ]
 |some p=>obtain⟨g',z⟩:=p;cases z<;>cases y<;>simp[UJ]
theorem WM {g' a b c l g a' b' c' l'}:UJ (some (g',.row a b c l)) g (.row a' b' c' l')=(g'=g/\a=a'/\b=b'/\c=c'/\l=l'):=rfl
theorem UI {g' a b c g a' b' c'}:UJ (some (g',.mapB a b c)) g (.mapB a' b' c')=(g'=g/\a=a'/\b=b'/\c=c'):=rfl
theorem X5:WL V []=True:=rfl
theorem WK {o g x l}:WL V ((o,g,x)::l)=(UJ (V.ob o) g x/\WL V l):=by rw[X6];rfl
end
def kB (K:AV->BM->Prop):D->Prop
 |.bool b=>(b=true->K (.d (.bool true)) .none)/\(b=false->K (.d (.bool false)) .none)
 |r=>K (up r) .none
theorem X4 {K:AV->BM->Prop} {b}:kB K (.bool b)=((b=true->K (.d (.bool true)) .none)/\(b=false->K (.d (.bool false)) .none)):=rfl
theorem Zp {K:AV->BM->Prop} {k n}:kB K (.int k n)=K (.d (.int k n)) .none:=rfl
theorem X3 {K:AV->BM->Prop} {n l}:kB K (.list n l)=K (.d (.list n l)) .none:=rfl
theorem Zo {K:AV->BM->Prop} {l}:kB K (.tup l)=K (.tup (l.map .d)) .none:=rfl
theorem ak {K:AV->BM->Prop} {f l}:kB K (.fn f l)=K (.d (.fn f l)) .none:=rfl
theorem AD {E:CI}{dst:Option Nat}{V:AK}{K:AV->BM->Prop}{f:FuncId}{xs:List AV}{ds:List D}{r:D}(h:C6 E f ds r) (hk:kB K r)
  (ha:Dr xs=some ds\/(Ok V xs=some ds/\r.flat=true):=by first|exact .inl rfl|exact .inr ⟨rfl,rfl⟩):Cr E dst V f xs K:=by
 have hu:K (up r) .none:=by
  cases r with
  |bool b=>cases b with
   |true=>exact hk.1 rfl
   |false=>exact hk.2 rfl
  |_=>exact hk
 exact ha.elim (fun h1=>J4 h h1 hu) fun h1=>J2 h h1.1 h1.2 hu
theorem aI {a b:Prop}(h:a) (k:b):a/\b:=⟨h,k⟩
theorem tI:True:=⟨⟩
theorem DI {z:Nat}{K:AV->BM->Prop}{r r':D}(hz:Hj=z) (h:r=r'):kB K r=kB K r':=by rw[h]
theorem isCall {E:CI}{dst:Option Nat}{V:AK}{K:AV->BM->Prop}{f:FuncId}{xs:List AV}(h:Cr E dst V f xs K):Cr E dst V f xs K:=h
theorem BP {α:Type}{S:Ar}{T:α->Ar}{I M:α->Prop}(h:∃y,S=T y/\I y/\M y):∃y,S=T y/\I y/\M y:=h
theorem BN {α β:Type}{S:Ar}{T:α×β->Ar}{I M:α×β->Prop}(h:∃y,S=T y/\I y/\M y):∃y,S=T y/\I y/\M y:=h
theorem A6 {α β γ:Type}{S:Ar}{T:α×β×γ->Ar}{I M:α×β×γ->Prop}(h:∃y,S=T y/\I y/\M y):∃y,S=T y/\I y/\M y:=h
theorem S6 {α β γ δ:Type}{S:Ar}{T:α×β×γ×δ->Ar}{I M:α×β×γ×δ->Prop}(h:∃y,S=T y/\I y/\M y):∃y,S=T y/\I y/\M y:=h
theorem Zh {m k a}:ER m k a []=some a:=rfl
theorem Zj {k:IntKind}{a b:Int} {rest}:ER true k a (.d (.int k b)::rest)=ER true k (max a b) rest:=by
 simp only[ER,if_true,Xw];congr 1;omega
theorem Zi {k:IntKind}{a b:Int} {rest}:ER false k a (.d (.int k b)::rest)=ER false k (min a b) rest:=by
 simp only[ER,if_true,Xv,Bool.false_eq_true,if_false];congr 1;omega
theorem TK (n:Nat):n-0=n:=rfl
def RA (a b:List D):Prop:=Dj a b=true
theorem X0 {a b:List D}:(Cd (.agg a) (.agg b)=true)=RA a b:=rfl
theorem X1 {a b:List D}:(Cd (.agg a) (.agg b)=false)=¬RA a b:=by simp[Cd,RA,D.cells]
theorem Wu:RA [] []=True:=by simp[RA,Dj]
theorem Wv {k k':IntKind}{a b:Int}{asq bs:List D}:RA (.int k a::asq) (.int k' b::bs)=((k=k'/\a=b)/\RA asq bs):=by
 simp[RA,Dj,EN]
theorem W_ {ts:List (Option IntKind)}{cs:List D}:Ea (true,ts) (.agg cs)=C2 ts cs:=by simp[Ea,D.isAgg,D.cells]
theorem VA:C2 [] []=true:=rfl
theorem VB {k:IntKind}{n:Int} {ts cs}:C2 (some k::ts) (.int k n::cs)=C2 ts cs:=by simp[C2]
section
variable {E:CI}{dst:Option Nat}{V:AK}{K:AV->BM->Prop}
theorem YL {n tys x y}:ev E dst V (.eqv n tys) [x,y] K=An x.toD1 fun a=>An y.toD1 fun b=>Ea tys a=true/\Ea tys b=true/\(Cd a b=true->K (.d (.bool (!n))) .none)/\(Cd a b=false->K (.d (.bool n)) .none):=by
 rw[Z3];congr 1;funext a;congr 1;funext b;cases Cd a b<;>cases n<;>simp
end
def cF (E:CI) (p:PC) (Q:Bq->Ar->Prop) (s:Ar):Prop:=∃e s',Q e s'/\∀Q':Bq->Ar->Prop,Q' e s'->pw E p Q' s
attribute [go_sem] Z7 XV Xa VZ ZU ZS Vb ZQ Xb Vc XY ZR Ov RM TJ Nv Sg Q2 SA Qd WP WQ YA WO X' an Xf Xe VQ Tg VR Rd Th ZN ZO T9 R5 Ws bB Wa bO XI Y7 Y8 Y6 XH Y9 Y5 XJ VG Zu YC Zw ap WX WY WZ UN SC YD UO Zv WV YE WW YB VC VD List.flatMap_cons List.flatMap_nil TY RV TZ VK Se Xp OH XU Tt Pt XG X8 X9 X7 Vd Ve Wq Wr U2 Yg X2 V4 I3 WE R6 T_ Zt U_ W6 YO R7 Qa Vv Rm ae Xn Vz Xm Zc V5 Xy aZ Xh Xi Wj Uq YS aA YX Z_ YV Z' Z8 Z9 a8 a7 Y1 Yy XB XD UA R8 Y0 aL Yi bD aD bC bh a9 UQ SH UR SI Uw Sd Ux Yx W9 Yw Z2 YI Z5 Z0 Qo PU PV UX PQ MH PX Nk Nl SO YK SN Z4 SP YM SK PW Wg PR SL PS US YJ YH Ql SJ ZH ZG SM Wf YL X0 X1 Wu Wv W_ VA VB Z1 UU Qn Qm PT UY UT Qk UV V7 ZT QO QQ Xj Nm YW XC Yz Vx UI Vw Tw Tv UW SR SS UZ Qp SQ ZX ZY Ye YY YZ Yb Yc Yd Um Ub Ug Ue Ud Uc Ua QM PL Rp Rq Rr Rs TK Zh Zj Zi Sb J0 IR Cz UH UF UG WI WJ UE U' TE QN Gz VV VW QH ai Ut Uu WM X5 WK VX Tk ZL ZM XP XO XN Y' XS XQ XR TX Y_ ZA ZF aU XM T0 aJ aK List.map_cons List.map_nil List.zipIdx_cons List.zipIdx_nil List.zip_cons_cons List.zip_nil_left List.length_cons List.length_nil List.getElem?_cons_zero List.getElem?_cons_succ List.drop_zero List.drop_succ_cons List.take_succ_cons List.take_zero List.take_nil List.drop_nil List.contains_cons List.contains_nil List.filter_cons List.filter_nil List.all_cons List.all_nil List.cons_append List.nil_append List.append_nil List.set_cons_zero List.set_cons_succ TP List.replicate_succ List.replicate_zero List.isEmpty_cons List.isEmpty_nil List.length_map id_eq Nat.lt_irrefl Nat.zero_add Nat.add_zero Nat.zero_mul Nat.one_mul Nat.mul_one if_true if_false Bool.false_eq_true Bool.not_true Bool.not_false Bool.true_or Bool.false_or Bool.or_true Bool.or_false Bool.true_and Bool.false_and Bool.and_true Bool.and_false beq_self_eq_true Bool.and_self Bool.or_self true_and and_true false_and and_false ite_self exists_prop_of_true exists_prop not_false_eq_true not_true_eq_false forall_const eq_self and_self true_implies false_implies implies_true ne_eq List.cons_ne_nil Nat.le_refl Nat.not_lt_zero VN Tf VL Tc Td RZ Tb RY Int.toNat_natCast Int.toNat_zero Wp Zm ZP U8 QP U1 Wd RJ Pn U3 RC W5 Ze Xs QW Xq QV T2 LM af Tz bc Zf Zg Y2 VE N5 XF Ps aM Tr Vs bN Y3 Y4 WC T8 T5 R3 T6 YQ YR WR Tx PK Ta RX QF Tj X4 Zp X3 Zo ak
attribute [go_sem_proc] Nat.reduceAdd Nat.reduceSub Nat.reduceMul Nat.reduceEqDiff Nat.reduceBEq Nat.reduceLeDiff Nat.reduceLT Int.reduceToNat Int.reduceLE Int.reduceLT Int.reduceNeg reduceIte reduceCtorEq Int.reduceEq Int.reduceAdd Int.reduceSub Int.reduceMul
end Go.Pw
end
section
namespace Go.Pw
theorem ZB (a:Int) (k:Nat):a.fdiv (2^k)=a/2^k:=by
 rw[Int.fdiv_eq_ediv_of_nonneg]
 exact Int.pow_nonneg (by omega)
theorem Yh (x:Int):BR .and .i64 x 1=x%2:=by
 have h:(BitVec.ofInt 64 x &&& BitVec.ofInt 64 1).toNat=(x%2).toNat:=by
  have h1:(BitVec.ofInt 64 (1:Int)).toNat=1:=by decide
  rw[BitVec.toNat_and,h1,Nat.and_one_is_mod,BitVec.toNat_ofInt]
  omega
 show IntKind.i64.wrap (((BitVec.ofInt 64 x &&& BitVec.ofInt 64 1).toNat:Nat):Int)=_
 rw[h,Aw]<;>omega
theorem aH (n:Int) (h:0<=n/\n<=18446744073709551615):IntKind.u64.wrap n=n:=by rw[IntKind.wrap_u64];omega
theorem Vj {k:Nat}(h:k<=62):(2:Int)^k<=4611686018427387904:=by
 have:(2:Nat)^k<=2^62:=Nat.pow_le_pow_right (by omega) h
 have h2:((2^k:Nat):Int)=(2:Int)^k:=by simp
 have h3:(2:Nat)^62=4611686018427387904:=by decide
 omega
theorem Vi (k:Nat):(1:Int)<=(2:Int)^k:=by
 have:0<(2:Int)^k:=Int.pow_pos (by omega)
 omega
theorem ZD (b:Int) (h:0<=b/\b<=62):IntKind.i64.wrap (1*2^min b.toNat IntKind.i64.bits)=2^b.toNat:=by
 have hm:min b.toNat IntKind.i64.bits=b.toNat:=by
  have:IntKind.i64.bits=64:=rfl
  rw[this];omega
 rw[hm,Int.one_mul,Aw]
 have:=Vj (k:=b.toNat) (by omega)
 have:=Vi b.toNat
 omega
theorem aQ (a b:Int) (h:0<=b/\b<=64):a.fdiv (2^min b.toNat IntKind.i64.bits)=a/2^b.toNat:=by
 have hm:min b.toNat IntKind.i64.bits=b.toNat:=by
  have:IntKind.i64.bits=64:=rfl
  rw[this];omega
 rw[hm,ZB]
theorem aR (b:Int) (h:0<=b/\b<=62):IntKind.i64.wrap (1*2^min b.toNat 64)=2^b.toNat:=ZD b h
theorem ZC (b:Int) (h:0<=b/\b<=62):IntKind.i64.wrap (2^min b.toNat 64)=2^b.toNat:=by
 have:=ZD b h;rwa [Int.one_mul] at this
theorem aP (a b:Int) (h:0<=b/\b<=64):a.fdiv (2^min b.toNat 64)=a/2^b.toNat:=aQ a b h
theorem Au:(∀(n:Int),-9223372036854775808<=n/\n<=9223372036854775807->IntKind.i64.wrap n=n)/\(∀(n:Int),0<=n/\n<=18446744073709551615->IntKind.u64.wrap n=n)/\(∀(b:Int),0<=b/\b<=62->IntKind.i64.wrap (1*2^min b.toNat IntKind.i64.bits)=2^b.toNat)/\(∀(b:Int),0<=b/\b<=62->IntKind.i64.wrap (1*2^min b.toNat 64)=2^b.toNat)/\(∀(b:Int),0<=b/\b<=62->IntKind.i64.wrap (2^min b.toNat 64)=2^b.toNat)/\(∀(a b:Int),0<=b/\b<=64->a.fdiv (2^min b.toNat IntKind.i64.bits)=a/2^b.toNat)/\(∀(a b:Int),0<=b/\b<=64->a.fdiv (2^min b.toNat 64)=a/2^b.toNat)/\∀(x:Int),BR .and .i64 x 1=x%2:=⟨Aw,aH,ZD,aR,ZC,aQ,aP,Yh⟩
end Go.Pw
end
