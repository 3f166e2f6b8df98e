/- A part of the proof. -/
import Derived.Test.YtpcpcjbbdgmohaaDoorPkZa
import Derived.IntWalk
set_option linter.all false
namespace Go.Pw
def Ko:Nat:=0
theorem bc:Ko=0:=Eq.symm (Eq.symm rfl)
def JU (v:AV) (b:Bool) (A B:Prop):Prop :=
 match v with
 |.d (.bool b')=>Gs (b == b') A B
 |.tup []=>B
 |_=>False
def Vk (v:AV) (t:Nat) (sl:Nat->AV) (V:AB) (KS:BP->Prop):Prop :=
 match v with
 |.own o g=>FR (V.get o g) fun _ _ nl l=>KS ⟨BJ sl t (.d (.list nl l)),V.drop o⟩
 |_=>KS ⟨sl,V⟩
def Xh (v:AV) (t:Nat) (sl:Nat->AV) (V:AB) (KS:BP->Prop):Prop :=
 match v with
 |.ptr o g 0=>GU (V.get o g) fun xs=>Bc (BD AV.toD1 xs) fun cs=>cs≠[]/\KS ⟨BJ sl t (.d (.ptr cs)),V.drop o⟩
 |_=>KS ⟨sl,V⟩
def dU (y:Option AI) (o g:Nat) (sl:Nat->AV) (V:AB) (KS:BP->Prop):Prop :=
 match y with
 |some (.rowH ety l i q p)=>FR (V.get q p) fun _ _ nl xs=>KS ⟨sl,(V.drop q).app (.keep o g (.row ety 1 false (l.set i (.list nl xs))))⟩
 |_=>KS ⟨sl,V⟩
def dz (v:AV) (sl:Nat->AV) (V:AB) (KS:BP->Prop):Prop :=
 match v with
 |.own o g=>dU (V.get o g) o g sl V KS
 |_=>KS ⟨sl,V⟩
def dx (v:AV) (t:Nat) (sl:Nat->AV) (V:AB) (KS:BP->Prop):Prop :=
 match v with
 |.mref .out o g=>cG (V.get o g) fun _ _ nl ix rows=>KS ⟨BJ sl t (.d (.list nl (OB ix rows))),V.drop o⟩
 |_=>KS ⟨sl,V⟩
def dV (x:Option AI) (t o:Nat) (sl:Nat->AV) (V:AB) (KS:BP->Prop):Prop :=
 match x with
 |some (.cells (c::l))=>KS ⟨BJ sl t (.ablk false (c::l) 0),V.drop o⟩
 |_=>False
def d5 (v:AV) (t:Nat) (sl:Nat->AV) (V:AB) (KS:BP->Prop):Prop :=
 match v with
 |.ptr o g 0=>dV (V.get o g) t o sl V KS
 |_=>KS ⟨sl,V⟩
def cZ (x:Option AV) (b g k:Nat) (xs:List AV) (sl:Nat->AV) (V:AB) (KS:BP->Prop):Prop :=
 match x with
 |some (.own o p)=>FR (V.get o p) fun _ _ nl l=>KS ⟨sl,(V.drop o).app (.keep b g (.cells (xs.set k (.d (.list nl l)))))⟩
 |_=>KS ⟨sl,V⟩
def d0 (v:AV) (off:Nat) (sl:Nat->AV) (V:AB) (KS:BP->Prop):Prop :=
 match v with
 |.ptr b g f=>(match V.get b g with
  |some (.cells xs)=>cZ xs[f+off]? b g (f+off) xs sl V KS
  |_=>KS ⟨sl,V⟩)
 |_=>KS ⟨sl,V⟩
def d4 (y:Option AI) (b g k:Nat) (sl:Nat->AV) (V:AB) (KS:BP->Prop):Prop :=
 match y with
 |some (.cells xs)=>cZ xs[k]? b g k xs sl V KS
 |_=>KS ⟨sl,V⟩
def dq (v:AV) (t e2:Nat) (sl:Nat->AV) (V:AB) (KS:BP->Prop):Prop :=
 match v with
 |.own o g=>FR (V.get o g) fun e1 es nl l=>nl=false/\es=1/\o<BH/\(∀x,x∈l->x=.list true []) /\
  KS ⟨BJ sl t (.mref .out o (V.cn o)),V.app (.fresh o (.mat e1 e2 false (List.range l.length) (List.replicate l.length (true,[]))))⟩
 |_=>KS ⟨sl,V⟩
def dr (v:AV) (t o e1 e2:Nat) (sl:Nat->AV) (V:AB) (KS:BP->Prop):Prop :=
 match v with
 |.d (.list true [])=>o<BH/\KS ⟨BJ sl t (.mref .out o (V.cn o)),V.app (.fresh o (.mat e1 e2 true [] []))⟩
 |_=>KS ⟨sl,V⟩
def XE (v:AV) (t o ety es:Nat) (sl:Nat->AV) (V:AB) (KS:BP->Prop):Prop :=
 match v with
 |.d (.list true [])=>o<BH/\KS ⟨BJ sl t (.own o (V.cn o)),V.app (.fresh o (.row ety es true []))⟩
 |_=>KS ⟨sl,V⟩
def dQ (x:Option AV) (b g k o ety es:Nat) (xs:List AV) (sl:Nat->AV) (V:AB) (KS:BP->Prop):Prop :=
 match x with
 |some (.d (.list true []))=>o<BH/\o≠b/\KS ⟨sl,(V.app (.fresh o (.row ety es true []))).app (.keep b g (.cells (xs.set k (.own o (V.cn o)))))⟩
 |_=>KS ⟨sl,V⟩
def dR (y:Option AI) (b g k o ety es:Nat) (sl:Nat->AV) (V:AB) (KS:BP->Prop):Prop :=
 match y with
 |some (.cells xs)=>dQ xs[k]? b g k o ety es xs sl V KS
 |_=>KS ⟨sl,V⟩
def dt (v:AV) (off o ety es:Nat) (sl:Nat->AV) (V:AB) (KS:BP->Prop):Prop :=
 match v with
 |.ptr b g f=>dR (V.get b g) b g (f+off) o ety es sl V KS
 |_=>KS ⟨sl,V⟩
section
variable {E:C2}{Q:CO->BP->Prop}{s s':BP}{K:AV->B6->Prop}{KS:BP->Prop}
theorem DP {z:Nat}{p:PC}(hz:Ko=z) (h:s=s'):pw E p Q s=pw E p Q s':=by rw[h]
theorem B9 {z:Nat}{l:List Ew}(hz:Ko=z) (h:s=s'):I7 E l s KS=I7 E l s' KS:=by rw[h]
theorem Bj {z:Nat}{I:Ew}(hz:Ko=z) (h:s=s'):EX E I s K=EX E I s' K:=by rw[h]
theorem DR {z:Nat}{dst:Option Nat}{op:B7}{V V':AB}{xs xs':List AV}(hz:Ko=z) (hV:V=V') (h:xs=xs'):ev E dst V op xs K=ev E dst V' op xs' K:=by rw[h,hV]
theorem Bn {z:Nat}{b:BinOp}{k k' k1 k2:IntKind}{x y x' y':Int}{C:AV->Prop}(hz:Ko=z) (h1:k=k1) (h2:k'=k2) (hx:x=x') (hy:y=y'):D3 b k k' x y C=D3 b k1 k2 x' y' C:=by rw[h1,h2,hx,hy]
theorem Bp {z:Nat}{c c':Bool}{A B:Prop}(hz:Ko=z) (h:c=c'):Gs c A B=Gs c' A B:=by rw[h]
theorem Bo {z:Nat}{v v':AV}{A B:Prop}(hz:Ko=z) (h:v=v'):Ob v A B=Ob v' A B:=by rw[h]
theorem Bi {z:Nat}{e e':CO}{A:BP->Prop}(hz:Ko=z) (he:e=e') (h:s=s'):I2 A Q e s=I2 A Q e' s':=by rw[he,h]
theorem BW {z:Nat}{i:Nat}{e e':CO}(hz:Ko=z) (he:e=e') (h:s=s'):IG i Q e s=IG i Q e' s':=by rw[he,h]
theorem BQ {α:Type}{z:Nat}{x y:Option α}{A:α->Prop}(hz:Ko=z) (h:x=y):Bc x A=Bc y A:=by rw[h]
theorem BF {z:Nat}{x y:Option AI} {A} (hz:Ko=z) (h:x=y):GU x A=GU y A:=by rw[h]
theorem Bl {z:Nat}{x y:Option AI} {A} (hz:Ko=z) (h:x=y):FR x A=FR y A:=by rw[h]
theorem BU {z:Nat}{gs:List EJ}(hz:Ko=z) (h:s=s'):Cv gs s KS=Cv gs s' KS:=by rw[h]
theorem Bm {z:Nat}{g:EJ}(hz:Ko=z) (h:s=s'):HI g s KS=HI g s' KS:=by rw[h]
theorem BV {z:Nat}{dst:Option Nat}{V V':AB}{f:FuncId}{xs xs':List AV}(hz:Ko=z) (hV:V=V') (h:xs=xs'):D2 E dst V f xs K=D2 E dst V' f xs' K:=by rw[h,hV]
theorem CC {z:Nat}{α:Type}{ag:Bool}{n n':Nat}{cs cs':List α}{off off':Nat}{mk:List α->AV}{one:α->AV}{C:AV->Prop}(hz:Ko=z) (hn:n=n') (h:cs=cs') (ho:off=off'):CZ ag n cs off mk one C=CZ ag n' cs' off' mk one C:=by rw[hn,h,ho]
theorem Cg {z:Nat}{lo hi:Bool}{n n':Nat}{xs xs':List AV}{C:Nat->Nat->Prop}(hz:Ko=z) (hn:n=n') (h:xs=xs'):MB lo hi n xs C=MB lo hi n' xs' C:=by rw[hn,h]
theorem BT {z:Nat}{v v':AV}{b:Bool}{A B:Prop}(hz:Ko=z) (h:v=v'):JU v b A B=JU v' b A B:=by rw[h]
theorem CE {z:Nat}{v v':AV}{t:Nat}{sl:Nat->AV}{V:AB}(hz:Ko=z) (h:v=v'):Vk v t sl V KS=Vk v' t sl V KS:=by rw[h]
theorem CD {z:Nat}{v v':AV}{t o ety es:Nat}{sl:Nat->AV}{V:AB}(hz:Ko=z) (h:v=v'):XE v t o ety es sl V KS=XE v' t o ety es sl V KS:=by rw[h]
theorem CA {z:Nat}{rs:List RT}{K:List AV->Prop}(hz:Ko=z) (h:s=s'):GF E s rs K=GF E s' rs K:=by rw[h]
theorem CB {z:Nat}{r:RT}{K:AV->Prop}(hz:Ko=z) (h:s=s'):TD E s r K=TD E s' r K:=by rw[h]
theorem B8 {z:Nat}{y y':AV}{xs xs':List AV}{V V':AB}(hz:Ko=z) (h1:y=y') (h2:xs=xs') (h3:V=V'):Ov y xs V K=Ov y' xs' V' K:=by rw[h1,h2,h3]
theorem B' {z:Nat}{α:Type}{T:α->AB} {Inv PInv m gs ks os sl e e'} (hz:Ko=z) (he:e=e') (h:s=s'):VH T Inv PInv m gs ks os sl e s=VH T Inv PInv m gs ks os sl e' s':=by rw[he,h]
theorem Bk {z:Nat}{A:BP->Prop} {e e'} (hz:Ko=z) (he:e=e') (h:s=s'):LO A e s=LO A e' s':=by rw[he,h]
theorem BS {z:Nat}{x y:Option AI} {A} (hz:Ko=z) (h:x=y):N8 x A=N8 y A:=by rw[h]
theorem Ad {b:Bool}{A B:Prop}(h1:b=true->A) (h2:b=false->B):Gs b A B:=⟨h1,h2⟩
theorem YS {d t b op xs} {sl:Nat->AV}{V:AB}:EX E ⟨d,some (t,b),op,xs⟩ ⟨sl,V⟩ K=JU (sl t) b (ev E d V op (xs.map (IJ.val sl)) K) (K (.tup []) .none):=rfl
theorem ZK {b:Bool}{A B:Prop}:JU (.d (.bool b)) true A B=Gs b A B:=by simp[JU]
theorem ZL {b:Bool}{A B:Prop}:JU (.d (.bool b)) false A B=Gs b B A:=by cases b<;>simp[JU]
theorem ZJ {b:Bool}{A B:Prop}:JU (.tup []) b A B=B:=rfl
theorem Xd {t:Nat}{sl:Nat->AV}{V:AB}:HI (.freeze t) ⟨sl,V⟩ KS=Vk (sl t) t sl V KS:=by
 simp only[HI,Vk]
 cases sl t with
 |own o g=>simp only;cases V.get o g with
  |none=>rfl
  |some x=>cases x<;>rfl
 |_=>rfl
theorem ZN {t o g:Nat}{sl:Nat->AV}{V:AB}:Vk (.own o g) t sl V KS=FR (V.get o g) fun _ _ nl l=>KS ⟨BJ sl t (.d (.list nl l)),V.drop o⟩:=rfl
theorem cY {t:Nat}{x:D}{sl:Nat->AV}{V:AB}:Vk (.d x) t sl V KS=KS ⟨sl,V⟩:=rfl
theorem Xe {t:Nat}{sl:Nat->AV}{V:AB}:HI (.frzP t) ⟨sl,V⟩ KS=Xh (sl t) t sl V KS:=by
 simp only[HI,Xh]
 cases sl t with
 |ptr o g f =>
  cases f with
  |zero =>
   simp only;cases V.get o g with
   |none=>rfl
   |some x =>
    cases x with
    |cells xs =>
     simp only[GU]
     cases BD AV.toD1 xs with
     |none=>rfl
     |some l=>cases l<;>simp[Bc]
    |_=>rfl
  |succ n=>rfl
 |_=>rfl
theorem ZO {t o g:Nat}{sl:Nat->AV}{V:AB}:Xh (.ptr o g 0) t sl V KS=GU (V.get o g) fun xs=>Bc (BD AV.toD1 xs) fun cs=>cs≠[]/\KS ⟨BJ sl t (.d (.ptr cs)),V.drop o⟩:=rfl
theorem CF {z:Nat}{v v':AV}{t:Nat}{sl:Nat->AV}{V:AB}(hz:Ko=z) (h:v=v'):Xh v t sl V KS=Xh v' t sl V KS:=by rw[h]
theorem BR {z:Nat}{x y:Option AI} {A B} (hz:Ko=z) (h:x=y):Kj x A B=Kj y A B:=by rw[h]
theorem Xc {t o ety es:Nat}{sl:Nat->AV}{V:AB}:HI (.own t o ety es) ⟨sl,V⟩ KS=XE (sl t) t o ety es sl V KS:=rfl
theorem Yw {t o ety es:Nat}{sl:Nat->AV}{V:AB}:XE (.d (.list true [])) t o ety es sl V KS=(o<BH/\KS ⟨BJ sl t (.own o (V.cn o)),V.app (.fresh o (.row ety es true []))⟩):=rfl
theorem Yv {t o ety es o' g:Nat}{sl:Nat->AV}{V:AB}:XE (.own o' g) t o ety es sl V KS=KS ⟨sl,V⟩:=rfl
end
theorem YK {α:Type}(f:Nat->α) (i:Nat) (x:α) (j:Nat):BJ f i x j=if j=i then x else f j:=rfl
theorem Wa (f:Nat->Nat) (i x y:Nat):BJ (BJ f i x) i y=BJ f i y:=by funext j;simp only[BJ];split<;>rfl
theorem cF {x:D}:(AV.d x).one=x.one:=rfl
theorem Y0 {o g}:(AV.own o g).one=true:=rfl
theorem X2 {k n}:(D.int k n).one=true:=rfl
theorem WC {b}:(D.bool b).one=true:=rfl
theorem WB {n l}:(D.list n l).one=true:=rfl
theorem bg {c}:(AV.agg c).cells?=some c:=rfl
theorem Zi {c}:(AV.d (.agg c)).cells?=some (c.map .d):=rfl
theorem bf {k n}:(AV.d (.int k n)).cells?=some [.d (.int k n)]:=rfl
theorem Zj {b}:(AV.d (.bool b)).cells?=some [.d (.bool b)]:=rfl
theorem Zh {n l}:(AV.d (.list n l)).cells?=some [.d (.list n l)]:=rfl
theorem be {o g}:(AV.own o g).cells?=some [.own o g]:=rfl
theorem cv {l}:(AV.ex l).cells?=some [.ex l]:=rfl
theorem cu {f c}:(AV.fn f c).cells?=some [.fn f c]:=rfl
theorem aG {k n}:AV.toD0 (.d (.int k n))=some (.int k n):=rfl
theorem YR {b}:AV.toD0 (.d (.bool b))=some (.bool b):=rfl
theorem YQ {n l}:AV.toD0 (.d (.list n l))=some (.list n l):=rfl
theorem aF {l}:AV.toD0 (.d (.ptr l))=some (.ptr l):=rfl
theorem aD {k n}:AV.toD1 (.d (.int k n))=some (.int k n):=rfl
theorem YO {n l}:AV.toD1 (.d (.list n l))=some (.list n l):=rfl
theorem YP {l}:AV.toD1 (.d (.agg l))=some (.agg l):=rfl
theorem VY {α β:Type}{f:α->Option β}:BD f []=some []:=rfl
theorem TX {α β:Type}{f:α->Option β}{x:α}{xs:List α}:BD f (x::xs)=match f x with
 |none=>none
 |some y=>match BD f xs with|none=>none|some ys=>some (y::ys):=rfl
theorem aE {cs}:AV.toD1 (.agg cs)=match BD AV.toD0 cs with|some l=>some (.agg l)|none=>none:=rfl
theorem bu {f cs}:AV.toD1 (.fn f cs)=match BD AV.toD0 cs with|some l=>some (.fn f l)|none=>none:=rfl
theorem Zx {V:AB} {n l}:(AV.d (.list n l)).asList V=some (n,l):=rfl
theorem c8 {V:AB} {l}:(AV.ex l).asList V=some (false,l):=rfl
theorem bi {V:AB} {o g}:(AV.own o g).asList V=match V.get o g with|some (.row _ _ nil xs)=>some (nil,xs)|_=>none:=rfl
theorem c7 {V:AB} {o g}:(AV.mref .out o g).asList V=match V.get o g with|some (.mat _ _ nil ix rows)=>some (nil,OB ix rows)|_=>none:=rfl
theorem dY {V:AB} {x}:Eh V none (.d x)=match (AV.d x).asList V with|some (_,ys)=>some ys|none=>none:=rfl
theorem cx {V:AB} {x}:Eh V none (.ex x)=match (AV.ex x).asList V with|some (_,ys)=>some ys|none=>none:=rfl
theorem bh {V:AB} {o g}:Eh V none (.own o g)=match (AV.own o g).asList V with|some (_,ys)=>some ys|none=>none:=rfl
theorem Vp {es xs}:Fk es xs []=some xs:=rfl
theorem Tk {es xs i v rest}:Fk es xs ((i,v)::rest)=match v.toD1 with
 |none=>none
 |some x=>if x.cells.length=es/\i<xs.length then Fk es (xs.set i x) rest else none:=rfl
theorem Vq {cs}:KO cs []=some cs:=rfl
theorem Tl {cs off size v rest}:KO cs (((off,size),v)::rest)=match v.cells? with
 |none=>none
 |some vs=>if vs.length=size/\off+size<=cs.length then KO (Ba cs off vs) rest else none:=rfl
theorem WK {k n}:(D.int k n).cells=[.int k n]:=rfl
theorem WL {l}:(D.agg l).cells=l:=rfl
theorem Z' {k n}:up (.int k n)=.d (.int k n):=rfl
theorem aA {l}:up (.agg l)=.d (.agg l):=rfl
theorem U8:B6.site .none=[]:=rfl
theorem Wn {a b}:B6.site (.seq a b)=a.site++b.site:=rfl
theorem S6 {o x}:B6.site (.fresh o x)=[o]:=rfl
theorem U9 {o g x}:B6.site (.keep o g x)=[o]:=rfl
def C6 (xs:List Int):List D:=xs.map (D.int .i64)
@[simp] theorem cW:C6 []=[]:=rfl
theorem Qg (xs:List Int):(C6 xs=[])=(xs=[]):=by cases xs<;>simp[C6]
theorem Dn (xs:List Int):(C6 xs).length=xs.length:=by simp[C6]
theorem Vf (xs:List Int) (n:Nat):(C6 xs).drop n=C6 (xs.drop n):=by simp[C6]
theorem Vd (xs:List Int) (n:Nat):(C6 xs).take n=C6 (xs.take n):=by simp[C6]
theorem XV (xs ys:List Int):C6 xs++C6 ys=C6 (xs++ys):=by simp[C6]
theorem Ve (xs:List Int) (y:Int):C6 xs++[.int .i64 y]=C6 (xs++[y]):=by simp[C6]
theorem XT (xs:List Int) (i:Nat) (y:Int):(C6 xs).set i (.int .i64 y)=C6 (xs.set i y):=by simp[C6,List.map_set]
theorem XU (n:Nat) (y:Int):List.replicate n (D.int .i64 y)=C6 (List.replicate n y):=by simp[C6]
theorem Vc (xs:List Int):C9 1 (C6 xs)=True:=by
 simp only[C9,C6,eq_iff_iff,iff_true];intro x hx;simp at hx;obtain⟨n,_,rfl⟩:=hx;rfl
theorem Wc {es:Nat}:C9 es []=True:=by simp[C9]
theorem Uo {es:Nat}{x:D}{l:List D}:C9 es (x::l)=(x.cells.length=es/\C9 es l):=by simp[C9]
theorem I0 {α:Type}{es:Nat}{f:α->D}{l:List α}(h:∀x,(f x).cells.length=es):C9 es (l.map f)=True:=by
 simp only[C9,eq_iff_iff,iff_true];intro x hx;simp at hx;obtain⟨y,_,rfl⟩:=hx;exact h y
theorem Rr {xs:List Int}{i:Nat}{A:D->Prop}:Bc (C6 xs)[i]? A=(i<xs.length/\A (.int .i64 (xs[i]?.getD 0))):=by
 unfold C6
 rw[List.getElem?_map]
 by_cases h:i<xs.length
 ·simp[h,Bc]
 ·have:xs[i]?=none:=List.getElem?_eq_none (by omega)
  simp[this,h,Bc]
theorem FF {α:Type} [Inhabited α] {f:α->D}{xs:List α}{i:Nat}{A:D->Prop}:Bc (xs.map f)[i]? A=(i<xs.length/\A (f (xs[i]?.getD default))):=by
 rw[List.getElem?_map]
 by_cases h:i<xs.length
 ·simp[h,Bc]
 ·have:xs[i]?=none:=List.getElem?_eq_none (by omega)
  simp[this,h,Bc]
def dg {α:Type}(f:α->D) (M:List (List α)):List (Bool×List D):=M.map fun r=>(false,r.map f)
section
variable {E:C2}{dst:Option Nat}{V:AB}{K:AV->B6->Prop}{f:FuncId}{xs:List AV}
theorem Qx {ds:List D}{r:D}(h:D6 E f ds r) (ha:E1 xs=some ds) (hk:K (up r) .none):D2 E dst V f xs K:=.inl ⟨ds,r,ha,h,hk⟩
theorem D5 {ds:List D}{r:D}(h:D6 E f ds r) (ha:Oi V xs=some ds) (hf:r.flat=true) (hk:K (up r) .none):D2 E dst V f xs K:=.inr (.inl ⟨ds,r,ha,h,hf,hk⟩)
end
section
variable {E:C2}{Q:CO->BP->Prop}{s:BP}
def setL (l:List (Nat×AV)) (k:Nat) (v:AV):List (Nat×AV):=l.map fun p=>if p.1=k then (k,v) else p
def Wp (l:List (Nat×(Nat×AI))) (k:Nat) (x:AI):List (Nat×(Nat×AI)):=l.map fun p=>if p.1=k then (k,(0,x)) else p
def Mh (l:List (Nat×AV)):List (Nat×AV)->List (Nat×AV)
 |[]=>l
 |(k,v)::r=>setL (Mh l r) k v
def K6 (l:List (Nat×(Nat×AI))):List (Nat×AI)->List (Nat×(Nat×AI))
 |[]=>l
 |(k,v)::r=>Wp (K6 l r) k v
theorem Wq {k:Nat}{v:AV}:setL [] k v=[]:=rfl
theorem VD {a k:Nat}{b v:AV} {l}:setL ((a,b)::l) k v=(if a=k then (k,v) else (a,b))::setL l k v:=rfl
theorem Wo {k:Nat}{v:AI}:Wp [] k v=[]:=rfl
theorem VB {a k:Nat}{b:Nat×AI}{v:AI} {l}:Wp ((a,b)::l) k v=(if a=k then (k,(0,v)) else (a,b))::Wp l k v:=rfl
theorem VC {l}:Mh l []=l:=rfl
theorem S9 {l k v r}:Mh l ((k,v)::r)=setL (Mh l r) k v:=rfl
theorem U' {l}:K6 l []=l:=rfl
theorem S8 {l k v r}:K6 l ((k,v)::r)=Wp (K6 l r) k v:=rfl
theorem bp {f:Nat->AV}{n:Nat}:IJ.val f (.t n)=f n:=rfl
theorem bq {f:Nat->AV}{v:AV}:IJ.val f (.k v)=v:=rfl
theorem Uz {α:Type}(cs:List α) (off:Nat) (vs:List α):Ba cs off vs=cs.take off++vs++cs.drop (off+vs.length):=rfl
theorem BZ {α:Type}(up:α->List (Nat×AV)) (uo:α->List (Nat×AI)) (Inv:α->Prop) (μ:α->Nat) (x0:α) {gs:List EJ}{ks os:List Nat}{a:PC}
  {l0:List (Nat×AV)}{m0:List (Nat×(Nat×AI))}(h0:Cv gs s fun s1=>s1.nrm ks os=⟨ET l0,⟨Af m0,fun _=>1⟩⟩)
  (he:Mh l0 (up x0)=l0) (he':K6 m0 (uo x0)=m0) (hI:Inv x0)
  (step:∀x,Inv x->pw E a (I2 (fun s'=>Cv gs s' fun s1=>∃y,s1.nrm ks os=⟨ET (Mh l0 (up y)),⟨Af (K6 m0 (uo y)),fun _=>1⟩⟩/\Inv y/\μ y<μ x) Q) ⟨ET (Mh l0 (up x)),⟨Af (K6 m0 (uo x)),fun _=>1⟩⟩) :
  pw E (.loop gs ks os a) Q s :=
 Wz (fun x=>⟨ET (Mh l0 (up x)),⟨Af (K6 m0 (uo x)),fun _=>1⟩⟩) Inv μ x0 (by rw[he,he'];exact h0) hI step
end
theorem BN (n:Int) (h:-9223372036854775808<=n/\n<=9223372036854775807):IntKind.i64.wrap n=n:=Go.IntWalk.i64_in n h
theorem Wu {E:C2} {rs r s}:b8 E rs r .ret s=GF E s rs (Nt s.V r):=rfl
theorem Ww {E:C2} {s K}:GF E s [] K=K []:=rfl
theorem VI {E:C2} {s r l K}:GF E s (r::l) K=TD E s r fun v=>GF E s l fun vs=>K (v::vs):=rfl
theorem af {E:C2} {s n K}:TD E s (.t n) K=K (s.sl n):=rfl
theorem ah {E:C2} {s a ty ag n K}:TD E s (.c a ty ag n) K=ev E none s.V (.load ag n) [s.sl a] fun v _=>K v:=rfl
theorem Ya {V r v}:Nt V r [v]=(v.snap V=some r):=rfl
theorem YZ {V r v u}:Nt V r [v,u]=((BD (AV.snap V) [v,u]).map .tup=some r):=rfl
theorem aN {V k n}:AV.snap V (.d (.int k n))=some (.int k n):=rfl
theorem Yd {V b}:AV.snap V (.d (.bool b))=some (.bool b):=rfl
theorem Yb {V n l}:AV.snap V (.d (.list n l))=some (.list n l):=rfl
theorem bx {V l}:AV.snap V (.ex l)=some (.list false l):=rfl
theorem Yc {V l}:AV.snap V (.d (.ptr l))=some (.ptr l):=rfl
theorem U7 {V}:AV.snap V (.d .nilptr)=some .nilptr:=rfl
theorem aM {V o g}:AV.snap V (.own o g)=match V.get o g with|some (.row _ _ nil xs)=>some (.list nil xs)|_=>none:=rfl
theorem aO {V cs}:AV.snap V (.agg cs)=match BD (AV.snap0 V) cs with|some l=>some (.agg l)|none=>none:=rfl
theorem aW {V k n}:AV.snap0 V (.d (.int k n))=some (.int k n):=rfl
theorem Yh {V b}:AV.snap0 V (.d (.bool b))=some (.bool b):=rfl
theorem Yg {V n l}:AV.snap0 V (.d (.list n l))=some (.list n l):=rfl
theorem b7 {V l}:AV.snap0 V (.ex l)=some (.list false l):=rfl
theorem aV {V o g}:AV.snap0 V (.own o g)=match V.get o g with|some (.row _ _ nil xs)=>some (.list nil xs)|_=>none:=rfl
theorem YY {α:Type}{a b:α}:(some a=some b)=(a=b):=by simp
theorem VP {α β:Type}{f:α->β}{a:α}:Option.map f (some a)=some (f a):=rfl
section
variable {k k':IntKind}{a b:Int}{C:AV->Prop}
theorem Zr:D3 .eql k k' a b C=(k=k'/\(a=b->C (.d (.bool true)))/\(¬a=b->C (.d (.bool false)))):=by
 rw[V8];by_cases h:a=b<;>simp[h]
theorem Zk:D3 .neq k k' a b C=(k=k'/\(a=b->C (.d (.bool false)))/\(¬a=b->C (.d (.bool true)))):=by
 rw[Vz];by_cases h:a=b<;>simp[h]
theorem Zl:D3 .lss k k' a b C=(k=k'/\(a<b->C (.d (.bool true)))/\(¬a<b->C (.d (.bool false)))):=by
 rw[V4];by_cases h:a<b<;>simp[h]
theorem Zn:D3 .leq k k' a b C=(k=k'/\(a<=b->C (.d (.bool true)))/\(¬a<=b->C (.d (.bool false)))):=by
 rw[V5];by_cases h:a<=b<;>simp[h]
theorem Zo:D3 .gtr k k' a b C=(k=k'/\(b<a->C (.d (.bool true)))/\(¬b<a->C (.d (.bool false)))):=by
 rw[V6];by_cases h:b<a<;>simp[h]
theorem Zq:D3 .geq k k' a b C=(k=k'/\(b<=a->C (.d (.bool true)))/\(¬b<=a->C (.d (.bool false)))):=by
 rw[V7];by_cases h:b<=a<;>simp[h]
end
section
variable {E:C2}{dst:Option Nat}{V:AB}{K:AV->B6->Prop}{f:FuncId}{xs:List AV}
theorem T7 {ds:List D}{b:Bool}(h:D6 E f ds (.bool b)) (ha:E1 xs=some ds) (h1:b=true->K (.d (.bool true)) .none) (h2:b=false->K (.d (.bool false)) .none):D2 E dst V f xs K :=
 Qx h ha (by cases b with|true=>exact h1 rfl|false=>exact h2 rfl)
end
section
variable {E:C2}{K:BP->Prop}
def JO (j:Nat):List (Nat×Ou)->Option Ou
 |[]=>none
 |(i,r)::l=>if j=i then some r else JO j l
def Ol (x:Option Ou) (b:Ou):Bool:=match x with|some r=>Je r b|none=>false
def QT (need:List Nat) (i:Nat) (r:Ou) (rec:List (Nat×Ou)):List (Nat×Ou):=if need.contains i then (i,r)::rec else rec
def M5 (E:C2):Nat->List Nat->List (Ew×List Nat)->List (Nat×Ou)->BP->(BP->Prop)->Prop
 |_,_,[],_,s,K=>K s
 |i,need,(I,dy)::l,rec,s,K=>EX E I s fun v ch =>
  (dy.all fun j=>Ol (JO j rec) (ch.site,Dq I s))=true /\
  M5 E (i+1) need l (QT need i (ch.site,Dq I s) rec) (put s I.dst v ch) K
theorem UO {need:List Nat}:∀{l:List (Ew×List Nat)}{rec:List Ou}{recE:List (Nat×Ou)}{s:BP},(∀j,j∈l.flatMap (·.2)->j∈need)->(∀j,j∈need->JO j recE=rec[j]?)->O0 E l rec s K=M5 E rec.length need l recE s K
 |[],_,_,_,_,_=>rfl
 |(I,dy)::l,rec,recE,s,hn,hr=>by
  simp only[O0,M5]
  congr 1
  funext v ch
  have h1:(dy.all fun j=>match rec[j]? with|some r=>Je r (ch.site,Dq I s)|none=>false)=(dy.all fun j=>Ol (JO j recE) (ch.site,Dq I s)):=by
   rw[Bool.eq_iff_iff,List.all_eq_true,List.all_eq_true]
   have:∀j,j∈dy->(match rec[j]? with|some r=>Je r (ch.site,Dq I s)|none=>false)=Ol (JO j recE) (ch.site,Dq I s):=fun j hj=>by
    rw[hr j (hn j (by simp[hj]))];rfl
   exact⟨fun h j hj=>by rw[←this j hj];exact h j hj,fun h j hj=>by rw[this j hj];exact h j hj⟩
  refine congr (congrArg And (congrArg (fun b=>b=true) h1)) ?_
  have h2:=UO (need:=need) (l:=l) (rec:=rec++[(ch.site,Dq I s)]) (recE:=QT need rec.length (ch.site,Dq I s) recE) (s:=put s I.dst v ch) (fun j hj=>hn j (by simp at hj ⊢;exact .inr hj)) fun j hj=>by
   unfold QT
   by_cases h:need.contains rec.length=true
   ·rw[if_pos h]
    simp only[JO]
    by_cases hjl:j=rec.length
    ·subst hjl;simp
    ·rw[if_neg hjl,hr j hj]
     by_cases hlt:j<rec.length
     ·rw[List.getElem?_append_left hlt]
     ·rw[List.getElem?_eq_none (by omega),List.getElem?_eq_none (by simp;omega)]
   ·rw[if_neg h,hr j hj]
    have hne:j≠rec.length:=by rintro rfl;exact h (by simpa using hj)
    by_cases hlt:j<rec.length
    ·rw[List.getElem?_append_left hlt]
    ·rw[List.getElem?_eq_none (by omega),List.getElem?_eq_none (by simp;omega)]
  rw[h2];simp
theorem W2 {Q:CO->BP->Prop}{s:BP} {gs l ks}:pw E (.draw gs l ks) Q s=Cv gs s fun s'=>M5 E 0 (l.flatMap (·.2)) l [] s' fun s'=>Q .normal (s'.keep ks):=by
 rw[Yr]
 congr 1;funext s'
 exact UO (rec:=[]) (recE:=[]) (fun j hj=>hj) fun j hj=>by simp[JO]
theorem Ws {i need r} {s:BP}:M5 E i need [] r s K=K s:=rfl
theorem S' {i need I l r} {s:BP}:M5 E i need ((I,[])::l) r s K=EX E I s fun v ch=>M5 E (i+1) need l (QT need i (ch.site,Dq I s) r) (put s I.dst v ch) K:=by
 simp[M5]
theorem VF {i need I j dy l r} {s:BP}:M5 E i need ((I,j::dy)::l) r s K=EX E I s fun v ch =>
 ((j::dy).all fun j=>Ol (JO j r) (ch.site,Dq I s))=true/\M5 E (i+1) need l (QT need i (ch.site,Dq I s) r) (put s I.dst v ch) K:=rfl
theorem B_ {z:Nat} {i i' need need' l} {r r':List (Nat×Ou)}{s s':BP}(hz:Ko=z) (hi:i=i') (hn:need=need') (hr:r=r') (h:s=s'):M5 E i need l r s K=M5 E i' need' l r' s' K:=by rw[h,hr,hi,hn]
theorem ai {need:List Nat}{i:Nat}{r:Ou}{rec:List (Nat×Ou)}(h:need.contains i=true):QT need i r rec=(i,r)::rec:=by simp only[QT,h,if_true]
theorem aj {need:List Nat}{i:Nat}{r:Ou}{rec:List (Nat×Ou)}(h:need.contains i=false):QT need i r rec=rec:=by simp only[QT,h,Bool.false_eq_true,if_false]
theorem VW {j:Nat}:JO j []=none:=rfl
theorem TT {j i:Nat}{r:Ou} {l}:JO j ((i,r)::l)=if j=i then some r else JO j l:=rfl
theorem X_ {r b:Ou}:Ol (some r) b=Je r b:=rfl
theorem c6 {a f b f'}:Je (a,f) (b,f')=((a.all fun o=>!f'.contains o) && (b.all fun o=>!f.contains o)):=rfl
theorem Xp {d g op xs} {sl:Nat->AV}{V:AB}:Dq ⟨d,g,op,xs⟩ ⟨sl,V⟩=fp V d op (xs.map (IJ.val sl)):=rfl
theorem dK {x}:AV.sites (.d x)=[]:=by cases x<;>rfl
theorem bw {x}:AV.sites (.ex x)=[]:=rfl
theorem YV {x n}:AV.sites (.dptr x n)=[]:=rfl
theorem aK {o g}:AV.sites (.own o g)=[o]:=rfl
theorem aJ {o g f}:AV.sites (.ptr o g f)=[o]:=rfl
theorem YT {o g e i f}:AV.sites (.rptr o g e i f)=[o]:=rfl
theorem YU {k o g}:AV.sites (.mref k o g)=[o]:=rfl
theorem aL {l}:AV.sites (.agg l)=AV.sites.sitesL l:=rfl
theorem bv {f l}:AV.sites (.fn f l)=AV.sites.sitesL l:=rfl
theorem aH {l}:AV.sites (.tup l)=AV.sites.sitesL l:=rfl
theorem YW:AV.sites.sitesL []=[]:=rfl
theorem Wk {x l}:AV.sites.sitesL (x::l)=x.sites++AV.sites.sitesL l:=rfl
section
variable {d:Option Nat}{xs:List AV}{V:AB}
theorem bM:fp V d .mov xs=[]:=rfl
theorem ZP:fp V d .pick xs=[]:=rfl
theorem bQ {b}:fp V d (.bin b) xs=[]:=rfl
theorem bO {b t}:fp V d (.eqv b t) xs=[]:=rfl
theorem ce {b}:fp V d (.un b) xs=[]:=rfl
theorem Xk:fp V d .nilck xs=[]:=rfl
theorem Xm {a b c}:fp V d (.field a b c) xs=[]:=rfl
theorem Xn {a}:fp V d (.faddr a) xs=[]:=rfl
theorem Vm {a b}:fp V d (.iaddrA a b) xs=[]:=rfl
theorem Xo {a b}:fp V d (.build a b) xs=[]:=rfl
theorem Xl {a b c e}:fp V d (.mkrow a b c e) xs=[]:=rfl
theorem bK {es}:fp V d (.sub es) xs=AV.sites.sitesL xs:=rfl
theorem bL:fp V d .pre xs=AV.sites.sitesL xs:=rfl
theorem bP:fp V d .cpy xs=d.toList++AV.sites.sitesL xs:=rfl
theorem Tg {a}:fp V d (.extract a) xs=[]:=rfl
theorem ZR {a b}:fp V d (.load a b) xs=AV.sites.sitesL xs:=rfl
theorem Vl {a}:fp V d (.iaddrS a) xs=AV.sites.sitesL xs:=rfl
theorem bN {a}:fp V d (.len a) xs=AV.sites.sitesL xs:=rfl
theorem Xi {a}:fp V d (.store a) xs=d.toList++AV.sites.sitesL xs:=rfl
theorem ZS {a}:fp V d (.call a) xs=Al d V xs:=rfl
theorem T8 {t}:Al (some t) V xs=Ai t++V.reach 3 (AV.sites.sitesL xs):=rfl
theorem Y6 {t}:Ai t=[t,t+10000,t+20000,t+30000]:=rfl
theorem Pe:∀{n:Nat},V.reach n []=[]
 |0=>rfl
 |n+1=>by simp only[AB.reach,List.flatMap_nil,Pe,List.append_nil]
theorem Yk {o l}:V.reach 3 (o::l)=(o::l)++V.reach 2 ((o::l).flatMap V.osites):=rfl
theorem Yl {o l}:V.reach 2 (o::l)=(o::l)++V.reach 1 ((o::l).flatMap V.osites):=rfl
def Qb:Option (Nat×AI)->List Nat
 |some (_,.cells xs)=>AV.sites.sitesL xs
 |some (_,.rowH _ _ _ q _)=>[q]
 |_=>[]
theorem VL {ob cn o}:(AB.mk ob cn).osites o=Qb (ob o):=rfl
theorem VQ {g xs}:Qb (some (g,.cells xs))=AV.sites.sitesL xs:=rfl
theorem Y2 {g a b c l}:Qb (some (g,.row a b c l))=[]:=rfl
theorem bR {a b c e}:fp V d (.app a b c e) xs=d.toList++AV.sites.sitesL xs:=rfl
theorem Xj {a b c e}:fp V d (.slice a b c e) xs=d.toList++AV.sites.sitesL xs:=rfl
theorem ZQ {a b c e}:fp V d (.mksl a b c e) xs=d.toList++AV.sites.sitesL xs:=rfl
end
theorem Wh {a:Nat}:(some a).toList=[a]:=rfl
theorem Wi:(none:Option Nat).toList=[]:=rfl
end
theorem Fm {k n}:(D.int k n).WF=Jg k n:=by rw[D.WF]
theorem FB {b}:(D.bool b).WF=True:=by rw[D.WF]
theorem El {nl xs}:(D.list nl xs).WF=(xs.length<=maxLen/\∀x,x∈xs->x.WF):=by rw[D.WF]
theorem GD {xs}:(D.agg xs).WF=(∀x,x∈xs->x.WF):=by rw[D.WF]
theorem GC {xs}:(D.ptr xs).WF=(∀x,x∈xs->x.WF):=by rw[D.WF]
theorem IK {f xs}:(D.fn f xs).WF=(∀x,x∈xs->x.WF):=by rw[D.WF]
theorem GB {xs}:(D.tup xs).WF=(∀x,x∈xs->x.WF):=by rw[D.WF]
theorem FA {nl} {xs:List Int}:(D.list nl (C6 xs)).WF=(xs.length<=maxLen/\∀x,x∈xs->Jg .i64 x):=by
 rw[El,Dn];simp[C6,Fm]
theorem Cy {x:D}{l:List D}:(∀y,y∈x::l->y.WF)=(x.WF/\∀y,y∈l->y.WF):=by simp
theorem DF:(∀y,y∈([]:List D)->y.WF)=True:=by simp
theorem DG {α:Type}{f:α->D}{l:List α}:(∀y,y∈l.map f->y.WF)=(∀x,x∈l->(f x).WF):=by simp
theorem FD {n:Int}:Jg .i64 n=(-9223372036854775808<=n/\n<=9223372036854775807):=by
 simp[Jg,IntKind.min,IntKind.max,IntKind.signed,IntKind.bits]
theorem Di:maxLen=9223372036854775807:=rfl
theorem Jd {x:AV}{d:D}{xs:List AV}{ds:List D}(h:x.toD1=some d) (h':BD AV.toD1 xs=some ds):E1 (x::xs)=some (d::ds):=by
 simp only[E1,BD,h,h']
theorem X7:DS=1073741824:=rfl
theorem bA:BH=900000:=rfl
theorem BI (V0:List (Nat×Nat×AI)) (xs:List AV):BP.enterM V0 xs=⟨ET (xs.zipIdx.map fun(d,k)=>(k,d)),⟨Af V0,fun _=>1⟩⟩:=by
 have key:∀(xs:List AV) (n t:Nat),(match xs[t]? with|some d=>d|none=>.undef)=ET ((xs.zipIdx n).map fun(d,k)=>(k,d)) (n+t):=by
  intro xs
  induction xs with
  |nil=>intro n t;simp[ET]
  |cons x xs ih =>
   intro n t
   cases t with
   |zero=>simp[ET]
   |succ t =>
    have:=ih (n+1) t
    simp only[List.getElem?_cons_succ,List.zipIdx_cons,List.map_cons,ET]
    rw[if_neg (by omega),this]
    congr 1;omega
 unfold BP.enterM
 congr 1
 funext t
 have:=key xs 0 t
 simp only[Nat.zero_add] at this
 rw[←this]
 cases xs[t]?<;>rfl
theorem Ak {E:C2}{dst:Option Nat}{V:AB}{K:AV->B6->Prop}{f:FuncId}{xs:List AV}{V0 V1:List (Nat×Nat×AI)}{cxs:List AV}{r r':AV}{ch:B6}(ρ ρ2:Ar) (h:Ea E f V0 cxs V1 r) (h1:Sa ρ cxs xs)
  (h2:Handed V (Al dst V xs) ρ V0) (h3:AO V.cn dst V0 V1 ρ ρ2=true) (h4:r.ren ρ2=some r') (h5:Au ρ ρ2 V1=some ch) (hk:K r' ch):D2 E dst V f xs K :=
 .inr (.inr (.inr (.inl ⟨V0,cxs,V1,r,r',ch,ρ,ρ2,h1,h,h2,h3,h4,h5,hk⟩)))
theorem Wv {E:C2} {rs V1 r s}:ab E rs V1 r .ret s=(GF E s rs (Y' V1 s.V r)/\XX s.V V1):=rfl
theorem Rf {E:C2} {rs V1 r s}:ab E rs V1 r .normal s=(GF E s rs (Y' V1 s.V r)/\XX s.V V1):=rfl
section
variable {V:AB}{V1:List (Nat×Nat×AI)}
theorem cQ {r v}:Y' V1 V r [v]=Lp V1 V v r:=rfl
theorem cT {rs}:Y' V1 V (.tup rs) []=Lq V1 V [] rs:=rfl
theorem cO {rs v u l}:Y' V1 V (.tup rs) (v::u::l)=Lq V1 V (v::u::l) rs:=rfl
theorem WJ:Lq V1 V [] []=True:=rfl
theorem T6 {v r vs rs}:Lq V1 V (v::vs) (r::rs)=(Lp V1 V v r/\Lq V1 V vs rs):=rfl
theorem Zg {v d}:Lp V1 V v (.d d)=(v.snap V=some d/\(v.sites.all fun o=>!Tc V1 o)=true):=rfl
theorem WH {v o g f}:Lp V1 V v (.ptr o g f)=(v=.ptr o g f):=rfl
theorem T5 {v o g e i f}:Lp V1 V v (.rptr o g e i f)=(v=.rptr o g e i f):=rfl
theorem WI {v o g}:Lp V1 V v (.own o g)=(v=.own o g):=rfl
theorem Xa {o}:Tc [] o=false:=rfl
theorem Vh {p l o}:Tc (p::l) o=(p.1 == o || Tc l o):=rfl
def Vg:Option (Nat×AI)->Nat->AI->Prop
 |some (g',.map t l),g,.map t' l'=>g'=g/\t=t'/\l=l'
 |some (g',.row a b c l),g,.row a' b' c' l'=>g'=g/\a=a'/\b=b'/\c=c'/\l=l'
 |some (g',.cells l),g,.cells l'=>g'=g/\l=l'
 |some (g',.hist a b c),g,.hist a' b' c'=>g'=g/\a=a'/\b=b'/\c=c'
 |some (g',.rowH a b c d e),g,.rowH a' b' c' d' e'=>g'=g/\a=a'/\b=b'/\c=c'/\d=d'/\e=e'
 |some (g',.mat a b c d e),g,.mat a' b' c' d' e'=>g'=g/\a=a'/\b=b'/\c=c'/\d=d'/\e=e'
 |_,_,_=>False
theorem ZI {x:Option (Nat×AI)}{g:Nat}{y:AI}:Vg x g y=(x=some (g,y)):=by
 cases x with
 |none=>simp[Vg]
 |some p=>obtain⟨g',z⟩:=p;cases z<;>cases y<;>simp[Vg]
theorem XY {g' a b c l g a' b' c' l'}:Vg (some (g',.row a b c l)) g (.row a' b' c' l')=(g'=g/\a=a'/\b=b'/\c=c'/\l=l'):=rfl
theorem Tb {g' l g l'}:Vg (some (g',.cells l)) g (.cells l')=(g'=g/\l=l'):=rfl
theorem ZH:XX V []=True:=rfl
theorem XW {o g x l}:XX V ((o,g,x)::l)=(Vg (V.ob o) g x/\XX V l):=by rw[ZI];rfl
end
theorem GX {E:C2}{t:Nat}{V:AB}{K:AV->B6->Prop}{f:FuncId}{xs:List AV}{ds:List D}{ety es:Nat}{nl:Bool}{l:List D}(h:Z0 E f ds ety es nl l) (ht:t<BH) (hp:GO l=true)
  (hk:K (.own t (V.cn t)) (.fresh t (.row ety es nl l))) (ha:Oi V xs=some ds:=by rfl):D2 E (some t) V f xs K :=
 .inr (.inr (.inl ⟨ds,t,ety,es,nl,l,rfl,ht,.inr ⟨ha,hp⟩,h,hk⟩))
def kB (K:AV->B6->Prop):D->Prop
 |.bool b=>(b=true->K (.d (.bool true)) .none)/\(b=false->K (.d (.bool false)) .none)
 |r=>K (up r) .none
theorem ZG {K:AV->B6->Prop} {b}:kB K (.bool b)=((b=true->K (.d (.bool true)) .none)/\(b=false->K (.d (.bool false)) .none)):=rfl
theorem bD {K:AV->B6->Prop} {k n}:kB K (.int k n)=K (.d (.int k n)) .none:=rfl
theorem ZF {K:AV->B6->Prop} {n l}:kB K (.list n l)=K (.d (.list n l)) .none:=rfl
theorem bE {K:AV->B6->Prop} {l}:kB K (.agg l)=K (.d (.agg l)) .none:=rfl
theorem bC {K:AV->B6->Prop} {l}:kB K (.ptr l)=K (.d (.ptr l)) .none:=rfl
theorem bB {K:AV->B6->Prop} {l}:kB K (.tup l)=K (.tup (l.map .d)) .none:=rfl
theorem AH {E:C2}{dst:Option Nat}{V:AB}{K:AV->B6->Prop}{f:FuncId}{xs:List AV}{ds:List D}{r:D}(h:D6 E f ds r) (hk:kB K r)
  (ha:E1 xs=some ds\/(Oi V xs=some ds/\r.flat=true):=by first|exact .inl rfl|exact .inr ⟨rfl,rfl⟩):D2 E dst V f xs K:=by
 have hu:K (up r) .none:=by
  cases r with
  |bool b=>cases b with
   |true=>exact hk.1 rfl
   |false=>exact hk.2 rfl
  |_=>exact hk
 exact ha.elim (fun h1=>Qx h h1 hu) fun h1=>D5 h h1.1 h1.2 hu
theorem aI {a b:Prop}(h:a) (k:b):a/\b:=⟨h,k⟩
theorem tI:True:=⟨⟩
theorem DQ {z:Nat}{K:AV->B6->Prop}{r r':D}(hz:Ko=z) (h:r=r'):kB K r=kB K r':=by rw[h]
theorem isCall {E:C2}{dst:Option Nat}{V:AB}{K:AV->B6->Prop}{f:FuncId}{xs:List AV}(h:D2 E dst V f xs K):D2 E dst V f xs K:=h
theorem BL {α:Type}{S:BP}{T:α->BP}{I M:α->Prop}(h:∃y,S=T y/\I y/\M y):∃y,S=T y/\I y/\M y:=h
theorem LW {α β:Type}{S:BP}{T:α×β->BP}{I M:α×β->Prop}(h:∃y,S=T y/\I y/\M y):∃y,S=T y/\I y/\M y:=h
theorem Br {α β γ:Type}{S:BP}{T:α×β×γ->BP}{I M:α×β×γ->Prop}(h:∃y,S=T y/\I y/\M y):∃y,S=T y/\I y/\M y:=h
theorem E7 {α β γ δ:Type}{S:BP}{T:α×β×γ×δ->BP}{I M:α×β×γ×δ->Prop}(h:∃y,S=T y/\I y/\M y):∃y,S=T y/\I y/\M y:=h
theorem Hk {α β γ δ ε ζ:Type}{S:BP}{T:α×β×γ×δ×ε×ζ->BP}{I M:α×β×γ×δ×ε×ζ->Prop}(h:∃y,S=T y/\I y/\M y):∃y,S=T y/\I y/\M y:=h
theorem KM {α β γ δ ε ζ η:Type}{S:BP}{T:α×β×γ×δ×ε×ζ×η->BP}{I M:α×β×γ×δ×ε×ζ×η->Prop}(h:∃y,S=T y/\I y/\M y):∃y,S=T y/\I y/\M y:=h
theorem a7 {m k a}:Gp m k a []=some a:=rfl
theorem a8 {k:IntKind}{a b:Int} {rest}:Gp true k a (.d (.int k b)::rest)=Gp true k (max a b) rest:=by
 simp only[Gp,if_true,ZA];congr 1;omega
theorem Uy (n:Nat):n-0=n:=rfl
def Om (a b:List D):Prop:=EZ a b=true
theorem ZC {a b:List D}:(Df (.agg a) (.agg b)=true)=Om a b:=rfl
theorem ZD {a b:List D}:(Df (.agg a) (.agg b)=false)=¬Om a b:=by simp[Df,Om,D.cells]
theorem YC:Om [] []=True:=by simp[Om,EZ]
theorem YD {k k':IntKind}{a b:Int}{asq bs:List D}:Om (.int k a::asq) (.int k' b::bs)=((k=k'/\a=b)/\Om asq bs):=by
 simp[Om,EZ,FZ]
theorem WP {a b:Bool}{asq bs:List D}:Om (.bool a::asq) (.bool b::bs)=(a=b/\Om asq bs):=by
 simp[Om,EZ,FZ]
theorem YL {ts:List (Option IntKind)}{cs:List D}:Iz (true,ts) (.agg cs)=Dk ts cs:=by simp[Iz,D.isAgg,D.cells]
theorem Wd:Dk [] []=true:=rfl
theorem We {k:IntKind}{n:Int} {ts cs}:Dk (some k::ts) (.int k n::cs)=Dk ts cs:=by simp[Dk]
theorem Ut {b:Bool} {ts cs}:Dk (none::ts) (.bool b::cs)=Dk ts cs:=rfl
section
variable {E:C2}{dst:Option Nat}{V:AB}{K:AV->B6->Prop}
theorem ZZ {n tys x y}:ev E dst V (.eqv n tys) [x,y] K=Bc x.toD1 fun a=>Bc y.toD1 fun b=>Iz tys a=true/\Iz tys b=true/\(Df a b=true->K (.d (.bool (!n))) .none)/\(Df a b=false->K (.d (.bool n)) .none):=by
 rw[bX];congr 1;funext a;congr 1;funext b;cases Df a b<;>cases n<;>simp
end
def d6 (E:C2) (p:PC) (Q:CO->BP->Prop) (s:BP):Prop:=∃e s',Q e s'/\∀Q':CO->BP->Prop,Q' e s'->pw E p Q' s
attribute [go_sem] bc Ym Ys ao W2 am Yt W3 Yq an QE Sw Ux PF T_ SX Td SB Xd Xe ZO Xc ZN cY Yw Yv Wr VE Ws S' VF ai aj VW TT X_ c6 Xp dK bw YV aK aJ YT YU aL bv aH YW Wk bM ZP bQ bO ce Xk Xm Xn Vm Xo Xl Tg ZR Vl bN Xi ZS bR Xj ZQ Wh Wi List.flatMap_cons List.flatMap_nil U8 S6 U9 Wn T8 Y6 Pe Yk Yl VL VQ Y2 RE YS ZK ZL ZJ W4 W5 X8 X9 WO Zt ZE XL Jv XP TU VX bJ Wb YK Wa Zd TV R5 XI TJ cH Y5 Y4 ZB cF Y0 X2 WC WB bg Zi bf Zj Zh be cv cu aG YR YQ aF aD YO YP VY TX aE bu Zx c8 bi c7 dY cx bh Vp Tk Vq Tl WK WL Z' aA bW ZW bb bV SK Qo Qp Vu Qk M_ Lc Qr O_ Tu ZY Tr ba Za Tv Zb Ql O8 Tn Tt Qq O9 X0 Qm Tp Qn bT bZ bK bU Xz Xy bL bP Vs ZX ZV SJ Vr Xu OK Tm O7 aY Tq Xx ZZ ZC ZD YC YD WP YL Wd We Ut Vt Tx Vv Tz SL Tw ap aq Zr Zk Zl Zn Zo Zq V_ Vw V3 Vy Vx V9 Rq Qa TL TM Uy a7 a8 T4 Ku JZ Qg Dn Vf Vd XV Ve XT XU Vc Wc Uo Rr FF Wu Wv Rf cT cQ cO WJ T6 Zg WH T5 WI Xa Vh XY Tb ZH XW Ww VI af ah Ya YZ aN Yd Yb bx Yc U7 aM aO aW Yh Yg b7 aV YY VP bp bq List.map_cons List.map_nil List.zipIdx_cons List.zipIdx_nil List.zip_cons_cons List.zip_nil_left List.length_cons List.length_nil List.getElem?_cons_zero List.getElem?_cons_succ List.drop_zero List.drop_succ_cons List.take_succ_cons List.take_zero List.take_nil List.drop_nil List.contains_cons List.contains_nil List.filter_cons List.filter_nil List.all_cons List.all_nil List.cons_append List.nil_append List.append_nil List.set_cons_zero List.set_cons_succ Uz List.replicate_succ List.replicate_zero List.isEmpty_cons List.isEmpty_nil List.length_map id_eq Nat.lt_irrefl Nat.zero_add Nat.add_zero Nat.zero_mul Nat.one_mul Nat.mul_one if_true if_false Bool.false_eq_true Bool.not_true Bool.not_false Bool.true_or Bool.false_or Bool.or_true Bool.or_false Bool.true_and Bool.false_and Bool.and_true Bool.and_false beq_self_eq_true Bool.and_self Bool.or_self true_and and_true false_and and_false ite_self exists_prop_of_true exists_prop not_false_eq_true not_true_eq_false forall_const eq_self and_self true_implies false_implies implies_true ne_eq List.cons_ne_nil Nat.le_refl Nat.not_lt_zero Wq VD Wo VB VC S9 U' S8 Int.toNat_natCast Int.toNat_zero X7 bA ak WX Rs WN Xv So Q9 WQ Sf YJ av Y9 R2 Y7 R1 VV MH cJ VO dS aw VN QZ U_ S7 Re ZG bD ZF bE bC bB
attribute [go_sem_proc] Nat.reduceAdd Nat.reduceSub Nat.reduceMul Nat.reduceEqDiff Nat.reduceBEq Nat.reduceLeDiff Nat.reduceLT Int.reduceToNat Int.reduceLE Int.reduceLT Int.reduceNeg reduceIte reduceCtorEq Int.reduceEq Int.reduceAdd Int.reduceSub Int.reduceMul
end Go.Pw
