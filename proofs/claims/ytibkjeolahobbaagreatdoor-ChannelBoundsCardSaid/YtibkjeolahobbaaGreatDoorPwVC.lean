/- A part of the proof. -/
import Derived.Test.YtibkjeolahobbaaGreatDoorPkZa
import Derived.IntWalk
set_option linter.all false
namespace Go.Pw
def Ih:Nat:=0
theorem nv:Ih=0:=Eq.symm (Eq.symm rfl)
def K3 (v:AV) (b:Bool) (A B:Prop):Prop :=
 match v with
 |.d (.bool b')=>Hb (b == b') A B
 |.tup []=>B
 |_=>False
def X3 (v:AV) (t:Nat) (sl:Nat->AV) (V:AM) (KS:BZ->Prop):Prop :=
 match v with
 |.own o g=>H8 (V.get o g) fun _ _ nl l=>KS ⟨CJ sl t (.d (.list nl l)),V.drop o⟩
 |_=>KS ⟨sl,V⟩
def a7 (v:AV) (t:Nat) (sl:Nat->AV) (V:AM) (KS:BZ->Prop):Prop :=
 match v with
 |.ptr o g 0=>G_ (V.get o g) fun xs=>BV (BR AV.toD1 xs) fun cs=>cs≠[]/\KS ⟨CJ sl t (.d (.ptr cs)),V.drop o⟩
 |_=>KS ⟨sl,V⟩
def pr (y:Option Ak) (o g:Nat) (sl:Nat->AV) (V:AM) (KS:BZ->Prop):Prop :=
 match y with
 |some (.rowH ety l i q p)=>H8 (V.get q p) fun _ _ nl xs=>KS ⟨sl,(V.drop q).app (.keep o g (.row ety 1 false (l.set i (.list nl xs))))⟩
 |_=>KS ⟨sl,V⟩
def qX (v:AV) (sl:Nat->AV) (V:AM) (KS:BZ->Prop):Prop :=
 match v with
 |.own o g=>pr (V.get o g) o g sl V KS
 |_=>KS ⟨sl,V⟩
def fW (v:AV) (t:Nat) (sl:Nat->AV) (V:AM) (KS:BZ->Prop):Prop :=
 match v with
 |.mref .out o g=>FG (V.get o g) fun _ _ nl ix rows=>KS ⟨CJ sl t (.d (.list nl (KM ix rows))),V.drop o⟩
 |_=>KS ⟨sl,V⟩
def fc (x:Option Ak) (t o:Nat) (sl:Nat->AV) (V:AM) (KS:BZ->Prop):Prop :=
 match x with
 |some (.cells (c::l))=>KS ⟨CJ sl t (.ablk false (c::l) 0),V.drop o⟩
 |_=>False
def fZ (v:AV) (t:Nat) (sl:Nat->AV) (V:AM) (KS:BZ->Prop):Prop :=
 match v with
 |.ptr o g 0=>fc (V.get o g) t o sl V KS
 |_=>KS ⟨sl,V⟩
def Vx (x:Option AV) (b g k:Nat) (xs:List AV) (sl:Nat->AV) (V:AM) (KS:BZ->Prop):Prop :=
 match x with
 |some (.own o p)=>H8 (V.get o p) fun _ _ nl l=>KS ⟨sl,(V.drop o).app (.keep b g (.cells (xs.set k (.d (.list nl l)))))⟩
 |_=>KS ⟨sl,V⟩
def a8 (v:AV) (off:Nat) (sl:Nat->AV) (V:AM) (KS:BZ->Prop):Prop :=
 match v with
 |.ptr b g f=>(match V.get b g with
  |some (.cells xs)=>Vx xs[f+off]? b g (f+off) xs sl V KS
  |_=>KS ⟨sl,V⟩)
 |_=>KS ⟨sl,V⟩
def fY (y:Option Ak) (b g k:Nat) (sl:Nat->AV) (V:AM) (KS:BZ->Prop):Prop :=
 match y with
 |some (.cells xs)=>Vx xs[k]? b g k xs sl V KS
 |_=>KS ⟨sl,V⟩
def eC (v:AV) (t o e1 e2:Nat) (sl:Nat->AV) (V:AM) (KS:BZ->Prop):Prop :=
 match v with
 |.d (.list true [])=>o<EW/\KS ⟨CJ sl t (.mref .out o (V.cn o)),V.app (.fresh o (.mat e1 e2 true [] []))⟩
 |_=>KS ⟨sl,V⟩
def eA (v:AV) (t o ety es:Nat) (sl:Nat->AV) (V:AM) (KS:BZ->Prop):Prop :=
 match v with
 |.d (.list true [])=>o<EW/\KS ⟨CJ sl t (.own o (V.cn o)),V.app (.fresh o (.row ety es true []))⟩
 |_=>KS ⟨sl,V⟩
def Xf (x:Option AV) (b g k o ety es:Nat) (xs:List AV) (sl:Nat->AV) (V:AM) (KS:BZ->Prop):Prop :=
 match x with
 |some (.d (.list true []))=>o<EW/\o≠b/\KS ⟨sl,(V.app (.fresh o (.row ety es true []))).app (.keep b g (.cells (xs.set k (.own o (V.cn o)))))⟩
 |_=>KS ⟨sl,V⟩
def aZ (y:Option Ak) (b g k o ety es:Nat) (sl:Nat->AV) (V:AM) (KS:BZ->Prop):Prop :=
 match y with
 |some (.cells xs)=>Xf xs[k]? b g k o ety es xs sl V KS
 |_=>KS ⟨sl,V⟩
def eD (v:AV) (off o ety es:Nat) (sl:Nat->AV) (V:AM) (KS:BZ->Prop):Prop :=
 match v with
 |.ptr b g f=>aZ (V.get b g) b g (f+off) o ety es sl V KS
 |_=>KS ⟨sl,V⟩
section
variable {E:Co}{Q:B6->BZ->Prop}{s s':BZ}{K:AV->Bw->Prop}{KS:BZ->Prop}
theorem Bf {z:Nat}{p:PC}(hz:Ih=z) (h:s=s'):pw E p Q s=pw E p Q s':=by rw[h]
theorem A9 {z:Nat}{l:List E6}(hz:Ih=z) (h:s=s'):Ke E l s KS=Ke E l s' KS:=by rw[h]
theorem Aq {z:Nat}{I:E6}(hz:Ih=z) (h:s=s'):EZ E I s K=EZ E I s' K:=by rw[h]
theorem Bg {z:Nat}{dst:Option Nat}{op:B7}{V V':AM}{xs xs':List AV}(hz:Ih=z) (hV:V=V') (h:xs=xs'):ev E dst V op xs K=ev E dst V' op xs' K:=by rw[h,hV]
theorem Ax {z:Nat}{b:BinOp}{k k' k1 k2:IntKind}{x y x' y':Int}{C:AV->Prop}(hz:Ih=z) (h1:k=k1) (h2:k'=k2) (hx:x=x') (hy:y=y'):DM b k k' x y C=DM b k1 k2 x' y' C:=by rw[h1,h2,hx,hy]
theorem Az {z:Nat}{c c':Bool}{A B:Prop}(hz:Ih=z) (h:c=c'):Hb c A B=Hb c' A B:=by rw[h]
theorem Ay {z:Nat}{v v':AV}{A B:Prop}(hz:Ih=z) (h:v=v'):Rf v A B=Rf v' A B:=by rw[h]
theorem Ap {z:Nat}{e e':B6}{A:BZ->Prop}(hz:Ih=z) (he:e=e') (h:s=s'):KW A Q e s=KW A Q e' s':=by rw[he,h]
theorem Aj {z:Nat}{i:Nat}{e e':B6}(hz:Ih=z) (he:e=e') (h:s=s'):Jl i Q e s=Jl i Q e' s':=by rw[he,h]
theorem Ad {α:Type}{z:Nat}{x y:Option α}{A:α->Prop}(hz:Ih=z) (h:x=y):BV x A=BV y A:=by rw[h]
theorem AZ {z:Nat}{x y:Option Ak} {A} (hz:Ih=z) (h:x=y):G_ x A=G_ y A:=by rw[h]
theorem Au {z:Nat}{x y:Option Ak} {A} (hz:Ih=z) (h:x=y):H8 x A=H8 y A:=by rw[h]
theorem Ah {z:Nat}{gs:List Eu}(hz:Ih=z) (h:s=s'):CU gs s KS=CU gs s' KS:=by rw[h]
theorem Aw {z:Nat}{g:Eu}(hz:Ih=z) (h:s=s'):Ep g s KS=Ep g s' KS:=by rw[h]
theorem Ai {z:Nat}{dst:Option Nat}{V V':AM}{f:FuncId}{xs xs':List AV}(hz:Ih=z) (hV:V=V') (h:xs=xs'):EA E dst V f xs K=EA E dst V' f xs' K:=by rw[h,hV]
theorem BC {z:Nat}{α:Type}{ag:Bool}{n n':Nat}{cs cs':List α}{off off':Nat}{mk:List α->AV}{one:α->AV}{C:AV->Prop}(hz:Ih=z) (hn:n=n') (h:cs=cs') (ho:off=off'):B1 ag n cs off mk one C=B1 ag n' cs' off' mk one C:=by rw[hn,h,ho]
theorem BW {z:Nat}{lo hi:Bool}{n n':Nat}{xs xs':List AV}{C:Nat->Nat->Prop}(hz:Ih=z) (hn:n=n') (h:xs=xs'):Md lo hi n xs C=Md lo hi n' xs' C:=by rw[hn,h]
theorem Ag {z:Nat}{v v':AV}{b:Bool}{A B:Prop}(hz:Ih=z) (h:v=v'):K3 v b A B=K3 v' b A B:=by rw[h]
theorem BI {z:Nat}{v v':AV}{t:Nat}{sl:Nat->AV}{V:AM}(hz:Ih=z) (h:v=v'):X3 v t sl V KS=X3 v' t sl V KS:=by rw[h]
theorem BD {z:Nat}{v v':AV}{t o ety es:Nat}{sl:Nat->AV}{V:AM}(hz:Ih=z) (h:v=v'):eA v t o ety es sl V KS=eA v' t o ety es sl V KS:=by rw[h]
theorem BA {z:Nat}{rs:List RT}{K:List AV->Prop}(hz:Ih=z) (h:s=s'):Hq E s rs K=Hq E s' rs K:=by rw[h]
theorem BB {z:Nat}{r:RT}{K:AV->Prop}(hz:Ih=z) (h:s=s'):XT E s r K=XT E s' r K:=by rw[h]
theorem A8 {z:Nat}{y y':AV}{xs xs':List AV}{V V':AM}(hz:Ih=z) (h1:y=y') (h2:xs=xs') (h3:V=V'):R_ y xs V K=R_ y' xs' V' K:=by rw[h1,h2,h3]
theorem A' {z:Nat}{α:Type}{T:α->AM} {Inv PInv m gs ks os sl e e'} (hz:Ih=z) (he:e=e') (h:s=s'):aE T Inv PInv m gs ks os sl e s=aE T Inv PInv m gs ks os sl e' s':=by rw[he,h]
theorem Ar {z:Nat}{A:BZ->Prop} {e e'} (hz:Ih=z) (he:e=e') (h:s=s'):Pa A e s=Pa A e' s':=by rw[he,h]
theorem Af {z:Nat}{x y:Option Ak} {A} (hz:Ih=z) (h:x=y):Q3 x A=Q3 y A:=by rw[h]
theorem AN {b:Bool}{A B:Prop}(h1:b=true->A) (h2:b=false->B):Hb b A B:=⟨h1,h2⟩
theorem iQ {d t b op xs} {sl:Nat->AV}{V:AM}:EZ E ⟨d,some (t,b),op,xs⟩ ⟨sl,V⟩ K=K3 (sl t) b (ev E d V op (xs.map (J_.val sl)) K) (K (.tup []) .none):=rfl
theorem kI {b:Bool}{A B:Prop}:K3 (.d (.bool b)) true A B=Hb b A B:=by simp[K3]
theorem kJ {b:Bool}{A B:Prop}:K3 (.d (.bool b)) false A B=Hb b B A:=by cases b<;>simp[K3]
theorem kH {b:Bool}{A B:Prop}:K3 (.tup []) b A B=B:=rfl
theorem fM {t:Nat}{sl:Nat->AV}{V:AM}:Ep (.freeze t) ⟨sl,V⟩ KS=X3 (sl t) t sl V KS:=by
 simp only[Ep,X3]
 cases sl t with
 |own o g=>simp only;cases V.get o g with
  |none=>rfl
  |some x=>cases x<;>rfl
 |_=>rfl
theorem kL {t o g:Nat}{sl:Nat->AV}{V:AM}:X3 (.own o g) t sl V KS=H8 (V.get o g) fun _ _ nl l=>KS ⟨CJ sl t (.d (.list nl l)),V.drop o⟩:=rfl
theorem o8 {t:Nat}{x:D}{sl:Nat->AV}{V:AM}:X3 (.d x) t sl V KS=KS ⟨sl,V⟩:=rfl
theorem a6 {t:Nat}{sl:Nat->AV}{V:AM}:X3 .undef t sl V KS=KS ⟨sl,V⟩:=rfl
theorem fN {t:Nat}{sl:Nat->AV}{V:AM}:Ep (.frzP t) ⟨sl,V⟩ KS=a7 (sl t) t sl V KS:=by
 simp only[Ep,a7]
 cases sl t with
 |ptr o g f =>
  cases f with
  |zero =>
   simp only;cases V.get o g with
   |none=>rfl
   |some x =>
    cases x with
    |cells xs =>
     simp only[G_]
     cases BR AV.toD1 xs with
     |none=>rfl
     |some l=>cases l<;>simp[BV]
    |_=>rfl
  |succ n=>rfl
 |_=>rfl
theorem kM {t o g:Nat}{sl:Nat->AV}{V:AM}:a7 (.ptr o g 0) t sl V KS=G_ (V.get o g) fun xs=>BV (BR AV.toD1 xs) fun cs=>cs≠[]/\KS ⟨CJ sl t (.d (.ptr cs)),V.drop o⟩:=rfl
theorem o9 {t:Nat}{x:D}{sl:Nat->AV}{V:AM}:a7 (.d x) t sl V KS=KS ⟨sl,V⟩:=rfl
theorem BJ {z:Nat}{v v':AV}{t:Nat}{sl:Nat->AV}{V:AM}(hz:Ih=z) (h:v=v'):a7 v t sl V KS=a7 v' t sl V KS:=by rw[h]
theorem Ae {z:Nat}{x y:Option Ak} {A B} (hz:Ih=z) (h:x=y):Mg x A B=Mg y A B:=by rw[h]
theorem fJ {t o ety es:Nat}{sl:Nat->AV}{V:AM}:Ep (.own t o ety es) ⟨sl,V⟩ KS=eA (sl t) t o ety es sl V KS:=rfl
theorem fL {t off o ety es:Nat}{sl:Nat->AV}{V:AM}:Ep (.ownC t off o ety es) ⟨sl,V⟩ KS=eD (sl t) off o ety es sl V KS:=by
 simp only[Ep,eD]
 cases sl t with
 |ptr b g f =>
  simp only[aZ]
  cases V.get b g with
  |none=>rfl
  |some x =>
   cases x with
   |cells xs=>simp only[Xf];rfl
   |_=>rfl
 |_=>rfl
theorem jT {b g f off o ety es:Nat}{sl:Nat->AV}{V:AM}:eD (.ptr b g f) off o ety es sl V KS=aZ (V.get b g) b g (f+off) o ety es sl V KS:=rfl
theorem aY {b g k o ety es:Nat}{xs:List AV}{sl:Nat->AV}{V:AM}:aZ (some (.cells xs)) b g k o ety es sl V KS=Xf xs[k]? b g k o ety es xs sl V KS:=rfl
theorem jW {b g k o ety es:Nat}{xs:List AV}{sl:Nat->AV}{V:AM}:Xf (some (.d (.list true []))) b g k o ety es xs sl V KS=(o<EW/\o≠b/\KS ⟨sl,(V.app (.fresh o (.row ety es true []))).app (.keep b g (.cells (xs.set k (.own o (V.cn o)))))⟩):=rfl
theorem jV {b g k o ety es o' g':Nat}{xs:List AV}{sl:Nat->AV}{V:AM}:Xf (some (.own o' g')) b g k o ety es xs sl V KS=KS ⟨sl,V⟩:=rfl
theorem BF {z:Nat}{v v':AV}{off o ety es:Nat}{sl:Nat->AV}{V:AM}(hz:Ih=z) (h:v=v'):eD v off o ety es sl V KS=eD v' off o ety es sl V KS:=by rw[h]
theorem BH {z:Nat}{y y':Option Ak}{b g k k' o ety es:Nat}{sl:Nat->AV}{V:AM}(hz:Ih=z) (h:y=y') (hk:k=k'):aZ y b g k o ety es sl V KS=aZ y' b g k' o ety es sl V KS:=by rw[h,hk]
theorem BG {z:Nat}{y y':Option AV}{b g k o ety es:Nat}{xs:List AV}{sl:Nat->AV}{V:AM}(hz:Ih=z) (h:y=y'):Xf y b g k o ety es xs sl V KS=Xf y' b g k o ety es xs sl V KS:=by rw[h]
theorem fO {t:Nat}{sl:Nat->AV}{V:AM}:Ep (.frzM t) ⟨sl,V⟩ KS=fW (sl t) t sl V KS:=by
 simp only[Ep,fW]
 cases sl t with
 |mref k o g =>
  cases k with
  |out=>simp only;cases V.get o g with
   |none=>rfl
   |some x=>cases x<;>rfl
  |_=>rfl
 |_=>rfl
theorem fV {t o g:Nat}{sl:Nat->AV}{V:AM}:fW (.mref .out o g) t sl V KS=FG (V.get o g) fun _ _ nl ix rows=>KS ⟨CJ sl t (.d (.list nl (KM ix rows))),V.drop o⟩:=rfl
theorem BK {z:Nat}{v v':AV}{t:Nat}{sl:Nat->AV}{V:AM}(hz:Ih=z) (h:v=v'):fW v t sl V KS=fW v' t sl V KS:=by rw[h]
theorem fQ {t:Nat}{sl:Nat->AV}{V:AM}:Ep (.frzA t) ⟨sl,V⟩ KS=fZ (sl t) t sl V KS:=by
 simp only[Ep,fZ]
 cases sl t with
 |ptr o g f =>
  cases f with
  |zero=>rfl
  |succ n=>rfl
 |_=>rfl
theorem kO {t o g:Nat}{sl:Nat->AV}{V:AM}:fZ (.ptr o g 0) t sl V KS=fc (V.get o g) t o sl V KS:=rfl
theorem X5 {t o:Nat}{c:AV}{l:List AV}{sl:Nat->AV}{V:AM}:fc (some (.cells (c::l))) t o sl V KS=KS ⟨CJ sl t (.ablk false (c::l) 0),V.drop o⟩:=rfl
theorem BO {z:Nat}{v v':AV}{t:Nat}{sl:Nat->AV}{V:AM}(hz:Ih=z) (h:v=v'):fZ v t sl V KS=fZ v' t sl V KS:=by rw[h]
theorem BP {z:Nat}{y y':Option Ak}{t o:Nat}{sl:Nat->AV}{V:AM}(hz:Ih=z) (h:y=y'):fc y t o sl V KS=fc y' t o sl V KS:=by rw[h]
theorem fP {t off:Nat}{sl:Nat->AV}{V:AM}:Ep (.frzC t off) ⟨sl,V⟩ KS=a8 (sl t) off sl V KS:=by
 simp only[Ep,a8]
 cases sl t with
 |ptr b g f =>
  simp only
  cases V.get b g with
  |none=>rfl
  |some x =>
   cases x with
   |cells xs =>
    simp only[Vx]
    cases xs[f+off]? with
    |none=>rfl
    |some y =>
     cases y with
     |own o p=>simp only;cases V.get o p with
      |none=>rfl
      |some z=>cases z<;>rfl
     |_=>rfl
   |_=>rfl
 |_=>rfl
theorem kN {b g f off:Nat}{sl:Nat->AV}{V:AM}:a8 (.ptr b g f) off sl V KS=fY (V.get b g) b g (f+off) sl V KS:=by
 simp only[a8,fY]
theorem X4 {b g k:Nat}{xs:List AV}{sl:Nat->AV}{V:AM}:fY (some (.cells xs)) b g k sl V KS=Vx xs[k]? b g k xs sl V KS:=rfl
theorem fX {b g k o p:Nat}{xs:List AV}{sl:Nat->AV}{V:AM}:Vx (some (.own o p)) b g k xs sl V KS=H8 (V.get o p) fun _ _ nl l=>KS ⟨sl,(V.drop o).app (.keep b g (.cells (xs.set k (.d (.list nl l)))))⟩:=rfl
theorem nW {b g k:Nat}{x:D}{xs:List AV}{sl:Nat->AV}{V:AM}:Vx (some (.d x)) b g k xs sl V KS=KS ⟨sl,V⟩:=rfl
theorem BM {z:Nat}{v v':AV}{off:Nat}{sl:Nat->AV}{V:AM}(hz:Ih=z) (h:v=v'):a8 v off sl V KS=a8 v' off sl V KS:=by rw[h]
theorem BN {z:Nat}{y y':Option Ak}{b g k k':Nat}{sl:Nat->AV}{V:AM}(hz:Ih=z) (h:y=y') (hk:k=k'):fY y b g k sl V KS=fY y' b g k' sl V KS:=by rw[h,hk]
theorem BL {z:Nat}{y y':Option AV}{b g k:Nat}{xs:List AV}{sl:Nat->AV}{V:AM}(hz:Ih=z) (h:y=y'):Vx y b g k xs sl V KS=Vx y' b g k xs sl V KS:=by rw[h]
theorem fK {t o e1 e2:Nat}{sl:Nat->AV}{V:AM}:Ep (.ownM t o e1 e2) ⟨sl,V⟩ KS=eC (sl t) t o e1 e2 sl V KS:=rfl
theorem jS {t o e1 e2:Nat}{sl:Nat->AV}{V:AM}:eC (.d (.list true [])) t o e1 e2 sl V KS=(o<EW/\KS ⟨CJ sl t (.mref .out o (V.cn o)),V.app (.fresh o (.mat e1 e2 true [] []))⟩):=rfl
theorem eB {t o e1 e2:Nat} {k o' g} {sl:Nat->AV}{V:AM}:eC (.mref k o' g) t o e1 e2 sl V KS=KS ⟨sl,V⟩:=rfl
theorem BE {z:Nat}{v v':AV}{t o e1 e2:Nat}{sl:Nat->AV}{V:AM}(hz:Ih=z) (h:v=v'):eC v t o e1 e2 sl V KS=eC v' t o e1 e2 sl V KS:=by rw[h]
theorem Av {z:Nat}{x y:Option Ak} {A} (hz:Ih=z) (h:x=y):FG x A=FG y A:=by rw[h]
theorem jR {t o ety es:Nat}{sl:Nat->AV}{V:AM}:eA (.d (.list true [])) t o ety es sl V KS=(o<EW/\KS ⟨CJ sl t (.own o (V.cn o)),V.app (.fresh o (.row ety es true []))⟩):=rfl
theorem jQ {t o ety es o' g:Nat}{sl:Nat->AV}{V:AM}:eA (.own o' g) t o ety es sl V KS=KS ⟨sl,V⟩:=rfl
end
theorem iK {α:Type}(f:Nat->α) (i:Nat) (x:α) (j:Nat):CJ f i x j=if j=i then x else f j:=rfl
theorem ci (f:Nat->Nat) (i x y:Nat):CJ (CJ f i x) i y=CJ f i y:=by funext j;simp only[CJ];split<;>rfl
theorem og {x:D}:(AV.d x).one=x.one:=rfl
theorem jU {o g}:(AV.own o g).one=true:=rfl
theorem mt {f c}:(AV.fn f c).one=true:=rfl
theorem gO {k n}:(D.int k n).one=true:=rfl
theorem bf {b}:(D.bool b).one=true:=rfl
theorem be {n l}:(D.list n l).one=true:=rfl
theorem gN {l}:(D.ptr l).one=true:=rfl
theorem n_ {c}:(AV.agg c).cells?=some c:=rfl
theorem kq {c}:(AV.d (.agg c)).cells?=some (c.map .d):=rfl
theorem n9 {k n}:(AV.d (.int k n)).cells?=some [.d (.int k n)]:=rfl
theorem kr {b}:(AV.d (.bool b)).cells?=some [.d (.bool b)]:=rfl
theorem ko {n l}:(AV.d (.list n l)).cells?=some [.d (.list n l)]:=rfl
theorem kp {l}:(AV.d (.ptr l)).cells?=some [.d (.ptr l)]:=rfl
theorem n8 {o g}:(AV.own o g).cells?=some [.own o g]:=rfl
theorem pG {l}:(AV.ex l).cells?=some [.ex l]:=rfl
theorem pF {f c}:(AV.fn f c).cells?=some [.fn f c]:=rfl
theorem l9 {k n}:AV.toD1 (.d (.int k n))=some (.int k n):=rfl
theorem iP {n l}:AV.toD1 (.d (.list n l))=some (.list n l):=rfl
theorem oQ {l}:AV.toD1 (.ex l)=some (.list false l):=rfl
theorem am {α β:Type}{f:α->Option β}:BR f []=some []:=rfl
theorem Xq {α β:Type}{f:α->Option β}{x:α}{xs:List α}:BR f (x::xs)=match f x with
 |none=>none
 |some y=>match BR f xs with|none=>none|some ys=>some (y::ys):=rfl
theorem l_ {cs}:AV.toD1 (.agg cs)=match BR AV.toD0 cs with|some l=>some (.agg l)|none=>none:=rfl
theorem lI {V:AM} {n l}:(AV.d (.list n l)).asList V=some (n,l):=rfl
theorem pN {V:AM} {l}:(AV.ex l).asList V=some (false,l):=rfl
theorem oC {V:AM} {o g}:(AV.own o g).asList V=match V.get o g with|some (.row _ _ nil xs)=>some (nil,xs)|_=>none:=rfl
theorem pM {V:AM} {o g}:(AV.mref .out o g).asList V=match V.get o g with|some (.mat _ _ nil ix rows)=>some (nil,KM ix rows)|_=>none:=rfl
theorem ef {ix rows}:(KM ix rows).length=ix.length:=by simp[KM]
theorem p4 {V:AM} {x}:EC V none (.d x)=match (AV.d x).asList V with|some (_,ys)=>some ys|none=>none:=rfl
theorem pJ {V:AM} {x}:EC V none (.ex x)=match (AV.ex x).asList V with|some (_,ys)=>some ys|none=>none:=rfl
theorem lD {V:AM} {z n}:EC V (some z) (.d (.int .i64 n))=if 0<=n/\n<=(Cx:Int) then some (List.replicate n.toNat z) else none:=rfl
theorem bC {es xs}:GD es xs []=some xs:=rfl
theorem X' {es xs i v rest}:GD es xs ((i,v)::rest)=match v.toD1 with
 |none=>none
 |some x=>if x.cells.length=es/\i<xs.length then GD es (xs.set i x) rest else none:=rfl
theorem bD {cs}:MH cs []=some cs:=rfl
theorem YA {cs off size v rest}:MH cs (((off,size),v)::rest)=match v.cells? with
 |none=>none
 |some vs=>if vs.length=size/\off+size<=cs.length then MH (Bh cs off vs) rest else none:=rfl
theorem bp {k n}:(D.int k n).cells=[.int k n]:=rfl
theorem Yb {n l}:(D.list n l).cells=[.list n l]:=rfl
theorem bq {l}:(D.agg l).cells=l:=rfl
theorem l8 {k n}:up (.int k n)=.d (.int k n):=rfl
theorem iL {b}:up (.bool b)=.d (.bool b):=rfl
theorem lz {l}:up (.tup l)=.tup (l.map .d):=rfl
theorem Z0:Bw.site .none=[]:=rfl
theorem dG {a b}:Bw.site (.seq a b)=a.site++b.site:=rfl
theorem XJ {o x}:Bw.site (.fresh o x)=[o]:=rfl
theorem Z1 {o g x}:Bw.site (.keep o g x)=[o]:=rfl
def Am (xs:List Int):List D:=xs.map (D.int .i64)
@[simp] theorem o4:Am []=[]:=rfl
theorem T1 (xs:List Int):(Am xs=[])=(xs=[]):=by cases xs<;>simp[Am]
theorem B4 (xs:List Int):(Am xs).length=xs.length:=by simp[Am]
theorem aq (xs:List Int) (n:Nat):(Am xs).drop n=Am (xs.drop n):=by simp[Am]
theorem ao (xs:List Int) (n:Nat):(Am xs).take n=Am (xs.take n):=by simp[Am]
theorem fA (xs ys:List Int):Am xs++Am ys=Am (xs++ys):=by simp[Am]
theorem ap (xs:List Int) (y:Int):Am xs++[.int .i64 y]=Am (xs++[y]):=by simp[Am]
theorem e9 (xs:List Int) (i:Nat) (y:Int):(Am xs).set i (.int .i64 y)=Am (xs.set i y):=by simp[Am,List.map_set]
theorem e_ (n:Nat) (y:Int):List.replicate n (D.int .i64 y)=Am (List.replicate n y):=by simp[Am]
theorem Xt (xs:List Int):(Am xs).isEmpty=xs.isEmpty:=by cases xs<;>rfl
theorem an (xs:List Int):Cs 1 (Am xs)=True:=by
 simp only[Cs,Am,eq_iff_iff,iff_true];intro x hx;simp at hx;obtain⟨n,_,rfl⟩:=hx;rfl
theorem co {es:Nat}:Cs es []=True:=by simp[Cs]
theorem Zh {es:Nat}{x:D}{l:List D}:Cs es (x::l)=(x.cells.length=es/\Cs es l):=by simp[Cs]
theorem Uv {α:Type}{es:Nat}{f:α->D}{l:List α}(h:∀x,(f x).cells.length=es):Cs es (l.map f)=True:=by
 simp only[Cs,eq_iff_iff,iff_true];intro x hx;simp at hx;obtain⟨y,_,rfl⟩:=hx;exact h y
theorem Vc {xs:List Int}{i:Nat}{A:D->Prop}:BV (Am xs)[i]? A=(i<xs.length/\A (.int .i64 (xs[i]?.getD 0))):=by
 unfold Am
 rw[List.getElem?_map]
 by_cases h:i<xs.length
 ·simp[h,BV]
 ·have:xs[i]?=none:=List.getElem?_eq_none (by omega)
  simp[this,h,BV]
theorem Mf {α:Type} [Inhabited α] {f:α->D}{xs:List α}{i:Nat}{A:D->Prop}:BV (xs.map f)[i]? A=(i<xs.length/\A (f (xs[i]?.getD default))):=by
 rw[List.getElem?_map]
 by_cases h:i<xs.length
 ·simp[h,BV]
 ·have:xs[i]?=none:=List.getElem?_eq_none (by omega)
  simp[this,h,BV]
theorem Vb {xs:List Nat}{i:Nat}{A:Nat->Prop}:BV xs[i]? A=(i<xs.length/\A (xs[i]?.getD 0)):=by
 by_cases h:i<xs.length
 ·simp[h,BV]
 ·have:xs[i]?=none:=List.getElem?_eq_none (by omega)
  simp[this,h,BV]
def qA {α:Type}(f:α->D) (M:List (List α)):List (Bool×List D):=M.map fun r=>(false,r.map f)
section
variable {E:Co}{dst:Option Nat}{V:AM}{K:AV->Bw->Prop}{f:FuncId}{xs:List AV}
theorem Hf {ds:List D}{r:D}(h:B' E f ds r) (ha:Fy xs=some ds) (hk:K (up r) .none):EA E dst V f xs K:=.inl ⟨ds,r,ha,h,hk⟩
theorem oA {ds:List D}{r:D}(h:B' E f ds r) (ha:Wl V xs=some ds) (hf:r.flat=true) (hk:K (up r) .none):EA E dst V f xs K:=.inr (.inl ⟨ds,r,ha,h,hf,hk⟩)
end
section
variable {E:Co}{Q:B6->BZ->Prop}{s:BZ}
def dQ (l:List (Nat×AV)) (k:Nat) (v:AV):List (Nat×AV):=l.map fun p=>if p.1=k then (k,v) else p
def dN (l:List (Nat×(Nat×Ak))) (k:Nat) (x:Ak):List (Nat×(Nat×Ak)):=l.map fun p=>if p.1=k then (k,(0,x)) else p
def PV (l:List (Nat×AV)):List (Nat×AV)->List (Nat×AV)
 |[]=>l
 |(k,v)::r=>dQ (PV l r) k v
def PU (l:List (Nat×(Nat×Ak))):List (Nat×Ak)->List (Nat×(Nat×Ak))
 |[]=>l
 |(k,v)::r=>dN (PU l r) k v
theorem dP {k:Nat}{v:AV}:dQ [] k v=[]:=rfl
theorem Z8 {a k:Nat}{b v:AV} {l}:dQ ((a,b)::l) k v=(if a=k then (k,v) else (a,b))::dQ l k v:=rfl
theorem dM {k:Nat}{v:Ak}:dN [] k v=[]:=rfl
theorem Z6 {a k:Nat}{b:Nat×Ak}{v:Ak} {l}:dN ((a,b)::l) k v=(if a=k then (k,(0,v)) else (a,b))::dN l k v:=rfl
theorem Z7 {l}:PV l []=l:=rfl
theorem XN {l k v r}:PV l ((k,v)::r)=dQ (PV l r) k v:=rfl
theorem Z4 {l}:PU l []=l:=rfl
theorem XM {l k v r}:PU l ((k,v)::r)=dN (PU l r) k v:=rfl
theorem oO {f:Nat->AV}{n:Nat}:J_.val f (.t n)=f n:=rfl
theorem oP {f:Nat->AV}{v:AV}:J_.val f (.k v)=v:=rfl
theorem Zs {α:Type}(cs:List α) (off:Nat) (vs:List α):Bh cs off vs=cs.take off++vs++cs.drop (off+vs.length):=rfl
theorem AY {α:Type}(up:α->List (Nat×AV)) (uo:α->List (Nat×Ak)) (Inv:α->Prop) (μ:α->Nat) (x0:α) {gs:List Eu}{ks os:List Nat}{a:PC}
  {l0:List (Nat×AV)}{m0:List (Nat×(Nat×Ak))}(h0:CU gs s fun s1=>s1.nrm ks os=⟨E9 l0,⟨Bb m0,fun _=>1⟩⟩)
  (he:PV l0 (up x0)=l0) (he':PU m0 (uo x0)=m0) (hI:Inv x0)
  (step:∀x,Inv x->pw E a (KW (fun s'=>CU gs s' fun s1=>∃y,s1.nrm ks os=⟨E9 (PV l0 (up y)),⟨Bb (PU m0 (uo y)),fun _=>1⟩⟩/\Inv y/\μ y<μ x) Q) ⟨E9 (PV l0 (up x)),⟨Bb (PU m0 (uo x)),fun _=>1⟩⟩) :
  pw E (.loop gs ks os a) Q s :=
 d5 (fun x=>⟨E9 (PV l0 (up x)),⟨Bb (PU m0 (uo x)),fun _=>1⟩⟩) Inv μ x0 (by rw[he,he'];exact h0) hI step
end
theorem Aa (n:Int) (h:-9223372036854775808<=n/\n<=9223372036854775807):IntKind.i64.wrap n=n:=Go.IntWalk.i64_in n h
theorem dm {E:Co} {rs r s}:oa E rs r .ret s=Hq E s rs (PT s.V r):=rfl
theorem dp {E:Co} {s K}:Hq E s [] K=K []:=rfl
theorem aF {E:Co} {s r l K}:Hq E s (r::l) K=XT E s r fun v=>Hq E s l fun vs=>K (v::vs):=rfl
theorem mc {E:Co} {s n K}:XT E s (.t n) K=K (s.sl n):=rfl
theorem md {E:Co} {s a ty ag n K}:XT E s (.c a ty ag n) K=ev E none s.V (.load ag n) [s.sl a] fun v _=>K v:=rfl
theorem ij {V r v}:PT V r [v]=(v.snap V=some r):=rfl
theorem ii {V r v u}:PT V r [v,u]=((BR (AV.snap V) [v,u]).map .tup=some r):=rfl
theorem ig {V r v u t}:PT V r [v,u,t]=((BR (AV.snap V) [v,u,t]).map .tup=some r):=rfl
theorem mK {V k n}:AV.snap V (.d (.int k n))=some (.int k n):=rfl
theorem il {V b}:AV.snap V (.d (.bool b))=some (.bool b):=rfl
theorem ik {V n l}:AV.snap V (.d (.list n l))=some (.list n l):=rfl
theorem Zz {V}:AV.snap V (.d .nilptr)=some .nilptr:=rfl
theorem mJ {V o g}:AV.snap V (.own o g)=match V.get o g with|some (.row _ _ nil xs)=>some (.list nil xs)|_=>none:=rfl
theorem mL {V cs}:AV.snap V (.agg cs)=match BR (AV.snap0 V) cs with|some l=>some (.agg l)|none=>none:=rfl
theorem mS {V k n}:AV.snap0 V (.d (.int k n))=some (.int k n):=rfl
theorem i8 {V n l}:AV.snap0 V (.d (.list n l))=some (.list n l):=rfl
theorem oY {V l}:AV.snap0 V (.ex l)=some (.list false l):=rfl
theorem mR {V o g}:AV.snap0 V (.own o g)=match V.get o g with|some (.row _ _ nil xs)=>some (.list nil xs)|_=>none:=rfl
theorem ic {α:Type}{a b:α}:(some a=some b)=(a=b):=by simp
theorem aX {α β:Type}{f:α->β}{a:α}:Option.map f (some a)=some (f a):=rfl
section
variable {k k':IntKind}{a b:Int}{C:AV->Prop}
theorem lB:DM .eql k k' a b C=(k=k'/\(a=b->C (.d (.bool true)))/\(¬a=b->C (.d (.bool false)))):=by
 rw[ba];by_cases h:a=b<;>simp[h]
theorem ky:DM .neq k k' a b C=(k=k'/\(a=b->C (.d (.bool false)))/\(¬a=b->C (.d (.bool true)))):=by
 rw[bT];by_cases h:a=b<;>simp[h]
theorem kz:DM .lss k k' a b C=(k=k'/\(a<b->C (.d (.bool true)))/\(¬a<b->C (.d (.bool false)))):=by
 rw[bV];by_cases h:a<b<;>simp[h]
theorem k9:DM .leq k k' a b C=(k=k'/\(a<=b->C (.d (.bool true)))/\(¬a<=b->C (.d (.bool false)))):=by
 rw[bW];by_cases h:a<=b<;>simp[h]
theorem k_:DM .gtr k k' a b C=(k=k'/\(b<a->C (.d (.bool true)))/\(¬b<a->C (.d (.bool false)))):=by
 rw[bX];by_cases h:b<a<;>simp[h]
theorem lA:DM .geq k k' a b C=(k=k'/\(b<=a->C (.d (.bool true)))/\(¬b<=a->C (.d (.bool false)))):=by
 rw[bZ];by_cases h:b<=a<;>simp[h]
end
section
variable {E:Co}{dst:Option Nat}{V:AM}{K:AV->Bw->Prop}{f:FuncId}{xs:List AV}
theorem Yd {ds:List D}{b:Bool}(h:B' E f ds (.bool b)) (ha:Fy xs=some ds) (h1:b=true->K (.d (.bool true)) .none) (h2:b=false->K (.d (.bool false)) .none):EA E dst V f xs K :=
 Hf h ha (by cases b with|true=>exact h1 rfl|false=>exact h2 rfl)
theorem aV {α:Type}{p:Prop} [Decidable p] {x:α}{A:α->Prop}:BV (if p then some x else none) A=(p/\A x):=by
 by_cases h:p<;>simp[h,BV]
end
section
variable {E:Co}{K:BZ->Prop}
def Kz (j:Nat):List (Nat×R8)->Option R8
 |[]=>none
 |(i,r)::l=>if j=i then some r else Kz j l
def Ru (x:Option R8) (b:R8):Bool:=match x with|some r=>LL r b|none=>false
def Tq (need:List Nat) (i:Nat) (r:R8) (rec:List (Nat×R8)):List (Nat×R8):=if need.contains i then (i,r)::rec else rec
def Ps (E:Co):Nat->List Nat->List (E6×List Nat)->List (Nat×R8)->BZ->(BZ->Prop)->Prop
 |_,_,[],_,s,K=>K s
 |i,need,(I,dy)::l,rec,s,K=>EZ E I s fun v ch =>
  (dy.all fun j=>Ru (Kz j rec) (ch.site,Db I s))=true /\
  Ps E (i+1) need l (Tq need i (ch.site,Db I s) rec) (put s I.dst v ch) K
theorem Yz {need:List Nat}:∀{l:List (E6×List Nat)}{rec:List R8}{recE:List (Nat×R8)}{s:BZ},(∀j,j∈l.flatMap (·.2)->j∈need)->(∀j,j∈need->Kz j recE=rec[j]?)->SF E l rec s K=Ps E rec.length need l recE s K
 |[],_,_,_,_,_=>rfl
 |(I,dy)::l,rec,recE,s,hn,hr=>by
  simp only[SF,Ps]
  congr 1
  funext v ch
  have h1:(dy.all fun j=>match rec[j]? with|some r=>LL r (ch.site,Db I s)|none=>false)=(dy.all fun j=>Ru (Kz j recE) (ch.site,Db I s)):=by
   rw[Bool.eq_iff_iff,List.all_eq_true,List.all_eq_true]
   have:∀j,j∈dy->(match rec[j]? with|some r=>LL r (ch.site,Db I s)|none=>false)=Ru (Kz j recE) (ch.site,Db I s):=fun j hj=>by
    rw[hr j (hn j (by simp[hj]))];rfl
   exact⟨fun h j hj=>by rw[←this j hj];exact h j hj,fun h j hj=>by rw[this j hj];exact h j hj⟩
  refine congr (congrArg And (congrArg (fun b=>b=true) h1)) ?_
  have h2:=Yz (need:=need) (l:=l) (rec:=rec++[(ch.site,Db I s)]) (recE:=Tq need rec.length (ch.site,Db I s) recE) (s:=put s I.dst v ch) (fun j hj=>hn j (by simp at hj ⊢;exact .inr hj)) fun j hj=>by
   unfold Tq
   by_cases h:need.contains rec.length=true
   ·rw[if_pos h]
    simp only[Kz]
    by_cases hjl:j=rec.length
    ·subst hjl;simp
    ·rw[if_neg hjl,hr j hj]
     by_cases hlt:j<rec.length
     ·rw[List.getElem?_append_left hlt]
     ·rw[List.getElem?_eq_none (by omega),List.getElem?_eq_none (by simp;omega)]
   ·rw[if_neg h,hr j hj]
    have hne:j≠rec.length:=by rintro rfl;exact h (by simpa using hj)
    by_cases hlt:j<rec.length
    ·rw[List.getElem?_append_left hlt]
    ·rw[List.getElem?_eq_none (by omega),List.getElem?_eq_none (by simp;omega)]
  rw[h2];simp
theorem d6 {Q:B6->BZ->Prop}{s:BZ} {gs l ks}:pw E (.draw gs l ks) Q s=CU gs s fun s'=>Ps E 0 (l.flatMap (·.2)) l [] s' fun s'=>Q .normal (s'.keep ks):=by
 rw[jL]
 congr 1;funext s'
 exact Yz (rec:=[]) (recE:=[]) (fun j hj=>hj) fun j hj=>by simp[Kz]
theorem dS {i need r} {s:BZ}:Ps E i need [] r s K=K s:=rfl
theorem XP {i need I l r} {s:BZ}:Ps E i need ((I,[])::l) r s K=EZ E I s fun v ch=>Ps E (i+1) need l (Tq need i (ch.site,Db I s) r) (put s I.dst v ch) K:=by
 simp[Ps]
theorem Z_ {i need I j dy l r} {s:BZ}:Ps E i need ((I,j::dy)::l) r s K=EZ E I s fun v ch =>
 ((j::dy).all fun j=>Ru (Kz j r) (ch.site,Db I s))=true/\Ps E (i+1) need l (Tq need i (ch.site,Db I s) r) (put s I.dst v ch) K:=rfl
theorem A_ {z:Nat} {i i' need need' l} {r r':List (Nat×R8)}{s s':BZ}(hz:Ih=z) (hi:i=i') (hn:need=need') (hr:r=r') (h:s=s'):Ps E i need l r s K=Ps E i' need' l r' s' K:=by rw[h,hr,hi,hn]
theorem me {need:List Nat}{i:Nat}{r:R8}{rec:List (Nat×R8)}(h:need.contains i=true):Tq need i r rec=(i,r)::rec:=by simp only[Tq,h,if_true]
theorem mf {need:List Nat}{i:Nat}{r:R8}{rec:List (Nat×R8)}(h:need.contains i=false):Tq need i r rec=rec:=by simp only[Tq,h,Bool.false_eq_true,if_false]
theorem ak {j:Nat}:Kz j []=none:=rfl
theorem Xn {j i:Nat}{r:R8} {l}:Kz j ((i,r)::l)=if j=i then some r else Kz j l:=rfl
theorem gk {r b:R8}:Ru (some r) b=LL r b:=rfl
theorem pK {a f b f'}:LL (a,f) (b,f')=((a.all fun o=>!f'.contains o) && (b.all fun o=>!f.contains o)):=rfl
theorem fo {d g op xs} {sl:Nat->AV}{V:AM}:Db ⟨d,g,op,xs⟩ ⟨sl,V⟩=fp V d op (xs.map (J_.val sl)):=rfl
theorem pe {x}:AV.sites (.d x)=[]:=by cases x<;>rfl
theorem oT {x}:AV.sites (.ex x)=[]:=rfl
theorem iU {x n}:AV.sites (.dptr x n)=[]:=rfl
theorem mF {o g}:AV.sites (.own o g)=[o]:=rfl
theorem mE {o g f}:AV.sites (.ptr o g f)=[o]:=rfl
theorem iR {o g e i f}:AV.sites (.rptr o g e i f)=[o]:=rfl
theorem iT {k o g}:AV.sites (.mref k o g)=[o]:=rfl
theorem iV {s l f}:AV.sites (.ablk s l f)=AV.sites.sitesL l:=rfl
theorem mG {l}:AV.sites (.agg l)=AV.sites.sitesL l:=rfl
theorem oS {f l}:AV.sites (.fn f l)=AV.sites.sitesL l:=rfl
theorem mD {l}:AV.sites (.tup l)=AV.sites.sitesL l:=rfl
theorem iW:AV.sites.sitesL []=[]:=rfl
theorem dA {x l}:AV.sites.sitesL (x::l)=x.sites++AV.sites.sitesL l:=rfl
section
variable {d:Option Nat}{xs:List AV}{V:AM}
theorem nX:fp V d .mov xs=[]:=rfl
theorem kP:fp V d .pick xs=[]:=rfl
theorem nZ {b}:fp V d (.bin b) xs=[]:=rfl
theorem o_ {b}:fp V d (.un b) xs=[]:=rfl
theorem kR {b}:fp V d (.conv b) xs=[]:=rfl
theorem fg:fp V d .nilck xs=[]:=rfl
theorem fj {a}:fp V d (.faddr a) xs=[]:=rfl
theorem bA {a b}:fp V d (.iaddrA a b) xs=[]:=rfl
theorem fh {a b c e}:fp V d (.mkrow a b c e) xs=[]:=rfl
theorem a9 {a}:fp V d (.minmax a) xs=[]:=rfl
theorem X6 {a}:fp V d (.extract a) xs=[]:=rfl
theorem kQ {a b}:fp V d (.load a b) xs=AV.sites.sitesL xs:=rfl
theorem a_ {a}:fp V d (.iaddrS a) xs=AV.sites.sitesL xs:=rfl
theorem nY {a}:fp V d (.len a) xs=AV.sites.sitesL xs:=rfl
theorem fe {a}:fp V d (.store a) xs=d.toList++AV.sites.sitesL xs:=rfl
theorem kS {a}:fp V d (.call a) xs=CF d V xs:=rfl
theorem fk:fp V d .callv xs=CF d V xs:=rfl
theorem Ye {t}:CF (some t) V xs=D5 t++V.reach 3 (AV.sites.sitesL xs):=rfl
theorem jh {t}:D5 t=[t,t+10000,t+20000,t+30000]:=rfl
theorem Ss:∀{n:Nat},V.reach n []=[]
 |0=>rfl
 |n+1=>by simp only[AM.reach,List.flatMap_nil,Ss,List.append_nil]
theorem jG {o l}:V.reach 3 (o::l)=(o::l)++V.reach 2 ((o::l).flatMap V.osites):=rfl
def Tz:Option (Nat×Ak)->List Nat
 |some (_,.cells xs)=>AV.sites.sitesL xs
 |some (_,.rowH _ _ _ q _)=>[q]
 |_=>[]
theorem aM {ob cn o}:(AM.mk ob cn).osites o=Tz (ob o):=rfl
theorem ab {g xs}:Tz (some (g,.cells xs))=AV.sites.sitesL xs:=rfl
theorem jX {g a b c d e}:Tz (some (g,.mat a b c d e))=[]:=rfl
theorem nc {a b c e}:fp V d (.app a b c e) xs=d.toList++AV.sites.sitesL xs:=rfl
theorem ff {a b c e}:fp V d (.slice a b c e) xs=d.toList++AV.sites.sitesL xs:=rfl
end
theorem cr {a:Nat}:(some a).toList=[a]:=rfl
theorem ct:(none:Option Nat).toList=[]:=rfl
end
theorem Dv {k n}:(D.int k n).WF=L4 k n:=by rw[D.WF]
theorem C7 {b}:(D.bool b).WF=True:=by rw[D.WF]
theorem Cu {nl xs}:(D.list nl xs).WF=(xs.length<=maxLen/\∀x,x∈xs->x.WF):=by rw[D.WF]
theorem D9 {xs}:(D.agg xs).WF=(∀x,x∈xs->x.WF):=by rw[D.WF]
theorem D8 {xs}:(D.ptr xs).WF=(∀x,x∈xs->x.WF):=by rw[D.WF]
theorem Fh {f xs}:(D.fn f xs).WF=(∀x,x∈xs->x.WF):=by rw[D.WF]
theorem D7 {xs}:(D.tup xs).WF=(∀x,x∈xs->x.WF):=by rw[D.WF]
theorem C6 {nl} {xs:List Int}:(D.list nl (Am xs)).WF=(xs.length<=maxLen/\∀x,x∈xs->L4 .i64 x):=by
 rw[Cu,B4];simp[Am,Dv]
theorem Bl {x:D}{l:List D}:(∀y,y∈x::l->y.WF)=(x.WF/\∀y,y∈l->y.WF):=by simp
theorem Bs:(∀y,y∈([]:List D)->y.WF)=True:=by simp
theorem Bt {α:Type}{f:α->D}{l:List α}:(∀y,y∈l.map f->y.WF)=(∀x,x∈l->(f x).WF):=by simp
theorem C_ {n:Int}:L4 .i64 n=(-9223372036854775808<=n/\n<=9223372036854775807):=by
 simp[L4,IntKind.min,IntKind.max,IntKind.signed,IntKind.bits]
theorem B8:maxLen=9223372036854775807:=rfl
theorem LK {x:AV}{d:D}{xs:List AV}{ds:List D}(h:x.toD1=some d) (h':BR AV.toD1 xs=some ds):Fy (x::xs)=some (d::ds):=by
 simp only[Fy,BR,h,h']
theorem gZ:Cx=1073741824:=rfl
theorem nF:EW=900000:=rfl
theorem ER (V0:List (Nat×Nat×Ak)) (xs:List AV):BZ.enterM V0 xs=⟨E9 (xs.zipIdx.map fun(d,k)=>(k,d)),⟨Bb V0,fun _=>1⟩⟩:=by
 have key:∀(xs:List AV) (n t:Nat),(match xs[t]? with|some d=>d|none=>.undef)=E9 ((xs.zipIdx n).map fun(d,k)=>(k,d)) (n+t):=by
  intro xs
  induction xs with
  |nil=>intro n t;simp[E9]
  |cons x xs ih =>
   intro n t
   cases t with
   |zero=>simp[E9]
   |succ t =>
    have:=ih (n+1) t
    simp only[List.getElem?_cons_succ,List.zipIdx_cons,List.map_cons,E9]
    rw[if_neg (by omega),this]
    congr 1;omega
 unfold BZ.enterM
 congr 1
 funext t
 have:=key xs 0 t
 simp only[Nat.zero_add] at this
 rw[←this]
 cases xs[t]?<;>rfl
theorem E' {E:Co}{dst:Option Nat}{V:AM}{K:AV->Bw->Prop}{f:FuncId}{xs:List AV}{V0 V1:List (Nat×Nat×Ak)}{cxs:List AV}{r r':AV}{ch:Bw}(ρ ρ2:Dl) (h:IJ E f V0 cxs V1 r) (h1:OC ρ cxs xs)
  (h2:Handed V (CF dst V xs) ρ V0) (h3:CP V.cn dst V0 V1 ρ ρ2=true) (h4:r.ren ρ2=some r') (h5:D6 ρ ρ2 V1=some ch) (hk:K r' ch):EA E dst V f xs K :=
 .inr (.inr (.inr ⟨V0,cxs,V1,r,r',ch,ρ,ρ2,h1,h,h2,h3,h4,h5,hk⟩))
theorem dn {E:Co} {rs V1 r s}:mZ E rs V1 r .ret s=(Hq E s rs (lW V1 s.V r)/\fD s.V V1):=rfl
theorem VU {E:Co} {rs V1 r s}:mZ E rs V1 r .normal s=(Hq E s rs (lW V1 s.V r)/\fD s.V V1):=rfl
section
variable {V:AM}{V1:List (Nat×Nat×Ak)}
theorem oq {r v}:lW V1 V r [v]=TA V1 V v r:=rfl
theorem ot {rs}:lW V1 V (.tup rs) []=TB V1 V [] rs:=rfl
theorem bl:TB V1 V [] []=True:=rfl
theorem kn {v d}:TA V1 V v (.d d)=(v.snap V=some d/\(v.sites.all fun o=>!Xy V1 o)=true):=rfl
theorem bk {v o g}:TA V1 V v (.own o g)=(v=.own o g):=rfl
theorem fH {o}:Xy [] o=false:=rfl
theorem av {p l o}:Xy (p::l) o=(p.1 == o || Xy l o):=rfl
def Xv:Option (Nat×Ak)->Nat->Ak->Prop
 |some (g',.map t l),g,.map t' l'=>g'=g/\t=t'/\l=l'
 |some (g',.row a b c l),g,.row a' b' c' l'=>g'=g/\a=a'/\b=b'/\c=c'/\l=l'
 |some (g',.cells l),g,.cells l'=>g'=g/\l=l'
 |some (g',.hist a b c),g,.hist a' b' c'=>g'=g/\a=a'/\b=b'/\c=c'
 |some (g',.rowH a b c d e),g,.rowH a' b' c' d' e'=>g'=g/\a=a'/\b=b'/\c=c'/\d=d'/\e=e'
 |some (g',.mat a b c d e),g,.mat a' b' c' d' e'=>g'=g/\a=a'/\b=b'/\c=c'/\d=d'/\e=e'
 |_,_,_=>False
theorem kD {x:Option (Nat×Ak)}{g:Nat}{y:Ak}:Xv x g y=(x=some (g,y)):=by
 cases x with
 |none=>simp[Xv]
 |some p=>obtain⟨g',z⟩:=p;cases z<;>cases y<;>simp[Xv]
theorem fE {g' a b c l g a' b' c' l'}:Xv (some (g',.row a b c l)) g (.row a' b' c' l')=(g'=g/\a=a'/\b=b'/\c=c'/\l=l'):=rfl
theorem fF {g' a b c d e g a' b' c' d' e'}:Xv (some (g',.mat a b c d e)) g (.mat a' b' c' d' e')=(g'=g/\a=a'/\b=b'/\c=c'/\d=d'/\e=e'):=rfl
theorem Xu {g' l g l'}:Xv (some (g',.cells l)) g (.cells l')=(g'=g/\l=l'):=rfl
theorem kC:fD V []=True:=rfl
theorem fB {o g x l}:fD V ((o,g,x)::l)=(Xv (V.ob o) g x/\fD V l):=by rw[kD];rfl
end
def kB (K:AV->Bw->Prop):D->Prop
 |.bool b=>(b=true->K (.d (.bool true)) .none)/\(b=false->K (.d (.bool false)) .none)
 |r=>K (up r) .none
theorem j8 {K:AV->Bw->Prop} {b}:kB K (.bool b)=((b=true->K (.d (.bool true)) .none)/\(b=false->K (.d (.bool false)) .none)):=rfl
theorem nH {K:AV->Bw->Prop} {k n}:kB K (.int k n)=K (.d (.int k n)) .none:=rfl
theorem j7 {K:AV->Bw->Prop} {n l}:kB K (.list n l)=K (.d (.list n l)) .none:=rfl
theorem nI {K:AV->Bw->Prop} {l}:kB K (.agg l)=K (.d (.agg l)) .none:=rfl
theorem nG {K:AV->Bw->Prop} {l}:kB K (.tup l)=K (.tup (l.map .d)) .none:=rfl
theorem o0 {K:AV->Bw->Prop} {f l}:kB K (.fn f l)=K (.d (.fn f l)) .none:=rfl
theorem AE {E:Co}{dst:Option Nat}{V:AM}{K:AV->Bw->Prop}{f:FuncId}{xs:List AV}{ds:List D}{r:D}(h:B' E f ds r) (hk:kB K r)
  (ha:Fy xs=some ds\/(Wl V xs=some ds/\r.flat=true):=by first|exact .inl rfl|exact .inr ⟨rfl,rfl⟩):EA E dst V f xs K:=by
 have hu:K (up r) .none:=by
  cases r with
  |bool b=>cases b with
   |true=>exact hk.1 rfl
   |false=>exact hk.2 rfl
  |_=>exact hk
 exact ha.elim (fun h1=>Hf h h1 hu) fun h1=>oA h h1.1 h1.2 hu
theorem aI {a b:Prop}(h:a) (k:b):a/\b:=⟨h,k⟩
theorem tI:True:=⟨⟩
theorem Bj {z:Nat}{K:AV->Bw->Prop}{r r':D}(hz:Ih=z) (h:r=r'):kB K r=kB K r':=by rw[h]
theorem isCall {E:Co}{dst:Option Nat}{V:AM}{K:AV->Bw->Prop}{f:FuncId}{xs:List AV}(h:EA E dst V f xs K):EA E dst V f xs K:=h
theorem Ao {α:Type}{S:BZ}{T:α->BZ}{I M:α->Prop}(h:∃y,S=T y/\I y/\M y):∃y,S=T y/\I y/\M y:=h
theorem Ab {α β:Type}{S:BZ}{T:α×β->BZ}{I M:α×β->Prop}(h:∃y,S=T y/\I y/\M y):∃y,S=T y/\I y/\M y:=h
theorem BS {α β γ:Type}{S:BZ}{T:α×β×γ->BZ}{I M:α×β×γ->Prop}(h:∃y,S=T y/\I y/\M y):∃y,S=T y/\I y/\M y:=h
theorem CY {α β γ δ:Type}{S:BZ}{T:α×β×γ×δ->BZ}{I M:α×β×γ×δ->Prop}(h:∃y,S=T y/\I y/\M y):∃y,S=T y/\I y/\M y:=h
theorem nA {m k a}:Ft m k a []=some a:=rfl
theorem nC {k:IntKind}{a b:Int} {rest}:Ft true k a (.d (.int k b)::rest)=Ft true k (max a b) rest:=by
 simp only[Ft,if_true,jr];congr 1;omega
theorem nB {k:IntKind}{a b:Int} {rest}:Ft false k a (.d (.int k b)::rest)=Ft false k (min a b) rest:=by
 simp only[Ft,if_true,jq,Bool.false_eq_true,if_false];congr 1;omega
theorem Zm {α:Type}(xs:List α) (a:Nat):(xs.drop a).take (xs.length-a)=xs.drop a:=List.take_of_length_le (by simp)
theorem Zq (n:Nat):n-0=n:=rfl
def qf (a b:List D):Prop:=FJ a b=true
section
variable {E:Co}{dst:Option Nat}{V:AM}{K:AV->Bw->Prop}
end
def qu (E:Co) (p:PC) (Q:B6->BZ->Prop) (s:BZ):Prop:=∃e s',Q e s'/\∀Q':B6->BZ->Prop,Q' e s'->pw E p Q' s
attribute [go_sem] nv jI jM mn d6 mj jN d7 jK ml TU XA Zl SW Yg Wi X0 Vv fM fN kM o9 fO fV fQ kO X5 fP kN X4 fX nW fK jS eB fJ kL o8 a6 jR jQ fL jT aY jW jV dR Z9 dS XP Z_ me mf ak Xn gk pK fo pe oT iU mF mE iR iT iV mG oS mD iW dA nX kP nZ o_ kR fg fj bA fh a9 X6 kQ a_ nY fe kS fk nc ff cr ct List.flatMap_cons List.flatMap_nil Z0 XJ Z1 dG Ye jh Ss jG aM ab jX U3 iQ kI kJ kH d8 d9 gi gj bv lF j6 eK Lj ej Xo al nU cj iK ci kh Xp Vm eG eH XY oi ae jd jc eI eL my eM af jw og jU mt gO bf be gN n_ kq n9 kr ko kp n8 pG pF l9 iP oQ am Xq l_ lI pN oC pM ef p4 pJ lD bC X' bD YA bp Yb bq l8 iL lz nk kZ nu nj WB UB UC bI T8 P1 UE SM YL kb YK nq kc YM kd T9 YD UD SL RK WG YJ gG UA YE WA T_ YF YG YH V8 V9 WD WC gH Xc Vb bG ka kX V_ gA gB bF bE WE RJ YC SK np mX mW mV YI bK bJ bL gE bH YO YP bM YQ WH YN mo mq lB ky kz k9 k_ lA aV bc bO bU bS bR bQ bP bb gI bN Va Tx Xa Xb Zm Zq nA nC nB YY Mx LG T1 B4 aq ao fA ap e9 e_ Xt an co Zh Vc Mf dm dn VU ot oq bl kn bk fH av fE fF Xu kC fB dp aF mc md ij ii ig mK il ik Zz mJ mL mS i8 oY mR ic aX oO oP List.map_cons List.map_nil List.zipIdx_cons List.zipIdx_nil List.zip_cons_cons List.zip_nil_left List.length_cons List.length_nil List.getElem?_cons_zero List.getElem?_cons_succ List.drop_zero List.drop_succ_cons List.take_succ_cons List.take_zero List.take_nil List.drop_nil List.contains_cons List.contains_nil List.filter_cons List.filter_nil List.all_cons List.all_nil List.cons_append List.nil_append List.append_nil List.set_cons_zero List.set_cons_succ Zs List.replicate_succ List.replicate_zero List.isEmpty_cons List.isEmpty_nil List.length_map id_eq Nat.lt_irrefl Nat.zero_add Nat.add_zero Nat.zero_mul Nat.one_mul Nat.mul_one if_true if_false Bool.false_eq_true Bool.not_true Bool.not_false Bool.true_or Bool.false_or Bool.or_true Bool.or_false Bool.true_and Bool.false_and Bool.and_true Bool.and_false beq_self_eq_true Bool.and_self Bool.or_self true_and and_true false_and and_false ite_self exists_prop_of_true exists_prop not_false_eq_true not_true_eq_false forall_const eq_self and_self true_implies false_implies implies_true ne_eq List.cons_ne_nil Nat.le_refl Nat.not_lt_zero dP Z8 dM Z6 Z7 XN Z4 XM Int.toNat_natCast Int.toNat_zero gZ nF mh cO Vd bu W6 Un bw Wr iC m9 jk Vh ji Vg aj Ot om aW po m_ aP Tu Z3 XL VT aD j8 nH j7 nI nG o0
attribute [go_sem_proc] Nat.reduceAdd Nat.reduceSub Nat.reduceMul Nat.reduceEqDiff Nat.reduceBEq Nat.reduceLeDiff Nat.reduceLT Int.reduceToNat Int.reduceLE Int.reduceLT Int.reduceNeg reduceIte reduceCtorEq Int.reduceEq Int.reduceAdd Int.reduceSub Int.reduceMul
end Go.Pw
