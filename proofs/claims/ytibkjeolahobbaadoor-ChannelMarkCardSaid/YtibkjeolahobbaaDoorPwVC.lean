/- A part of the proof. -/
import Derived.Test.YtibkjeolahobbaaDoorPkZa
import Derived.IntWalk
set_option linter.all false
namespace Go.Pw
def JT:Nat:=0
theorem lK:JT=0:=Eq.symm (Eq.symm rfl)
def Kr (v:AV) (b:Bool) (A B:Prop):Prop :=
 match v with
 |.d (.bool b')=>HU (b == b') A B
 |.tup []=>B
 |_=>False
def XG (v:AV) (t:Nat) (sl:Nat->AV) (V:AJ) (KS:BX->Prop):Prop :=
 match v with
 |.own o g=>H2 (V.get o g) fun _ _ nl l=>KS ⟨CG sl t (.d (.list nl l)),V.drop o⟩
 |_=>KS ⟨sl,V⟩
def Zr (v:AV) (t:Nat) (sl:Nat->AV) (V:AJ) (KS:BX->Prop):Prop :=
 match v with
 |.ptr o g 0=>G1 (V.get o g) fun xs=>BP (A7 AV.toD1 xs) fun cs=>cs≠[]/\KS ⟨CG sl t (.d (.ptr cs)),V.drop o⟩
 |_=>KS ⟨sl,V⟩
def nC (y:Option Aa) (o g:Nat) (sl:Nat->AV) (V:AJ) (KS:BX->Prop):Prop :=
 match y with
 |some (.rowH ety l i q p)=>H2 (V.get q p) fun _ _ nl xs=>KS ⟨sl,(V.drop q).app (.keep o g (.row ety 1 false (l.set i (.list nl xs))))⟩
 |_=>KS ⟨sl,V⟩
def oC (v:AV) (sl:Nat->AV) (V:AJ) (KS:BX->Prop):Prop :=
 match v with
 |.own o g=>nC (V.get o g) o g sl V KS
 |_=>KS ⟨sl,V⟩
def dh (v:AV) (t:Nat) (sl:Nat->AV) (V:AJ) (KS:BX->Prop):Prop :=
 match v with
 |.mref .out o g=>FC (V.get o g) fun _ _ nl ix rows=>KS ⟨CG sl t (.d (.list nl (KF ix rows))),V.drop o⟩
 |_=>KS ⟨sl,V⟩
def dm (x:Option Aa) (t o:Nat) (sl:Nat->AV) (V:AJ) (KS:BX->Prop):Prop :=
 match x with
 |some (.cells (c::l))=>KS ⟨CG sl t (.ablk false (c::l) 0),V.drop o⟩
 |_=>False
def dl (v:AV) (t:Nat) (sl:Nat->AV) (V:AJ) (KS:BX->Prop):Prop :=
 match v with
 |.ptr o g 0=>dm (V.get o g) t o sl V KS
 |_=>KS ⟨sl,V⟩
def VL (x:Option AV) (b g k:Nat) (xs:List AV) (sl:Nat->AV) (V:AJ) (KS:BX->Prop):Prop :=
 match x with
 |some (.own o p)=>H2 (V.get o p) fun _ _ nl l=>KS ⟨sl,(V.drop o).app (.keep b g (.cells (xs.set k (.d (.list nl l)))))⟩
 |_=>KS ⟨sl,V⟩
def Zs (v:AV) (off:Nat) (sl:Nat->AV) (V:AJ) (KS:BX->Prop):Prop :=
 match v with
 |.ptr b g f=>(match V.get b g with
  |some (.cells xs)=>VL xs[f+off]? b g (f+off) xs sl V KS
  |_=>KS ⟨sl,V⟩)
 |_=>KS ⟨sl,V⟩
def dk (y:Option Aa) (b g k:Nat) (sl:Nat->AV) (V:AJ) (KS:BX->Prop):Prop :=
 match y with
 |some (.cells xs)=>VL xs[k]? b g k xs sl V KS
 |_=>KS ⟨sl,V⟩
def cO (v:AV) (t o e1 e2:Nat) (sl:Nat->AV) (V:AJ) (KS:BX->Prop):Prop :=
 match v with
 |.d (.list true [])=>o<D6/\KS ⟨CG sl t (.mref .out o (V.cn o)),V.app (.fresh o (.mat e1 e2 true [] []))⟩
 |_=>KS ⟨sl,V⟩
def cK (v:AV) (t o ety es:Nat) (sl:Nat->AV) (V:AJ) (KS:BX->Prop):Prop :=
 match v with
 |.d (.list true [])=>o<D6/\KS ⟨CG sl t (.own o (V.cn o)),V.app (.fresh o (.row ety es true []))⟩
 |_=>KS ⟨sl,V⟩
def m_ (x:Option AV) (b g k o ety es:Nat) (xs:List AV) (sl:Nat->AV) (V:AJ) (KS:BX->Prop):Prop :=
 match x with
 |some (.d (.list true []))=>o<D6/\o≠b/\KS ⟨sl,(V.app (.fresh o (.row ety es true []))).app (.keep b g (.cells (xs.set k (.own o (V.cn o)))))⟩
 |_=>KS ⟨sl,V⟩
def nA (y:Option Aa) (b g k o ety es:Nat) (sl:Nat->AV) (V:AJ) (KS:BX->Prop):Prop :=
 match y with
 |some (.cells xs)=>m_ xs[k]? b g k o ety es xs sl V KS
 |_=>KS ⟨sl,V⟩
def nx (v:AV) (off o ety es:Nat) (sl:Nat->AV) (V:AJ) (KS:BX->Prop):Prop :=
 match v with
 |.ptr b g f=>nA (V.get b g) b g (f+off) o ety es sl V KS
 |_=>KS ⟨sl,V⟩
section
variable {E:Co}{Q:B6->BX->Prop}{s s':BX}{K:AV->Bs->Prop}{KS:BX->Prop}
theorem Bi {z:Nat}{p:PC}(hz:JT=z) (h:s=s'):pw E p Q s=pw E p Q s':=by rw[h]
theorem A9 {z:Nat}{l:List Ez}(hz:JT=z) (h:s=s'):KV E l s KS=KV E l s' KS:=by rw[h]
theorem Aq {z:Nat}{I:Ez}(hz:JT=z) (h:s=s'):EU E I s K=EU E I s' K:=by rw[h]
theorem Bj {z:Nat}{dst:Option Nat}{op:B7}{V V':AJ}{xs xs':List AV}(hz:JT=z) (hV:V=V') (h:xs=xs'):ev E dst V op xs K=ev E dst V' op xs' K:=by rw[h,hV]
theorem Ax {z:Nat}{b:BinOp}{k k' k1 k2:IntKind}{x y x' y':Int}{C:AV->Prop}(hz:JT=z) (h1:k=k1) (h2:k'=k2) (hx:x=x') (hy:y=y'):DD b k k' x y C=DD b k1 k2 x' y' C:=by rw[h1,h2,hx,hy]
theorem Az {z:Nat}{c c':Bool}{A B:Prop}(hz:JT=z) (h:c=c'):HU c A B=HU c' A B:=by rw[h]
theorem Ay {z:Nat}{v v':AV}{A B:Prop}(hz:JT=z) (h:v=v'):Qm v A B=Qm v' A B:=by rw[h]
theorem Ap {z:Nat}{e e':B6}{A:BX->Prop}(hz:JT=z) (he:e=e') (h:s=s'):KO A Q e s=KO A Q e' s':=by rw[he,h]
theorem Aj {z:Nat}{i:Nat}{e e':B6}(hz:JT=z) (he:e=e') (h:s=s'):Jb i Q e s=Jb i Q e' s':=by rw[he,h]
theorem Ad {α:Type}{z:Nat}{x y:Option α}{A:α->Prop}(hz:JT=z) (h:x=y):BP x A=BP y A:=by rw[h]
theorem AY {z:Nat}{x y:Option Aa} {A} (hz:JT=z) (h:x=y):G1 x A=G1 y A:=by rw[h]
theorem Au {z:Nat}{x y:Option Aa} {A} (hz:JT=z) (h:x=y):H2 x A=H2 y A:=by rw[h]
theorem Ah {z:Nat}{gs:List Em}(hz:JT=z) (h:s=s'):CW gs s KS=CW gs s' KS:=by rw[h]
theorem Aw {z:Nat}{g:Em}(hz:JT=z) (h:s=s'):FD g s KS=FD g s' KS:=by rw[h]
theorem Ai {z:Nat}{dst:Option Nat}{V V':AJ}{f:FuncId}{xs xs':List AV}(hz:JT=z) (hV:V=V') (h:xs=xs'):Dy E dst V f xs K=Dy E dst V' f xs' K:=by rw[h,hV]
theorem BC {z:Nat}{α:Type}{ag:Bool}{n n':Nat}{cs cs':List α}{off off':Nat}{mk:List α->AV}{one:α->AV}{C:AV->Prop}(hz:JT=z) (hn:n=n') (h:cs=cs') (ho:off=off'):Bx ag n cs off mk one C=Bx ag n' cs' off' mk one C:=by rw[hn,h,ho]
theorem BS {z:Nat}{lo hi:Bool}{n n':Nat}{xs xs':List AV}{C:Nat->Nat->Prop}(hz:JT=z) (hn:n=n') (h:xs=xs'):MH lo hi n xs C=MH lo hi n' xs' C:=by rw[hn,h]
theorem Ag {z:Nat}{v v':AV}{b:Bool}{A B:Prop}(hz:JT=z) (h:v=v'):Kr v b A B=Kr v' b A B:=by rw[h]
theorem BF {z:Nat}{v v':AV}{t:Nat}{sl:Nat->AV}{V:AJ}(hz:JT=z) (h:v=v'):XG v t sl V KS=XG v' t sl V KS:=by rw[h]
theorem BD {z:Nat}{v v':AV}{t o ety es:Nat}{sl:Nat->AV}{V:AJ}(hz:JT=z) (h:v=v'):cK v t o ety es sl V KS=cK v' t o ety es sl V KS:=by rw[h]
theorem BA {z:Nat}{rs:List RT}{K:List AV->Prop}(hz:JT=z) (h:s=s'):Hh E s rs K=Hh E s' rs K:=by rw[h]
theorem BB {z:Nat}{r:RT}{K:AV->Prop}(hz:JT=z) (h:s=s'):Wi E s r K=Wi E s' r K:=by rw[h]
theorem A8 {z:Nat}{y y':AV}{xs xs':List AV}{V V':AJ}(hz:JT=z) (h1:y=y') (h2:xs=xs') (h3:V=V'):RI y xs V K=RI y' xs' V' K:=by rw[h1,h2,h3]
theorem A' {z:Nat}{α:Type}{T:α->AJ} {Inv PInv m gs ks os sl e e'} (hz:JT=z) (he:e=e') (h:s=s'):ZJ T Inv PInv m gs ks os sl e s=ZJ T Inv PInv m gs ks os sl e' s':=by rw[he,h]
theorem Ar {z:Nat}{A:BX->Prop} {e e'} (hz:JT=z) (he:e=e') (h:s=s'):O7 A e s=O7 A e' s':=by rw[he,h]
theorem Af {z:Nat}{x y:Option Aa} {A} (hz:JT=z) (h:x=y):QM x A=QM y A:=by rw[h]
theorem AO {b:Bool}{A B:Prop}(h1:b=true->A) (h2:b=false->B):HU b A B:=⟨h1,h2⟩
theorem fR {d t b op xs} {sl:Nat->AV}{V:AJ}:EU E ⟨d,some (t,b),op,xs⟩ ⟨sl,V⟩ K=Kr (sl t) b (ev E d V op (xs.map (J1.val sl)) K) (K (.tup []) .none):=rfl
theorem iB {b:Bool}{A B:Prop}:Kr (.d (.bool b)) true A B=HU b A B:=by simp[Kr]
theorem iC {b:Bool}{A B:Prop}:Kr (.d (.bool b)) false A B=HU b B A:=by cases b<;>simp[Kr]
theorem iA {b:Bool}{A B:Prop}:Kr (.tup []) b A B=B:=rfl
theorem dZ {t:Nat}{sl:Nat->AV}{V:AJ}:FD (.freeze t) ⟨sl,V⟩ KS=XG (sl t) t sl V KS:=by
 simp only[FD,XG]
 cases sl t with
 |own o g=>simp only;cases V.get o g with
  |none=>rfl
  |some x=>cases x<;>rfl
 |_=>rfl
theorem iH {t o g:Nat}{sl:Nat->AV}{V:AJ}:XG (.own o g) t sl V KS=H2 (V.get o g) fun _ _ nl l=>KS ⟨CG sl t (.d (.list nl l)),V.drop o⟩:=rfl
theorem mM {t:Nat}{x:D}{sl:Nat->AV}{V:AJ}:XG (.d x) t sl V KS=KS ⟨sl,V⟩:=rfl
theorem Zq {t:Nat}{sl:Nat->AV}{V:AJ}:XG .undef t sl V KS=KS ⟨sl,V⟩:=rfl
theorem da {t:Nat}{sl:Nat->AV}{V:AJ}:FD (.frzP t) ⟨sl,V⟩ KS=Zr (sl t) t sl V KS:=by
 simp only[FD,Zr]
 cases sl t with
 |ptr o g f =>
  cases f with
  |zero =>
   simp only;cases V.get o g with
   |none=>rfl
   |some x =>
    cases x with
    |cells xs =>
     simp only[G1]
     cases A7 AV.toD1 xs with
     |none=>rfl
     |some l=>cases l<;>simp[BP]
    |_=>rfl
  |succ n=>rfl
 |_=>rfl
theorem iI {t o g:Nat}{sl:Nat->AV}{V:AJ}:Zr (.ptr o g 0) t sl V KS=G1 (V.get o g) fun xs=>BP (A7 AV.toD1 xs) fun cs=>cs≠[]/\KS ⟨CG sl t (.d (.ptr cs)),V.drop o⟩:=rfl
theorem mN {t:Nat}{x:D}{sl:Nat->AV}{V:AJ}:Zr (.d x) t sl V KS=KS ⟨sl,V⟩:=rfl
theorem BG {z:Nat}{v v':AV}{t:Nat}{sl:Nat->AV}{V:AJ}(hz:JT=z) (h:v=v'):Zr v t sl V KS=Zr v' t sl V KS:=by rw[h]
theorem Ae {z:Nat}{x y:Option Aa} {A B} (hz:JT=z) (h:x=y):ML x A B=ML y A B:=by rw[h]
theorem dX {t o ety es:Nat}{sl:Nat->AV}{V:AJ}:FD (.own t o ety es) ⟨sl,V⟩ KS=cK (sl t) t o ety es sl V KS:=rfl
theorem db {t:Nat}{sl:Nat->AV}{V:AJ}:FD (.frzM t) ⟨sl,V⟩ KS=dh (sl t) t sl V KS:=by
 simp only[FD,dh]
 cases sl t with
 |mref k o g =>
  cases k with
  |out=>simp only;cases V.get o g with
   |none=>rfl
   |some x=>cases x<;>rfl
  |_=>rfl
 |_=>rfl
theorem dg {t o g:Nat}{sl:Nat->AV}{V:AJ}:dh (.mref .out o g) t sl V KS=FC (V.get o g) fun _ _ nl ix rows=>KS ⟨CG sl t (.d (.list nl (KF ix rows))),V.drop o⟩:=rfl
theorem BH {z:Nat}{v v':AV}{t:Nat}{sl:Nat->AV}{V:AJ}(hz:JT=z) (h:v=v'):dh v t sl V KS=dh v' t sl V KS:=by rw[h]
theorem de {t:Nat}{sl:Nat->AV}{V:AJ}:FD (.frzA t) ⟨sl,V⟩ KS=dl (sl t) t sl V KS:=by
 simp only[FD,dl]
 cases sl t with
 |ptr o g f =>
  cases f with
  |zero=>rfl
  |succ n=>rfl
 |_=>rfl
theorem iK {t o g:Nat}{sl:Nat->AV}{V:AJ}:dl (.ptr o g 0) t sl V KS=dm (V.get o g) t o sl V KS:=rfl
theorem XI {t o:Nat}{c:AV}{l:List AV}{sl:Nat->AV}{V:AJ}:dm (some (.cells (c::l))) t o sl V KS=KS ⟨CG sl t (.ablk false (c::l) 0),V.drop o⟩:=rfl
theorem BL {z:Nat}{v v':AV}{t:Nat}{sl:Nat->AV}{V:AJ}(hz:JT=z) (h:v=v'):dl v t sl V KS=dl v' t sl V KS:=by rw[h]
theorem BM {z:Nat}{y y':Option Aa}{t o:Nat}{sl:Nat->AV}{V:AJ}(hz:JT=z) (h:y=y'):dm y t o sl V KS=dm y' t o sl V KS:=by rw[h]
theorem dc {t off:Nat}{sl:Nat->AV}{V:AJ}:FD (.frzC t off) ⟨sl,V⟩ KS=Zs (sl t) off sl V KS:=by
 simp only[FD,Zs]
 cases sl t with
 |ptr b g f =>
  simp only
  cases V.get b g with
  |none=>rfl
  |some x =>
   cases x with
   |cells xs =>
    simp only[VL]
    cases xs[f+off]? with
    |none=>rfl
    |some y =>
     cases y with
     |own o p=>simp only;cases V.get o p with
      |none=>rfl
      |some z=>cases z<;>rfl
     |_=>rfl
   |_=>rfl
 |_=>rfl
theorem iJ {b g f off:Nat}{sl:Nat->AV}{V:AJ}:Zs (.ptr b g f) off sl V KS=dk (V.get b g) b g (f+off) sl V KS:=by
 simp only[Zs,dk]
theorem XH {b g k:Nat}{xs:List AV}{sl:Nat->AV}{V:AJ}:dk (some (.cells xs)) b g k sl V KS=VL xs[k]? b g k xs sl V KS:=rfl
theorem di {b g k o p:Nat}{xs:List AV}{sl:Nat->AV}{V:AJ}:VL (some (.own o p)) b g k xs sl V KS=H2 (V.get o p) fun _ _ nl l=>KS ⟨sl,(V.drop o).app (.keep b g (.cells (xs.set k (.d (.list nl l)))))⟩:=rfl
theorem k8 {b g k:Nat}{x:D}{xs:List AV}{sl:Nat->AV}{V:AJ}:VL (some (.d x)) b g k xs sl V KS=KS ⟨sl,V⟩:=rfl
theorem BJ {z:Nat}{v v':AV}{off:Nat}{sl:Nat->AV}{V:AJ}(hz:JT=z) (h:v=v'):Zs v off sl V KS=Zs v' off sl V KS:=by rw[h]
theorem BK {z:Nat}{y y':Option Aa}{b g k k':Nat}{sl:Nat->AV}{V:AJ}(hz:JT=z) (h:y=y') (hk:k=k'):dk y b g k sl V KS=dk y' b g k' sl V KS:=by rw[h,hk]
theorem BI {z:Nat}{y y':Option AV}{b g k:Nat}{xs:List AV}{sl:Nat->AV}{V:AJ}(hz:JT=z) (h:y=y'):VL y b g k xs sl V KS=VL y' b g k xs sl V KS:=by rw[h]
theorem dY {t o e1 e2:Nat}{sl:Nat->AV}{V:AJ}:FD (.ownM t o e1 e2) ⟨sl,V⟩ KS=cO (sl t) t o e1 e2 sl V KS:=rfl
theorem gM {t o e1 e2:Nat}{sl:Nat->AV}{V:AJ}:cO (.d (.list true [])) t o e1 e2 sl V KS=(o<D6/\KS ⟨CG sl t (.mref .out o (V.cn o)),V.app (.fresh o (.mat e1 e2 true [] []))⟩):=rfl
theorem cN {t o e1 e2:Nat} {k o' g} {sl:Nat->AV}{V:AJ}:cO (.mref k o' g) t o e1 e2 sl V KS=KS ⟨sl,V⟩:=rfl
theorem BE {z:Nat}{v v':AV}{t o e1 e2:Nat}{sl:Nat->AV}{V:AJ}(hz:JT=z) (h:v=v'):cO v t o e1 e2 sl V KS=cO v' t o e1 e2 sl V KS:=by rw[h]
theorem Av {z:Nat}{x y:Option Aa} {A} (hz:JT=z) (h:x=y):FC x A=FC y A:=by rw[h]
theorem gL {t o ety es:Nat}{sl:Nat->AV}{V:AJ}:cK (.d (.list true [])) t o ety es sl V KS=(o<D6/\KS ⟨CG sl t (.own o (V.cn o)),V.app (.fresh o (.row ety es true []))⟩):=rfl
theorem gK {t o ety es o' g:Nat}{sl:Nat->AV}{V:AJ}:cK (.own o' g) t o ety es sl V KS=KS ⟨sl,V⟩:=rfl
end
theorem fL {α:Type}(f:Nat->α) (i:Nat) (x:α) (j:Nat):CG f i x j=if j=i then x else f j:=rfl
theorem bC (f:Nat->Nat) (i x y:Nat):CG (CG f i x) i y=CG f i y:=by funext j;simp only[CG];split<;>rfl
theorem lz {x:D}:(AV.d x).one=x.one:=rfl
theorem gN {o g}:(AV.own o g).one=true:=rfl
theorem kU {f c}:(AV.fn f c).one=true:=rfl
theorem eP {k n}:(D.int k n).one=true:=rfl
theorem aP {b}:(D.bool b).one=true:=rfl
theorem aO {n l}:(D.list n l).one=true:=rfl
theorem eO {l}:(D.ptr l).one=true:=rfl
theorem lQ {c}:(AV.agg c).cells?=some c:=rfl
theorem io {c}:(AV.d (.agg c)).cells?=some (c.map .d):=rfl
theorem lP {k n}:(AV.d (.int k n)).cells?=some [.d (.int k n)]:=rfl
theorem ip {b}:(AV.d (.bool b)).cells?=some [.d (.bool b)]:=rfl
theorem il {n l}:(AV.d (.list n l)).cells?=some [.d (.list n l)]:=rfl
theorem im {l}:(AV.d (.ptr l)).cells?=some [.d (.ptr l)]:=rfl
theorem lO {o g}:(AV.own o g).cells?=some [.own o g]:=rfl
theorem mV {l}:(AV.ex l).cells?=some [.ex l]:=rfl
theorem mU {f c}:(AV.fn f c).cells?=some [.fn f c]:=rfl
theorem jn {k n}:AV.toD1 (.d (.int k n))=some (.int k n):=rfl
theorem fQ {n l}:AV.toD1 (.d (.list n l))=some (.list n l):=rfl
theorem le {l}:AV.toD1 (.ex l)=some (.list false l):=rfl
theorem Zj {α β:Type}{f:α->Option β}:A7 f []=some []:=rfl
theorem W4 {α β:Type}{f:α->Option β}{x:α}{xs:List α}:A7 f (x::xs)=match f x with
 |none=>none
 |some y=>match A7 f xs with|none=>none|some ys=>some (y::ys):=rfl
theorem jo {cs}:AV.toD1 (.agg cs)=match A7 AV.toD0 cs with|some l=>some (.agg l)|none=>none:=rfl
theorem jH {V:AJ} {n l}:(AV.d (.list n l)).asList V=some (n,l):=rfl
theorem mc {V:AJ} {l}:(AV.ex l).asList V=some (false,l):=rfl
theorem lT {V:AJ} {o g}:(AV.own o g).asList V=match V.get o g with|some (.row _ _ nil xs)=>some (nil,xs)|_=>none:=rfl
theorem mb {V:AJ} {o g}:(AV.mref .out o g).asList V=match V.get o g with|some (.mat _ _ nil ix rows)=>some (nil,KF ix rows)|_=>none:=rfl
theorem cw {ix rows}:(KF ix rows).length=ix.length:=by simp[KF]
theorem nI {V:AJ} {x}:D8 V none (.d x)=match (AV.d x).asList V with|some (_,ys)=>some ys|none=>none:=rfl
theorem mX {V:AJ} {x}:D8 V none (.ex x)=match (AV.ex x).asList V with|some (_,ys)=>some ys|none=>none:=rfl
theorem jC {V:AJ} {z n}:D8 V (some z) (.d (.int .i64 n))=if 0<=n/\n<=(Cw:Int) then some (List.replicate n.toNat z) else none:=rfl
theorem Zw {es xs}:F8 es xs []=some xs:=rfl
theorem XO {es xs i v rest}:F8 es xs ((i,v)::rest)=match v.toD1 with
 |none=>none
 |some x=>if x.cells.length=es/\i<xs.length then F8 es (xs.set i x) rest else none:=rfl
theorem Zx {cs}:L1 cs []=some cs:=rfl
theorem XP {cs off size v rest}:L1 cs (((off,size),v)::rest)=match v.cells? with
 |none=>none
 |some vs=>if vs.length=size/\off+size<=cs.length then L1 (Be cs off vs) rest else none:=rfl
theorem ab {k n}:(D.int k n).cells=[.int k n]:=rfl
theorem Xn {n l}:(D.list n l).cells=[.list n l]:=rfl
theorem jl {k n}:up (.int k n)=.d (.int k n):=rfl
theorem fN {b}:up (.bool b)=.d (.bool b):=rfl
theorem fM {n l}:up (.list n l)=.d (.list n l):=rfl
theorem jk {l}:up (.tup l)=.tup (l.map .d):=rfl
theorem Y6:Bs.site .none=[]:=rfl
theorem bV {a b}:Bs.site (.seq a b)=a.site++b.site:=rfl
theorem WY {o x}:Bs.site (.fresh o x)=[o]:=rfl
theorem Y7 {o g x}:Bs.site (.keep o g x)=[o]:=rfl
def Al (xs:List Int):List D:=xs.map (D.int .i64)
@[simp] theorem mJ:Al []=[]:=rfl
theorem TK (xs:List Int):(Al xs=[])=(xs=[]):=by cases xs<;>simp[Al]
theorem CB (xs:List Int):(Al xs).length=xs.length:=by simp[Al]
theorem Zn (xs:List Int) (n:Nat):(Al xs).drop n=Al (xs.drop n):=by simp[Al]
theorem Zl (xs:List Int) (n:Nat):(Al xs).take n=Al (xs.take n):=by simp[Al]
theorem dN (xs ys:List Int):Al xs++Al ys=Al (xs++ys):=by simp[Al]
theorem Zm (xs:List Int) (y:Int):Al xs++[.int .i64 y]=Al (xs++[y]):=by simp[Al]
theorem dL (xs:List Int) (i:Nat) (y:Int):(Al xs).set i (.int .i64 y)=Al (xs.set i y):=by simp[Al,List.map_set]
theorem dM (n:Nat) (y:Int):List.replicate n (D.int .i64 y)=Al (List.replicate n y):=by simp[Al]
theorem W7 (xs:List Int):(Al xs).isEmpty=xs.isEmpty:=by cases xs<;>rfl
theorem Zk (xs:List Int):Cu 1 (Al xs)=True:=by
 simp only[Cu,Al,eq_iff_iff,iff_true];intro x hx;simp at hx;obtain⟨n,_,rfl⟩:=hx;rfl
theorem bE {es:Nat}:Cu es []=True:=by simp[Cu]
theorem Yo {es:Nat}{x:D}{l:List D}:Cu es (x::l)=(x.cells.length=es/\Cu es l):=by simp[Cu]
theorem bF {α:Type}{es:Nat}{f:α->D}{l:List α}(h:∀x,(f x).cells.length=es):Cu es (l.map f)=True:=by
 simp only[Cu,eq_iff_iff,iff_true];intro x hx;simp at hx;obtain⟨y,_,rfl⟩:=hx;exact h y
theorem U0 {xs:List Int}{i:Nat}{A:D->Prop}:BP (Al xs)[i]? A=(i<xs.length/\A (.int .i64 (xs[i]?.getD 0))):=by
 unfold Al
 rw[List.getElem?_map]
 by_cases h:i<xs.length
 ·simp[h,BP]
 ·have:xs[i]?=none:=List.getElem?_eq_none (by omega)
  simp[this,h,BP]
theorem MJ {α:Type} [Inhabited α] {f:α->D}{xs:List α}{i:Nat}{A:D->Prop}:BP (xs.map f)[i]? A=(i<xs.length/\A (f (xs[i]?.getD default))):=by
 rw[List.getElem?_map]
 by_cases h:i<xs.length
 ·simp[h,BP]
 ·have:xs[i]?=none:=List.getElem?_eq_none (by omega)
  simp[this,h,BP]
theorem Uz {xs:List Nat}{i:Nat}{A:Nat->Prop}:BP xs[i]? A=(i<xs.length/\A (xs[i]?.getD 0)):=by
 by_cases h:i<xs.length
 ·simp[h,BP]
 ·have:xs[i]?=none:=List.getElem?_eq_none (by omega)
  simp[this,h,BP]
def nT {α:Type}(f:α->D) (M:List (List α)):List (Bool×List D):=M.map fun r=>(false,r.map f)
section
variable {E:Co}{dst:Option Nat}{V:AJ}{K:AV->Bs->Prop}{f:FuncId}{xs:List AV}
theorem HX {ds:List D}{r:D}(h:CK E f ds r) (ha:Fq xs=some ds) (hk:K (up r) .none):Dy E dst V f xs K:=.inl ⟨ds,r,ha,h,hk⟩
theorem lR {ds:List D}{r:D}(h:CK E f ds r) (ha:Vw V xs=some ds) (hf:r.flat=true) (hk:K (up r) .none):Dy E dst V f xs K:=.inr (.inl ⟨ds,r,ha,h,hf,hk⟩)
end
section
variable {E:Co}{Q:B6->BX->Prop}{s:BX}
def bg (l:List (Nat×AV)) (k:Nat) (v:AV):List (Nat×AV):=l.map fun p=>if p.1=k then (k,v) else p
def be (l:List (Nat×(Nat×Aa))) (k:Nat) (x:Aa):List (Nat×(Nat×Aa)):=l.map fun p=>if p.1=k then (k,(0,x)) else p
def O2 (l:List (Nat×AV)):List (Nat×AV)->List (Nat×AV)
 |[]=>l
 |(k,v)::r=>bg (O2 l r) k v
def O1 (l:List (Nat×(Nat×Aa))):List (Nat×Aa)->List (Nat×(Nat×Aa))
 |[]=>l
 |(k,v)::r=>be (O1 l r) k v
theorem bf {k:Nat}{v:AV}:bg [] k v=[]:=rfl
theorem ZC {a k:Nat}{b v:AV} {l}:bg ((a,b)::l) k v=(if a=k then (k,v) else (a,b))::bg l k v:=rfl
theorem bd {k:Nat}{v:Aa}:be [] k v=[]:=rfl
theorem ZA {a k:Nat}{b:Nat×Aa}{v:Aa} {l}:be ((a,b)::l) k v=(if a=k then (k,(0,v)) else (a,b))::be l k v:=rfl
theorem ZB {l}:O2 l []=l:=rfl
theorem Wc {l k v r}:O2 l ((k,v)::r)=bg (O2 l r) k v:=rfl
theorem Y_ {l}:O1 l []=l:=rfl
theorem Wb {l k v r}:O1 l ((k,v)::r)=be (O1 l r) k v:=rfl
theorem lc {f:Nat->AV}{n:Nat}:J1.val f (.t n)=f n:=rfl
theorem ld {f:Nat->AV}{v:AV}:J1.val f (.k v)=v:=rfl
theorem Yz {α:Type}(cs:List α) (off:Nat) (vs:List α):Be cs off vs=cs.take off++vs++cs.drop (off+vs.length):=rfl
theorem AZ {α:Type}(up:α->List (Nat×AV)) (uo:α->List (Nat×Aa)) (Inv:α->Prop) (μ:α->Nat) (x0:α) {gs:List Em}{ks os:List Nat}{a:PC}
  {l0:List (Nat×AV)}{m0:List (Nat×(Nat×Aa))}(h0:CW gs s fun s1=>s1.nrm ks os=⟨E4 l0,⟨BV m0,fun _=>1⟩⟩)
  (he:O2 l0 (up x0)=l0) (he':O1 m0 (uo x0)=m0) (hI:Inv x0)
  (step:∀x,Inv x->pw E a (KO (fun s'=>CW gs s' fun s1=>∃y,s1.nrm ks os=⟨E4 (O2 l0 (up y)),⟨BV (O1 m0 (uo y)),fun _=>1⟩⟩/\Inv y/\μ y<μ x) Q) ⟨E4 (O2 l0 (up x)),⟨BV (O1 m0 (uo x)),fun _=>1⟩⟩) :
  pw E (.loop gs ks os a) Q s :=
 b_ (fun x=>⟨E4 (O2 l0 (up x)),⟨BV (O1 m0 (uo x)),fun _=>1⟩⟩) Inv μ x0 (by rw[he,he'];exact h0) hI step
end
theorem Ak (n:Int) (h:-9223372036854775808<=n/\n<=9223372036854775807):IntKind.i64.wrap n=n:=Go.IntWalk.i64_in n h
theorem bu {E:Co} {rs r s}:lu E rs r .ret s=Hh E s rs (O0 s.V r):=rfl
theorem bw {E:Co} {s K}:Hh E s [] K=K []:=rfl
theorem ZK {E:Co} {s r l K}:Hh E s (r::l) K=Wi E s r fun v=>Hh E s l fun vs=>K (v::vs):=rfl
theorem kJ {E:Co} {s n K}:Wi E s (.t n) K=K (s.sl n):=rfl
theorem kK {E:Co} {s a ty ag n K}:Wi E s (.c a ty ag n) K=ev E none s.V (.load ag n) [s.sl a] fun v _=>K v:=rfl
theorem fh {V r v}:O0 V r [v]=(v.snap V=some r):=rfl
theorem fg {V r v u}:O0 V r [v,u]=((A7 (AV.snap V) [v,u]).map .tup=some r):=rfl
theorem ff {V r v u t}:O0 V r [v,u,t]=((A7 (AV.snap V) [v,u,t]).map .tup=some r):=rfl
theorem jz {V k n}:AV.snap V (.d (.int k n))=some (.int k n):=rfl
theorem fk {V b}:AV.snap V (.d (.bool b))=some (.bool b):=rfl
theorem fj {V n l}:AV.snap V (.d (.list n l))=some (.list n l):=rfl
theorem Y5 {V}:AV.snap V (.d .nilptr)=some .nilptr:=rfl
theorem jy {V o g}:AV.snap V (.own o g)=match V.get o g with|some (.row _ _ nil xs)=>some (.list nil xs)|_=>none:=rfl
theorem j5 {V cs}:AV.snap V (.agg cs)=match A7 (AV.snap0 V) cs with|some l=>some (.agg l)|none=>none:=rfl
theorem kA {V k n}:AV.snap0 V (.d (.int k n))=some (.int k n):=rfl
theorem fz {V n l}:AV.snap0 V (.d (.list n l))=some (.list n l):=rfl
theorem lq {V l}:AV.snap0 V (.ex l)=some (.list false l):=rfl
theorem fe {α:Type}{a b:α}:(some a=some b)=(a=b):=by simp
theorem ZZ {α β:Type}{f:α->β}{a:α}:Option.map f (some a)=some (f a):=rfl
section
variable {k k':IntKind}{a b:Int}{C:AV->Prop}
theorem jA:DD .eql k k' a b C=(k=k'/\(a=b->C (.d (.bool true)))/\(¬a=b->C (.d (.bool false)))):=by
 rw[aK];by_cases h:a=b<;>simp[h]
theorem iz:DD .neq k k' a b C=(k=k'/\(a=b->C (.d (.bool false)))/\(¬a=b->C (.d (.bool true)))):=by
 rw[aD];by_cases h:a=b<;>simp[h]
theorem i0:DD .lss k k' a b C=(k=k'/\(a<b->C (.d (.bool true)))/\(¬a<b->C (.d (.bool false)))):=by
 rw[aF];by_cases h:a<b<;>simp[h]
theorem i8:DD .leq k k' a b C=(k=k'/\(a<=b->C (.d (.bool true)))/\(¬a<=b->C (.d (.bool false)))):=by
 rw[aG];by_cases h:a<=b<;>simp[h]
theorem i9:DD .gtr k k' a b C=(k=k'/\(b<a->C (.d (.bool true)))/\(¬b<a->C (.d (.bool false)))):=by
 rw[aH];by_cases h:b<a<;>simp[h]
theorem i_:DD .geq k k' a b C=(k=k'/\(b<=a->C (.d (.bool true)))/\(¬b<=a->C (.d (.bool false)))):=by
 rw[aJ];by_cases h:b<=a<;>simp[h]
end
section
variable {E:Co}{dst:Option Nat}{V:AJ}{K:AV->Bs->Prop}{f:FuncId}{xs:List AV}
theorem Xp {ds:List D}{b:Bool}(h:CK E f ds (.bool b)) (ha:Fq xs=some ds) (h1:b=true->K (.d (.bool true)) .none) (h2:b=false->K (.d (.bool false)) .none):Dy E dst V f xs K :=
 HX h ha (by cases b with|true=>exact h1 rfl|false=>exact h2 rfl)
theorem ZX {α:Type}{p:Prop} [Decidable p] {x:α}{A:α->Prop}:BP (if p then some x else none) A=(p/\A x):=by
 by_cases h:p<;>simp[h,BP]
end
section
variable {E:Co}{K:BX->Prop}
def Ko (j:Nat):List (Nat×RG)->Option RG
 |[]=>none
 |(i,r)::l=>if j=i then some r else Ko j l
def Q4 (x:Option RG) (b:RG):Bool:=match x with|some r=>K_ r b|none=>false
def S_ (need:List Nat) (i:Nat) (r:RG) (rec:List (Nat×RG)):List (Nat×RG):=if need.contains i then (i,r)::rec else rec
def PN (E:Co):Nat->List Nat->List (Ez×List Nat)->List (Nat×RG)->BX->(BX->Prop)->Prop
 |_,_,[],_,s,K=>K s
 |i,need,(I,dy)::l,rec,s,K=>EU E I s fun v ch =>
  (dy.all fun j=>Q4 (Ko j rec) (ch.site,Da I s))=true /\
  PN E (i+1) need l (S_ need i (ch.site,Da I s) rec) (put s I.dst v ch) K
theorem X6 {need:List Nat}:∀{l:List (Ez×List Nat)}{rec:List RG}{recE:List (Nat×RG)}{s:BX},(∀j,j∈l.flatMap (·.2)->j∈need)->(∀j,j∈need->Ko j recE=rec[j]?)->RM E l rec s K=PN E rec.length need l recE s K
 |[],_,_,_,_,_=>rfl
 |(I,dy)::l,rec,recE,s,hn,hr=>by
  simp only[RM,PN]
  congr 1
  funext v ch
  have h1:(dy.all fun j=>match rec[j]? with|some r=>K_ r (ch.site,Da I s)|none=>false)=(dy.all fun j=>Q4 (Ko j recE) (ch.site,Da I s)):=by
   rw[Bool.eq_iff_iff,List.all_eq_true,List.all_eq_true]
   have:∀j,j∈dy->(match rec[j]? with|some r=>K_ r (ch.site,Da I s)|none=>false)=Q4 (Ko j recE) (ch.site,Da I s):=fun j hj=>by
    rw[hr j (hn j (by simp[hj]))];rfl
   exact⟨fun h j hj=>by rw[←this j hj];exact h j hj,fun h j hj=>by rw[this j hj];exact h j hj⟩
  refine congr (congrArg And (congrArg (fun b=>b=true) h1)) ?_
  have h2:=X6 (need:=need) (l:=l) (rec:=rec++[(ch.site,Da I s)]) (recE:=S_ need rec.length (ch.site,Da I s) recE) (s:=put s I.dst v ch) (fun j hj=>hn j (by simp at hj ⊢;exact .inr hj)) fun j hj=>by
   unfold S_
   by_cases h:need.contains rec.length=true
   ·rw[if_pos h]
    simp only[Ko]
    by_cases hjl:j=rec.length
    ·subst hjl;simp
    ·rw[if_neg hjl,hr j hj]
     by_cases hlt:j<rec.length
     ·rw[List.getElem?_append_left hlt]
     ·rw[List.getElem?_eq_none (by omega),List.getElem?_eq_none (by simp;omega)]
   ·rw[if_neg h,hr j hj]
    have hne:j≠rec.length:=by rintro rfl;exact h (by simpa using hj)
    by_cases hlt:j<rec.length
    ·rw[List.getElem?_append_left hlt]
    ·rw[List.getElem?_eq_none (by omega),List.getElem?_eq_none (by simp;omega)]
  rw[h2];simp
theorem cE {Q:B6->BX->Prop}{s:BX} {gs l ks}:pw E (.draw gs l ks) Q s=CW gs s fun s'=>PN E 0 (l.flatMap (·.2)) l [] s' fun s'=>Q .normal (s'.keep ks):=by
 rw[gF]
 congr 1;funext s'
 exact X6 (rec:=[]) (recE:=[]) (fun j hj=>hj) fun j hj=>by simp[Ko]
theorem bi {i need r} {s:BX}:PN E i need [] r s K=K s:=rfl
theorem We {i need I l r} {s:BX}:PN E i need ((I,[])::l) r s K=EU E I s fun v ch=>PN E (i+1) need l (S_ need i (ch.site,Da I s) r) (put s I.dst v ch) K:=by
 simp[PN]
theorem ZE {i need I j dy l r} {s:BX}:PN E i need ((I,j::dy)::l) r s K=EU E I s fun v ch =>
 ((j::dy).all fun j=>Q4 (Ko j r) (ch.site,Da I s))=true/\PN E (i+1) need l (S_ need i (ch.site,Da I s) r) (put s I.dst v ch) K:=rfl
theorem A_ {z:Nat} {i i' need need' l} {r r':List (Nat×RG)}{s s':BX}(hz:JT=z) (hi:i=i') (hn:need=need') (hr:r=r') (h:s=s'):PN E i need l r s K=PN E i' need' l r' s' K:=by rw[h,hr,hi,hn]
theorem kL {need:List Nat}{i:Nat}{r:RG}{rec:List (Nat×RG)}(h:need.contains i=true):S_ need i r rec=(i,r)::rec:=by simp only[S_,h,if_true]
theorem kM {need:List Nat}{i:Nat}{r:RG}{rec:List (Nat×RG)}(h:need.contains i=false):S_ need i r rec=rec:=by simp only[S_,h,Bool.false_eq_true,if_false]
theorem Zh {j:Nat}:Ko j []=none:=rfl
theorem Wz {j i:Nat}{r:RG} {l}:Ko j ((i,r)::l)=if j=i then some r else Ko j l:=rfl
theorem ei {r b:RG}:Q4 (some r) b=K_ r b:=rfl
theorem mY {a f b f'}:K_ (a,f) (b,f')=((a.all fun o=>!f'.contains o) && (b.all fun o=>!f.contains o)):=rfl
theorem dw {d g op xs} {sl:Nat->AV}{V:AJ}:Da ⟨d,g,op,xs⟩ ⟨sl,V⟩=fp V d op (xs.map (J1.val sl)):=rfl
theorem mt {x}:AV.sites (.d x)=[]:=by cases x<;>rfl
theorem lh {x}:AV.sites (.ex x)=[]:=rfl
theorem fU {x n}:AV.sites (.dptr x n)=[]:=rfl
theorem ju {o g}:AV.sites (.own o g)=[o]:=rfl
theorem jt {o g f}:AV.sites (.ptr o g f)=[o]:=rfl
theorem fS {o g e i f}:AV.sites (.rptr o g e i f)=[o]:=rfl
theorem fT {k o g}:AV.sites (.mref k o g)=[o]:=rfl
theorem fV {s l f}:AV.sites (.ablk s l f)=AV.sites.sitesL l:=rfl
theorem jv {l}:AV.sites (.agg l)=AV.sites.sitesL l:=rfl
theorem lf {f l}:AV.sites (.fn f l)=AV.sites.sitesL l:=rfl
theorem jr {l}:AV.sites (.tup l)=AV.sites.sitesL l:=rfl
theorem fW:AV.sites.sitesL []=[]:=rfl
theorem bP {x l}:AV.sites.sitesL (x::l)=x.sites++AV.sites.sitesL l:=rfl
section
variable {d:Option Nat}{xs:List AV}{V:AJ}
theorem k9:fp V d .mov xs=[]:=rfl
theorem iL:fp V d .pick xs=[]:=rfl
theorem lA {b}:fp V d (.bin b) xs=[]:=rfl
theorem mO {b}:fp V d (.un b) xs=[]:=rfl
theorem iO {b}:fp V d (.conv b) xs=[]:=rfl
theorem dq:fp V d .nilck xs=[]:=rfl
theorem dt {a}:fp V d (.faddr a) xs=[]:=rfl
theorem Zv {a b}:fp V d (.iaddrA a b) xs=[]:=rfl
theorem dr {a b c e}:fp V d (.mkrow a b c e) xs=[]:=rfl
theorem Zt {a}:fp V d (.minmax a) xs=[]:=rfl
theorem XJ {a}:fp V d (.extract a) xs=[]:=rfl
theorem iM {a b}:fp V d (.load a b) xs=AV.sites.sitesL xs:=rfl
theorem Zu {a}:fp V d (.iaddrS a) xs=AV.sites.sitesL xs:=rfl
theorem k_ {a}:fp V d (.len a) xs=AV.sites.sitesL xs:=rfl
theorem dn {a}:fp V d (.store a) xs=d.toList++AV.sites.sitesL xs:=rfl
theorem iP {a}:fp V d (.call a) xs=B2 d V xs:=rfl
theorem du:fp V d .callv xs=B2 d V xs:=rfl
theorem Xq {t}:B2 (some t) V xs=Di t++V.reach 3 (AV.sites.sitesL xs):=rfl
theorem ga {t}:Di t=[t,t+10000,t+20000,t+30000]:=rfl
theorem R7:∀{n:Nat},V.reach n []=[]
 |0=>rfl
 |n+1=>by simp only[AJ.reach,List.flatMap_nil,R7,List.append_nil]
theorem gB {o l}:V.reach 3 (o::l)=(o::l)++V.reach 2 ((o::l).flatMap V.osites):=rfl
def Pm:Option (Nat×Aa)->List Nat
 |some (_,.cells xs)=>AV.sites.sitesL xs
 |some (_,.rowH _ _ _ q _)=>[q]
 |_=>[]
theorem ZQ {ob cn o}:(AJ.mk ob cn).osites o=Pm (ob o):=rfl
theorem Za {g xs}:Pm (some (g,.cells xs))=AV.sites.sitesL xs:=rfl
theorem gO {g a b c l}:Pm (some (g,.row a b c l))=[]:=rfl
theorem gP {g a b c d e}:Pm (some (g,.mat a b c d e))=[]:=rfl
theorem lB {a b c e}:fp V d (.app a b c e) xs=d.toList++AV.sites.sitesL xs:=rfl
theorem dp {a b c e}:fp V d (.slice a b c e) xs=d.toList++AV.sites.sitesL xs:=rfl
end
theorem bH {a:Nat}:(some a).toList=[a]:=rfl
theorem bI:(none:Option Nat).toList=[]:=rfl
end
theorem EM {k n}:(D.int k n).WF=Lr k n:=by rw[D.WF]
theorem DU {b}:(D.bool b).WF=True:=by rw[D.WF]
theorem DI {nl xs}:(D.list nl xs).WF=(xs.length<=maxLen/\∀x,x∈xs->x.WF):=by rw[D.WF]
theorem Ed {xs}:(D.agg xs).WF=(∀x,x∈xs->x.WF):=by rw[D.WF]
theorem Ec {xs}:(D.ptr xs).WF=(∀x,x∈xs->x.WF):=by rw[D.WF]
theorem GL {f xs}:(D.fn f xs).WF=(∀x,x∈xs->x.WF):=by rw[D.WF]
theorem Eb {xs}:(D.tup xs).WF=(∀x,x∈xs->x.WF):=by rw[D.WF]
theorem DT {nl} {xs:List Int}:(D.list nl (Al xs)).WF=(xs.length<=maxLen/\∀x,x∈xs->Lr .i64 x):=by
 rw[DI,CB];simp[Al,EM]
theorem Bq {x:D}{l:List D}:(∀y,y∈x::l->y.WF)=(x.WF/\∀y,y∈l->y.WF):=by simp
theorem B3:(∀y,y∈([]:List D)->y.WF)=True:=by simp
theorem B4 {α:Type}{f:α->D}{l:List α}:(∀y,y∈l.map f->y.WF)=(∀x,x∈l->(f x).WF):=by simp
theorem DY {n:Int}:Lr .i64 n=(-9223372036854775808<=n/\n<=9223372036854775807):=by
 simp[Lr,IntKind.min,IntKind.max,IntKind.signed,IntKind.bits]
theorem CI:maxLen=9223372036854775807:=rfl
theorem K9 {x:AV}{d:D}{xs:List AV}{ds:List D}(h:x.toD1=some d) (h':A7 AV.toD1 xs=some ds):Fq (x::xs)=some (d::ds):=by
 simp only[Fq,A7,h,h']
theorem eX:Cw=1073741824:=rfl
theorem kh:D6=900000:=rfl
theorem EJ (V0:List (Nat×Nat×Aa)) (xs:List AV):BX.enterM V0 xs=⟨E4 (xs.zipIdx.map fun(d,k)=>(k,d)),⟨BV V0,fun _=>1⟩⟩:=by
 have key:∀(xs:List AV) (n t:Nat),(match xs[t]? with|some d=>d|none=>.undef)=E4 ((xs.zipIdx n).map fun(d,k)=>(k,d)) (n+t):=by
  intro xs
  induction xs with
  |nil=>intro n t;simp[E4]
  |cons x xs ih =>
   intro n t
   cases t with
   |zero=>simp[E4]
   |succ t =>
    have:=ih (n+1) t
    simp only[List.getElem?_cons_succ,List.zipIdx_cons,List.map_cons,E4]
    rw[if_neg (by omega),this]
    congr 1;omega
 unfold BX.enterM
 congr 1
 funext t
 have:=key xs 0 t
 simp only[Nat.zero_add] at this
 rw[←this]
 cases xs[t]?<;>rfl
theorem E7 {E:Co}{dst:Option Nat}{V:AJ}{K:AV->Bs->Prop}{f:FuncId}{xs:List AV}{V0 V1:List (Nat×Nat×Aa)}{cxs:List AV}{r r':AV}{ch:Bs}(ρ ρ2:Dm) (h:H_ E f V0 cxs V1 r) (h1:N0 ρ cxs xs)
  (h2:Handed V (B2 dst V xs) ρ V0) (h3:CN V.cn dst V0 V1 ρ ρ2=true) (h4:r.ren ρ2=some r') (h5:D4 ρ ρ2 V1=some ch) (hk:K r' ch):Dy E dst V f xs K :=
 .inr (.inr (.inr (.inl ⟨V0,cxs,V1,r,r',ch,ρ,ρ2,h1,h,h2,h3,h4,h5,hk⟩)))
theorem bv {E:Co} {rs V1 r s}:kH E rs V1 r .ret s=(Hh E s rs (jV V1 s.V r)/\dQ s.V V1):=rfl
theorem Uq {E:Co} {rs V1 r s}:kH E rs V1 r .normal s=(Hh E s rs (jV V1 s.V r)/\dQ s.V V1):=rfl
section
variable {V:AJ}{V1:List (Nat×Nat×Aa)}
theorem mD {r v}:jV V1 V r [v]=SQ V1 V v r:=rfl
theorem mE {rs}:jV V1 V (.tup rs) []=SR V1 V [] rs:=rfl
theorem aW:SR V1 V [] []=True:=rfl
theorem ij {v d}:SQ V1 V v (.d d)=(v.snap V=some d/\(v.sites.all fun o=>!XA V1 o)=true):=rfl
theorem aV {v o g}:SQ V1 V v (.own o g)=(v=.own o g):=rfl
theorem dU {o}:XA [] o=false:=rfl
theorem Zo {p l o}:XA (p::l) o=(p.1 == o || XA l o):=rfl
def W9:Option (Nat×Aa)->Nat->Aa->Prop
 |some (g',.map t l),g,.map t' l'=>g'=g/\t=t'/\l=l'
 |some (g',.row a b c l),g,.row a' b' c' l'=>g'=g/\a=a'/\b=b'/\c=c'/\l=l'
 |some (g',.cells l),g,.cells l'=>g'=g/\l=l'
 |some (g',.hist a b c),g,.hist a' b' c'=>g'=g/\a=a'/\b=b'/\c=c'
 |some (g',.rowH a b c d e),g,.rowH a' b' c' d' e'=>g'=g/\a=a'/\b=b'/\c=c'/\d=d'/\e=e'
 |some (g',.mat a b c d e),g,.mat a' b' c' d' e'=>g'=g/\a=a'/\b=b'/\c=c'/\d=d'/\e=e'
 |_,_,_=>False
theorem g_ {x:Option (Nat×Aa)}{g:Nat}{y:Aa}:W9 x g y=(x=some (g,y)):=by
 cases x with
 |none=>simp[W9]
 |some p=>obtain⟨g',z⟩:=p;cases z<;>cases y<;>simp[W9]
theorem dR {g' a b c l g a' b' c' l'}:W9 (some (g',.row a b c l)) g (.row a' b' c' l')=(g'=g/\a=a'/\b=b'/\c=c'/\l=l'):=rfl
theorem dS {g' a b c d e g a' b' c' d' e'}:W9 (some (g',.mat a b c d e)) g (.mat a' b' c' d' e')=(g'=g/\a=a'/\b=b'/\c=c'/\d=d'/\e=e'):=rfl
theorem W8 {g' l g l'}:W9 (some (g',.cells l)) g (.cells l')=(g'=g/\l=l'):=rfl
theorem g9:dQ V []=True:=rfl
theorem dP {o g x l}:dQ V ((o,g,x)::l)=(W9 (V.ob o) g x/\dQ V l):=by rw[g_];rfl
end
theorem Xo {E:Co}{dst:Option Nat}{V:AJ}{K:AV->Bs->Prop}{f:FuncId}{xs:List AV}(o g:Nat) {ety es:Nat}{nl:Bool}{l ds:List D}{r:D}(h:CK E f ds r) (hg:V.get o g=some (.row ety es nl l)) (hl:o<D6)
  (hc:(B2 dst V xs).contains o=true) (ha:A7 (lS o g nl l) xs=some ds) (hk:K (up r) (.fresh o (.row ety es true []))):Dy E dst V f xs K :=
 .inr (.inr (.inr (.inr ⟨o,g,ety,es,nl,l,ds,r,hg,hl,hc,ha,h,hk⟩)))
def kB (K:AV->Bs->Prop):D->Prop
 |.bool b=>(b=true->K (.d (.bool true)) .none)/\(b=false->K (.d (.bool false)) .none)
 |r=>K (up r) .none
theorem g0 {K:AV->Bs->Prop} {b}:kB K (.bool b)=((b=true->K (.d (.bool true)) .none)/\(b=false->K (.d (.bool false)) .none)):=rfl
theorem kj {K:AV->Bs->Prop} {k n}:kB K (.int k n)=K (.d (.int k n)) .none:=rfl
theorem gz {K:AV->Bs->Prop} {n l}:kB K (.list n l)=K (.d (.list n l)) .none:=rfl
theorem kl {K:AV->Bs->Prop} {l}:kB K (.agg l)=K (.d (.agg l)) .none:=rfl
theorem ki {K:AV->Bs->Prop} {l}:kB K (.tup l)=K (.tup (l.map .d)) .none:=rfl
theorem mI {K:AV->Bs->Prop} {f l}:kB K (.fn f l)=K (.d (.fn f l)) .none:=rfl
theorem AE {E:Co}{dst:Option Nat}{V:AJ}{K:AV->Bs->Prop}{f:FuncId}{xs:List AV}{ds:List D}{r:D}(h:CK E f ds r) (hk:kB K r)
  (ha:Fq xs=some ds\/(Vw V xs=some ds/\r.flat=true):=by first|exact .inl rfl|exact .inr ⟨rfl,rfl⟩):Dy E dst V f xs K:=by
 have hu:K (up r) .none:=by
  cases r with
  |bool b=>cases b with
   |true=>exact hk.1 rfl
   |false=>exact hk.2 rfl
  |_=>exact hk
 exact ha.elim (fun h1=>HX h h1 hu) fun h1=>lR h h1.1 h1.2 hu
theorem aI {a b:Prop}(h:a) (k:b):a/\b:=⟨h,k⟩
theorem tI:True:=⟨⟩
theorem Bl {z:Nat}{K:AV->Bs->Prop}{r r':D}(hz:JT=z) (h:r=r'):kB K r=kB K r':=by rw[h]
theorem isCall {E:Co}{dst:Option Nat}{V:AJ}{K:AV->Bs->Prop}{f:FuncId}{xs:List AV}(h:Dy E dst V f xs K):Dy E dst V f xs K:=h
theorem A5 {α:Type}{S:BX}{T:α->BX}{I M:α->Prop}(h:∃y,S=T y/\I y/\M y):∃y,S=T y/\I y/\M y:=h
theorem Ao {α β:Type}{S:BX}{T:α×β->BX}{I M:α×β->Prop}(h:∃y,S=T y/\I y/\M y):∃y,S=T y/\I y/\M y:=h
theorem BU {α β γ:Type}{S:BX}{T:α×β×γ->BX}{I M:α×β×γ->Prop}(h:∃y,S=T y/\I y/\M y):∃y,S=T y/\I y/\M y:=h
theorem Cb {α β γ δ:Type}{S:BX}{T:α×β×γ×δ->BX}{I M:α×β×γ×δ->Prop}(h:∃y,S=T y/\I y/\M y):∃y,S=T y/\I y/\M y:=h
theorem kc {m k a}:Fn m k a []=some a:=rfl
theorem ke {k:IntKind}{a b:Int} {rest}:Fn true k a (.d (.int k b)::rest)=Fn true k (max a b) rest:=by
 simp only[Fn,if_true,gl];congr 1;omega
theorem kd {k:IntKind}{a b:Int} {rest}:Fn false k a (.d (.int k b)::rest)=Fn false k (min a b) rest:=by
 simp only[Fn,if_true,gk,Bool.false_eq_true,if_false];congr 1;omega
theorem Yt {α:Type}(xs:List α) (a:Nat):(xs.drop a).take (xs.length-a)=xs.drop a:=List.take_of_length_le (by simp)
theorem Yx (n:Nat):n-0=n:=rfl
def oP (a b:List D):Prop:=FH a b=true
section
variable {E:Co}{dst:Option Nat}{V:AJ}{K:AV->Bs->Prop}
end
def oh (E:Co) (p:PC) (Q:B6->BX->Prop) (s:BX):Prop:=∃e s',Q e s'/\∀Q':B6->BX->Prop,Q' e s'->pw E p Q' s
attribute [go_sem] lK gC gG kQ cE kO gH cF gE kP Si WP Ys Rf Xs Vs XC VJ dZ da iI mN db dg de iK XI dc iJ XH di k8 dY gM cN dX iH mM Zq gL gK bh ZD bi We ZE kL kM Zh Wz ei mY dw mt lh fU ju jt fS fT fV jv lf jr fW bP k9 iL lA mO iO dq dt Zv dr Zt XJ iM Zu k_ dn iP du lB dp bH bI List.flatMap_cons List.flatMap_nil Y6 WY Y7 bV Xq ga R7 gB ZQ Za gO gP UM fR iB iC iA cG cH eg eh aj jE gy cY LY dB W2 Zi ky bD fL bC ig W3 VA cU cV Wn l9 Zb gW gV cW ce kX cf Zc gr lz gN kU eP aP aO eO lQ io lP ip il im lO mV mU jn fQ le Zj W4 jo jH mc lT mb cw nI mX jC Zw XO Zx XP ab Xn jl fN fM jk lG iW lJ lF VV TV TW Z3 TR PS TY RU Xb iY Xa lI iZ Xc ia TS XT TX RS QY VZ XZ eI TU XU VU TT XV XW XX VR VS VX VW eJ Wr Uz Z1 iX iU VT eD Z0 Zz VY XS RR lH kF kE kD XY Z5 Z4 Z6 eG Z2 Xe Xf Z7 Xg Va Xd kR kS jA iz i0 i8 i9 i_ ZX aM Z9 aE aB aA Z' Z_ aL eK Z8 Uy TG Wp Wq Yt Yx kc ke kd Xk Md K6 TK CB Zn Zl dN Zm dL dM W7 Zk bE Yo U0 MJ bu bv Uq mE mD aW ij aV dU Zo dR dS W8 g9 dP bw ZK kJ kK fh fg ff jz fk fj Y5 jy j5 kA fz lq fe ZZ lc ld List.map_cons List.map_nil List.zipIdx_cons List.zipIdx_nil List.zip_cons_cons List.zip_nil_left List.length_cons List.length_nil List.getElem?_cons_zero List.getElem?_cons_succ List.drop_zero List.drop_succ_cons List.take_succ_cons List.take_zero List.take_nil List.drop_nil List.contains_cons List.contains_nil List.filter_cons List.filter_nil List.all_cons List.all_nil List.cons_append List.nil_append List.append_nil List.set_cons_zero List.set_cons_succ Yz List.replicate_succ List.replicate_zero List.isEmpty_cons List.isEmpty_nil List.length_map id_eq Nat.lt_irrefl Nat.zero_add Nat.add_zero Nat.zero_mul Nat.one_mul Nat.mul_one if_true if_false Bool.false_eq_true Bool.not_true Bool.not_false Bool.true_or Bool.false_or Bool.or_true Bool.or_false Bool.true_and Bool.false_and Bool.and_true Bool.and_false beq_self_eq_true Bool.and_self Bool.or_self true_and and_true false_and and_false ite_self exists_prop_of_true exists_prop not_false_eq_true not_true_eq_false forall_const eq_self and_self true_implies false_implies implies_true ne_eq List.cons_ne_nil Nat.le_refl Nat.not_lt_zero bf ZC bd ZA ZB Wc Y_ Wb Int.toNat_natCast Int.toNat_zero eX kh kN a7 U1 ai WG T8 ak V5 fG ka gd U7 gb U6 Ze OQ mA ZY nB kb ZT TD Y9 Wa Up ZI g0 kj gz kl ki mI
attribute [go_sem_proc] Nat.reduceAdd Nat.reduceSub Nat.reduceMul Nat.reduceEqDiff Nat.reduceBEq Nat.reduceLeDiff Nat.reduceLT Int.reduceToNat Int.reduceLE Int.reduceLT Int.reduceNeg reduceIte reduceCtorEq Int.reduceEq Int.reduceAdd Int.reduceSub Int.reduceMul
end Go.Pw
