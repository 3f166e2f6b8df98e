/- A part of the proof. -/
import Derived.Test.YtibkjeolahobbaaGreatDoorPkZa
import Derived.IntWalk
set_option linter.all false
namespace Go.Pw
def Iq:Nat:=0
theorem oA:Iq=0:=Eq.symm (Eq.symm rfl)
def K_ (v:AV) (b:Bool) (A B:Prop):Prop :=
 match v with
 |.d (.bool b')=>Hf (b == b') A B
 |.tup []=>B
 |_=>False
def YC (v:AV) (t:Nat) (sl:Nat->AV) (V:AL) (KS:Ba->Prop):Prop :=
 match v with
 |.own o g=>H' (V.get o g) fun _ _ nl l=>KS ⟨CK sl t (.d (.list nl l)),V.drop o⟩
 |_=>KS ⟨sl,V⟩
def bF (v:AV) (t:Nat) (sl:Nat->AV) (V:AL) (KS:Ba->Prop):Prop :=
 match v with
 |.ptr o g 0=>G_ (V.get o g) fun xs=>BV (BR AV.toD1 xs) fun cs=>cs≠[]/\KS ⟨CK sl t (.d (.ptr cs)),V.drop o⟩
 |_=>KS ⟨sl,V⟩
def pz (y:Option Ad) (o g:Nat) (sl:Nat->AV) (V:AL) (KS:Ba->Prop):Prop :=
 match y with
 |some (.rowH ety l i q p)=>H' (V.get q p) fun _ _ nl xs=>KS ⟨sl,(V.drop q).app (.keep o g (.row ety 1 false (l.set i (.list nl xs))))⟩
 |_=>KS ⟨sl,V⟩
def qb (v:AV) (sl:Nat->AV) (V:AL) (KS:Ba->Prop):Prop :=
 match v with
 |.own o g=>pz (V.get o g) o g sl V KS
 |_=>KS ⟨sl,V⟩
def fT (v:AV) (t:Nat) (sl:Nat->AV) (V:AL) (KS:Ba->Prop):Prop :=
 match v with
 |.mref .out o g=>FH (V.get o g) fun _ _ nl ix rows=>KS ⟨CK sl t (.d (.list nl (KV ix rows))),V.drop o⟩
 |_=>KS ⟨sl,V⟩
def fX (x:Option Ad) (t o:Nat) (sl:Nat->AV) (V:AL) (KS:Ba->Prop):Prop :=
 match x with
 |some (.cells (c::l))=>KS ⟨CK sl t (.ablk false (c::l) 0),V.drop o⟩
 |_=>False
def fW (v:AV) (t:Nat) (sl:Nat->AV) (V:AL) (KS:Ba->Prop):Prop :=
 match v with
 |.ptr o g 0=>fX (V.get o g) t o sl V KS
 |_=>KS ⟨sl,V⟩
def V_ (x:Option AV) (b g k:Nat) (xs:List AV) (sl:Nat->AV) (V:AL) (KS:Ba->Prop):Prop :=
 match x with
 |some (.own o p)=>H' (V.get o p) fun _ _ nl l=>KS ⟨sl,(V.drop o).app (.keep b g (.cells (xs.set k (.d (.list nl l)))))⟩
 |_=>KS ⟨sl,V⟩
def bG (v:AV) (off:Nat) (sl:Nat->AV) (V:AL) (KS:Ba->Prop):Prop :=
 match v with
 |.ptr b g f=>(match V.get b g with
  |some (.cells xs)=>V_ xs[f+off]? b g (f+off) xs sl V KS
  |_=>KS ⟨sl,V⟩)
 |_=>KS ⟨sl,V⟩
def fV (y:Option Ad) (b g k:Nat) (sl:Nat->AV) (V:AL) (KS:Ba->Prop):Prop :=
 match y with
 |some (.cells xs)=>V_ xs[k]? b g k xs sl V KS
 |_=>KS ⟨sl,V⟩
def eD (v:AV) (t o e1 e2:Nat) (sl:Nat->AV) (V:AL) (KS:Ba->Prop):Prop :=
 match v with
 |.d (.list true [])=>o<EY/\KS ⟨CK sl t (.mref .out o (V.cn o)),V.app (.fresh o (.mat e1 e2 true [] []))⟩
 |_=>KS ⟨sl,V⟩
def eB (v:AV) (t o ety es:Nat) (sl:Nat->AV) (V:AL) (KS:Ba->Prop):Prop :=
 match v with
 |.d (.list true [])=>o<EY/\KS ⟨CK sl t (.own o (V.cn o)),V.app (.fresh o (.row ety es true []))⟩
 |_=>KS ⟨sl,V⟩
def Xr (x:Option AV) (b g k o ety es:Nat) (xs:List AV) (sl:Nat->AV) (V:AL) (KS:Ba->Prop):Prop :=
 match x with
 |some (.d (.list true []))=>o<EY/\o≠b/\KS ⟨sl,(V.app (.fresh o (.row ety es true []))).app (.keep b g (.cells (xs.set k (.own o (V.cn o)))))⟩
 |_=>KS ⟨sl,V⟩
def an (y:Option Ad) (b g k o ety es:Nat) (sl:Nat->AV) (V:AL) (KS:Ba->Prop):Prop :=
 match y with
 |some (.cells xs)=>Xr xs[k]? b g k o ety es xs sl V KS
 |_=>KS ⟨sl,V⟩
def eE (v:AV) (off o ety es:Nat) (sl:Nat->AV) (V:AL) (KS:Ba->Prop):Prop :=
 match v with
 |.ptr b g f=>an (V.get b g) b g (f+off) o ety es sl V KS
 |_=>KS ⟨sl,V⟩
section
variable {E:Cr}{Q:B9->Ba->Prop}{s s':Ba}{K:AV->Bw->Prop}{KS:Ba->Prop}
theorem Bl {z:Nat}{p:PC}(hz:Iq=z) (h:s=s'):pw E p Q s=pw E p Q s':=by rw[h]
theorem A_ {z:Nat}{l:List E6}(hz:Iq=z) (h:s=s'):Kp E l s KS=Kp E l s' KS:=by rw[h]
theorem Ar {z:Nat}{I:E6}(hz:Iq=z) (h:s=s'):Ec E I s K=Ec E I s' K:=by rw[h]
theorem Bm {z:Nat}{dst:Option Nat}{op:B'}{V V':AL}{xs xs':List AV}(hz:Iq=z) (hV:V=V') (h:xs=xs'):ev E dst V op xs K=ev E dst V' op xs' K:=by rw[h,hV]
theorem Ay {z:Nat}{b:BinOp}{k k' k1 k2:IntKind}{x y x' y':Int}{C:AV->Prop}(hz:Iq=z) (h1:k=k1) (h2:k'=k2) (hx:x=x') (hy:y=y'):DM b k k' x y C=DM b k1 k2 x' y' C:=by rw[h1,h2,hx,hy]
theorem A0 {z:Nat}{c c':Bool}{A B:Prop}(hz:Iq=z) (h:c=c'):Hf c A B=Hf c' A B:=by rw[h]
theorem Az {z:Nat}{v v':AV}{A B:Prop}(hz:Iq=z) (h:v=v'):Rd v A B=Rd v' A B:=by rw[h]
theorem Aq {z:Nat}{e e':B9}{A:Ba->Prop}(hz:Iq=z) (he:e=e') (h:s=s'):Ki A Q e s=Ki A Q e' s':=by rw[he,h]
theorem Ak {z:Nat}{i:Nat}{e e':B9}(hz:Iq=z) (he:e=e') (h:s=s'):Jt i Q e s=Jt i Q e' s':=by rw[he,h]
theorem Ae {α:Type}{z:Nat}{x y:Option α}{A:α->Prop}(hz:Iq=z) (h:x=y):BV x A=BV y A:=by rw[h]
theorem Aa {z:Nat}{x y:Option Ad} {A} (hz:Iq=z) (h:x=y):G_ x A=G_ y A:=by rw[h]
theorem Av {z:Nat}{x y:Option Ad} {A} (hz:Iq=z) (h:x=y):H' x A=H' y A:=by rw[h]
theorem Ai {z:Nat}{gs:List Eu}(hz:Iq=z) (h:s=s'):CX gs s KS=CX gs s' KS:=by rw[h]
theorem Ax {z:Nat}{g:Eu}(hz:Iq=z) (h:s=s'):Ep g s KS=Ep g s' KS:=by rw[h]
theorem Aj {z:Nat}{dst:Option Nat}{V V':AL}{f:FuncId}{xs xs':List AV}(hz:Iq=z) (hV:V=V') (h:xs=xs'):EE E dst V f xs K=EE E dst V' f xs' K:=by rw[h,hV]
theorem BD {z:Nat}{α:Type}{ag:Bool}{n n':Nat}{cs cs':List α}{off off':Nat}{mk:List α->AV}{one:α->AV}{C:AV->Prop}(hz:Iq=z) (hn:n=n') (h:cs=cs') (ho:off=off'):B2 ag n cs off mk one C=B2 ag n' cs' off' mk one C:=by rw[hn,h,ho]
theorem BX {z:Nat}{lo hi:Bool}{n n':Nat}{xs xs':List AV}{C:Nat->Nat->Prop}(hz:Iq=z) (hn:n=n') (h:xs=xs'):Mg lo hi n xs C=Mg lo hi n' xs' C:=by rw[hn,h]
theorem Ah {z:Nat}{v v':AV}{b:Bool}{A B:Prop}(hz:Iq=z) (h:v=v'):K_ v b A B=K_ v' b A B:=by rw[h]
theorem BJ {z:Nat}{v v':AV}{t:Nat}{sl:Nat->AV}{V:AL}(hz:Iq=z) (h:v=v'):YC v t sl V KS=YC v' t sl V KS:=by rw[h]
theorem BE {z:Nat}{v v':AV}{t o ety es:Nat}{sl:Nat->AV}{V:AL}(hz:Iq=z) (h:v=v'):eB v t o ety es sl V KS=eB v' t o ety es sl V KS:=by rw[h]
theorem BB {z:Nat}{rs:List RT}{K:List AV->Prop}(hz:Iq=z) (h:s=s'):Hs E s rs K=Hs E s' rs K:=by rw[h]
theorem BC {z:Nat}{r:RT}{K:AV->Prop}(hz:Iq=z) (h:s=s'):Xf E s r K=Xf E s' r K:=by rw[h]
theorem A9 {z:Nat}{y y':AV}{xs xs':List AV}{V V':AL}(hz:Iq=z) (h1:y=y') (h2:xs=xs') (h3:V=V'):SA y xs V K=SA y' xs' V' K:=by rw[h1,h2,h3]
theorem BA {z:Nat}{α:Type}{T:α->AL} {Inv PInv m gs ks os sl e e'} (hz:Iq=z) (he:e=e') (h:s=s'):aO T Inv PInv m gs ks os sl e s=aO T Inv PInv m gs ks os sl e' s':=by rw[he,h]
theorem Au {z:Nat}{A:Ba->Prop} {e e'} (hz:Iq=z) (he:e=e') (h:s=s'):Pc A e s=Pc A e' s':=by rw[he,h]
theorem Ag {z:Nat}{x y:Option Ad} {A} (hz:Iq=z) (h:x=y):Q3 x A=Q3 y A:=by rw[h]
theorem AM {b:Bool}{A B:Prop}(h1:b=true->A) (h2:b=false->B):Hf b A B:=⟨h1,h2⟩
theorem iU {d t b op xs} {sl:Nat->AV}{V:AL}:Ec E ⟨d,some (t,b),op,xs⟩ ⟨sl,V⟩ K=K_ (sl t) b (ev E d V op (xs.map (KF.val sl)) K) (K (.tup []) .none):=rfl
theorem kI {b:Bool}{A B:Prop}:K_ (.d (.bool b)) true A B=Hf b A B:=by simp[K_]
theorem kJ {b:Bool}{A B:Prop}:K_ (.d (.bool b)) false A B=Hf b B A:=by cases b<;>simp[K_]
theorem kH {b:Bool}{A B:Prop}:K_ (.tup []) b A B=B:=rfl
theorem fM {t:Nat}{sl:Nat->AV}{V:AL}:Ep (.freeze t) ⟨sl,V⟩ KS=YC (sl t) t sl V KS:=by
 simp only[Ep,YC]
 cases sl t with
 |own o g=>simp only;cases V.get o g with
  |none=>rfl
  |some x=>cases x<;>rfl
 |_=>rfl
theorem kN {t o g:Nat}{sl:Nat->AV}{V:AL}:YC (.own o g) t sl V KS=H' (V.get o g) fun _ _ nl l=>KS ⟨CK sl t (.d (.list nl l)),V.drop o⟩:=rfl
theorem pG {t:Nat}{x:D}{sl:Nat->AV}{V:AL}:YC (.d x) t sl V KS=KS ⟨sl,V⟩:=rfl
theorem bE {t:Nat}{sl:Nat->AV}{V:AL}:YC .undef t sl V KS=KS ⟨sl,V⟩:=rfl
theorem fN {t:Nat}{sl:Nat->AV}{V:AL}:Ep (.frzP t) ⟨sl,V⟩ KS=bF (sl t) t sl V KS:=by
 simp only[Ep,bF]
 cases sl t with
 |ptr o g f =>
  cases f with
  |zero =>
   simp only;cases V.get o g with
   |none=>rfl
   |some x =>
    cases x with
    |cells xs =>
     simp only[G_]
     cases BR AV.toD1 xs with
     |none=>rfl
     |some l=>cases l<;>simp[BV]
    |_=>rfl
  |succ n=>rfl
 |_=>rfl
theorem kO {t o g:Nat}{sl:Nat->AV}{V:AL}:bF (.ptr o g 0) t sl V KS=G_ (V.get o g) fun xs=>BV (BR AV.toD1 xs) fun cs=>cs≠[]/\KS ⟨CK sl t (.d (.ptr cs)),V.drop o⟩:=rfl
theorem pH {t:Nat}{x:D}{sl:Nat->AV}{V:AL}:bF (.d x) t sl V KS=KS ⟨sl,V⟩:=rfl
theorem BK {z:Nat}{v v':AV}{t:Nat}{sl:Nat->AV}{V:AL}(hz:Iq=z) (h:v=v'):bF v t sl V KS=bF v' t sl V KS:=by rw[h]
theorem Af {z:Nat}{x y:Option Ad} {A B} (hz:Iq=z) (h:x=y):Mk x A B=Mk y A B:=by rw[h]
theorem fJ {t o ety es:Nat}{sl:Nat->AV}{V:AL}:Ep (.own t o ety es) ⟨sl,V⟩ KS=eB (sl t) t o ety es sl V KS:=rfl
theorem fL {t off o ety es:Nat}{sl:Nat->AV}{V:AL}:Ep (.ownC t off o ety es) ⟨sl,V⟩ KS=eE (sl t) off o ety es sl V KS:=by
 simp only[Ep,eE]
 cases sl t with
 |ptr b g f =>
  simp only[an]
  cases V.get b g with
  |none=>rfl
  |some x =>
   cases x with
   |cells xs=>simp only[Xr];rfl
   |_=>rfl
 |_=>rfl
theorem jT {b g f off o ety es:Nat}{sl:Nat->AV}{V:AL}:eE (.ptr b g f) off o ety es sl V KS=an (V.get b g) b g (f+off) o ety es sl V KS:=rfl
theorem am {b g k o ety es:Nat}{xs:List AV}{sl:Nat->AV}{V:AL}:an (some (.cells xs)) b g k o ety es sl V KS=Xr xs[k]? b g k o ety es xs sl V KS:=rfl
theorem jW {b g k o ety es:Nat}{xs:List AV}{sl:Nat->AV}{V:AL}:Xr (some (.d (.list true []))) b g k o ety es xs sl V KS=(o<EY/\o≠b/\KS ⟨sl,(V.app (.fresh o (.row ety es true []))).app (.keep b g (.cells (xs.set k (.own o (V.cn o)))))⟩):=rfl
theorem jV {b g k o ety es o' g':Nat}{xs:List AV}{sl:Nat->AV}{V:AL}:Xr (some (.own o' g')) b g k o ety es xs sl V KS=KS ⟨sl,V⟩:=rfl
theorem BG {z:Nat}{v v':AV}{off o ety es:Nat}{sl:Nat->AV}{V:AL}(hz:Iq=z) (h:v=v'):eE v off o ety es sl V KS=eE v' off o ety es sl V KS:=by rw[h]
theorem BI {z:Nat}{y y':Option Ad}{b g k k' o ety es:Nat}{sl:Nat->AV}{V:AL}(hz:Iq=z) (h:y=y') (hk:k=k'):an y b g k o ety es sl V KS=an y' b g k' o ety es sl V KS:=by rw[h,hk]
theorem BH {z:Nat}{y y':Option AV}{b g k o ety es:Nat}{xs:List AV}{sl:Nat->AV}{V:AL}(hz:Iq=z) (h:y=y'):Xr y b g k o ety es xs sl V KS=Xr y' b g k o ety es xs sl V KS:=by rw[h]
theorem fO {t:Nat}{sl:Nat->AV}{V:AL}:Ep (.frzM t) ⟨sl,V⟩ KS=fT (sl t) t sl V KS:=by
 simp only[Ep,fT]
 cases sl t with
 |mref k o g =>
  cases k with
  |out=>simp only;cases V.get o g with
   |none=>rfl
   |some x=>cases x<;>rfl
  |_=>rfl
 |_=>rfl
theorem fS {t o g:Nat}{sl:Nat->AV}{V:AL}:fT (.mref .out o g) t sl V KS=FH (V.get o g) fun _ _ nl ix rows=>KS ⟨CK sl t (.d (.list nl (KV ix rows))),V.drop o⟩:=rfl
theorem BL {z:Nat}{v v':AV}{t:Nat}{sl:Nat->AV}{V:AL}(hz:Iq=z) (h:v=v'):fT v t sl V KS=fT v' t sl V KS:=by rw[h]
theorem fQ {t:Nat}{sl:Nat->AV}{V:AL}:Ep (.frzA t) ⟨sl,V⟩ KS=fW (sl t) t sl V KS:=by
 simp only[Ep,fW]
 cases sl t with
 |ptr o g f =>
  cases f with
  |zero=>rfl
  |succ n=>rfl
 |_=>rfl
theorem kQ {t o g:Nat}{sl:Nat->AV}{V:AL}:fW (.ptr o g 0) t sl V KS=fX (V.get o g) t o sl V KS:=rfl
theorem YE {t o:Nat}{c:AV}{l:List AV}{sl:Nat->AV}{V:AL}:fX (some (.cells (c::l))) t o sl V KS=KS ⟨CK sl t (.ablk false (c::l) 0),V.drop o⟩:=rfl
theorem BP {z:Nat}{v v':AV}{t:Nat}{sl:Nat->AV}{V:AL}(hz:Iq=z) (h:v=v'):fW v t sl V KS=fW v' t sl V KS:=by rw[h]
theorem BQ {z:Nat}{y y':Option Ad}{t o:Nat}{sl:Nat->AV}{V:AL}(hz:Iq=z) (h:y=y'):fX y t o sl V KS=fX y' t o sl V KS:=by rw[h]
theorem fP {t off:Nat}{sl:Nat->AV}{V:AL}:Ep (.frzC t off) ⟨sl,V⟩ KS=bG (sl t) off sl V KS:=by
 simp only[Ep,bG]
 cases sl t with
 |ptr b g f =>
  simp only
  cases V.get b g with
  |none=>rfl
  |some x =>
   cases x with
   |cells xs =>
    simp only[V_]
    cases xs[f+off]? with
    |none=>rfl
    |some y =>
     cases y with
     |own o p=>simp only;cases V.get o p with
      |none=>rfl
      |some z=>cases z<;>rfl
     |_=>rfl
   |_=>rfl
 |_=>rfl
theorem kP {b g f off:Nat}{sl:Nat->AV}{V:AL}:bG (.ptr b g f) off sl V KS=fV (V.get b g) b g (f+off) sl V KS:=by
 simp only[bG,fV]
theorem YD {b g k:Nat}{xs:List AV}{sl:Nat->AV}{V:AL}:fV (some (.cells xs)) b g k sl V KS=V_ xs[k]? b g k xs sl V KS:=rfl
theorem fU {b g k o p:Nat}{xs:List AV}{sl:Nat->AV}{V:AL}:V_ (some (.own o p)) b g k xs sl V KS=H' (V.get o p) fun _ _ nl l=>KS ⟨sl,(V.drop o).app (.keep b g (.cells (xs.set k (.d (.list nl l)))))⟩:=rfl
theorem ng {b g k:Nat}{x:D}{xs:List AV}{sl:Nat->AV}{V:AL}:V_ (some (.d x)) b g k xs sl V KS=KS ⟨sl,V⟩:=rfl
theorem BN {z:Nat}{v v':AV}{off:Nat}{sl:Nat->AV}{V:AL}(hz:Iq=z) (h:v=v'):bG v off sl V KS=bG v' off sl V KS:=by rw[h]
theorem BO {z:Nat}{y y':Option Ad}{b g k k':Nat}{sl:Nat->AV}{V:AL}(hz:Iq=z) (h:y=y') (hk:k=k'):fV y b g k sl V KS=fV y' b g k' sl V KS:=by rw[h,hk]
theorem BM {z:Nat}{y y':Option AV}{b g k:Nat}{xs:List AV}{sl:Nat->AV}{V:AL}(hz:Iq=z) (h:y=y'):V_ y b g k xs sl V KS=V_ y' b g k xs sl V KS:=by rw[h]
theorem fK {t o e1 e2:Nat}{sl:Nat->AV}{V:AL}:Ep (.ownM t o e1 e2) ⟨sl,V⟩ KS=eD (sl t) t o e1 e2 sl V KS:=rfl
theorem jS {t o e1 e2:Nat}{sl:Nat->AV}{V:AL}:eD (.d (.list true [])) t o e1 e2 sl V KS=(o<EY/\KS ⟨CK sl t (.mref .out o (V.cn o)),V.app (.fresh o (.mat e1 e2 true [] []))⟩):=rfl
theorem eC {t o e1 e2:Nat} {k o' g} {sl:Nat->AV}{V:AL}:eD (.mref k o' g) t o e1 e2 sl V KS=KS ⟨sl,V⟩:=rfl
theorem BF {z:Nat}{v v':AV}{t o e1 e2:Nat}{sl:Nat->AV}{V:AL}(hz:Iq=z) (h:v=v'):eD v t o e1 e2 sl V KS=eD v' t o e1 e2 sl V KS:=by rw[h]
theorem Aw {z:Nat}{x y:Option Ad} {A} (hz:Iq=z) (h:x=y):FH x A=FH y A:=by rw[h]
theorem jR {t o ety es:Nat}{sl:Nat->AV}{V:AL}:eB (.d (.list true [])) t o ety es sl V KS=(o<EY/\KS ⟨CK sl t (.own o (V.cn o)),V.app (.fresh o (.row ety es true []))⟩):=rfl
theorem jQ {t o ety es o' g:Nat}{sl:Nat->AV}{V:AL}:eB (.own o' g) t o ety es sl V KS=KS ⟨sl,V⟩:=rfl
end
theorem iO {α:Type}(f:Nat->α) (i:Nat) (x:α) (j:Nat):CK f i x j=if j=i then x else f j:=rfl
theorem cv (f:Nat->Nat) (i x y:Nat):CK (CK f i x) i y=CK f i y:=by funext j;simp only[CK];split<;>rfl
theorem ou {x:D}:(AV.d x).one=x.one:=rfl
theorem jU {o g}:(AV.own o g).one=true:=rfl
theorem m8 {f c}:(AV.fn f c).one=true:=rfl
theorem gJ {k n}:(D.int k n).one=true:=rfl
theorem bp {b}:(D.bool b).one=true:=rfl
theorem bo {n l}:(D.list n l).one=true:=rfl
theorem gI {l}:(D.ptr l).one=true:=rfl
theorem oI {c}:(AV.agg c).cells?=some c:=rfl
theorem ku {c}:(AV.d (.agg c)).cells?=some (c.map .d):=rfl
theorem oH {k n}:(AV.d (.int k n)).cells?=some [.d (.int k n)]:=rfl
theorem kw {b}:(AV.d (.bool b)).cells?=some [.d (.bool b)]:=rfl
theorem kq {n l}:(AV.d (.list n l)).cells?=some [.d (.list n l)]:=rfl
theorem kr {l}:(AV.d (.ptr l)).cells?=some [.d (.ptr l)]:=rfl
theorem oG {o g}:(AV.own o g).cells?=some [.own o g]:=rfl
theorem pP {l}:(AV.ex l).cells?=some [.ex l]:=rfl
theorem pO {f c}:(AV.fn f c).cells?=some [.fn f c]:=rfl
theorem mI {k n}:AV.toD1 (.d (.int k n))=some (.int k n):=rfl
theorem iT {n l}:AV.toD1 (.d (.list n l))=some (.list n l):=rfl
theorem oa {l}:AV.toD1 (.ex l)=some (.list false l):=rfl
theorem a8 {α β:Type}{f:α->Option β}:BR f []=some []:=rfl
theorem X0 {α β:Type}{f:α->Option β}{x:α}{xs:List α}:BR f (x::xs)=match f x with
 |none=>none
 |some y=>match BR f xs with|none=>none|some ys=>some (y::ys):=rfl
theorem mJ {cs}:AV.toD1 (.agg cs)=match BR AV.toD0 cs with|some l=>some (.agg l)|none=>none:=rfl
theorem lL {V:AL} {n l}:(AV.d (.list n l)).asList V=some (n,l):=rfl
theorem pW {V:AL} {l}:(AV.ex l).asList V=some (false,l):=rfl
theorem oO {V:AL} {o g}:(AV.own o g).asList V=match V.get o g with|some (.row _ _ nil xs)=>some (nil,xs)|_=>none:=rfl
theorem pV {V:AL} {o g}:(AV.mref .out o g).asList V=match V.get o g with|some (.mat _ _ nil ix rows)=>some (nil,KV ix rows)|_=>none:=rfl
theorem ef {ix rows}:(KV ix rows).length=ix.length:=by simp[KV]
theorem p8 {V:AL} {x}:EG V none (.d x)=match (AV.d x).asList V with|some (_,ys)=>some ys|none=>none:=rfl
theorem pS {V:AL} {x}:EG V none (.ex x)=match (AV.ex x).asList V with|some (_,ys)=>some ys|none=>none:=rfl
theorem lG {V:AL} {z n}:EG V (some z) (.d (.int .i64 n))=if 0<=n/\n<=(C0:Int) then some (List.replicate n.toNat z) else none:=rfl
theorem bM {es xs}:GH es xs []=some xs:=rfl
theorem YK {es xs i v rest}:GH es xs ((i,v)::rest)=match v.toD1 with
 |none=>none
 |some x=>if x.cells.length=es/\i<xs.length then GH es (xs.set i x) rest else none:=rfl
theorem bN {cs}:MP cs []=some cs:=rfl
theorem YL {cs off size v rest}:MP cs (((off,size),v)::rest)=match v.cells? with
 |none=>none
 |some vs=>if vs.length=size/\off+size<=cs.length then MP (Bf cs off vs) rest else none:=rfl
theorem cE {k n}:(D.int k n).cells=[.int k n]:=rfl
theorem Yn {n l}:(D.list n l).cells=[.list n l]:=rfl
theorem mH {k n}:up (.int k n)=.d (.int k n):=rfl
theorem iP {b}:up (.bool b)=.d (.bool b):=rfl
theorem mG {l}:up (.tup l)=.tup (l.map .d):=rfl
theorem Z9:Bw.site .none=[]:=rfl
theorem dP {a b}:Bw.site (.seq a b)=a.site++b.site:=rfl
theorem XU {o x}:Bw.site (.fresh o x)=[o]:=rfl
theorem Z_ {o g x}:Bw.site (.keep o g x)=[o]:=rfl
def Am (xs:List Int):List D:=xs.map (D.int .i64)
@[simp] theorem pB:Am []=[]:=rfl
theorem T9 (xs:List Int):(Am xs=[])=(xs=[]):=by cases xs<;>simp[Am]
theorem B7 (xs:List Int):(Am xs).length=xs.length:=by simp[Am]
theorem bB (xs:List Int) (n:Nat):(Am xs).drop n=Am (xs.drop n):=by simp[Am]
theorem a_ (xs:List Int) (n:Nat):(Am xs).take n=Am (xs.take n):=by simp[Am]
theorem e_ (xs ys:List Int):Am xs++Am ys=Am (xs++ys):=by simp[Am]
theorem bA (xs:List Int) (y:Int):Am xs++[.int .i64 y]=Am (xs++[y]):=by simp[Am]
theorem ez (xs:List Int) (i:Nat) (y:Int):(Am xs).set i (.int .i64 y)=Am (xs.set i y):=by simp[Am,List.map_set]
theorem e9 (n:Nat) (y:Int):List.replicate n (D.int .i64 y)=Am (List.replicate n y):=by simp[Am]
theorem X3 (xs:List Int):(Am xs).isEmpty=xs.isEmpty:=by cases xs<;>rfl
theorem a9 (xs:List Int):Cv 1 (Am xs)=True:=by
 simp only[Cv,Am,eq_iff_iff,iff_true];intro x hx;simp at hx;obtain⟨n,_,rfl⟩:=hx;rfl
theorem cy {es:Nat}:Cv es []=True:=by simp[Cv]
theorem Zr {es:Nat}{x:D}{l:List D}:Cv es (x::l)=(x.cells.length=es/\Cv es l):=by simp[Cv]
theorem U4 {α:Type}{es:Nat}{f:α->D}{l:List α}(h:∀x,(f x).cells.length=es):Cv es (l.map f)=True:=by
 simp only[Cv,eq_iff_iff,iff_true];intro x hx;simp at hx;obtain⟨y,_,rfl⟩:=hx;exact h y
theorem Vl {xs:List Int}{i:Nat}{A:D->Prop}:BV (Am xs)[i]? A=(i<xs.length/\A (.int .i64 (xs[i]?.getD 0))):=by
 unfold Am
 rw[List.getElem?_map]
 by_cases h:i<xs.length
 ·simp[h,BV]
 ·have:xs[i]?=none:=List.getElem?_eq_none (by omega)
  simp[this,h,BV]
theorem Mj {α:Type} [Inhabited α] {f:α->D}{xs:List α}{i:Nat}{A:D->Prop}:BV (xs.map f)[i]? A=(i<xs.length/\A (f (xs[i]?.getD default))):=by
 rw[List.getElem?_map]
 by_cases h:i<xs.length
 ·simp[h,BV]
 ·have:xs[i]?=none:=List.getElem?_eq_none (by omega)
  simp[this,h,BV]
theorem Vk {xs:List Nat}{i:Nat}{A:Nat->Prop}:BV xs[i]? A=(i<xs.length/\A (xs[i]?.getD 0)):=by
 by_cases h:i<xs.length
 ·simp[h,BV]
 ·have:xs[i]?=none:=List.getElem?_eq_none (by omega)
  simp[this,h,BV]
def qF {α:Type}(f:α->D) (M:List (List α)):List (Bool×List D):=M.map fun r=>(false,r.map f)
section
variable {E:Cr}{dst:Option Nat}{V:AL}{K:AV->Bw->Prop}{f:FuncId}{xs:List AV}
theorem Hi {ds:List D}{r:D}(h:CD E f ds r) (ha:Fz xs=some ds) (hk:K (up r) .none):EE E dst V f xs K:=.inl ⟨ds,r,ha,h,hk⟩
theorem oK {ds:List D}{r:D}(h:CD E f ds r) (ha:Wt V xs=some ds) (hf:r.flat=true) (hk:K (up r) .none):EE E dst V f xs K:=.inr (.inl ⟨ds,r,ha,h,hf,hk⟩)
end
section
variable {E:Cr}{Q:B9->Ba->Prop}{s:Ba}
def dZ (l:List (Nat×AV)) (k:Nat) (v:AV):List (Nat×AV):=l.map fun p=>if p.1=k then (k,v) else p
def dX (l:List (Nat×(Nat×Ad))) (k:Nat) (x:Ad):List (Nat×(Nat×Ad)):=l.map fun p=>if p.1=k then (k,(0,x)) else p
def PX (l:List (Nat×AV)):List (Nat×AV)->List (Nat×AV)
 |[]=>l
 |(k,v)::r=>dZ (PX l r) k v
def PW (l:List (Nat×(Nat×Ad))):List (Nat×Ad)->List (Nat×(Nat×Ad))
 |[]=>l
 |(k,v)::r=>dX (PW l r) k v
theorem dY {k:Nat}{v:AV}:dZ [] k v=[]:=rfl
theorem aG {a k:Nat}{b v:AV} {l}:dZ ((a,b)::l) k v=(if a=k then (k,v) else (a,b))::dZ l k v:=rfl
theorem dW {k:Nat}{v:Ad}:dX [] k v=[]:=rfl
theorem aE {a k:Nat}{b:Nat×Ad}{v:Ad} {l}:dX ((a,b)::l) k v=(if a=k then (k,(0,v)) else (a,b))::dX l k v:=rfl
theorem aF {l}:PX l []=l:=rfl
theorem XY {l k v r}:PX l ((k,v)::r)=dZ (PX l r) k v:=rfl
theorem aB {l}:PW l []=l:=rfl
theorem XX {l k v r}:PW l ((k,v)::r)=dX (PW l r) k v:=rfl
theorem oY {f:Nat->AV}{n:Nat}:KF.val f (.t n)=f n:=rfl
theorem oZ {f:Nat->AV}{v:AV}:KF.val f (.k v)=v:=rfl
theorem Z2 {α:Type}(cs:List α) (off:Nat) (vs:List α):Bf cs off vs=cs.take off++vs++cs.drop (off+vs.length):=rfl
theorem AY {α:Type}(up:α->List (Nat×AV)) (uo:α->List (Nat×Ad)) (Inv:α->Prop) (μ:α->Nat) (x0:α) {gs:List Eu}{ks os:List Nat}{a:PC}
  {l0:List (Nat×AV)}{m0:List (Nat×(Nat×Ad))}(h0:CX gs s fun s1=>s1.nrm ks os=⟨E9 l0,⟨Bb m0,fun _=>1⟩⟩)
  (he:PX l0 (up x0)=l0) (he':PW m0 (uo x0)=m0) (hI:Inv x0)
  (step:∀x,Inv x->pw E a (Ki (fun s'=>CX gs s' fun s1=>∃y,s1.nrm ks os=⟨E9 (PX l0 (up y)),⟨Bb (PW m0 (uo y)),fun _=>1⟩⟩/\Inv y/\μ y<μ x) Q) ⟨E9 (PX l0 (up x)),⟨Bb (PW m0 (uo x)),fun _=>1⟩⟩) :
  pw E (.loop gs ks os a) Q s :=
 d6 (fun x=>⟨E9 (PX l0 (up x)),⟨Bb (PW m0 (uo x)),fun _=>1⟩⟩) Inv μ x0 (by rw[he,he'];exact h0) hI step
end
theorem AZ (n:Int) (h:-9223372036854775808<=n/\n<=9223372036854775807):IntKind.i64.wrap n=n:=Go.IntWalk.i64_in n h
theorem dr {E:Cr} {rs r s}:om E rs r .ret s=Hs E s rs (PV s.V r):=rfl
theorem du {E:Cr} {s K}:Hs E s [] K=K []:=rfl
theorem aP {E:Cr} {s r l K}:Hs E s (r::l) K=Xf E s r fun v=>Hs E s l fun vs=>K (v::vs):=rfl
theorem mj {E:Cr} {s n K}:Xf E s (.t n) K=K (s.sl n):=rfl
theorem ml {E:Cr} {s a ty ag n K}:Xf E s (.c a ty ag n) K=ev E none s.V (.load ag n) [s.sl a] fun v _=>K v:=rfl
theorem il {V r v}:PV V r [v]=(v.snap V=some r):=rfl
theorem ik {V r v u}:PV V r [v,u]=((BR (AV.snap V) [v,u]).map .tup=some r):=rfl
theorem ij {V r v u t}:PV V r [v,u,t]=((BR (AV.snap V) [v,u,t]).map .tup=some r):=rfl
theorem mS {V k n}:AV.snap V (.d (.int k n))=some (.int k n):=rfl
theorem io {V b}:AV.snap V (.d (.bool b))=some (.bool b):=rfl
theorem im {V n l}:AV.snap V (.d (.list n l))=some (.list n l):=rfl
theorem Z8 {V}:AV.snap V (.d .nilptr)=some .nilptr:=rfl
theorem mR {V o g}:AV.snap V (.own o g)=match V.get o g with|some (.row _ _ nil xs)=>some (.list nil xs)|_=>none:=rfl
theorem mT {V cs}:AV.snap V (.agg cs)=match BR (AV.snap0 V) cs with|some l=>some (.agg l)|none=>none:=rfl
theorem mZ {V k n}:AV.snap0 V (.d (.int k n))=some (.int k n):=rfl
theorem i8 {V n l}:AV.snap0 V (.d (.list n l))=some (.list n l):=rfl
theorem ol {V l}:AV.snap0 V (.ex l)=some (.list false l):=rfl
theorem mY {V o g}:AV.snap0 V (.own o g)=match V.get o g with|some (.row _ _ nil xs)=>some (.list nil xs)|_=>none:=rfl
theorem ii {α:Type}{a b:α}:(some a=some b)=(a=b):=by simp
theorem al {α β:Type}{f:α->β}{a:α}:Option.map f (some a)=some (f a):=rfl
section
variable {k k':IntKind}{a b:Int}{C:AV->Prop}
theorem lE:DM .eql k k' a b C=(k=k'/\(a=b->C (.d (.bool true)))/\(¬a=b->C (.d (.bool false)))):=by
 rw[bk];by_cases h:a=b<;>simp[h]
theorem k9:DM .neq k k' a b C=(k=k'/\(a=b->C (.d (.bool false)))/\(¬a=b->C (.d (.bool true)))):=by
 rw[be];by_cases h:a=b<;>simp[h]
theorem k_:DM .lss k k' a b C=(k=k'/\(a<b->C (.d (.bool true)))/\(¬a<b->C (.d (.bool false)))):=by
 rw[bg];by_cases h:a<b<;>simp[h]
theorem lB:DM .leq k k' a b C=(k=k'/\(a<=b->C (.d (.bool true)))/\(¬a<=b->C (.d (.bool false)))):=by
 rw[bh];by_cases h:a<=b<;>simp[h]
theorem lC:DM .gtr k k' a b C=(k=k'/\(b<a->C (.d (.bool true)))/\(¬b<a->C (.d (.bool false)))):=by
 rw[bi];by_cases h:b<a<;>simp[h]
theorem lD:DM .geq k k' a b C=(k=k'/\(b<=a->C (.d (.bool true)))/\(¬b<=a->C (.d (.bool false)))):=by
 rw[bj];by_cases h:b<=a<;>simp[h]
end
section
variable {E:Cr}{dst:Option Nat}{V:AL}{K:AV->Bw->Prop}{f:FuncId}{xs:List AV}
theorem Yo {ds:List D}{b:Bool}(h:CD E f ds (.bool b)) (ha:Fz xs=some ds) (h1:b=true->K (.d (.bool true)) .none) (h2:b=false->K (.d (.bool false)) .none):EE E dst V f xs K :=
 Hi h ha (by cases b with|true=>exact h1 rfl|false=>exact h2 rfl)
theorem aj {α:Type}{p:Prop} [Decidable p] {x:α}{A:α->Prop}:BV (if p then some x else none) A=(p/\A x):=by
 by_cases h:p<;>simp[h,BV]
end
section
variable {E:Cr}{K:Ba->Prop}
def K7 (j:Nat):List (Nat×R9)->Option R9
 |[]=>none
 |(i,r)::l=>if j=i then some r else K7 j l
def Ru (x:Option R9) (b:R9):Bool:=match x with|some r=>LS r b|none=>false
def Tw (need:List Nat) (i:Nat) (r:R9) (rec:List (Nat×R9)):List (Nat×R9):=if need.contains i then (i,r)::rec else rec
def Pu (E:Cr):Nat->List Nat->List (E6×List Nat)->List (Nat×R9)->Ba->(Ba->Prop)->Prop
 |_,_,[],_,s,K=>K s
 |i,need,(I,dy)::l,rec,s,K=>Ec E I s fun v ch =>
  (dy.all fun j=>Ru (K7 j rec) (ch.site,Db I s))=true /\
  Pu E (i+1) need l (Tw need i (ch.site,Db I s) rec) (put s I.dst v ch) K
theorem Y8 {need:List Nat}:∀{l:List (E6×List Nat)}{rec:List R9}{recE:List (Nat×R9)}{s:Ba},(∀j,j∈l.flatMap (·.2)->j∈need)->(∀j,j∈need->K7 j recE=rec[j]?)->SF E l rec s K=Pu E rec.length need l recE s K
 |[],_,_,_,_,_=>rfl
 |(I,dy)::l,rec,recE,s,hn,hr=>by
  simp only[SF,Pu]
  congr 1
  funext v ch
  have h1:(dy.all fun j=>match rec[j]? with|some r=>LS r (ch.site,Db I s)|none=>false)=(dy.all fun j=>Ru (K7 j recE) (ch.site,Db I s)):=by
   rw[Bool.eq_iff_iff,List.all_eq_true,List.all_eq_true]
   have:∀j,j∈dy->(match rec[j]? with|some r=>LS r (ch.site,Db I s)|none=>false)=Ru (K7 j recE) (ch.site,Db I s):=fun j hj=>by
    rw[hr j (hn j (by simp[hj]))];rfl
   exact⟨fun h j hj=>by rw[←this j hj];exact h j hj,fun h j hj=>by rw[this j hj];exact h j hj⟩
  refine congr (congrArg And (congrArg (fun b=>b=true) h1)) ?_
  have h2:=Y8 (need:=need) (l:=l) (rec:=rec++[(ch.site,Db I s)]) (recE:=Tw need rec.length (ch.site,Db I s) recE) (s:=put s I.dst v ch) (fun j hj=>hn j (by simp at hj ⊢;exact .inr hj)) fun j hj=>by
   unfold Tw
   by_cases h:need.contains rec.length=true
   ·rw[if_pos h]
    simp only[K7]
    by_cases hjl:j=rec.length
    ·subst hjl;simp
    ·rw[if_neg hjl,hr j hj]
     by_cases hlt:j<rec.length
     ·rw[List.getElem?_append_left hlt]
     ·rw[List.getElem?_eq_none (by omega),List.getElem?_eq_none (by simp;omega)]
   ·rw[if_neg h,hr j hj]
    have hne:j≠rec.length:=by rintro rfl;exact h (by simpa using hj)
    by_cases hlt:j<rec.length
    ·rw[List.getElem?_append_left hlt]
    ·rw[List.getElem?_eq_none (by omega),List.getElem?_eq_none (by simp;omega)]
  rw[h2];simp
theorem d7 {Q:B9->Ba->Prop}{s:Ba} {gs l ks}:pw E (.draw gs l ks) Q s=CX gs s fun s'=>Pu E 0 (l.flatMap (·.2)) l [] s' fun s'=>Q .normal (s'.keep ks):=by
 rw[jL]
 congr 1;funext s'
 exact Y8 (rec:=[]) (recE:=[]) (fun j hj=>hj) fun j hj=>by simp[K7]
theorem db {i need r} {s:Ba}:Pu E i need [] r s K=K s:=rfl
theorem Xa {i need I l r} {s:Ba}:Pu E i need ((I,[])::l) r s K=Ec E I s fun v ch=>Pu E (i+1) need l (Tw need i (ch.site,Db I s) r) (put s I.dst v ch) K:=by
 simp[Pu]
theorem aJ {i need I j dy l r} {s:Ba}:Pu E i need ((I,j::dy)::l) r s K=Ec E I s fun v ch =>
 ((j::dy).all fun j=>Ru (K7 j r) (ch.site,Db I s))=true/\Pu E (i+1) need l (Tw need i (ch.site,Db I s) r) (put s I.dst v ch) K:=rfl
theorem A' {z:Nat} {i i' need need' l} {r r':List (Nat×R9)}{s s':Ba}(hz:Iq=z) (hi:i=i') (hn:need=need') (hr:r=r') (h:s=s'):Pu E i need l r s K=Pu E i' need' l r' s' K:=by rw[h,hr,hi,hn]
theorem mn {need:List Nat}{i:Nat}{r:R9}{rec:List (Nat×R9)}(h:need.contains i=true):Tw need i r rec=(i,r)::rec:=by simp only[Tw,h,if_true]
theorem mo {need:List Nat}{i:Nat}{r:R9}{rec:List (Nat×R9)}(h:need.contains i=false):Tw need i r rec=rec:=by simp only[Tw,h,Bool.false_eq_true,if_false]
theorem a6 {j:Nat}:K7 j []=none:=rfl
theorem Xx {j i:Nat}{r:R9} {l}:K7 j ((i,r)::l)=if j=i then some r else K7 j l:=rfl
theorem gd {r b:R9}:Ru (some r) b=LS r b:=rfl
theorem pT {a f b f'}:LS (a,f) (b,f')=((a.all fun o=>!f'.contains o) && (b.all fun o=>!f.contains o)):=rfl
theorem fh {d g op xs} {sl:Nat->AV}{V:AL}:Db ⟨d,g,op,xs⟩ ⟨sl,V⟩=fp V d op (xs.map (KF.val sl)):=rfl
theorem pn {x}:AV.sites (.d x)=[]:=by cases x<;>rfl
theorem od {x}:AV.sites (.ex x)=[]:=rfl
theorem iX {x n}:AV.sites (.dptr x n)=[]:=rfl
theorem mN {o g}:AV.sites (.own o g)=[o]:=rfl
theorem mM {o g f}:AV.sites (.ptr o g f)=[o]:=rfl
theorem iV {o g e i f}:AV.sites (.rptr o g e i f)=[o]:=rfl
theorem iW {k o g}:AV.sites (.mref k o g)=[o]:=rfl
theorem iY {s l f}:AV.sites (.ablk s l f)=AV.sites.sitesL l:=rfl
theorem mO {l}:AV.sites (.agg l)=AV.sites.sitesL l:=rfl
theorem oc {f l}:AV.sites (.fn f l)=AV.sites.sitesL l:=rfl
theorem mL {l}:AV.sites (.tup l)=AV.sites.sitesL l:=rfl
theorem iZ:AV.sites.sitesL []=[]:=rfl
theorem dI {x l}:AV.sites.sitesL (x::l)=x.sites++AV.sites.sitesL l:=rfl
section
variable {d:Option Nat}{xs:List AV}{V:AL}
theorem nh:fp V d .mov xs=[]:=rfl
theorem kR:fp V d .pick xs=[]:=rfl
theorem nk {b}:fp V d (.bin b) xs=[]:=rfl
theorem pI {b}:fp V d (.un b) xs=[]:=rfl
theorem kT {b}:fp V d (.conv b) xs=[]:=rfl
theorem fc:fp V d .nilck xs=[]:=rfl
theorem ff {a}:fp V d (.faddr a) xs=[]:=rfl
theorem bJ {a b}:fp V d (.iaddrA a b) xs=[]:=rfl
theorem fe {a b c e}:fp V d (.mkrow a b c e) xs=[]:=rfl
theorem bH {a}:fp V d (.minmax a) xs=[]:=rfl
theorem YF {a}:fp V d (.extract a) xs=[]:=rfl
theorem kS {a b}:fp V d (.load a b) xs=AV.sites.sitesL xs:=rfl
theorem bI {a}:fp V d (.iaddrS a) xs=AV.sites.sitesL xs:=rfl
theorem nj {a}:fp V d (.len a) xs=AV.sites.sitesL xs:=rfl
theorem fY {a}:fp V d (.store a) xs=d.toList++AV.sites.sitesL xs:=rfl
theorem kU {a}:fp V d (.call a) xs=CH d V xs:=rfl
theorem fg:fp V d .callv xs=CH d V xs:=rfl
theorem Yp {t}:CH (some t) V xs=D8 t++V.reach 3 (AV.sites.sitesL xs):=rfl
theorem jh {t}:D8 t=[t,t+10000,t+20000,t+30000]:=rfl
theorem Su:∀{n:Nat},V.reach n []=[]
 |0=>rfl
 |n+1=>by simp only[AL.reach,List.flatMap_nil,Su,List.append_nil]
theorem jG {o l}:V.reach 3 (o::l)=(o::l)++V.reach 2 ((o::l).flatMap V.osites):=rfl
def T4:Option (Nat×Ad)->List Nat
 |some (_,.cells xs)=>AV.sites.sitesL xs
 |some (_,.rowH _ _ _ q _)=>[q]
 |_=>[]
theorem aY {ob cn o}:(AL.mk ob cn).osites o=T4 (ob o):=rfl
theorem ao {g xs}:T4 (some (g,.cells xs))=AV.sites.sitesL xs:=rfl
theorem jX {g a b c d e}:T4 (some (g,.mat a b c d e))=[]:=rfl
theorem np {a b c e}:fp V d (.app a b c e) xs=d.toList++AV.sites.sitesL xs:=rfl
theorem fZ {a b c e}:fp V d (.slice a b c e) xs=d.toList++AV.sites.sitesL xs:=rfl
end
theorem c_ {a:Nat}:(some a).toList=[a]:=rfl
theorem dA:(none:Option Nat).toList=[]:=rfl
end
theorem Du {k n}:(D.int k n).WF=MB k n:=by rw[D.WF]
theorem DA {b}:(D.bool b).WF=True:=by rw[D.WF]
theorem Cy {nl xs}:(D.list nl xs).WF=(xs.length<=maxLen/\∀x,x∈xs->x.WF):=by rw[D.WF]
theorem EB {xs}:(D.agg xs).WF=(∀x,x∈xs->x.WF):=by rw[D.WF]
theorem EA {xs}:(D.ptr xs).WF=(∀x,x∈xs->x.WF):=by rw[D.WF]
theorem Fk {f xs}:(D.fn f xs).WF=(∀x,x∈xs->x.WF):=by rw[D.WF]
theorem D_ {xs}:(D.tup xs).WF=(∀x,x∈xs->x.WF):=by rw[D.WF]
theorem C_ {nl} {xs:List Int}:(D.list nl (Am xs)).WF=(xs.length<=maxLen/\∀x,x∈xs->MB .i64 x):=by
 rw[Cy,B7];simp[Am,Du]
theorem Bi {x:D}{l:List D}:(∀y,y∈x::l->y.WF)=(x.WF/\∀y,y∈l->y.WF):=by simp
theorem Bs:(∀y,y∈([]:List D)->y.WF)=True:=by simp
theorem Bt {α:Type}{f:α->D}{l:List α}:(∀y,y∈l.map f->y.WF)=(∀x,x∈l->(f x).WF):=by simp
theorem DC {n:Int}:MB .i64 n=(-9223372036854775808<=n/\n<=9223372036854775807):=by
 simp[MB,IntKind.min,IntKind.max,IntKind.signed,IntKind.bits]
theorem CA:maxLen=9223372036854775807:=rfl
theorem LR {x:AV}{d:D}{xs:List AV}{ds:List D}(h:x.toD1=some d) (h':BR AV.toD1 xs=some ds):Fz (x::xs)=some (d::ds):=by
 simp only[Fz,BR,h,h']
theorem gV:C0=1073741824:=rfl
theorem nM:EY=900000:=rfl
theorem ES (V0:List (Nat×Nat×Ad)) (xs:List AV):Ba.enterM V0 xs=⟨E9 (xs.zipIdx.map fun(d,k)=>(k,d)),⟨Bb V0,fun _=>1⟩⟩:=by
 have key:∀(xs:List AV) (n t:Nat),(match xs[t]? with|some d=>d|none=>.undef)=E9 ((xs.zipIdx n).map fun(d,k)=>(k,d)) (n+t):=by
  intro xs
  induction xs with
  |nil=>intro n t;simp[E9]
  |cons x xs ih =>
   intro n t
   cases t with
   |zero=>simp[E9]
   |succ t =>
    have:=ih (n+1) t
    simp only[List.getElem?_cons_succ,List.zipIdx_cons,List.map_cons,E9]
    rw[if_neg (by omega),this]
    congr 1;omega
 unfold Ba.enterM
 congr 1
 funext t
 have:=key xs 0 t
 simp only[Nat.zero_add] at this
 rw[←this]
 cases xs[t]?<;>rfl
theorem FA {E:Cr}{dst:Option Nat}{V:AL}{K:AV->Bw->Prop}{f:FuncId}{xs:List AV}{V0 V1:List (Nat×Nat×Ad)}{cxs:List AV}{r r':AV}{ch:Bw}(ρ ρ2:Dm) (h:IP E f V0 cxs V1 r) (h1:OS ρ cxs xs)
  (h2:Handed V (CH dst V xs) ρ V0) (h3:CP V.cn dst V0 V1 ρ ρ2=true) (h4:r.ren ρ2=some r') (h5:D9 ρ ρ2 V1=some ch) (hk:K r' ch):EE E dst V f xs K :=
 .inr (.inr (.inr ⟨V0,cxs,V1,r,r',ch,ρ,ρ2,h1,h,h2,h3,h4,h5,hk⟩))
theorem dt {E:Cr} {rs V1 r s}:mg E rs V1 r .ret s=(Hs E s rs (ln V1 s.V r)/\fB s.V V1):=rfl
theorem Vc {E:Cr} {rs V1 r s}:mg E rs V1 r .normal s=(Hs E s rs (ln V1 s.V r)/\fB s.V V1):=rfl
section
variable {V:AL}{V1:List (Nat×Nat×Ad)}
theorem o6 {r v}:ln V1 V r [v]=TC V1 V v r:=rfl
theorem o7 {rs}:ln V1 V (.tup rs) []=TD V1 V [] rs:=rfl
theorem bw:TD V1 V [] []=True:=rfl
theorem kp {v d}:TC V1 V v (.d d)=(v.snap V=some d/\(v.sites.all fun o=>!X8 V1 o)=true):=rfl
theorem bv {v o g}:TC V1 V v (.own o g)=(v=.own o g):=rfl
theorem fG {o}:X8 [] o=false:=rfl
theorem bC {p l o}:X8 (p::l) o=(p.1 == o || X8 l o):=rfl
def X5:Option (Nat×Ad)->Nat->Ad->Prop
 |some (g',.map t l),g,.map t' l'=>g'=g/\t=t'/\l=l'
 |some (g',.row a b c l),g,.row a' b' c' l'=>g'=g/\a=a'/\b=b'/\c=c'/\l=l'
 |some (g',.cells l),g,.cells l'=>g'=g/\l=l'
 |some (g',.hist a b c),g,.hist a' b' c'=>g'=g/\a=a'/\b=b'/\c=c'
 |some (g',.rowH a b c d e),g,.rowH a' b' c' d' e'=>g'=g/\a=a'/\b=b'/\c=c'/\d=d'/\e=e'
 |some (g',.mat a b c d e),g,.mat a' b' c' d' e'=>g'=g/\a=a'/\b=b'/\c=c'/\d=d'/\e=e'
 |_,_,_=>False
theorem kD {x:Option (Nat×Ad)}{g:Nat}{y:Ad}:X5 x g y=(x=some (g,y)):=by
 cases x with
 |none=>simp[X5]
 |some p=>obtain⟨g',z⟩:=p;cases z<;>cases y<;>simp[X5]
theorem fD {g' a b c l g a' b' c' l'}:X5 (some (g',.row a b c l)) g (.row a' b' c' l')=(g'=g/\a=a'/\b=b'/\c=c'/\l=l'):=rfl
theorem fE {g' a b c d e g a' b' c' d' e'}:X5 (some (g',.mat a b c d e)) g (.mat a' b' c' d' e')=(g'=g/\a=a'/\b=b'/\c=c'/\d=d'/\e=e'):=rfl
theorem X4 {g' l g l'}:X5 (some (g',.cells l)) g (.cells l')=(g'=g/\l=l'):=rfl
theorem kC:fB V []=True:=rfl
theorem fA {o g x l}:fB V ((o,g,x)::l)=(X5 (V.ob o) g x/\fB V l):=by rw[kD];rfl
end
def kB (K:AV->Bw->Prop):D->Prop
 |.bool b=>(b=true->K (.d (.bool true)) .none)/\(b=false->K (.d (.bool false)) .none)
 |r=>K (up r) .none
theorem j8 {K:AV->Bw->Prop} {b}:kB K (.bool b)=((b=true->K (.d (.bool true)) .none)/\(b=false->K (.d (.bool false)) .none)):=rfl
theorem nO {K:AV->Bw->Prop} {k n}:kB K (.int k n)=K (.d (.int k n)) .none:=rfl
theorem j7 {K:AV->Bw->Prop} {n l}:kB K (.list n l)=K (.d (.list n l)) .none:=rfl
theorem nP {K:AV->Bw->Prop} {l}:kB K (.agg l)=K (.d (.agg l)) .none:=rfl
theorem nN {K:AV->Bw->Prop} {l}:kB K (.tup l)=K (.tup (l.map .d)) .none:=rfl
theorem pA {K:AV->Bw->Prop} {f l}:kB K (.fn f l)=K (.d (.fn f l)) .none:=rfl
theorem AE {E:Cr}{dst:Option Nat}{V:AL}{K:AV->Bw->Prop}{f:FuncId}{xs:List AV}{ds:List D}{r:D}(h:CD E f ds r) (hk:kB K r)
  (ha:Fz xs=some ds\/(Wt V xs=some ds/\r.flat=true):=by first|exact .inl rfl|exact .inr ⟨rfl,rfl⟩):EE E dst V f xs K:=by
 have hu:K (up r) .none:=by
  cases r with
  |bool b=>cases b with
   |true=>exact hk.1 rfl
   |false=>exact hk.2 rfl
  |_=>exact hk
 exact ha.elim (fun h1=>Hi h h1 hu) fun h1=>oK h h1.1 h1.2 hu
theorem aI {a b:Prop}(h:a) (k:b):a/\b:=⟨h,k⟩
theorem tI:True:=⟨⟩
theorem Bn {z:Nat}{K:AV->Bw->Prop}{r r':D}(hz:Iq=z) (h:r=r'):kB K r=kB K r':=by rw[h]
theorem isCall {E:Cr}{dst:Option Nat}{V:AL}{K:AV->Bw->Prop}{f:FuncId}{xs:List AV}(h:EE E dst V f xs K):EE E dst V f xs K:=h
theorem A1 {α:Type}{S:Ba}{T:α->Ba}{I M:α->Prop}(h:∃y,S=T y/\I y/\M y):∃y,S=T y/\I y/\M y:=h
theorem Ab {α β:Type}{S:Ba}{T:α×β->Ba}{I M:α×β->Prop}(h:∃y,S=T y/\I y/\M y):∃y,S=T y/\I y/\M y:=h
theorem BS {α β γ:Type}{S:Ba}{T:α×β×γ->Ba}{I M:α×β×γ->Prop}(h:∃y,S=T y/\I y/\M y):∃y,S=T y/\I y/\M y:=h
theorem Cc {α β γ δ:Type}{S:Ba}{T:α×β×γ×δ->Ba}{I M:α×β×γ×δ->Prop}(h:∃y,S=T y/\I y/\M y):∃y,S=T y/\I y/\M y:=h
theorem nH {m k a}:Fs m k a []=some a:=rfl
theorem nJ {k:IntKind}{a b:Int} {rest}:Fs true k a (.d (.int k b)::rest)=Fs true k (max a b) rest:=by
 simp only[Fs,if_true,jr];congr 1;omega
theorem nI {k:IntKind}{a b:Int} {rest}:Fs false k a (.d (.int k b)::rest)=Fs false k (min a b) rest:=by
 simp only[Fs,if_true,jq,Bool.false_eq_true,if_false];congr 1;omega
theorem Zw {α:Type}(xs:List α) (a:Nat):(xs.drop a).take (xs.length-a)=xs.drop a:=List.take_of_length_le (by simp)
theorem Z0 (n:Nat):n-0=n:=rfl
def qg (a b:List D):Prop:=FJ a b=true
section
variable {E:Cr}{dst:Option Nat}{V:AL}{K:AV->Bw->Prop}
end
def qv (E:Cr) (p:PC) (Q:B9->Ba->Prop) (s:Ba):Prop:=∃e s',Q e s'/\∀Q':B9->Ba->Prop,Q' e s'->pw E p Q' s
attribute [go_sem] oA jI jM mu d7 mr jN d8 jK mt TW XL Zv SV Yr Wp X_ V8 fM fN kO pH fO fS fQ kQ YE fP kP YD fU ng fK jS eC fJ kN pG bE jR jQ fL jT am jW jV da aH db Xa aJ mn mo a6 Xx gd pT fh pn od iX mN mM iV iW iY mO oc mL iZ dI nh kR nk pI kT fc ff bJ fe bH YF kS bI nj fY kU fg np fZ c_ dA List.flatMap_cons List.flatMap_nil Z9 XU Z_ dP Yp jh Su jG aY ao jX VA iU kI kJ kH d9 d_ gb gc cJ lI j6 eM Lp ej Xy a7 nZ cw iO cv kl Xz Vx eI eJ Xk oz ap jd jc eK eN nA eO aq jw ou jU m8 gJ bp bo gI oI ku oH kw kq kr oG pP pO mI iT oa a8 X0 mJ lL pW oO pV ef p8 pS lG bM YK bN YL cE Yn mH iP mG nz kc n_ ny WM UK UL bS UG P3 UN SM YX ke YW n9 kf YY kg UH YP UM SL RI WQ YV gC UJ YQ WL UI YR YS YT WI WJ WO WN gD Xo Vk bQ kd ka WK f8 bP bO WP YO SK n8 me md mc YU bU bT bV gA bR Ya Yb bW Yc WR YZ mw my lE k9 k_ lB lC lD aj bm bZ bf bd bc bb ba bl gE bX Vj T3 Xm Xn Zw Z0 nH nJ nI Yj M6 LN T9 B7 bB a_ e_ bA ez e9 X3 a9 cy Zr Vl Mj dr dt Vc o7 o6 bw kp bv fG bC fD fE X4 kC fA du aP mj ml il ik ij mS io im Z8 mR mT mZ i8 ol mY ii al oY oZ List.map_cons List.map_nil List.zipIdx_cons List.zipIdx_nil List.zip_cons_cons List.zip_nil_left List.length_cons List.length_nil List.getElem?_cons_zero List.getElem?_cons_succ List.drop_zero List.drop_succ_cons List.take_succ_cons List.take_zero List.take_nil List.drop_nil List.contains_cons List.contains_nil List.filter_cons List.filter_nil List.all_cons List.all_nil List.cons_append List.nil_append List.append_nil List.set_cons_zero List.set_cons_succ Z2 List.replicate_succ List.replicate_zero List.isEmpty_cons List.isEmpty_nil List.length_map id_eq Nat.lt_irrefl Nat.zero_add Nat.add_zero Nat.zero_mul Nat.one_mul Nat.mul_one if_true if_false Bool.false_eq_true Bool.not_true Bool.not_false Bool.true_or Bool.false_or Bool.or_true Bool.or_false Bool.true_and Bool.false_and Bool.and_true Bool.and_false beq_self_eq_true Bool.and_self Bool.or_self true_and and_true false_and and_false ite_self exists_prop_of_true exists_prop not_false_eq_true not_true_eq_false forall_const eq_self and_self true_implies false_implies implies_true ne_eq List.cons_ne_nil Nat.le_refl Nat.not_lt_zero dY aG dW aE aF XY aB XX Int.toNat_natCast Int.toNat_zero gV nM mq cm Vm cH XG Ux cK Wz iI nF jk Vs ji Vr aw O2 o4 ak py nG ae T0 aA XW Vb aN j8 nO j7 nP nN pA
attribute [go_sem_proc] Nat.reduceAdd Nat.reduceSub Nat.reduceMul Nat.reduceEqDiff Nat.reduceBEq Nat.reduceLeDiff Nat.reduceLT Int.reduceToNat Int.reduceLE Int.reduceLT Int.reduceNeg reduceIte reduceCtorEq Int.reduceEq Int.reduceAdd Int.reduceSub Int.reduceMul
end Go.Pw
