/- A part of the proof. -/
import Derived.Test.YtibkjeolahobbaaGreatDoorPkZa
import Derived.IntWalk
set_option linter.all false
namespace Go.Pw
def I6:Nat:=0
theorem pk:I6=0:=Eq.symm (Eq.symm rfl)
def LX (v:AV) (b:Bool) (A B:Prop):Prop :=
 match v with
 |.d (.bool b')=>Hv (b == b') A B
 |.tup []=>B
 |_=>False
def Xg (v:AV) (t:Nat) (sl:Nat->AV) (V:AN) (KS:Bd->Prop):Prop :=
 match v with
 |.own o g=>IV (V.get o g) fun _ _ nl l=>KS ⟨CU sl t (.d (.list nl l)),V.drop o⟩
 |_=>KS ⟨sl,V⟩
def dL (v:AV) (t:Nat) (sl:Nat->AV) (V:AN) (KS:Bd->Prop):Prop :=
 match v with
 |.ptr o g 0=>HO (V.get o g) fun xs=>BW (BV AV.toD1 xs) fun cs=>cs≠[]/\KS ⟨CU sl t (.d (.ptr cs)),V.drop o⟩
 |_=>KS ⟨sl,V⟩
def rB (y:Option Am) (o g:Nat) (sl:Nat->AV) (V:AN) (KS:Bd->Prop):Prop :=
 match y with
 |some (.rowH ety l i q p)=>IV (V.get q p) fun _ _ nl xs=>KS ⟨sl,(V.drop q).app (.keep o g (.row ety 1 false (l.set i (.list nl xs))))⟩
 |_=>KS ⟨sl,V⟩
def r6 (v:AV) (sl:Nat->AV) (V:AN) (KS:Bd->Prop):Prop :=
 match v with
 |.own o g=>rB (V.get o g) o g sl V KS
 |_=>KS ⟨sl,V⟩
def h_ (v:AV) (t:Nat) (sl:Nat->AV) (V:AN) (KS:Bd->Prop):Prop :=
 match v with
 |.mref .out o g=>FI (V.get o g) fun _ _ nl ix rows=>KS ⟨CU sl t (.d (.list nl (Il ix rows))),V.drop o⟩
 |_=>KS ⟨sl,V⟩
def iE (x:Option Am) (t o:Nat) (sl:Nat->AV) (V:AN) (KS:Bd->Prop):Prop :=
 match x with
 |some (.cells (c::l))=>KS ⟨CU sl t (.ablk false (c::l) 0),V.drop o⟩
 |_=>False
def iC (v:AV) (t:Nat) (sl:Nat->AV) (V:AN) (KS:Bd->Prop):Prop :=
 match v with
 |.ptr o g 0=>iE (V.get o g) t o sl V KS
 |_=>KS ⟨sl,V⟩
def Xh (x:Option AV) (b g k:Nat) (xs:List AV) (sl:Nat->AV) (V:AN) (KS:Bd->Prop):Prop :=
 match x with
 |some (.own o p)=>IV (V.get o p) fun _ _ nl l=>KS ⟨sl,(V.drop o).app (.keep b g (.cells (xs.set k (.d (.list nl l)))))⟩
 |_=>KS ⟨sl,V⟩
def dM (v:AV) (off:Nat) (sl:Nat->AV) (V:AN) (KS:Bd->Prop):Prop :=
 match v with
 |.ptr b g f=>(match V.get b g with
  |some (.cells xs)=>Xh xs[f+off]? b g (f+off) xs sl V KS
  |_=>KS ⟨sl,V⟩)
 |_=>KS ⟨sl,V⟩
def iB (y:Option Am) (b g k:Nat) (sl:Nat->AV) (V:AN) (KS:Bd->Prop):Prop :=
 match y with
 |some (.cells xs)=>Xh xs[k]? b g k xs sl V KS
 |_=>KS ⟨sl,V⟩
def fw (v:AV) (t o e1 e2:Nat) (sl:Nat->AV) (V:AN) (KS:Bd->Prop):Prop :=
 match v with
 |.d (.list true [])=>o<EF/\KS ⟨CU sl t (.mref .out o (V.cn o)),V.app (.fresh o (.mat e1 e2 true [] []))⟩
 |_=>KS ⟨sl,V⟩
def fu (v:AV) (t o ety es:Nat) (sl:Nat->AV) (V:AN) (KS:Bd->Prop):Prop :=
 match v with
 |.d (.list true [])=>o<EF/\KS ⟨CU sl t (.own o (V.cn o)),V.app (.fresh o (.row ety es true []))⟩
 |_=>KS ⟨sl,V⟩
def ZI (x:Option AV) (b g k o ety es:Nat) (xs:List AV) (sl:Nat->AV) (V:AN) (KS:Bd->Prop):Prop :=
 match x with
 |some (.d (.list true []))=>o<EF/\o≠b/\KS ⟨sl,(V.app (.fresh o (.row ety es true []))).app (.keep b g (.cells (xs.set k (.own o (V.cn o)))))⟩
 |_=>KS ⟨sl,V⟩
def cr (y:Option Am) (b g k o ety es:Nat) (sl:Nat->AV) (V:AN) (KS:Bd->Prop):Prop :=
 match y with
 |some (.cells xs)=>ZI xs[k]? b g k o ety es xs sl V KS
 |_=>KS ⟨sl,V⟩
def fx (v:AV) (off o ety es:Nat) (sl:Nat->AV) (V:AN) (KS:Bd->Prop):Prop :=
 match v with
 |.ptr b g f=>cr (V.get b g) b g (f+off) o ety es sl V KS
 |_=>KS ⟨sl,V⟩
section
variable {E:Cn}{Q:B_->Bd->Prop}{s s':Bd}{K:AV->B3->Prop}{KS:Bd->Prop}
theorem Bm {z:Nat}{p:PC}(hz:I6=z) (h:s=s'):pw E p Q s=pw E p Q s':=by rw[h]
theorem A' {z:Nat}{l:List E7}(hz:I6=z) (h:s=s'):K_ E l s KS=K_ E l s' KS:=by rw[h]
theorem Au {z:Nat}{I:E7}(hz:I6=z) (h:s=s'):Eb E I s K=Eb E I s' K:=by rw[h]
theorem Bn {z:Nat}{dst:Option Nat}{op:CE}{V V':AN}{xs xs':List AV}(hz:I6=z) (hV:V=V') (h:xs=xs'):ev E dst V op xs K=ev E dst V' op xs' K:=by rw[h,hV]
theorem Az {z:Nat}{b:BinOp}{k k' k1 k2:IntKind}{x y x' y':Int}{C:AV->Prop}(hz:I6=z) (h1:k=k1) (h2:k'=k2) (hx:x=x') (hy:y=y'):DP b k k' x y C=DP b k1 k2 x' y' C:=by rw[h1,h2,hx,hy]
theorem A1 {z:Nat}{c c':Bool}{A B:Prop}(hz:I6=z) (h:c=c'):Hv c A B=Hv c' A B:=by rw[h]
theorem A0 {z:Nat}{v v':AV}{A B:Prop}(hz:I6=z) (h:v=v'):S5 v A B=S5 v' A B:=by rw[h]
theorem Ar {z:Nat}{e e':B_}{A:Bd->Prop}(hz:I6=z) (he:e=e') (h:s=s'):K5 A Q e s=K5 A Q e' s':=by rw[he,h]
theorem Al {z:Nat}{i:Nat}{e e':B_}(hz:I6=z) (he:e=e') (h:s=s'):KC i Q e s=KC i Q e' s':=by rw[he,h]
theorem Af {α:Type}{z:Nat}{x y:Option α}{A:α->Prop}(hz:I6=z) (h:x=y):BW x A=BW y A:=by rw[h]
theorem Aa {z:Nat}{x y:Option Am} {A} (hz:I6=z) (h:x=y):HO x A=HO y A:=by rw[h]
theorem Aw {z:Nat}{x y:Option Am} {A} (hz:I6=z) (h:x=y):IV x A=IV y A:=by rw[h]
theorem Aj {z:Nat}{gs:List Eu}(hz:I6=z) (h:s=s'):Ce gs s KS=Ce gs s' KS:=by rw[h]
theorem Ay {z:Nat}{g:Eu}(hz:I6=z) (h:s=s'):Er g s KS=Er g s' KS:=by rw[h]
theorem Ak {z:Nat}{dst:Option Nat}{V V':AN}{f:FuncId}{xs xs':List AV}(hz:I6=z) (hV:V=V') (h:xs=xs'):D3 E dst V f xs K=D3 E dst V' f xs' K:=by rw[h,hV]
theorem BE {z:Nat}{α:Type}{ag:Bool}{n n':Nat}{cs cs':List α}{off off':Nat}{mk:List α->AV}{one:α->AV}{C:AV->Prop}(hz:I6=z) (hn:n=n') (h:cs=cs') (ho:off=off'):B8 ag n cs off mk one C=B8 ag n' cs' off' mk one C:=by rw[hn,h,ho]
theorem BX {z:Nat}{lo hi:Bool}{n n':Nat}{xs xs':List AV}{C:Nat->Nat->Prop}(hz:I6=z) (hn:n=n') (h:xs=xs'):NT lo hi n xs C=NT lo hi n' xs' C:=by rw[hn,h]
theorem Ai {z:Nat}{v v':AV}{b:Bool}{A B:Prop}(hz:I6=z) (h:v=v'):LX v b A B=LX v' b A B:=by rw[h]
theorem BK {z:Nat}{v v':AV}{t:Nat}{sl:Nat->AV}{V:AN}(hz:I6=z) (h:v=v'):Xg v t sl V KS=Xg v' t sl V KS:=by rw[h]
theorem BF {z:Nat}{v v':AV}{t o ety es:Nat}{sl:Nat->AV}{V:AN}(hz:I6=z) (h:v=v'):fu v t o ety es sl V KS=fu v' t o ety es sl V KS:=by rw[h]
theorem BC {z:Nat}{rs:List RT}{K:List AV->Prop}(hz:I6=z) (h:s=s'):G1 E s rs K=G1 E s' rs K:=by rw[h]
theorem BD {z:Nat}{r:RT}{K:AV->Prop}(hz:I6=z) (h:s=s'):Y7 E s r K=Y7 E s' r K:=by rw[h]
theorem A_ {z:Nat}{y y':AV}{xs xs':List AV}{V V':AN}(hz:I6=z) (h1:y=y') (h2:xs=xs') (h3:V=V'):TZ y xs V K=TZ y' xs' V' K:=by rw[h1,h2,h3]
theorem BB {z:Nat}{α:Type}{T:α->AN} {Inv PInv m gs ks os sl e e'} (hz:I6=z) (he:e=e') (h:s=s'):cO T Inv PInv m gs ks os sl e s=cO T Inv PInv m gs ks os sl e' s':=by rw[he,h]
theorem Av {z:Nat}{A:Bd->Prop} {e e'} (hz:I6=z) (he:e=e') (h:s=s'):Qf A e s=Qf A e' s':=by rw[he,h]
theorem Ah {z:Nat}{x y:Option Am} {A} (hz:I6=z) (h:x=y):SQ x A=SQ y A:=by rw[h]
theorem AK {b:Bool}{A B:Prop}(h1:b=true->A) (h2:b=false->B):Hv b A B:=⟨h1,h2⟩
theorem jy {d t b op xs} {sl:Nat->AV}{V:AN}:Eb E ⟨d,some (t,b),op,xs⟩ ⟨sl,V⟩ K=LX (sl t) b (ev E d V op (xs.map (Kj.val sl)) K) (K (.tup []) .none):=rfl
theorem lY {b:Bool}{A B:Prop}:LX (.d (.bool b)) true A B=Hv b A B:=by simp[LX]
theorem lZ {b:Bool}{A B:Prop}:LX (.d (.bool b)) false A B=Hv b B A:=by cases b<;>simp[LX]
theorem lX {b:Bool}{A B:Prop}:LX (.tup []) b A B=B:=rfl
theorem gv {t:Nat}{sl:Nat->AV}{V:AN}:Er (.freeze t) ⟨sl,V⟩ KS=Xg (sl t) t sl V KS:=by
 simp only[Er,Xg]
 cases sl t with
 |own o g=>simp only;cases V.get o g with
  |none=>rfl
  |some x=>cases x<;>rfl
 |_=>rfl
theorem lf {t o g:Nat}{sl:Nat->AV}{V:AN}:Xg (.own o g) t sl V KS=IV (V.get o g) fun _ _ nl l=>KS ⟨CU sl t (.d (.list nl l)),V.drop o⟩:=rfl
theorem qU {t:Nat}{x:D}{sl:Nat->AV}{V:AN}:Xg (.d x) t sl V KS=KS ⟨sl,V⟩:=rfl
theorem pT {t:Nat}{x:List D}{sl:Nat->AV}{V:AN}:Xg (.ex x) t sl V KS=KS ⟨sl,V⟩:=rfl
theorem dK {t:Nat}{sl:Nat->AV}{V:AN}:Xg .undef t sl V KS=KS ⟨sl,V⟩:=rfl
theorem gw {t:Nat}{sl:Nat->AV}{V:AN}:Er (.frzP t) ⟨sl,V⟩ KS=dL (sl t) t sl V KS:=by
 simp only[Er,dL]
 cases sl t with
 |ptr o g f =>
  cases f with
  |zero =>
   simp only;cases V.get o g with
   |none=>rfl
   |some x =>
    cases x with
    |cells xs =>
     simp only[HO]
     cases BV AV.toD1 xs with
     |none=>rfl
     |some l=>cases l<;>simp[BW]
    |_=>rfl
  |succ n=>rfl
 |_=>rfl
theorem lh {t o g:Nat}{sl:Nat->AV}{V:AN}:dL (.ptr o g 0) t sl V KS=HO (V.get o g) fun xs=>BW (BV AV.toD1 xs) fun cs=>cs≠[]/\KS ⟨CU sl t (.d (.ptr cs)),V.drop o⟩:=rfl
theorem qV {t:Nat}{x:D}{sl:Nat->AV}{V:AN}:dL (.d x) t sl V KS=KS ⟨sl,V⟩:=rfl
theorem BL {z:Nat}{v v':AV}{t:Nat}{sl:Nat->AV}{V:AN}(hz:I6=z) (h:v=v'):dL v t sl V KS=dL v' t sl V KS:=by rw[h]
theorem Ag {z:Nat}{x y:Option Am} {A B} (hz:I6=z) (h:x=y):NZ x A B=NZ y A B:=by rw[h]
theorem gq {t o ety es:Nat}{sl:Nat->AV}{V:AN}:Er (.own t o ety es) ⟨sl,V⟩ KS=fu (sl t) t o ety es sl V KS:=rfl
theorem gu {t off o ety es:Nat}{sl:Nat->AV}{V:AN}:Er (.ownC t off o ety es) ⟨sl,V⟩ KS=fx (sl t) off o ety es sl V KS:=by
 simp only[Er,fx]
 cases sl t with
 |ptr b g f =>
  simp only[cr]
  cases V.get b g with
  |none=>rfl
  |some x =>
   cases x with
   |cells xs=>simp only[ZI];rfl
   |_=>rfl
 |_=>rfl
theorem kl {b g f off o ety es:Nat}{sl:Nat->AV}{V:AN}:fx (.ptr b g f) off o ety es sl V KS=cr (V.get b g) b g (f+off) o ety es sl V KS:=rfl
theorem cq {b g k o ety es:Nat}{xs:List AV}{sl:Nat->AV}{V:AN}:cr (some (.cells xs)) b g k o ety es sl V KS=ZI xs[k]? b g k o ety es xs sl V KS:=rfl
theorem kp {b g k o ety es:Nat}{xs:List AV}{sl:Nat->AV}{V:AN}:ZI (some (.d (.list true []))) b g k o ety es xs sl V KS=(o<EF/\o≠b/\KS ⟨sl,(V.app (.fresh o (.row ety es true []))).app (.keep b g (.cells (xs.set k (.own o (V.cn o)))))⟩):=rfl
theorem ko {b g k o ety es o' g':Nat}{xs:List AV}{sl:Nat->AV}{V:AN}:ZI (some (.own o' g')) b g k o ety es xs sl V KS=KS ⟨sl,V⟩:=rfl
theorem BH {z:Nat}{v v':AV}{off o ety es:Nat}{sl:Nat->AV}{V:AN}(hz:I6=z) (h:v=v'):fx v off o ety es sl V KS=fx v' off o ety es sl V KS:=by rw[h]
theorem BJ {z:Nat}{y y':Option Am}{b g k k' o ety es:Nat}{sl:Nat->AV}{V:AN}(hz:I6=z) (h:y=y') (hk:k=k'):cr y b g k o ety es sl V KS=cr y' b g k' o ety es sl V KS:=by rw[h,hk]
theorem BI {z:Nat}{y y':Option AV}{b g k o ety es:Nat}{xs:List AV}{sl:Nat->AV}{V:AN}(hz:I6=z) (h:y=y'):ZI y b g k o ety es xs sl V KS=ZI y' b g k o ety es xs sl V KS:=by rw[h]
theorem gx {t:Nat}{sl:Nat->AV}{V:AN}:Er (.frzM t) ⟨sl,V⟩ KS=h_ (sl t) t sl V KS:=by
 simp only[Er,h_]
 cases sl t with
 |mref k o g =>
  cases k with
  |out=>simp only;cases V.get o g with
   |none=>rfl
   |some x=>cases x<;>rfl
  |_=>rfl
 |_=>rfl
theorem hC {t o g:Nat}{sl:Nat->AV}{V:AN}:h_ (.mref .out o g) t sl V KS=FI (V.get o g) fun _ _ nl ix rows=>KS ⟨CU sl t (.d (.list nl (Il ix rows))),V.drop o⟩:=rfl
theorem BM {z:Nat}{v v':AV}{t:Nat}{sl:Nat->AV}{V:AN}(hz:I6=z) (h:v=v'):h_ v t sl V KS=h_ v' t sl V KS:=by rw[h]
theorem g6 {t:Nat}{sl:Nat->AV}{V:AN}:Er (.frzA t) ⟨sl,V⟩ KS=iC (sl t) t sl V KS:=by
 simp only[Er,iC]
 cases sl t with
 |ptr o g f =>
  cases f with
  |zero=>rfl
  |succ n=>rfl
 |_=>rfl
theorem ll {t o g:Nat}{sl:Nat->AV}{V:AN}:iC (.ptr o g 0) t sl V KS=iE (V.get o g) t o sl V KS:=rfl
theorem Zh {t o:Nat}{c:AV}{l:List AV}{sl:Nat->AV}{V:AN}:iE (some (.cells (c::l))) t o sl V KS=KS ⟨CU sl t (.ablk false (c::l) 0),V.drop o⟩:=rfl
theorem BQ {z:Nat}{v v':AV}{t:Nat}{sl:Nat->AV}{V:AN}(hz:I6=z) (h:v=v'):iC v t sl V KS=iC v' t sl V KS:=by rw[h]
theorem BR {z:Nat}{y y':Option Am}{t o:Nat}{sl:Nat->AV}{V:AN}(hz:I6=z) (h:y=y'):iE y t o sl V KS=iE y' t o sl V KS:=by rw[h]
theorem gy {t off:Nat}{sl:Nat->AV}{V:AN}:Er (.frzC t off) ⟨sl,V⟩ KS=dM (sl t) off sl V KS:=by
 simp only[Er,dM]
 cases sl t with
 |ptr b g f =>
  simp only
  cases V.get b g with
  |none=>rfl
  |some x =>
   cases x with
   |cells xs =>
    simp only[Xh]
    cases xs[f+off]? with
    |none=>rfl
    |some y =>
     cases y with
     |own o p=>simp only;cases V.get o p with
      |none=>rfl
      |some z=>cases z<;>rfl
     |_=>rfl
   |_=>rfl
 |_=>rfl
theorem lj {b g f off:Nat}{sl:Nat->AV}{V:AN}:dM (.ptr b g f) off sl V KS=iB (V.get b g) b g (f+off) sl V KS:=by
 simp only[dM,iB]
theorem Zg {b g k:Nat}{xs:List AV}{sl:Nat->AV}{V:AN}:iB (some (.cells xs)) b g k sl V KS=Xh xs[k]? b g k xs sl V KS:=rfl
theorem iA {b g k o p:Nat}{xs:List AV}{sl:Nat->AV}{V:AN}:Xh (some (.own o p)) b g k xs sl V KS=IV (V.get o p) fun _ _ nl l=>KS ⟨sl,(V.drop o).app (.keep b g (.cells (xs.set k (.d (.list nl l)))))⟩:=rfl
theorem pU {b g k:Nat}{x:D}{xs:List AV}{sl:Nat->AV}{V:AN}:Xh (some (.d x)) b g k xs sl V KS=KS ⟨sl,V⟩:=rfl
theorem BO {z:Nat}{v v':AV}{off:Nat}{sl:Nat->AV}{V:AN}(hz:I6=z) (h:v=v'):dM v off sl V KS=dM v' off sl V KS:=by rw[h]
theorem BP {z:Nat}{y y':Option Am}{b g k k':Nat}{sl:Nat->AV}{V:AN}(hz:I6=z) (h:y=y') (hk:k=k'):iB y b g k sl V KS=iB y' b g k' sl V KS:=by rw[h,hk]
theorem BN {z:Nat}{y y':Option AV}{b g k:Nat}{xs:List AV}{sl:Nat->AV}{V:AN}(hz:I6=z) (h:y=y'):Xh y b g k xs sl V KS=Xh y' b g k xs sl V KS:=by rw[h]
theorem gt {t o e1 e2:Nat}{sl:Nat->AV}{V:AN}:Er (.ownM t o e1 e2) ⟨sl,V⟩ KS=fw (sl t) t o e1 e2 sl V KS:=rfl
theorem kj {t o e1 e2:Nat}{sl:Nat->AV}{V:AN}:fw (.d (.list true [])) t o e1 e2 sl V KS=(o<EF/\KS ⟨CU sl t (.mref .out o (V.cn o)),V.app (.fresh o (.mat e1 e2 true [] []))⟩):=rfl
theorem fv {t o e1 e2:Nat} {k o' g} {sl:Nat->AV}{V:AN}:fw (.mref k o' g) t o e1 e2 sl V KS=KS ⟨sl,V⟩:=rfl
theorem BG {z:Nat}{v v':AV}{t o e1 e2:Nat}{sl:Nat->AV}{V:AN}(hz:I6=z) (h:v=v'):fw v t o e1 e2 sl V KS=fw v' t o e1 e2 sl V KS:=by rw[h]
theorem Ax {z:Nat}{x y:Option Am} {A} (hz:I6=z) (h:x=y):FI x A=FI y A:=by rw[h]
theorem ki {t o ety es:Nat}{sl:Nat->AV}{V:AN}:fu (.d (.list true [])) t o ety es sl V KS=(o<EF/\KS ⟨CU sl t (.own o (V.cn o)),V.app (.fresh o (.row ety es true []))⟩):=rfl
theorem kh {t o ety es o' g:Nat}{sl:Nat->AV}{V:AN}:fu (.own o' g) t o ety es sl V KS=KS ⟨sl,V⟩:=rfl
end
theorem jq {α:Type}(f:Nat->α) (i:Nat) (x:α) (j:Nat):CU f i x j=if j=i then x else f j:=rfl
theorem ef (f:Nat->Nat) (i x y:Nat):CU (CU f i x) i y=CU f i y:=by funext j;simp only[CU];split<;>rfl
theorem qK {x:D}:(AV.d x).one=x.one:=rfl
theorem kn {o g}:(AV.own o g).one=true:=rfl
theorem o6 {f c}:(AV.fn f c).one=true:=rfl
theorem iw {k n}:(D.int k n).one=true:=rfl
theorem d6 {b}:(D.bool b).one=true:=rfl
theorem d5 {n l}:(D.list n l).one=true:=rfl
theorem iu {l}:(D.ptr l).one=true:=rfl
theorem pr {c}:(AV.agg c).cells?=some c:=rfl
theorem mU {c}:(AV.d (.agg c)).cells?=some (c.map .d):=rfl
theorem pp {k n}:(AV.d (.int k n)).cells?=some [.d (.int k n)]:=rfl
theorem mV {b}:(AV.d (.bool b)).cells?=some [.d (.bool b)]:=rfl
theorem mS {n l}:(AV.d (.list n l)).cells?=some [.d (.list n l)]:=rfl
theorem mT {l}:(AV.d (.ptr l)).cells?=some [.d (.ptr l)]:=rfl
theorem po {o g}:(AV.own o g).cells?=some [.own o g]:=rfl
theorem qd {l}:(AV.ex l).cells?=some [.ex l]:=rfl
theorem qc {f c}:(AV.fn f c).cells?=some [.fn f c]:=rfl
theorem ny {k n}:AV.toD1 (.d (.int k n))=some (.int k n):=rfl
theorem jv {n l}:AV.toD1 (.d (.list n l))=some (.list n l):=rfl
theorem p9 {l}:AV.toD1 (.ex l)=some (.list false l):=rfl
theorem dA {α β:Type}{f:α->Option β}:BV f []=some []:=rfl
theorem ZT {α β:Type}{f:α->Option β}{x:α}{xs:List α}:BV f (x::xs)=match f x with
 |none=>none
 |some y=>match BV f xs with|none=>none|some ys=>some (y::ys):=rfl
theorem nz {cs}:AV.toD1 (.agg cs)=match BV AV.toD0 cs with|some l=>some (.agg l)|none=>none:=rfl
theorem mr {V:AN} {n l}:(AV.d (.list n l)).asList V=some (n,l):=rfl
theorem qo {V:AN} {l}:(AV.ex l).asList V=some (false,l):=rfl
theorem px {V:AN} {o g}:(AV.own o g).asList V=match V.get o g with|some (.row _ _ nil xs)=>some (nil,xs)|_=>none:=rfl
theorem qn {V:AN} {o g}:(AV.mref .out o g).asList V=match V.get o g with|some (.mat _ _ nil ix rows)=>some (nil,Il ix rows)|_=>none:=rfl
theorem gK {ix rows}:(Il ix rows).length=ix.length:=by simp[Il]
theorem rM {V:AN} {x}:ED V none (.d x)=match (AV.d x).asList V with|some (_,ys)=>some ys|none=>none:=rfl
theorem qh {V:AN} {x}:ED V none (.ex x)=match (AV.ex x).asList V with|some (_,ys)=>some ys|none=>none:=rfl
theorem mj {V:AN} {z n}:ED V (some z) (.d (.int .i64 n))=if 0<=n/\n<=(C4:Int) then some (List.replicate n.toNat z) else none:=rfl
theorem dS {es xs}:GL es xs []=some xs:=rfl
theorem Zn {es xs i v rest}:GL es xs ((i,v)::rest)=match v.toD1 with
 |none=>none
 |some x=>if x.cells.length=es/\i<xs.length then GL es (xs.set i x) rest else none:=rfl
theorem dT {cs}:M9 cs []=some cs:=rfl
theorem Zo {cs off size v rest}:M9 cs (((off,size),v)::rest)=match v.cells? with
 |none=>none
 |some vs=>if vs.length=size/\off+size<=cs.length then M9 (Bo cs off vs) rest else none:=rfl
theorem eH {k n}:(D.int k n).cells=[.int k n]:=rfl
theorem Z' {n l}:(D.list n l).cells=[.list n l]:=rfl
theorem nq {k n}:up (.int k n)=.d (.int k n):=rfl
theorem jr {b}:up (.bool b)=.d (.bool b):=rfl
theorem np {l}:up (.tup l)=.tup (l.map .d):=rfl
theorem bq:B3.site .none=[]:=rfl
theorem ez {a b}:B3.site (.seq a b)=a.site++b.site:=rfl
theorem Yy {o x}:B3.site (.fresh o x)=[o]:=rfl
theorem br {o g x}:B3.site (.keep o g x)=[o]:=rfl
def Ab (xs:List Int):List D:=xs.map (D.int .i64)
@[simp] theorem qT:Ab []=[]:=rfl
theorem VY (xs:List Int):(Ab xs=[])=(xs=[]):=by cases xs<;>simp[Ab]
theorem B4 (xs:List Int):(Ab xs).length=xs.length:=by simp[Ab]
theorem dG (xs:List Int) (n:Nat):(Ab xs).drop n=Ab (xs.drop n):=by simp[Ab]
theorem dE (xs:List Int) (n:Nat):(Ab xs).take n=Ab (xs.take n):=by simp[Ab]
theorem gZ (xs ys:List Int):Ab xs++Ab ys=Ab (xs++ys):=by simp[Ab]
theorem dF (xs:List Int) (y:Int):Ab xs++[.int .i64 y]=Ab (xs++[y]):=by simp[Ab]
theorem gX (xs:List Int) (i:Nat) (y:Int):(Ab xs).set i (.int .i64 y)=Ab (xs.set i y):=by simp[Ab,List.map_set]
theorem gY (n:Nat) (y:Int):List.replicate n (D.int .i64 y)=Ab (List.replicate n y):=by simp[Ab]
theorem ZY (xs:List Int):(Ab xs).isEmpty=xs.isEmpty:=by cases xs<;>rfl
theorem dD (xs:List Int):C6 1 (Ab xs)=True:=by
 simp only[C6,Ab,eq_iff_iff,iff_true];intro x hx;simp at hx;obtain⟨n,_,rfl⟩:=hx;rfl
theorem eh {es:Nat}:C6 es []=True:=by simp[C6]
theorem bW {es:Nat}{x:D}{l:List D}:C6 es (x::l)=(x.cells.length=es/\C6 es l):=by simp[C6]
theorem WV {α:Type}{es:Nat}{f:α->D}{l:List α}(h:∀x,(f x).cells.length=es):C6 es (l.map f)=True:=by
 simp only[C6,eq_iff_iff,iff_true];intro x hx;simp at hx;obtain⟨y,_,rfl⟩:=hx;exact h y
theorem XI {xs:List Int}{i:Nat}{A:D->Prop}:BW (Ab xs)[i]? A=(i<xs.length/\A (.int .i64 (xs[i]?.getD 0))):=by
 unfold Ab
 rw[List.getElem?_map]
 by_cases h:i<xs.length
 ·simp[h,BW]
 ·have:xs[i]?=none:=List.getElem?_eq_none (by omega)
  simp[this,h,BW]
theorem NY {α:Type} [Inhabited α] {f:α->D}{xs:List α}{i:Nat}{A:D->Prop}:BW (xs.map f)[i]? A=(i<xs.length/\A (f (xs[i]?.getD default))):=by
 rw[List.getElem?_map]
 by_cases h:i<xs.length
 ·simp[h,BW]
 ·have:xs[i]?=none:=List.getElem?_eq_none (by omega)
  simp[this,h,BW]
theorem XH {xs:List Nat}{i:Nat}{A:Nat->Prop}:BW xs[i]? A=(i<xs.length/\A (xs[i]?.getD 0)):=by
 by_cases h:i<xs.length
 ·simp[h,BW]
 ·have:xs[i]?=none:=List.getElem?_eq_none (by omega)
  simp[this,h,BW]
def rY {α:Type}(f:α->D) (M:List (List α)):List (Bool×List D):=M.map fun r=>(false,r.map f)
section
variable {E:Cn}{dst:Option Nat}{V:AN}{K:AV->B3->Prop}{f:FuncId}{xs:List AV}
theorem Hy {ds:List D}{r:D}(h:CA E f ds r) (ha:FT xs=some ds) (hk:K (up r) .none):D3 E dst V f xs K:=.inl ⟨ds,r,ha,h,hk⟩
theorem pt {ds:List D}{r:D}(h:CA E f ds r) (ha:YN V xs=some ds) (hf:r.flat=true) (hk:K (up r) .none):D3 E dst V f xs K:=.inr (.inl ⟨ds,r,ha,h,hf,hk⟩)
end
section
variable {E:Cn}{Q:B_->Bd->Prop}{s:Bd}
def fH (l:List (Nat×AV)) (k:Nat) (v:AV):List (Nat×AV):=l.map fun p=>if p.1=k then (k,v) else p
def fF (l:List (Nat×(Nat×Am))) (k:Nat) (x:Am):List (Nat×(Nat×Am)):=l.map fun p=>if p.1=k then (k,(0,x)) else p
def QY (l:List (Nat×AV)):List (Nat×AV)->List (Nat×AV)
 |[]=>l
 |(k,v)::r=>fH (QY l r) k v
def QX (l:List (Nat×(Nat×Am))):List (Nat×Am)->List (Nat×(Nat×Am))
 |[]=>l
 |(k,v)::r=>fF (QX l r) k v
theorem fG {k:Nat}{v:AV}:fH [] k v=[]:=rfl
theorem b9 {a k:Nat}{b v:AV} {l}:fH ((a,b)::l) k v=(if a=k then (k,v) else (a,b))::fH l k v:=rfl
theorem fE {k:Nat}{v:Am}:fF [] k v=[]:=rfl
theorem bz {a k:Nat}{b:Nat×Am}{v:Am} {l}:fF ((a,b)::l) k v=(if a=k then (k,(0,v)) else (a,b))::fF l k v:=rfl
theorem b8 {l}:QY l []=l:=rfl
theorem Y1 {l k v r}:QY l ((k,v)::r)=fH (QY l r) k v:=rfl
theorem bw {l}:QX l []=l:=rfl
theorem Y0 {l k v r}:QX l ((k,v)::r)=fF (QX l r) k v:=rfl
theorem p7 {f:Nat->AV}{n:Nat}:Kj.val f (.t n)=f n:=rfl
theorem p8 {f:Nat->AV}{v:AV}:Kj.val f (.k v)=v:=rfl
theorem bj {α:Type}(cs:List α) (off:Nat) (vs:List α):Bo cs off vs=cs.take off++vs++cs.drop (off+vs.length):=rfl
theorem AX {α:Type}(up:α->List (Nat×AV)) (uo:α->List (Nat×Am)) (Inv:α->Prop) (μ:α->Nat) (x0:α) {gs:List Eu}{ks os:List Nat}{a:PC}
  {l0:List (Nat×AV)}{m0:List (Nat×(Nat×Am))}(h0:Ce gs s fun s1=>s1.nrm ks os=⟨E_ l0,⟨Be m0,fun _=>1⟩⟩)
  (he:QY l0 (up x0)=l0) (he':QX m0 (uo x0)=m0) (hI:Inv x0)
  (step:∀x,Inv x->pw E a (K5 (fun s'=>Ce gs s' fun s1=>∃y,s1.nrm ks os=⟨E_ (QY l0 (up y)),⟨Be (QX m0 (uo y)),fun _=>1⟩⟩/\Inv y/\μ y<μ x) Q) ⟨E_ (QY l0 (up x)),⟨Be (QX m0 (uo x)),fun _=>1⟩⟩) :
  pw E (.loop gs ks os a) Q s :=
 fh (fun x=>⟨E_ (QY l0 (up x)),⟨Be (QX m0 (uo x)),fun _=>1⟩⟩) Inv μ x0 (by rw[he,he'];exact h0) hI step
end
theorem AZ (n:Int) (h:-9223372036854775808<=n/\n<=9223372036854775807):IntKind.i64.wrap n=n:=Go.IntWalk.i64_in n h
theorem fV {E:Cn} {rs r s}:qG E rs r .ret s=G1 E s rs (QW s.V r):=rfl
theorem fY {E:Cn} {s K}:G1 E s [] K=K []:=rfl
theorem cP {E:Cn} {s r l K}:G1 E s (r::l) K=Y7 E s r fun v=>G1 E s l fun vs=>K (v::vs):=rfl
theorem oi {E:Cn} {s n K}:Y7 E s (.t n) K=K (s.sl n):=rfl
theorem ol {E:Cn} {s a ty ag n K}:Y7 E s (.c a ty ag n) K=ev E none s.V (.load ag n) [s.sl a] fun v _=>K v:=rfl
theorem kG {V r v}:QW V r [v]=(v.snap V=some r):=rfl
theorem kF {V r v u}:QW V r [v,u]=((BV (AV.snap V) [v,u]).map .tup=some r):=rfl
theorem kE {V r v u t}:QW V r [v,u,t]=((BV (AV.snap V) [v,u,t]).map .tup=some r):=rfl
theorem oJ {V k n}:AV.snap V (.d (.int k n))=some (.int k n):=rfl
theorem kI {V b}:AV.snap V (.d (.bool b))=some (.bool b):=rfl
theorem kH {V n l}:AV.snap V (.d (.list n l))=some (.list n l):=rfl
theorem bp {V}:AV.snap V (.d .nilptr)=some .nilptr:=rfl
theorem oI {V o g}:AV.snap V (.own o g)=match V.get o g with|some (.row _ _ nil xs)=>some (.list nil xs)|_=>none:=rfl
theorem oK {V cs}:AV.snap V (.agg cs)=match BV (AV.snap0 V) cs with|some l=>some (.agg l)|none=>none:=rfl
theorem oX {V k n}:AV.snap0 V (.d (.int k n))=some (.int k n):=rfl
theorem kS {V n l}:AV.snap0 V (.d (.list n l))=some (.list n l):=rfl
theorem qF {V l}:AV.snap0 V (.ex l)=some (.list false l):=rfl
theorem oW {V o g}:AV.snap0 V (.own o g)=match V.get o g with|some (.row _ _ nil xs)=>some (.list nil xs)|_=>none:=rfl
theorem kD {α:Type}{a b:α}:(some a=some b)=(a=b):=by simp
theorem co {α β:Type}{f:α->β}{a:α}:Option.map f (some a)=some (f a):=rfl
section
variable {k k':IntKind}{a b:Int}{C:AV->Prop}
theorem mg:DP .eql k k' a b C=(k=k'/\(a=b->C (.d (.bool true)))/\(¬a=b->C (.d (.bool false)))):=by
 rw[dw];by_cases h:a=b<;>simp[h]
theorem mZ:DP .neq k k' a b C=(k=k'/\(a=b->C (.d (.bool false)))/\(¬a=b->C (.d (.bool true)))):=by
 rw[dn];by_cases h:a=b<;>simp[h]
theorem mb:DP .lss k k' a b C=(k=k'/\(a<b->C (.d (.bool true)))/\(¬a<b->C (.d (.bool false)))):=by
 rw[dq];by_cases h:a<b<;>simp[h]
theorem md:DP .leq k k' a b C=(k=k'/\(a<=b->C (.d (.bool true)))/\(¬a<=b->C (.d (.bool false)))):=by
 rw[dr];by_cases h:a<=b<;>simp[h]
theorem me:DP .gtr k k' a b C=(k=k'/\(b<a->C (.d (.bool true)))/\(¬b<a->C (.d (.bool false)))):=by
 rw[dt];by_cases h:b<a<;>simp[h]
theorem mf:DP .geq k k' a b C=(k=k'/\(b<=a->C (.d (.bool true)))/\(¬b<=a->C (.d (.bool false)))):=by
 rw[du];by_cases h:b<=a<;>simp[h]
end
section
variable {E:Cn}{dst:Option Nat}{V:AN}{K:AV->B3->Prop}{f:FuncId}{xs:List AV}
theorem aA {ds:List D}{b:Bool}(h:CA E f ds (.bool b)) (ha:FT xs=some ds) (h1:b=true->K (.d (.bool true)) .none) (h2:b=false->K (.d (.bool false)) .none):D3 E dst V f xs K :=
 Hy h ha (by cases b with|true=>exact h1 rfl|false=>exact h2 rfl)
theorem cj {α:Type}{p:Prop} [Decidable p] {x:α}{A:α->Prop}:BW (if p then some x else none) A=(p/\A x):=by
 by_cases h:p<;>simp[h,BW]
end
section
variable {E:Cn}{K:Bd->Prop}
def LU (j:Nat):List (Nat×TX)->Option TX
 |[]=>none
 |(i,r)::l=>if j=i then some r else LU j l
def TJ (x:Option TX) (b:TX):Bool:=match x with|some r=>Lt r b|none=>false
def VL (need:List Nat) (i:Nat) (r:TX) (rec:List (Nat×TX)):List (Nat×TX):=if need.contains i then (i,r)::rec else rec
def Qy (E:Cn):Nat->List Nat->List (E7×List Nat)->List (Nat×TX)->Bd->(Bd->Prop)->Prop
 |_,_,[],_,s,K=>K s
 |i,need,(I,dy)::l,rec,s,K=>Eb E I s fun v ch =>
  (dy.all fun j=>TJ (LU j rec) (ch.site,Di I s))=true /\
  Qy E (i+1) need l (VL need i (ch.site,Di I s) rec) (put s I.dst v ch) K
theorem aX {need:List Nat}:∀{l:List (E7×List Nat)}{rec:List TX}{recE:List (Nat×TX)}{s:Bd},(∀j,j∈l.flatMap (·.2)->j∈need)->(∀j,j∈need->LU j recE=rec[j]?)->Tf E l rec s K=Qy E rec.length need l recE s K
 |[],_,_,_,_,_=>rfl
 |(I,dy)::l,rec,recE,s,hn,hr=>by
  simp only[Tf,Qy]
  congr 1
  funext v ch
  have h1:(dy.all fun j=>match rec[j]? with|some r=>Lt r (ch.site,Di I s)|none=>false)=(dy.all fun j=>TJ (LU j recE) (ch.site,Di I s)):=by
   rw[Bool.eq_iff_iff,List.all_eq_true,List.all_eq_true]
   have:∀j,j∈dy->(match rec[j]? with|some r=>Lt r (ch.site,Di I s)|none=>false)=TJ (LU j recE) (ch.site,Di I s):=fun j hj=>by
    rw[hr j (hn j (by simp[hj]))];rfl
   exact⟨fun h j hj=>by rw[←this j hj];exact h j hj,fun h j hj=>by rw[this j hj];exact h j hj⟩
  refine congr (congrArg And (congrArg (fun b=>b=true) h1)) ?_
  have h2:=aX (need:=need) (l:=l) (rec:=rec++[(ch.site,Di I s)]) (recE:=VL need rec.length (ch.site,Di I s) recE) (s:=put s I.dst v ch) (fun j hj=>hn j (by simp at hj ⊢;exact .inr hj)) fun j hj=>by
   unfold VL
   by_cases h:need.contains rec.length=true
   ·rw[if_pos h]
    simp only[LU]
    by_cases hjl:j=rec.length
    ·subst hjl;simp
    ·rw[if_neg hjl,hr j hj]
     by_cases hlt:j<rec.length
     ·rw[List.getElem?_append_left hlt]
     ·rw[List.getElem?_eq_none (by omega),List.getElem?_eq_none (by simp;omega)]
   ·rw[if_neg h,hr j hj]
    have hne:j≠rec.length:=by rintro rfl;exact h (by simpa using hj)
    by_cases hlt:j<rec.length
    ·rw[List.getElem?_append_left hlt]
    ·rw[List.getElem?_eq_none (by omega),List.getElem?_eq_none (by simp;omega)]
  rw[h2];simp
theorem fj {Q:B_->Bd->Prop}{s:Bd} {gs l ks}:pw E (.draw gs l ks) Q s=Ce gs s fun s'=>Qy E 0 (l.flatMap (·.2)) l [] s' fun s'=>Q .normal (s'.keep ks):=by
 rw[kc]
 congr 1;funext s'
 exact aX (rec:=[]) (recE:=[]) (fun j hj=>hj) fun j hj=>by simp[LU]
theorem fK {i need r} {s:Bd}:Qy E i need [] r s K=K s:=rfl
theorem Y3 {i need I l r} {s:Bd}:Qy E i need ((I,[])::l) r s K=Eb E I s fun v ch=>Qy E (i+1) need l (VL need i (ch.site,Di I s) r) (put s I.dst v ch) K:=by
 simp[Qy]
theorem cE {i need I j dy l r} {s:Bd}:Qy E i need ((I,j::dy)::l) r s K=Eb E I s fun v ch =>
 ((j::dy).all fun j=>TJ (LU j r) (ch.site,Di I s))=true/\Qy E (i+1) need l (VL need i (ch.site,Di I s) r) (put s I.dst v ch) K:=rfl
theorem BA {z:Nat} {i i' need need' l} {r r':List (Nat×TX)}{s s':Bd}(hz:I6=z) (hi:i=i') (hn:need=need') (hr:r=r') (h:s=s'):Qy E i need l r s K=Qy E i' need' l r' s' K:=by rw[h,hr,hi,hn]
theorem om {need:List Nat}{i:Nat}{r:TX}{rec:List (Nat×TX)}(h:need.contains i=true):VL need i r rec=(i,r)::rec:=by simp only[VL,h,if_true]
theorem oo {need:List Nat}{i:Nat}{r:TX}{rec:List (Nat×TX)}(h:need.contains i=false):VL need i r rec=rec:=by simp only[VL,h,Bool.false_eq_true,if_false]
theorem cz {j:Nat}:LU j []=none:=rfl
theorem ZQ {j i:Nat}{r:TX} {l}:LU j ((i,r)::l)=if j=i then some r else LU j l:=rfl
theorem jU {r b:TX}:TJ (some r) b=Lt r b:=rfl
theorem qj {a f b f'}:Lt (a,f) (b,f')=((a.all fun o=>!f'.contains o) && (b.all fun o=>!f.contains o)):=rfl
theorem iM {d g op xs} {sl:Nat->AV}{V:AN}:Di ⟨d,g,op,xs⟩ ⟨sl,V⟩=fp V d op (xs.map (Kj.val sl)):=rfl
theorem q6 {x}:AV.sites (.d x)=[]:=by cases x<;>rfl
theorem qA {x}:AV.sites (.ex x)=[]:=rfl
theorem j5 {x n}:AV.sites (.dptr x n)=[]:=rfl
theorem oB {o g}:AV.sites (.own o g)=[o]:=rfl
theorem oA {o g f}:AV.sites (.ptr o g f)=[o]:=rfl
theorem jz {o g e i f}:AV.sites (.rptr o g e i f)=[o]:=rfl
theorem j0 {k o g}:AV.sites (.mref k o g)=[o]:=rfl
theorem j6 {s l f}:AV.sites (.ablk s l f)=AV.sites.sitesL l:=rfl
theorem oC {l}:AV.sites (.agg l)=AV.sites.sitesL l:=rfl
theorem p_ {f l}:AV.sites (.fn f l)=AV.sites.sitesL l:=rfl
theorem n_ {l}:AV.sites (.tup l)=AV.sites.sitesL l:=rfl
theorem j7:AV.sites.sitesL []=[]:=rfl
theorem eq {x l}:AV.sites.sitesL (x::l)=x.sites++AV.sites.sitesL l:=rfl
section
variable {d:Option Nat}{xs:List AV}{V:AN}
theorem pV:fp V d .mov xs=[]:=rfl
theorem ln:fp V d .pick xs=[]:=rfl
theorem pX {b}:fp V d (.bin b) xs=[]:=rfl
theorem qW {b}:fp V d (.un b) xs=[]:=rfl
theorem lq {b}:fp V d (.conv b) xs=[]:=rfl
theorem iI:fp V d .nilck xs=[]:=rfl
theorem iK {a}:fp V d (.faddr a) xs=[]:=rfl
theorem dQ {a b}:fp V d (.iaddrA a b) xs=[]:=rfl
theorem iJ {a b c e}:fp V d (.mkrow a b c e) xs=[]:=rfl
theorem dN {a}:fp V d (.minmax a) xs=[]:=rfl
theorem Zi {a}:fp V d (.extract a) xs=[]:=rfl
theorem lp {a b}:fp V d (.load a b) xs=AV.sites.sitesL xs:=rfl
theorem dP {a}:fp V d (.iaddrS a) xs=AV.sites.sitesL xs:=rfl
theorem pW {a}:fp V d (.len a) xs=AV.sites.sitesL xs:=rfl
theorem iG {a}:fp V d (.store a) xs=d.toList++AV.sites.sitesL xs:=rfl
theorem lu {a}:fp V d (.call a) xs=CH d V xs:=rfl
theorem iL:fp V d .callv xs=CH d V xs:=rfl
theorem aB {t}:CH (some t) V xs=D8 t++V.reach 3 (AV.sites.sitesL xs):=rfl
theorem kz {t}:D8 t=[t,t+10000,t+20000,t+30000]:=rfl
theorem UK:∀{n:Nat},V.reach n []=[]
 |0=>rfl
 |n+1=>by simp only[AN.reach,List.flatMap_nil,UK,List.append_nil]
theorem kY {o l}:V.reach 3 (o::l)=(o::l)++V.reach 2 ((o::l).flatMap V.osites):=rfl
def VT:Option (Nat×Am)->List Nat
 |some (_,.cells xs)=>AV.sites.sitesL xs
 |some (_,.rowH _ _ _ q _)=>[q]
 |_=>[]
theorem cV {ob cn o}:(AN.mk ob cn).osites o=VT (ob o):=rfl
theorem ct {g xs}:VT (some (g,.cells xs))=AV.sites.sitesL xs:=rfl
theorem kq {g a b c d e}:VT (some (g,.mat a b c d e))=[]:=rfl
theorem pY {a b c e}:fp V d (.app a b c e) xs=d.toList++AV.sites.sitesL xs:=rfl
theorem iH {a b c e}:fp V d (.slice a b c e) xs=d.toList++AV.sites.sitesL xs:=rfl
end
theorem ej {a:Nat}:(some a).toList=[a]:=rfl
theorem em:(none:Option Nat).toList=[]:=rfl
end
theorem DY {k n}:(D.int k n).WF=Mp k n:=by rw[D.WF]
theorem Cv {b}:(D.bool b).WF=True:=by rw[D.WF]
theorem Ck {nl xs}:(D.list nl xs).WF=(xs.length<=maxLen/\∀x,x∈xs->x.WF):=by rw[D.WF]
theorem Dq {xs}:(D.agg xs).WF=(∀x,x∈xs->x.WF):=by rw[D.WF]
theorem Dp {xs}:(D.ptr xs).WF=(∀x,x∈xs->x.WF):=by rw[D.WF]
theorem FD {f xs}:(D.fn f xs).WF=(∀x,x∈xs->x.WF):=by rw[D.WF]
theorem Dn {xs}:(D.tup xs).WF=(∀x,x∈xs->x.WF):=by rw[D.WF]
theorem Cu {nl} {xs:List Int}:(D.list nl (Ab xs)).WF=(xs.length<=maxLen/\∀x,x∈xs->Mp .i64 x):=by
 rw[Ck,B4];simp[Ab,DY]
theorem Bj {x:D}{l:List D}:(∀y,y∈x::l->y.WF)=(x.WF/\∀y,y∈l->y.WF):=by simp
theorem Bt:(∀y,y∈([]:List D)->y.WF)=True:=by simp
theorem Bu {α:Type}{f:α->D}{l:List α}:(∀y,y∈l.map f->y.WF)=(∀x,x∈l->(f x).WF):=by simp
theorem Cy {n:Int}:Mp .i64 n=(-9223372036854775808<=n/\n<=9223372036854775807):=by
 simp[Mp,IntKind.min,IntKind.max,IntKind.signed,IntKind.bits]
theorem B6:maxLen=9223372036854775807:=rfl
theorem Ls {x:AV}{d:D}{xs:List AV}{ds:List D}(h:x.toD1=some d) (h':BV AV.toD1 xs=some ds):FT (x::xs)=some (d::ds):=by
 simp only[FT,BV,h,h']
theorem jL:C4=1073741824:=rfl
theorem pF:EF=900000:=rfl
theorem ET (V0:List (Nat×Nat×Am)) (xs:List AV):Bd.enterM V0 xs=⟨E_ (xs.zipIdx.map fun(d,k)=>(k,d)),⟨Be V0,fun _=>1⟩⟩:=by
 have key:∀(xs:List AV) (n t:Nat),(match xs[t]? with|some d=>d|none=>.undef)=E_ ((xs.zipIdx n).map fun(d,k)=>(k,d)) (n+t):=by
  intro xs
  induction xs with
  |nil=>intro n t;simp[E_]
  |cons x xs ih =>
   intro n t
   cases t with
   |zero=>simp[E_]
   |succ t =>
    have:=ih (n+1) t
    simp only[List.getElem?_cons_succ,List.zipIdx_cons,List.map_cons,E_]
    rw[if_neg (by omega),this]
    congr 1;omega
 unfold Bd.enterM
 congr 1
 funext t
 have:=key xs 0 t
 simp only[Nat.zero_add] at this
 rw[←this]
 cases xs[t]?<;>rfl
theorem FA {E:Cn}{dst:Option Nat}{V:AN}{K:AV->B3->Prop}{f:FuncId}{xs:List AV}{V0 V1:List (Nat×Nat×Am)}{cxs:List AV}{r r':AV}{ch:B3}(ρ ρ2:Dv) (h:Ic E f V0 cxs V1 r) (h1:PG ρ cxs xs)
  (h2:Handed V (CH dst V xs) ρ V0) (h3:Ca V.cn dst V0 V1 ρ ρ2=true) (h4:r.ren ρ2=some r') (h5:D9 ρ ρ2 V1=some ch) (hk:K r' ch):D3 E dst V f xs K :=
 .inr (.inr (.inr (.inl ⟨V0,cxs,V1,r,r',ch,ρ,ρ2,h1,h,h2,h3,h4,h5,hk⟩)))
theorem fW {E:Cn} {rs V1 r s}:og E rs V1 r .ret s=(G1 E s rs (nI V1 s.V r)/\gb s.V V1):=rfl
theorem XC {E:Cn} {rs V1 r s}:og E rs V1 r .normal s=(G1 E s rs (nI V1 s.V r)/\gb s.V V1):=rfl
section
variable {V:AN}{V1:List (Nat×Nat×Am)}
theorem qP {r v}:nI V1 V r [v]=Ui V1 V v r:=rfl
theorem qQ {rs}:nI V1 V (.tup rs) []=Uj V1 V [] rs:=rfl
theorem eD:Uj V1 V [] []=True:=rfl
theorem mR {v d}:Ui V1 V v (.d d)=(v.snap V=some d/\(v.sites.all fun o=>!Zc V1 o)=true):=rfl
theorem eC {v o g}:Ui V1 V v (.own o g)=(v=.own o g):=rfl
theorem gk {o}:Zc [] o=false:=rfl
theorem dH {p l o}:Zc (p::l) o=(p.1 == o || Zc l o):=rfl
def Za:Option (Nat×Am)->Nat->Am->Prop
 |some (g',.map t l),g,.map t' l'=>g'=g/\t=t'/\l=l'
 |some (g',.row a b c l),g,.row a' b' c' l'=>g'=g/\a=a'/\b=b'/\c=c'/\l=l'
 |some (g',.cells l),g,.cells l'=>g'=g/\l=l'
 |some (g',.hist a b c),g,.hist a' b' c'=>g'=g/\a=a'/\b=b'/\c=c'
 |some (g',.rowH a b c d e),g,.rowH a' b' c' d' e'=>g'=g/\a=a'/\b=b'/\c=c'/\d=d'/\e=e'
 |some (g',.mat a b c d e),g,.mat a' b' c' d' e'=>g'=g/\a=a'/\b=b'/\c=c'/\d=d'/\e=e'
 |_,_,_=>False
theorem lU {x:Option (Nat×Am)}{g:Nat}{y:Am}:Za x g y=(x=some (g,y)):=by
 cases x with
 |none=>simp[Za]
 |some p=>obtain⟨g',z⟩:=p;cases z<;>cases y<;>simp[Za]
theorem gc {g' a b c l g a' b' c' l'}:Za (some (g',.row a b c l)) g (.row a' b' c' l')=(g'=g/\a=a'/\b=b'/\c=c'/\l=l'):=rfl
theorem gd {g' a b c d e g a' b' c' d' e'}:Za (some (g',.mat a b c d e)) g (.mat a' b' c' d' e')=(g'=g/\a=a'/\b=b'/\c=c'/\d=d'/\e=e'):=rfl
theorem ZZ {g' l g l'}:Za (some (g',.cells l)) g (.cells l')=(g'=g/\l=l'):=rfl
theorem lT:gb V []=True:=rfl
theorem ga {o g x l}:gb V ((o,g,x)::l)=(Za (V.ob o) g x/\gb V l):=by rw[lU];rfl
end
def kB (K:AV->B3->Prop):D->Prop
 |.bool b=>(b=true->K (.d (.bool true)) .none)/\(b=false->K (.d (.bool false)) .none)
 |r=>K (up r) .none
theorem lQ {K:AV->B3->Prop} {b}:kB K (.bool b)=((b=true->K (.d (.bool true)) .none)/\(b=false->K (.d (.bool false)) .none)):=rfl
theorem pH {K:AV->B3->Prop} {k n}:kB K (.int k n)=K (.d (.int k n)) .none:=rfl
theorem lP {K:AV->B3->Prop} {n l}:kB K (.list n l)=K (.d (.list n l)) .none:=rfl
theorem pI {K:AV->B3->Prop} {l}:kB K (.agg l)=K (.d (.agg l)) .none:=rfl
theorem pG {K:AV->B3->Prop} {l}:kB K (.tup l)=K (.tup (l.map .d)) .none:=rfl
theorem qS {K:AV->B3->Prop} {f l}:kB K (.fn f l)=K (.d (.fn f l)) .none:=rfl
theorem AE {E:Cn}{dst:Option Nat}{V:AN}{K:AV->B3->Prop}{f:FuncId}{xs:List AV}{ds:List D}{r:D}(h:CA E f ds r) (hk:kB K r)
  (ha:FT xs=some ds\/(YN V xs=some ds/\r.flat=true):=by first|exact .inl rfl|exact .inr ⟨rfl,rfl⟩):D3 E dst V f xs K:=by
 have hu:K (up r) .none:=by
  cases r with
  |bool b=>cases b with
   |true=>exact hk.1 rfl
   |false=>exact hk.2 rfl
  |_=>exact hk
 exact ha.elim (fun h1=>Hy h h1 hu) fun h1=>pt h h1.1 h1.2 hu
theorem aI {a b:Prop}(h:a) (k:b):a/\b:=⟨h,k⟩
theorem tI:True:=⟨⟩
theorem Bp {z:Nat}{K:AV->B3->Prop}{r r':D}(hz:I6=z) (h:r=r'):kB K r=kB K r':=by rw[h]
theorem isCall {E:Cn}{dst:Option Nat}{V:AN}{K:AV->B3->Prop}{f:FuncId}{xs:List AV}(h:D3 E dst V f xs K):D3 E dst V f xs K:=h
theorem Ad {α:Type}{S:Bd}{T:α->Bd}{I M:α->Prop}(h:∃y,S=T y/\I y/\M y):∃y,S=T y/\I y/\M y:=h
theorem Ap {α β:Type}{S:Bd}{T:α×β->Bd}{I M:α×β->Prop}(h:∃y,S=T y/\I y/\M y):∃y,S=T y/\I y/\M y:=h
theorem Ao {α β γ:Type}{S:Bd}{T:α×β×γ->Bd}{I M:α×β×γ->Prop}(h:∃y,S=T y/\I y/\M y):∃y,S=T y/\I y/\M y:=h
theorem Bf {α β γ δ:Type}{S:Bd}{T:α×β×γ×δ->Bd}{I M:α×β×γ×δ->Prop}(h:∃y,S=T y/\I y/\M y):∃y,S=T y/\I y/\M y:=h
theorem pC {m k a}:Fw m k a []=some a:=rfl
theorem pE {k:IntKind}{a b:Int} {rest}:Fw true k a (.d (.int k b)::rest)=Fw true k (max a b) rest:=by
 simp only[Fw,if_true,lC];congr 1;omega
theorem pD {k:IntKind}{a b:Int} {rest}:Fw false k a (.d (.int k b)::rest)=Fw false k (min a b) rest:=by
 simp only[Fw,if_true,lB,Bool.false_eq_true,if_false];congr 1;omega
theorem bc {α:Type}(xs:List α) (a:Nat):(xs.drop a).take (xs.length-a)=xs.drop a:=List.take_of_length_le (by simp)
theorem bi (n:Nat):n-0=n:=rfl
def sD (a b:List D):Prop:=FL a b=true
section
variable {E:Cn}{dst:Option Nat}{V:AN}{K:AV->B3->Prop}
end
def sQ (E:Cn) (p:PC) (Q:B_->Bd->Prop) (s:Bd):Prop:=∃e s',Q e s'/\∀Q':B_->Bd->Prop,Q' e s'->pw E p Q' s
attribute [go_sem] pk kZ kd ow fj ot ke fk kb ou U0 Yq bb T2 aE YK Ze Xe gv gw lh qV gx hC g6 ll Zh gy lj Zg iA pU gt kj fv gq lf qU pT dK ki kh gu kl cq kp ko fJ b_ fK Y3 cE om oo cz ZQ jU qj iM q6 qA j5 oB oA jz j0 j6 oC p_ n_ j7 eq pV ln pX qW lq iI iK dQ iJ dN Zi lp dP pW iG lu iL pY iH ej em List.flatMap_cons List.flatMap_nil bq Yy br ez aB kz UK kY cV ct kq Wd jy lY lZ lX fo fq jS jT eL mn lO gB MQ gM ZR c_ pS eg jq ef mM ZS XV f7 f8 ZB qM cu ku kr f_ gC o8 gD cv lH qK kn o6 iw d6 d5 iu pr mU pp mV mS mT po qd qc ny jv p9 dA ZT nz mr qo px qn gK rM qh mj dS Zn dT Zo eH Z' nq jr np pf mC pi pe Xt Vm Vn dZ Vi Q5 Vp Tr Zz mE Zy ph mF Z0 mG Vj Zr Vo Tq Sf Xx Zx ij Vl Zs Xs Vk Zt Zu Zv Xp Xq Xv Xu ik ZF XH dX mD l_ Xr dW ia dV dU Xw Zq Tp pg od oc oa dc Zw db da de ig dY Z2 Z3 df Z4 Xy Z1 oz o0 mg mZ mb md me mf cj dz dh dp dm dl dk di dx il dg XG VS ZD ZE bc bi pC pE pD Z9 Nw Lo VY B4 dG dE gZ dF gX gY ZY dD eh bW XI NY fV fW XC qQ qP eD mR eC gk dH gc gd ZZ lT ga fY cP oi ol kG kF kE oJ kI kH bp oI oK oX kS qF oW kD co p7 p8 List.map_cons List.map_nil List.zipIdx_cons List.zipIdx_nil List.zip_cons_cons List.zip_nil_left List.length_cons List.length_nil List.getElem?_cons_zero List.getElem?_cons_succ List.drop_zero List.drop_succ_cons List.take_succ_cons List.take_zero List.take_nil List.drop_nil List.contains_cons List.contains_nil List.filter_cons List.filter_nil List.all_cons List.all_nil List.cons_append List.nil_append List.append_nil List.set_cons_zero List.set_cons_succ bj List.replicate_succ List.replicate_zero List.isEmpty_cons List.isEmpty_nil List.length_map id_eq Nat.lt_irrefl Nat.zero_add Nat.add_zero Nat.zero_mul Nat.one_mul Nat.mul_one if_true if_false Bool.false_eq_true Bool.not_true Bool.not_false Bool.true_or Bool.false_or Bool.or_true Bool.or_false Bool.true_and Bool.false_and Bool.and_true Bool.and_false beq_self_eq_true Bool.and_self Bool.or_self true_and and_true false_and and_false ite_self exists_prop_of_true exists_prop not_false_eq_true not_true_eq_false forall_const eq_self and_self true_implies false_implies implies_true ne_eq List.cons_ne_nil Nat.le_refl Nat.not_lt_zero fG b9 fE bz b8 Y1 bw Y0 Int.toNat_natCast Int.toNat_zero jL pF oq eU XJ eK Yj WS eM YT jl pA k_ XN k8 XM cx Px qN cm rA pB cY VO bv Yz XB cN lQ pH lP pI pG qS
attribute [go_sem_proc] Nat.reduceAdd Nat.reduceSub Nat.reduceMul Nat.reduceEqDiff Nat.reduceBEq Nat.reduceLeDiff Nat.reduceLT Int.reduceToNat Int.reduceLE Int.reduceLT Int.reduceNeg reduceIte reduceCtorEq Int.reduceEq Int.reduceAdd Int.reduceSub Int.reduceMul
end Go.Pw
