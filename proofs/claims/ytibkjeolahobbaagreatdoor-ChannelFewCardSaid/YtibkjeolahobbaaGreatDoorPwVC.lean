/- A part of the proof. -/
import Derived.Test.YtibkjeolahobbaaGreatDoorPkZa
import Derived.IntWalk
set_option linter.all false
namespace Go.Pw
def It:Nat:=0
theorem oK:It=0:=Eq.symm (Eq.symm rfl)
def LC (v:AV) (b:Bool) (A B:Prop):Prop :=
 match v with
 |.d (.bool b')=>Hg (b == b') A B
 |.tup []=>B
 |_=>False
def YK (v:AV) (t:Nat) (sl:Nat->AV) (V:AN) (KS:Ba->Prop):Prop :=
 match v with
 |.own o g=>IB (V.get o g) fun _ _ nl l=>KS ⟨CL sl t (.d (.list nl l)),V.drop o⟩
 |_=>KS ⟨sl,V⟩
def bN (v:AV) (t:Nat) (sl:Nat->AV) (V:AN) (KS:Ba->Prop):Prop :=
 match v with
 |.ptr o g 0=>HA (V.get o g) fun xs=>BW (BS AV.toD1 xs) fun cs=>cs≠[]/\KS ⟨CL sl t (.d (.ptr cs)),V.drop o⟩
 |_=>KS ⟨sl,V⟩
def qA (y:Option Ad) (o g:Nat) (sl:Nat->AV) (V:AN) (KS:Ba->Prop):Prop :=
 match y with
 |some (.rowH ety l i q p)=>IB (V.get q p) fun _ _ nl xs=>KS ⟨sl,(V.drop q).app (.keep o g (.row ety 1 false (l.set i (.list nl xs))))⟩
 |_=>KS ⟨sl,V⟩
def qj (v:AV) (sl:Nat->AV) (V:AN) (KS:Ba->Prop):Prop :=
 match v with
 |.own o g=>qA (V.get o g) o g sl V KS
 |_=>KS ⟨sl,V⟩
def fe (v:AV) (t:Nat) (sl:Nat->AV) (V:AN) (KS:Ba->Prop):Prop :=
 match v with
 |.mref .out o g=>FH (V.get o g) fun _ _ nl ix rows=>KS ⟨CL sl t (.d (.list nl (KX ix rows))),V.drop o⟩
 |_=>KS ⟨sl,V⟩
def fj (x:Option Ad) (t o:Nat) (sl:Nat->AV) (V:AN) (KS:Ba->Prop):Prop :=
 match x with
 |some (.cells (c::l))=>KS ⟨CL sl t (.ablk false (c::l) 0),V.drop o⟩
 |_=>False
def fh (v:AV) (t:Nat) (sl:Nat->AV) (V:AN) (KS:Ba->Prop):Prop :=
 match v with
 |.ptr o g 0=>fj (V.get o g) t o sl V KS
 |_=>KS ⟨sl,V⟩
def WI (x:Option AV) (b g k:Nat) (xs:List AV) (sl:Nat->AV) (V:AN) (KS:Ba->Prop):Prop :=
 match x with
 |some (.own o p)=>IB (V.get o p) fun _ _ nl l=>KS ⟨sl,(V.drop o).app (.keep b g (.cells (xs.set k (.d (.list nl l)))))⟩
 |_=>KS ⟨sl,V⟩
def bO (v:AV) (off:Nat) (sl:Nat->AV) (V:AN) (KS:Ba->Prop):Prop :=
 match v with
 |.ptr b g f=>(match V.get b g with
  |some (.cells xs)=>WI xs[f+off]? b g (f+off) xs sl V KS
  |_=>KS ⟨sl,V⟩)
 |_=>KS ⟨sl,V⟩
def fg (y:Option Ad) (b g k:Nat) (sl:Nat->AV) (V:AN) (KS:Ba->Prop):Prop :=
 match y with
 |some (.cells xs)=>WI xs[k]? b g k xs sl V KS
 |_=>KS ⟨sl,V⟩
def eL (v:AV) (t o e1 e2:Nat) (sl:Nat->AV) (V:AN) (KS:Ba->Prop):Prop :=
 match v with
 |.d (.list true [])=>o<EY/\KS ⟨CL sl t (.mref .out o (V.cn o)),V.app (.fresh o (.mat e1 e2 true [] []))⟩
 |_=>KS ⟨sl,V⟩
def eJ (v:AV) (t o ety es:Nat) (sl:Nat->AV) (V:AN) (KS:Ba->Prop):Prop :=
 match v with
 |.d (.list true [])=>o<EY/\KS ⟨CL sl t (.own o (V.cn o)),V.app (.fresh o (.row ety es true []))⟩
 |_=>KS ⟨sl,V⟩
def Xz (x:Option AV) (b g k o ety es:Nat) (xs:List AV) (sl:Nat->AV) (V:AN) (KS:Ba->Prop):Prop :=
 match x with
 |some (.d (.list true []))=>o<EY/\o≠b/\KS ⟨sl,(V.app (.fresh o (.row ety es true []))).app (.keep b g (.cells (xs.set k (.own o (V.cn o)))))⟩
 |_=>KS ⟨sl,V⟩
def a6 (y:Option Ad) (b g k o ety es:Nat) (sl:Nat->AV) (V:AN) (KS:Ba->Prop):Prop :=
 match y with
 |some (.cells xs)=>Xz xs[k]? b g k o ety es xs sl V KS
 |_=>KS ⟨sl,V⟩
def eM (v:AV) (off o ety es:Nat) (sl:Nat->AV) (V:AN) (KS:Ba->Prop):Prop :=
 match v with
 |.ptr b g f=>a6 (V.get b g) b g (f+off) o ety es sl V KS
 |_=>KS ⟨sl,V⟩
section
variable {E:Cr}{Q:B_->Ba->Prop}{s s':Ba}{K:AV->Bx->Prop}{KS:Ba->Prop}
theorem Bl {z:Nat}{p:PC}(hz:It=z) (h:s=s'):pw E p Q s=pw E p Q s':=by rw[h]
theorem A_ {z:Nat}{l:List E6}(hz:It=z) (h:s=s'):Kr E l s KS=Kr E l s' KS:=by rw[h]
theorem Ar {z:Nat}{I:E6}(hz:It=z) (h:s=s'):Ec E I s K=Ec E I s' K:=by rw[h]
theorem Bm {z:Nat}{dst:Option Nat}{op:B'}{V V':AN}{xs xs':List AV}(hz:It=z) (hV:V=V') (h:xs=xs'):ev E dst V op xs K=ev E dst V' op xs' K:=by rw[h,hV]
theorem Ay {z:Nat}{b:BinOp}{k k' k1 k2:IntKind}{x y x' y':Int}{C:AV->Prop}(hz:It=z) (h1:k=k1) (h2:k'=k2) (hx:x=x') (hy:y=y'):DM b k k' x y C=DM b k1 k2 x' y' C:=by rw[h1,h2,hx,hy]
theorem A0 {z:Nat}{c c':Bool}{A B:Prop}(hz:It=z) (h:c=c'):Hg c A B=Hg c' A B:=by rw[h]
theorem Az {z:Nat}{v v':AV}{A B:Prop}(hz:It=z) (h:v=v'):Ro v A B=Ro v' A B:=by rw[h]
theorem Aq {z:Nat}{e e':B_}{A:Ba->Prop}(hz:It=z) (he:e=e') (h:s=s'):Kk A Q e s=Kk A Q e' s':=by rw[he,h]
theorem Ak {z:Nat}{i:Nat}{e e':B_}(hz:It=z) (he:e=e') (h:s=s'):Jv i Q e s=Jv i Q e' s':=by rw[he,h]
theorem Ae {α:Type}{z:Nat}{x y:Option α}{A:α->Prop}(hz:It=z) (h:x=y):BW x A=BW y A:=by rw[h]
theorem Aa {z:Nat}{x y:Option Ad} {A} (hz:It=z) (h:x=y):HA x A=HA y A:=by rw[h]
theorem Av {z:Nat}{x y:Option Ad} {A} (hz:It=z) (h:x=y):IB x A=IB y A:=by rw[h]
theorem Ai {z:Nat}{gs:List Eu}(hz:It=z) (h:s=s'):CX gs s KS=CX gs s' KS:=by rw[h]
theorem Ax {z:Nat}{g:Eu}(hz:It=z) (h:s=s'):Ep g s KS=Ep g s' KS:=by rw[h]
theorem Aj {z:Nat}{dst:Option Nat}{V V':AN}{f:FuncId}{xs xs':List AV}(hz:It=z) (hV:V=V') (h:xs=xs'):EE E dst V f xs K=EE E dst V' f xs' K:=by rw[h,hV]
theorem BD {z:Nat}{α:Type}{ag:Bool}{n n':Nat}{cs cs':List α}{off off':Nat}{mk:List α->AV}{one:α->AV}{C:AV->Prop}(hz:It=z) (hn:n=n') (h:cs=cs') (ho:off=off'):B3 ag n cs off mk one C=B3 ag n' cs' off' mk one C:=by rw[hn,h,ho]
theorem BX {z:Nat}{lo hi:Bool}{n n':Nat}{xs xs':List AV}{C:Nat->Nat->Prop}(hz:It=z) (hn:n=n') (h:xs=xs'):Mn lo hi n xs C=Mn lo hi n' xs' C:=by rw[hn,h]
theorem Ah {z:Nat}{v v':AV}{b:Bool}{A B:Prop}(hz:It=z) (h:v=v'):LC v b A B=LC v' b A B:=by rw[h]
theorem BJ {z:Nat}{v v':AV}{t:Nat}{sl:Nat->AV}{V:AN}(hz:It=z) (h:v=v'):YK v t sl V KS=YK v' t sl V KS:=by rw[h]
theorem BE {z:Nat}{v v':AV}{t o ety es:Nat}{sl:Nat->AV}{V:AN}(hz:It=z) (h:v=v'):eJ v t o ety es sl V KS=eJ v' t o ety es sl V KS:=by rw[h]
theorem BB {z:Nat}{rs:List RT}{K:List AV->Prop}(hz:It=z) (h:s=s'):Hu E s rs K=Hu E s' rs K:=by rw[h]
theorem BC {z:Nat}{r:RT}{K:AV->Prop}(hz:It=z) (h:s=s'):Xn E s r K=Xn E s' r K:=by rw[h]
theorem A9 {z:Nat}{y y':AV}{xs xs':List AV}{V V':AN}(hz:It=z) (h1:y=y') (h2:xs=xs') (h3:V=V'):SL y xs V K=SL y' xs' V' K:=by rw[h1,h2,h3]
theorem BA {z:Nat}{α:Type}{T:α->AN} {Inv PInv m gs ks os sl e e'} (hz:It=z) (he:e=e') (h:s=s'):aY T Inv PInv m gs ks os sl e s=aY T Inv PInv m gs ks os sl e' s':=by rw[he,h]
theorem Au {z:Nat}{A:Ba->Prop} {e e'} (hz:It=z) (he:e=e') (h:s=s'):Pl A e s=Pl A e' s':=by rw[he,h]
theorem Ag {z:Nat}{x y:Option Ad} {A} (hz:It=z) (h:x=y):RB x A=RB y A:=by rw[h]
theorem AO {b:Bool}{A B:Prop}(h1:b=true->A) (h2:b=false->B):Hg b A B:=⟨h1,h2⟩
theorem ic {d t b op xs} {sl:Nat->AV}{V:AN}:Ec E ⟨d,some (t,b),op,xs⟩ ⟨sl,V⟩ K=LC (sl t) b (ev E d V op (xs.map (KH.val sl)) K) (K (.tup []) .none):=rfl
theorem kQ {b:Bool}{A B:Prop}:LC (.d (.bool b)) true A B=Hg b A B:=by simp[LC]
theorem kR {b:Bool}{A B:Prop}:LC (.d (.bool b)) false A B=Hg b B A:=by cases b<;>simp[LC]
theorem kP {b:Bool}{A B:Prop}:LC (.tup []) b A B=B:=rfl
theorem fU {t:Nat}{sl:Nat->AV}{V:AN}:Ep (.freeze t) ⟨sl,V⟩ KS=YK (sl t) t sl V KS:=by
 simp only[Ep,YK]
 cases sl t with
 |own o g=>simp only;cases V.get o g with
  |none=>rfl
  |some x=>cases x<;>rfl
 |_=>rfl
theorem kV {t o g:Nat}{sl:Nat->AV}{V:AN}:YK (.own o g) t sl V KS=IB (V.get o g) fun _ _ nl l=>KS ⟨CL sl t (.d (.list nl l)),V.drop o⟩:=rfl
theorem pO {t:Nat}{x:D}{sl:Nat->AV}{V:AN}:YK (.d x) t sl V KS=KS ⟨sl,V⟩:=rfl
theorem bM {t:Nat}{sl:Nat->AV}{V:AN}:YK .undef t sl V KS=KS ⟨sl,V⟩:=rfl
theorem fV {t:Nat}{sl:Nat->AV}{V:AN}:Ep (.frzP t) ⟨sl,V⟩ KS=bN (sl t) t sl V KS:=by
 simp only[Ep,bN]
 cases sl t with
 |ptr o g f =>
  cases f with
  |zero =>
   simp only;cases V.get o g with
   |none=>rfl
   |some x =>
    cases x with
    |cells xs =>
     simp only[HA]
     cases BS AV.toD1 xs with
     |none=>rfl
     |some l=>cases l<;>simp[BW]
    |_=>rfl
  |succ n=>rfl
 |_=>rfl
theorem kW {t o g:Nat}{sl:Nat->AV}{V:AN}:bN (.ptr o g 0) t sl V KS=HA (V.get o g) fun xs=>BW (BS AV.toD1 xs) fun cs=>cs≠[]/\KS ⟨CL sl t (.d (.ptr cs)),V.drop o⟩:=rfl
theorem pP {t:Nat}{x:D}{sl:Nat->AV}{V:AN}:bN (.d x) t sl V KS=KS ⟨sl,V⟩:=rfl
theorem BK {z:Nat}{v v':AV}{t:Nat}{sl:Nat->AV}{V:AN}(hz:It=z) (h:v=v'):bN v t sl V KS=bN v' t sl V KS:=by rw[h]
theorem Af {z:Nat}{x y:Option Ad} {A B} (hz:It=z) (h:x=y):Mr x A B=Mr y A B:=by rw[h]
theorem fR {t o ety es:Nat}{sl:Nat->AV}{V:AN}:Ep (.own t o ety es) ⟨sl,V⟩ KS=eJ (sl t) t o ety es sl V KS:=rfl
theorem fT {t off o ety es:Nat}{sl:Nat->AV}{V:AN}:Ep (.ownC t off o ety es) ⟨sl,V⟩ KS=eM (sl t) off o ety es sl V KS:=by
 simp only[Ep,eM]
 cases sl t with
 |ptr b g f =>
  simp only[a6]
  cases V.get b g with
  |none=>rfl
  |some x =>
   cases x with
   |cells xs=>simp only[Xz];rfl
   |_=>rfl
 |_=>rfl
theorem jb {b g f off o ety es:Nat}{sl:Nat->AV}{V:AN}:eM (.ptr b g f) off o ety es sl V KS=a6 (V.get b g) b g (f+off) o ety es sl V KS:=rfl
theorem a5 {b g k o ety es:Nat}{xs:List AV}{sl:Nat->AV}{V:AN}:a6 (some (.cells xs)) b g k o ety es sl V KS=Xz xs[k]? b g k o ety es xs sl V KS:=rfl
theorem je {b g k o ety es:Nat}{xs:List AV}{sl:Nat->AV}{V:AN}:Xz (some (.d (.list true []))) b g k o ety es xs sl V KS=(o<EY/\o≠b/\KS ⟨sl,(V.app (.fresh o (.row ety es true []))).app (.keep b g (.cells (xs.set k (.own o (V.cn o)))))⟩):=rfl
theorem jd {b g k o ety es o' g':Nat}{xs:List AV}{sl:Nat->AV}{V:AN}:Xz (some (.own o' g')) b g k o ety es xs sl V KS=KS ⟨sl,V⟩:=rfl
theorem BG {z:Nat}{v v':AV}{off o ety es:Nat}{sl:Nat->AV}{V:AN}(hz:It=z) (h:v=v'):eM v off o ety es sl V KS=eM v' off o ety es sl V KS:=by rw[h]
theorem BI {z:Nat}{y y':Option Ad}{b g k k' o ety es:Nat}{sl:Nat->AV}{V:AN}(hz:It=z) (h:y=y') (hk:k=k'):a6 y b g k o ety es sl V KS=a6 y' b g k' o ety es sl V KS:=by rw[h,hk]
theorem BH {z:Nat}{y y':Option AV}{b g k o ety es:Nat}{xs:List AV}{sl:Nat->AV}{V:AN}(hz:It=z) (h:y=y'):Xz y b g k o ety es xs sl V KS=Xz y' b g k o ety es xs sl V KS:=by rw[h]
theorem fW {t:Nat}{sl:Nat->AV}{V:AN}:Ep (.frzM t) ⟨sl,V⟩ KS=fe (sl t) t sl V KS:=by
 simp only[Ep,fe]
 cases sl t with
 |mref k o g =>
  cases k with
  |out=>simp only;cases V.get o g with
   |none=>rfl
   |some x=>cases x<;>rfl
  |_=>rfl
 |_=>rfl
theorem fc {t o g:Nat}{sl:Nat->AV}{V:AN}:fe (.mref .out o g) t sl V KS=FH (V.get o g) fun _ _ nl ix rows=>KS ⟨CL sl t (.d (.list nl (KX ix rows))),V.drop o⟩:=rfl
theorem BL {z:Nat}{v v':AV}{t:Nat}{sl:Nat->AV}{V:AN}(hz:It=z) (h:v=v'):fe v t sl V KS=fe v' t sl V KS:=by rw[h]
theorem fY {t:Nat}{sl:Nat->AV}{V:AN}:Ep (.frzA t) ⟨sl,V⟩ KS=fh (sl t) t sl V KS:=by
 simp only[Ep,fh]
 cases sl t with
 |ptr o g f =>
  cases f with
  |zero=>rfl
  |succ n=>rfl
 |_=>rfl
theorem kY {t o g:Nat}{sl:Nat->AV}{V:AN}:fh (.ptr o g 0) t sl V KS=fj (V.get o g) t o sl V KS:=rfl
theorem YM {t o:Nat}{c:AV}{l:List AV}{sl:Nat->AV}{V:AN}:fj (some (.cells (c::l))) t o sl V KS=KS ⟨CL sl t (.ablk false (c::l) 0),V.drop o⟩:=rfl
theorem BP {z:Nat}{v v':AV}{t:Nat}{sl:Nat->AV}{V:AN}(hz:It=z) (h:v=v'):fh v t sl V KS=fh v' t sl V KS:=by rw[h]
theorem BQ {z:Nat}{y y':Option Ad}{t o:Nat}{sl:Nat->AV}{V:AN}(hz:It=z) (h:y=y'):fj y t o sl V KS=fj y' t o sl V KS:=by rw[h]
theorem fX {t off:Nat}{sl:Nat->AV}{V:AN}:Ep (.frzC t off) ⟨sl,V⟩ KS=bO (sl t) off sl V KS:=by
 simp only[Ep,bO]
 cases sl t with
 |ptr b g f =>
  simp only
  cases V.get b g with
  |none=>rfl
  |some x =>
   cases x with
   |cells xs =>
    simp only[WI]
    cases xs[f+off]? with
    |none=>rfl
    |some y =>
     cases y with
     |own o p=>simp only;cases V.get o p with
      |none=>rfl
      |some z=>cases z<;>rfl
     |_=>rfl
   |_=>rfl
 |_=>rfl
theorem kX {b g f off:Nat}{sl:Nat->AV}{V:AN}:bO (.ptr b g f) off sl V KS=fg (V.get b g) b g (f+off) sl V KS:=by
 simp only[bO,fg]
theorem YL {b g k:Nat}{xs:List AV}{sl:Nat->AV}{V:AN}:fg (some (.cells xs)) b g k sl V KS=WI xs[k]? b g k xs sl V KS:=rfl
theorem ff {b g k o p:Nat}{xs:List AV}{sl:Nat->AV}{V:AN}:WI (some (.own o p)) b g k xs sl V KS=IB (V.get o p) fun _ _ nl l=>KS ⟨sl,(V.drop o).app (.keep b g (.cells (xs.set k (.d (.list nl l)))))⟩:=rfl
theorem nx {b g k:Nat}{x:D}{xs:List AV}{sl:Nat->AV}{V:AN}:WI (some (.d x)) b g k xs sl V KS=KS ⟨sl,V⟩:=rfl
theorem BN {z:Nat}{v v':AV}{off:Nat}{sl:Nat->AV}{V:AN}(hz:It=z) (h:v=v'):bO v off sl V KS=bO v' off sl V KS:=by rw[h]
theorem BO {z:Nat}{y y':Option Ad}{b g k k':Nat}{sl:Nat->AV}{V:AN}(hz:It=z) (h:y=y') (hk:k=k'):fg y b g k sl V KS=fg y' b g k' sl V KS:=by rw[h,hk]
theorem BM {z:Nat}{y y':Option AV}{b g k:Nat}{xs:List AV}{sl:Nat->AV}{V:AN}(hz:It=z) (h:y=y'):WI y b g k xs sl V KS=WI y' b g k xs sl V KS:=by rw[h]
theorem fS {t o e1 e2:Nat}{sl:Nat->AV}{V:AN}:Ep (.ownM t o e1 e2) ⟨sl,V⟩ KS=eL (sl t) t o e1 e2 sl V KS:=rfl
theorem ja {t o e1 e2:Nat}{sl:Nat->AV}{V:AN}:eL (.d (.list true [])) t o e1 e2 sl V KS=(o<EY/\KS ⟨CL sl t (.mref .out o (V.cn o)),V.app (.fresh o (.mat e1 e2 true [] []))⟩):=rfl
theorem eK {t o e1 e2:Nat} {k o' g} {sl:Nat->AV}{V:AN}:eL (.mref k o' g) t o e1 e2 sl V KS=KS ⟨sl,V⟩:=rfl
theorem BF {z:Nat}{v v':AV}{t o e1 e2:Nat}{sl:Nat->AV}{V:AN}(hz:It=z) (h:v=v'):eL v t o e1 e2 sl V KS=eL v' t o e1 e2 sl V KS:=by rw[h]
theorem Aw {z:Nat}{x y:Option Ad} {A} (hz:It=z) (h:x=y):FH x A=FH y A:=by rw[h]
theorem jZ {t o ety es:Nat}{sl:Nat->AV}{V:AN}:eJ (.d (.list true [])) t o ety es sl V KS=(o<EY/\KS ⟨CL sl t (.own o (V.cn o)),V.app (.fresh o (.row ety es true []))⟩):=rfl
theorem jY {t o ety es o' g:Nat}{sl:Nat->AV}{V:AN}:eJ (.own o' g) t o ety es sl V KS=KS ⟨sl,V⟩:=rfl
end
theorem iX {α:Type}(f:Nat->α) (i:Nat) (x:α) (j:Nat):CL f i x j=if j=i then x else f j:=rfl
theorem dC (f:Nat->Nat) (i x y:Nat):CL (CL f i x) i y=CL f i y:=by funext j;simp only[CL];split<;>rfl
theorem o8 {x:D}:(AV.d x).one=x.one:=rfl
theorem jc {o g}:(AV.own o g).one=true:=rfl
theorem nF {f c}:(AV.fn f c).one=true:=rfl
theorem gR {k n}:(D.int k n).one=true:=rfl
theorem bz {b}:(D.bool b).one=true:=rfl
theorem bx {n l}:(D.list n l).one=true:=rfl
theorem gQ {l}:(D.ptr l).one=true:=rfl
theorem oT {c}:(AV.agg c).cells?=some c:=rfl
theorem lA {c}:(AV.d (.agg c)).cells?=some (c.map .d):=rfl
theorem oS {k n}:(AV.d (.int k n)).cells?=some [.d (.int k n)]:=rfl
theorem lB {b}:(AV.d (.bool b)).cells?=some [.d (.bool b)]:=rfl
theorem k9 {n l}:(AV.d (.list n l)).cells?=some [.d (.list n l)]:=rfl
theorem k_ {l}:(AV.d (.ptr l)).cells?=some [.d (.ptr l)]:=rfl
theorem oQ {o g}:(AV.own o g).cells?=some [.own o g]:=rfl
theorem pX {l}:(AV.ex l).cells?=some [.ex l]:=rfl
theorem pW {f c}:(AV.fn f c).cells?=some [.fn f c]:=rfl
theorem mQ {k n}:AV.toD1 (.d (.int k n))=some (.int k n):=rfl
theorem ib {n l}:AV.toD1 (.d (.list n l))=some (.list n l):=rfl
theorem om {l}:AV.toD1 (.ex l)=some (.list false l):=rfl
theorem bF {α β:Type}{f:α->Option β}:BS f []=some []:=rfl
theorem X8 {α β:Type}{f:α->Option β}{x:α}{xs:List α}:BS f (x::xs)=match f x with
 |none=>none
 |some y=>match BS f xs with|none=>none|some ys=>some (y::ys):=rfl
theorem mR {cs}:AV.toD1 (.agg cs)=match BS AV.toD0 cs with|some l=>some (.agg l)|none=>none:=rfl
theorem lT {V:AN} {n l}:(AV.d (.list n l)).asList V=some (n,l):=rfl
theorem pg {V:AN} {l}:(AV.ex l).asList V=some (false,l):=rfl
theorem oX {V:AN} {o g}:(AV.own o g).asList V=match V.get o g with|some (.row _ _ nil xs)=>some (nil,xs)|_=>none:=rfl
theorem pf {V:AN} {o g}:(AV.mref .out o g).asList V=match V.get o g with|some (.mat _ _ nil ix rows)=>some (nil,KX ix rows)|_=>none:=rfl
theorem ep {ix rows}:(KX ix rows).length=ix.length:=by simp[KX]
theorem qF {V:AN} {x}:EG V none (.d x)=match (AV.d x).asList V with|some (_,ys)=>some ys|none=>none:=rfl
theorem pc {V:AN} {x}:EG V none (.ex x)=match (AV.ex x).asList V with|some (_,ys)=>some ys|none=>none:=rfl
theorem lO {V:AN} {z n}:EG V (some z) (.d (.int .i64 n))=if 0<=n/\n<=(C0:Int) then some (List.replicate n.toNat z) else none:=rfl
theorem bU {es xs}:GH es xs []=some xs:=rfl
theorem YS {es xs i v rest}:GH es xs ((i,v)::rest)=match v.toD1 with
 |none=>none
 |some x=>if x.cells.length=es/\i<xs.length then GH es (xs.set i x) rest else none:=rfl
theorem bV {cs}:MV cs []=some cs:=rfl
theorem YT {cs off size v rest}:MV cs (((off,size),v)::rest)=match v.cells? with
 |none=>none
 |some vs=>if vs.length=size/\off+size<=cs.length then MV (Bf cs off vs) rest else none:=rfl
theorem cQ {k n}:(D.int k n).cells=[.int k n]:=rfl
theorem Yv {n l}:(D.list n l).cells=[.list n l]:=rfl
theorem mP {k n}:up (.int k n)=.d (.int k n):=rfl
theorem iY {b}:up (.bool b)=.d (.bool b):=rfl
theorem mO {l}:up (.tup l)=.tup (l.map .d):=rfl
theorem aG:Bx.site .none=[]:=rfl
theorem dX {a b}:Bx.site (.seq a b)=a.site++b.site:=rfl
theorem Xc {o x}:Bx.site (.fresh o x)=[o]:=rfl
theorem aH {o g x}:Bx.site (.keep o g x)=[o]:=rfl
def Am (xs:List Int):List D:=xs.map (D.int .i64)
@[simp] theorem pJ:Am []=[]:=rfl
theorem UI (xs:List Int):(Am xs=[])=(xs=[]):=by cases xs<;>simp[Am]
theorem B7 (xs:List Int):(Am xs).length=xs.length:=by simp[Am]
theorem bJ (xs:List Int) (n:Nat):(Am xs).drop n=Am (xs.drop n):=by simp[Am]
theorem bH (xs:List Int) (n:Nat):(Am xs).take n=Am (xs.take n):=by simp[Am]
theorem fI (xs ys:List Int):Am xs++Am ys=Am (xs++ys):=by simp[Am]
theorem bI (xs:List Int) (y:Int):Am xs++[.int .i64 y]=Am (xs++[y]):=by simp[Am]
theorem fG (xs:List Int) (i:Nat) (y:Int):(Am xs).set i (.int .i64 y)=Am (xs.set i y):=by simp[Am,List.map_set]
theorem fH (n:Nat) (y:Int):List.replicate n (D.int .i64 y)=Am (List.replicate n y):=by simp[Am]
theorem X' (xs:List Int):(Am xs).isEmpty=xs.isEmpty:=by cases xs<;>rfl
theorem bG (xs:List Int):Cv 1 (Am xs)=True:=by
 simp only[Cv,Am,eq_iff_iff,iff_true];intro x hx;simp at hx;obtain⟨n,_,rfl⟩:=hx;rfl
theorem dF {es:Nat}:Cv es []=True:=by simp[Cv]
theorem Zz {es:Nat}{x:D}{l:List D}:Cv es (x::l)=(x.cells.length=es/\Cv es l):=by simp[Cv]
theorem VA {α:Type}{es:Nat}{f:α->D}{l:List α}(h:∀x,(f x).cells.length=es):Cv es (l.map f)=True:=by
 simp only[Cv,eq_iff_iff,iff_true];intro x hx;simp at hx;obtain⟨y,_,rfl⟩:=hx;exact h y
theorem Vt {xs:List Int}{i:Nat}{A:D->Prop}:BW (Am xs)[i]? A=(i<xs.length/\A (.int .i64 (xs[i]?.getD 0))):=by
 unfold Am
 rw[List.getElem?_map]
 by_cases h:i<xs.length
 ·simp[h,BW]
 ·have:xs[i]?=none:=List.getElem?_eq_none (by omega)
  simp[this,h,BW]
theorem Mq {α:Type} [Inhabited α] {f:α->D}{xs:List α}{i:Nat}{A:D->Prop}:BW (xs.map f)[i]? A=(i<xs.length/\A (f (xs[i]?.getD default))):=by
 rw[List.getElem?_map]
 by_cases h:i<xs.length
 ·simp[h,BW]
 ·have:xs[i]?=none:=List.getElem?_eq_none (by omega)
  simp[this,h,BW]
theorem Vs {xs:List Nat}{i:Nat}{A:Nat->Prop}:BW xs[i]? A=(i<xs.length/\A (xs[i]?.getD 0)):=by
 by_cases h:i<xs.length
 ·simp[h,BW]
 ·have:xs[i]?=none:=List.getElem?_eq_none (by omega)
  simp[this,h,BW]
def qN {α:Type}(f:α->D) (M:List (List α)):List (Bool×List D):=M.map fun r=>(false,r.map f)
section
variable {E:Cr}{dst:Option Nat}{V:AN}{K:AV->Bx->Prop}{f:FuncId}{xs:List AV}
theorem Hj {ds:List D}{r:D}(h:CE E f ds r) (ha:Fz xs=some ds) (hk:K (up r) .none):EE E dst V f xs K:=.inl ⟨ds,r,ha,h,hk⟩
theorem oV {ds:List D}{r:D}(h:CE E f ds r) (ha:W3 V xs=some ds) (hf:r.flat=true) (hk:K (up r) .none):EE E dst V f xs K:=.inr (.inl ⟨ds,r,ha,h,hf,hk⟩)
end
section
variable {E:Cr}{Q:B_->Ba->Prop}{s:Ba}
def di (l:List (Nat×AV)) (k:Nat) (v:AV):List (Nat×AV):=l.map fun p=>if p.1=k then (k,v) else p
def dg (l:List (Nat×(Nat×Ad))) (k:Nat) (x:Ad):List (Nat×(Nat×Ad)):=l.map fun p=>if p.1=k then (k,(0,x)) else p
def Pg (l:List (Nat×AV)):List (Nat×AV)->List (Nat×AV)
 |[]=>l
 |(k,v)::r=>di (Pg l r) k v
def Pf (l:List (Nat×(Nat×Ad))):List (Nat×Ad)->List (Nat×(Nat×Ad))
 |[]=>l
 |(k,v)::r=>dg (Pf l r) k v
theorem dh {k:Nat}{v:AV}:di [] k v=[]:=rfl
theorem aP {a k:Nat}{b v:AV} {l}:di ((a,b)::l) k v=(if a=k then (k,v) else (a,b))::di l k v:=rfl
theorem df {k:Nat}{v:Ad}:dg [] k v=[]:=rfl
theorem aN {a k:Nat}{b:Nat×Ad}{v:Ad} {l}:dg ((a,b)::l) k v=(if a=k then (k,(0,v)) else (a,b))::dg l k v:=rfl
theorem aO {l}:Pg l []=l:=rfl
theorem Xg {l k v r}:Pg l ((k,v)::r)=di (Pg l r) k v:=rfl
theorem aL {l}:Pf l []=l:=rfl
theorem Xf {l k v r}:Pf l ((k,v)::r)=dg (Pf l r) k v:=rfl
theorem oi {f:Nat->AV}{n:Nat}:KH.val f (.t n)=f n:=rfl
theorem ol {f:Nat->AV}{v:AV}:KH.val f (.k v)=v:=rfl
theorem Z_ {α:Type}(cs:List α) (off:Nat) (vs:List α):Bf cs off vs=cs.take off++vs++cs.drop (off+vs.length):=rfl
theorem AY {α:Type}(up:α->List (Nat×AV)) (uo:α->List (Nat×Ad)) (Inv:α->Prop) (μ:α->Nat) (x0:α) {gs:List Eu}{ks os:List Nat}{a:PC}
  {l0:List (Nat×AV)}{m0:List (Nat×(Nat×Ad))}(h0:CX gs s fun s1=>s1.nrm ks os=⟨E9 l0,⟨Bb m0,fun _=>1⟩⟩)
  (he:Pg l0 (up x0)=l0) (he':Pf m0 (uo x0)=m0) (hI:Inv x0)
  (step:∀x,Inv x->pw E a (Kk (fun s'=>CX gs s' fun s1=>∃y,s1.nrm ks os=⟨E9 (Pg l0 (up y)),⟨Bb (Pf m0 (uo y)),fun _=>1⟩⟩/\Inv y/\μ y<μ x) Q) ⟨E9 (Pg l0 (up x)),⟨Bb (Pf m0 (uo x)),fun _=>1⟩⟩) :
  pw E (.loop gs ks os a) Q s :=
 eD (fun x=>⟨E9 (Pg l0 (up x)),⟨Bb (Pf m0 (uo x)),fun _=>1⟩⟩) Inv μ x0 (by rw[he,he'];exact h0) hI step
end
theorem AZ (n:Int) (h:-9223372036854775808<=n/\n<=9223372036854775807):IntKind.i64.wrap n=n:=Go.IntWalk.i64_in n h
theorem d5 {E:Cr} {rs r s}:o4 E rs r .ret s=Hu E s rs (Pe s.V r):=rfl
theorem d7 {E:Cr} {s K}:Hu E s [] K=K []:=rfl
theorem aZ {E:Cr} {s r l K}:Hu E s (r::l) K=Xn E s r fun v=>Hu E s l fun vs=>K (v::vs):=rfl
theorem mw {E:Cr} {s n K}:Xn E s (.t n) K=K (s.sl n):=rfl
theorem my {E:Cr} {s a ty ag n K}:Xn E s (.c a ty ag n) K=ev E none s.V (.load ag n) [s.sl a] fun v _=>K v:=rfl
theorem iy {V r v}:Pe V r [v]=(v.snap V=some r):=rfl
theorem iw {V r v u}:Pe V r [v,u]=((BS (AV.snap V) [v,u]).map .tup=some r):=rfl
theorem iu {V r v u t}:Pe V r [v,u,t]=((BS (AV.snap V) [v,u,t]).map .tup=some r):=rfl
theorem mb {V k n}:AV.snap V (.d (.int k n))=some (.int k n):=rfl
theorem i0 {V b}:AV.snap V (.d (.bool b))=some (.bool b):=rfl
theorem iz {V n l}:AV.snap V (.d (.list n l))=some (.list n l):=rfl
theorem aF {V}:AV.snap V (.d .nilptr)=some .nilptr:=rfl
theorem mZ {V o g}:AV.snap V (.own o g)=match V.get o g with|some (.row _ _ nil xs)=>some (.list nil xs)|_=>none:=rfl
theorem mc {V cs}:AV.snap V (.agg cs)=match BS (AV.snap0 V) cs with|some l=>some (.agg l)|none=>none:=rfl
theorem mj {V k n}:AV.snap0 V (.d (.int k n))=some (.int k n):=rfl
theorem jF {V n l}:AV.snap0 V (.d (.list n l))=some (.list n l):=rfl
theorem o0 {V l}:AV.snap0 V (.ex l)=some (.list false l):=rfl
theorem mh {V o g}:AV.snap0 V (.own o g)=match V.get o g with|some (.row _ _ nil xs)=>some (.list nil xs)|_=>none:=rfl
theorem ir {α:Type}{a b:α}:(some a=some b)=(a=b):=by simp
theorem aw {α β:Type}{f:α->β}{a:α}:Option.map f (some a)=some (f a):=rfl
section
variable {k k':IntKind}{a b:Int}{C:AV->Prop}
theorem lM:DM .eql k k' a b C=(k=k'/\(a=b->C (.d (.bool true)))/\(¬a=b->C (.d (.bool false)))):=by
 rw[bt];by_cases h:a=b<;>simp[h]
theorem lG:DM .neq k k' a b C=(k=k'/\(a=b->C (.d (.bool false)))/\(¬a=b->C (.d (.bool true)))):=by
 rw[bm];by_cases h:a=b<;>simp[h]
theorem lH:DM .lss k k' a b C=(k=k'/\(a<b->C (.d (.bool true)))/\(¬a<b->C (.d (.bool false)))):=by
 rw[bo];by_cases h:a<b<;>simp[h]
theorem lJ:DM .leq k k' a b C=(k=k'/\(a<=b->C (.d (.bool true)))/\(¬a<=b->C (.d (.bool false)))):=by
 rw[bp];by_cases h:a<=b<;>simp[h]
theorem lK:DM .gtr k k' a b C=(k=k'/\(b<a->C (.d (.bool true)))/\(¬b<a->C (.d (.bool false)))):=by
 rw[bq];by_cases h:b<a<;>simp[h]
theorem lL:DM .geq k k' a b C=(k=k'/\(b<=a->C (.d (.bool true)))/\(¬b<=a->C (.d (.bool false)))):=by
 rw[br];by_cases h:b<=a<;>simp[h]
end
section
variable {E:Cr}{dst:Option Nat}{V:AN}{K:AV->Bx->Prop}{f:FuncId}{xs:List AV}
theorem Yw {ds:List D}{b:Bool}(h:CE E f ds (.bool b)) (ha:Fz xs=some ds) (h1:b=true->K (.d (.bool true)) .none) (h2:b=false->K (.d (.bool false)) .none):EE E dst V f xs K :=
 Hj h ha (by cases b with|true=>exact h1 rfl|false=>exact h2 rfl)
theorem au {α:Type}{p:Prop} [Decidable p] {x:α}{A:α->Prop}:BW (if p then some x else none) A=(p/\A x):=by
 by_cases h:p<;>simp[h,BW]
end
section
variable {E:Cr}{K:Ba->Prop}
def K_ (j:Nat):List (Nat×SJ)->Option SJ
 |[]=>none
 |(i,r)::l=>if j=i then some r else K_ j l
def R7 (x:Option SJ) (b:SJ):Bool:=match x with|some r=>LW r b|none=>false
def T7 (need:List Nat) (i:Nat) (r:SJ) (rec:List (Nat×SJ)):List (Nat×SJ):=if need.contains i then (i,r)::rec else rec
def P3 (E:Cr):Nat->List Nat->List (E6×List Nat)->List (Nat×SJ)->Ba->(Ba->Prop)->Prop
 |_,_,[],_,s,K=>K s
 |i,need,(I,dy)::l,rec,s,K=>Ec E I s fun v ch =>
  (dy.all fun j=>R7 (K_ j rec) (ch.site,Db I s))=true /\
  P3 E (i+1) need l (T7 need i (ch.site,Db I s) rec) (put s I.dst v ch) K
theorem ZE {need:List Nat}:∀{l:List (E6×List Nat)}{rec:List SJ}{recE:List (Nat×SJ)}{s:Ba},(∀j,j∈l.flatMap (·.2)->j∈need)->(∀j,j∈need->K_ j recE=rec[j]?)->SQ E l rec s K=P3 E rec.length need l recE s K
 |[],_,_,_,_,_=>rfl
 |(I,dy)::l,rec,recE,s,hn,hr=>by
  simp only[SQ,P3]
  congr 1
  funext v ch
  have h1:(dy.all fun j=>match rec[j]? with|some r=>LW r (ch.site,Db I s)|none=>false)=(dy.all fun j=>R7 (K_ j recE) (ch.site,Db I s)):=by
   rw[Bool.eq_iff_iff,List.all_eq_true,List.all_eq_true]
   have:∀j,j∈dy->(match rec[j]? with|some r=>LW r (ch.site,Db I s)|none=>false)=R7 (K_ j recE) (ch.site,Db I s):=fun j hj=>by
    rw[hr j (hn j (by simp[hj]))];rfl
   exact⟨fun h j hj=>by rw[←this j hj];exact h j hj,fun h j hj=>by rw[this j hj];exact h j hj⟩
  refine congr (congrArg And (congrArg (fun b=>b=true) h1)) ?_
  have h2:=ZE (need:=need) (l:=l) (rec:=rec++[(ch.site,Db I s)]) (recE:=T7 need rec.length (ch.site,Db I s) recE) (s:=put s I.dst v ch) (fun j hj=>hn j (by simp at hj ⊢;exact .inr hj)) fun j hj=>by
   unfold T7
   by_cases h:need.contains rec.length=true
   ·rw[if_pos h]
    simp only[K_]
    by_cases hjl:j=rec.length
    ·subst hjl;simp
    ·rw[if_neg hjl,hr j hj]
     by_cases hlt:j<rec.length
     ·rw[List.getElem?_append_left hlt]
     ·rw[List.getElem?_eq_none (by omega),List.getElem?_eq_none (by simp;omega)]
   ·rw[if_neg h,hr j hj]
    have hne:j≠rec.length:=by rintro rfl;exact h (by simpa using hj)
    by_cases hlt:j<rec.length
    ·rw[List.getElem?_append_left hlt]
    ·rw[List.getElem?_eq_none (by omega),List.getElem?_eq_none (by simp;omega)]
  rw[h2];simp
theorem eE {Q:B_->Ba->Prop}{s:Ba} {gs l ks}:pw E (.draw gs l ks) Q s=CX gs s fun s'=>P3 E 0 (l.flatMap (·.2)) l [] s' fun s'=>Q .normal (s'.keep ks):=by
 rw[jT]
 congr 1;funext s'
 exact ZE (rec:=[]) (recE:=[]) (fun j hj=>hj) fun j hj=>by simp[K_]
theorem dl {i need r} {s:Ba}:P3 E i need [] r s K=K s:=rfl
theorem Xi {i need I l r} {s:Ba}:P3 E i need ((I,[])::l) r s K=Ec E I s fun v ch=>P3 E (i+1) need l (T7 need i (ch.site,Db I s) r) (put s I.dst v ch) K:=by
 simp[P3]
theorem aR {i need I j dy l r} {s:Ba}:P3 E i need ((I,j::dy)::l) r s K=Ec E I s fun v ch =>
 ((j::dy).all fun j=>R7 (K_ j r) (ch.site,Db I s))=true/\P3 E (i+1) need l (T7 need i (ch.site,Db I s) r) (put s I.dst v ch) K:=rfl
theorem A' {z:Nat} {i i' need need' l} {r r':List (Nat×SJ)}{s s':Ba}(hz:It=z) (hi:i=i') (hn:need=need') (hr:r=r') (h:s=s'):P3 E i need l r s K=P3 E i' need' l r' s' K:=by rw[h,hr,hi,hn]
theorem mz {need:List Nat}{i:Nat}{r:SJ}{rec:List (Nat×SJ)}(h:need.contains i=true):T7 need i r rec=(i,r)::rec:=by simp only[T7,h,if_true]
theorem m8 {need:List Nat}{i:Nat}{r:SJ}{rec:List (Nat×SJ)}(h:need.contains i=false):T7 need i r rec=rec:=by simp only[T7,h,Bool.false_eq_true,if_false]
theorem bD {j:Nat}:K_ j []=none:=rfl
theorem X5 {j i:Nat}{r:SJ} {l}:K_ j ((i,r)::l)=if j=i then some r else K_ j l:=rfl
theorem go {r b:SJ}:R7 (some r) b=LW r b:=rfl
theorem pd {a f b f'}:LW (a,f) (b,f')=((a.all fun o=>!f'.contains o) && (b.all fun o=>!f.contains o)):=rfl
theorem fw {d g op xs} {sl:Nat->AV}{V:AN}:Db ⟨d,g,op,xs⟩ ⟨sl,V⟩=fp V d op (xs.map (KH.val sl)):=rfl
theorem pz {x}:AV.sites (.d x)=[]:=by cases x<;>rfl
theorem oq {x}:AV.sites (.ex x)=[]:=rfl
theorem ij {x n}:AV.sites (.dptr x n)=[]:=rfl
theorem mV {o g}:AV.sites (.own o g)=[o]:=rfl
theorem mU {o g f}:AV.sites (.ptr o g f)=[o]:=rfl
theorem ig {o g e i f}:AV.sites (.rptr o g e i f)=[o]:=rfl
theorem ii {k o g}:AV.sites (.mref k o g)=[o]:=rfl
theorem ik {s l f}:AV.sites (.ablk s l f)=AV.sites.sitesL l:=rfl
theorem mW {l}:AV.sites (.agg l)=AV.sites.sitesL l:=rfl
theorem oo {f l}:AV.sites (.fn f l)=AV.sites.sitesL l:=rfl
theorem mT {l}:AV.sites (.tup l)=AV.sites.sitesL l:=rfl
theorem il:AV.sites.sitesL []=[]:=rfl
theorem dR {x l}:AV.sites.sitesL (x::l)=x.sites++AV.sites.sitesL l:=rfl
section
variable {d:Option Nat}{xs:List AV}{V:AN}
theorem ny:fp V d .mov xs=[]:=rfl
theorem kZ:fp V d .pick xs=[]:=rfl
theorem n8 {b}:fp V d (.bin b) xs=[]:=rfl
theorem pQ {b}:fp V d (.un b) xs=[]:=rfl
theorem kb {b}:fp V d (.conv b) xs=[]:=rfl
theorem fq:fp V d .nilck xs=[]:=rfl
theorem fu {a}:fp V d (.faddr a) xs=[]:=rfl
theorem bR {a b}:fp V d (.iaddrA a b) xs=[]:=rfl
theorem ft {a b c e}:fp V d (.mkrow a b c e) xs=[]:=rfl
theorem bP {a}:fp V d (.minmax a) xs=[]:=rfl
theorem YN {a}:fp V d (.extract a) xs=[]:=rfl
theorem ka {a b}:fp V d (.load a b) xs=AV.sites.sitesL xs:=rfl
theorem bQ {a}:fp V d (.iaddrS a) xs=AV.sites.sitesL xs:=rfl
theorem nz {a}:fp V d (.len a) xs=AV.sites.sitesL xs:=rfl
theorem fk {a}:fp V d (.store a) xs=d.toList++AV.sites.sitesL xs:=rfl
theorem kc {a}:fp V d (.call a) xs=CI d V xs:=rfl
theorem fv:fp V d .callv xs=CI d V xs:=rfl
theorem Yx {t}:CI (some t) V xs=D8 t++V.reach 3 (AV.sites.sitesL xs):=rfl
theorem jp {t}:D8 t=[t,t+10000,t+20000,t+30000]:=rfl
theorem S4:∀{n:Nat},V.reach n []=[]
 |0=>rfl
 |n+1=>by simp only[AN.reach,List.flatMap_nil,S4,List.append_nil]
theorem jO {o l}:V.reach 3 (o::l)=(o::l)++V.reach 2 ((o::l).flatMap V.osites):=rfl
def UD:Option (Nat×Ad)->List Nat
 |some (_,.cells xs)=>AV.sites.sitesL xs
 |some (_,.rowH _ _ _ q _)=>[q]
 |_=>[]
theorem ak {ob cn o}:(AN.mk ob cn).osites o=UD (ob o):=rfl
theorem a7 {g xs}:UD (some (g,.cells xs))=AV.sites.sitesL xs:=rfl
theorem jf {g a b c d e}:UD (some (g,.mat a b c d e))=[]:=rfl
theorem n9 {a b c e}:fp V d (.app a b c e) xs=d.toList++AV.sites.sitesL xs:=rfl
theorem fo {a b c e}:fp V d (.slice a b c e) xs=d.toList++AV.sites.sitesL xs:=rfl
end
theorem dH {a:Nat}:(some a).toList=[a]:=rfl
theorem dI:(none:Option Nat).toList=[]:=rfl
end
theorem Du {k n}:(D.int k n).WF=MF k n:=by rw[D.WF]
theorem DA {b}:(D.bool b).WF=True:=by rw[D.WF]
theorem Cy {nl xs}:(D.list nl xs).WF=(xs.length<=maxLen/\∀x,x∈xs->x.WF):=by rw[D.WF]
theorem EB {xs}:(D.agg xs).WF=(∀x,x∈xs->x.WF):=by rw[D.WF]
theorem EA {xs}:(D.ptr xs).WF=(∀x,x∈xs->x.WF):=by rw[D.WF]
theorem Fk {f xs}:(D.fn f xs).WF=(∀x,x∈xs->x.WF):=by rw[D.WF]
theorem D_ {xs}:(D.tup xs).WF=(∀x,x∈xs->x.WF):=by rw[D.WF]
theorem C_ {nl} {xs:List Int}:(D.list nl (Am xs)).WF=(xs.length<=maxLen/\∀x,x∈xs->MF .i64 x):=by
 rw[Cy,B7];simp[Am,Du]
theorem Bi {x:D}{l:List D}:(∀y,y∈x::l->y.WF)=(x.WF/\∀y,y∈l->y.WF):=by simp
theorem Bu:(∀y,y∈([]:List D)->y.WF)=True:=by simp
theorem Bv {α:Type}{f:α->D}{l:List α}:(∀y,y∈l.map f->y.WF)=(∀x,x∈l->(f x).WF):=by simp
theorem DC {n:Int}:MF .i64 n=(-9223372036854775808<=n/\n<=9223372036854775807):=by
 simp[MF,IntKind.min,IntKind.max,IntKind.signed,IntKind.bits]
theorem CA:maxLen=9223372036854775807:=rfl
theorem LV {x:AV}{d:D}{xs:List AV}{ds:List D}(h:x.toD1=some d) (h':BS AV.toD1 xs=some ds):Fz (x::xs)=some (d::ds):=by
 simp only[Fz,BS,h,h']
theorem gd:C0=1073741824:=rfl
theorem nU:EY=900000:=rfl
theorem ES (V0:List (Nat×Nat×Ad)) (xs:List AV):Ba.enterM V0 xs=⟨E9 (xs.zipIdx.map fun(d,k)=>(k,d)),⟨Bb V0,fun _=>1⟩⟩:=by
 have key:∀(xs:List AV) (n t:Nat),(match xs[t]? with|some d=>d|none=>.undef)=E9 ((xs.zipIdx n).map fun(d,k)=>(k,d)) (n+t):=by
  intro xs
  induction xs with
  |nil=>intro n t;simp[E9]
  |cons x xs ih =>
   intro n t
   cases t with
   |zero=>simp[E9]
   |succ t =>
    have:=ih (n+1) t
    simp only[List.getElem?_cons_succ,List.zipIdx_cons,List.map_cons,E9]
    rw[if_neg (by omega),this]
    congr 1;omega
 unfold Ba.enterM
 congr 1
 funext t
 have:=key xs 0 t
 simp only[Nat.zero_add] at this
 rw[←this]
 cases xs[t]?<;>rfl
theorem FA {E:Cr}{dst:Option Nat}{V:AN}{K:AV->Bx->Prop}{f:FuncId}{xs:List AV}{V0 V1:List (Nat×Nat×Ad)}{cxs:List AV}{r r':AV}{ch:Bx}(ρ ρ2:Dm) (h:IR E f V0 cxs V1 r) (h1:OY ρ cxs xs)
  (h2:Handed V (CI dst V xs) ρ V0) (h3:CQ V.cn dst V0 V1 ρ ρ2=true) (h4:r.ren ρ2=some r') (h5:D9 ρ ρ2 V1=some ch) (hk:K r' ch):EE E dst V f xs K :=
 .inr (.inr (.inr ⟨V0,cxs,V1,r,r',ch,ρ,ρ2,h1,h,h2,h3,h4,h5,hk⟩))
theorem d6 {E:Cr} {rs V1 r s}:mt E rs V1 r .ret s=(Hu E s rs (l8 V1 s.V r)/\fK s.V V1):=rfl
theorem Vk {E:Cr} {rs V1 r s}:mt E rs V1 r .normal s=(Hu E s rs (l8 V1 s.V r)/\fK s.V V1):=rfl
section
variable {V:AN}{V1:List (Nat×Nat×Ad)}
theorem pD {r v}:l8 V1 V r [v]=TM V1 V v r:=rfl
theorem pE {rs}:l8 V1 V (.tup rs) []=TN V1 V [] rs:=rfl
theorem cG:TN V1 V [] []=True:=rfl
theorem k8 {v d}:TM V1 V v (.d d)=(v.snap V=some d/\(v.sites.all fun o=>!YE V1 o)=true):=rfl
theorem cF {v o g}:TM V1 V v (.own o g)=(v=.own o g):=rfl
theorem fO {o}:YE [] o=false:=rfl
theorem bK {p l o}:YE (p::l) o=(p.1 == o || YE l o):=rfl
def YB:Option (Nat×Ad)->Nat->Ad->Prop
 |some (g',.map t l),g,.map t' l'=>g'=g/\t=t'/\l=l'
 |some (g',.row a b c l),g,.row a' b' c' l'=>g'=g/\a=a'/\b=b'/\c=c'/\l=l'
 |some (g',.cells l),g,.cells l'=>g'=g/\l=l'
 |some (g',.hist a b c),g,.hist a' b' c'=>g'=g/\a=a'/\b=b'/\c=c'
 |some (g',.rowH a b c d e),g,.rowH a' b' c' d' e'=>g'=g/\a=a'/\b=b'/\c=c'/\d=d'/\e=e'
 |some (g',.mat a b c d e),g,.mat a' b' c' d' e'=>g'=g/\a=a'/\b=b'/\c=c'/\d=d'/\e=e'
 |_,_,_=>False
theorem kL {x:Option (Nat×Ad)}{g:Nat}{y:Ad}:YB x g y=(x=some (g,y)):=by
 cases x with
 |none=>simp[YB]
 |some p=>obtain⟨g',z⟩:=p;cases z<;>cases y<;>simp[YB]
theorem fL {g' a b c l g a' b' c' l'}:YB (some (g',.row a b c l)) g (.row a' b' c' l')=(g'=g/\a=a'/\b=b'/\c=c'/\l=l'):=rfl
theorem fM {g' a b c d e g a' b' c' d' e'}:YB (some (g',.mat a b c d e)) g (.mat a' b' c' d' e')=(g'=g/\a=a'/\b=b'/\c=c'/\d=d'/\e=e'):=rfl
theorem YA {g' l g l'}:YB (some (g',.cells l)) g (.cells l')=(g'=g/\l=l'):=rfl
theorem kK:fK V []=True:=rfl
theorem fJ {o g x l}:fK V ((o,g,x)::l)=(YB (V.ob o) g x/\fK V l):=by rw[kL];rfl
end
def kB (K:AV->Bx->Prop):D->Prop
 |.bool b=>(b=true->K (.d (.bool true)) .none)/\(b=false->K (.d (.bool false)) .none)
 |r=>K (up r) .none
theorem kG {K:AV->Bx->Prop} {b}:kB K (.bool b)=((b=true->K (.d (.bool true)) .none)/\(b=false->K (.d (.bool false)) .none)):=rfl
theorem nW {K:AV->Bx->Prop} {k n}:kB K (.int k n)=K (.d (.int k n)) .none:=rfl
theorem kF {K:AV->Bx->Prop} {n l}:kB K (.list n l)=K (.d (.list n l)) .none:=rfl
theorem nX {K:AV->Bx->Prop} {l}:kB K (.agg l)=K (.d (.agg l)) .none:=rfl
theorem nV {K:AV->Bx->Prop} {l}:kB K (.tup l)=K (.tup (l.map .d)) .none:=rfl
theorem pI {K:AV->Bx->Prop} {f l}:kB K (.fn f l)=K (.d (.fn f l)) .none:=rfl
theorem AE {E:Cr}{dst:Option Nat}{V:AN}{K:AV->Bx->Prop}{f:FuncId}{xs:List AV}{ds:List D}{r:D}(h:CE E f ds r) (hk:kB K r)
  (ha:Fz xs=some ds\/(W3 V xs=some ds/\r.flat=true):=by first|exact .inl rfl|exact .inr ⟨rfl,rfl⟩):EE E dst V f xs K:=by
 have hu:K (up r) .none:=by
  cases r with
  |bool b=>cases b with
   |true=>exact hk.1 rfl
   |false=>exact hk.2 rfl
  |_=>exact hk
 exact ha.elim (fun h1=>Hj h h1 hu) fun h1=>oV h h1.1 h1.2 hu
theorem aI {a b:Prop}(h:a) (k:b):a/\b:=⟨h,k⟩
theorem tI:True:=⟨⟩
theorem Bn {z:Nat}{K:AV->Bx->Prop}{r r':D}(hz:It=z) (h:r=r'):kB K r=kB K r':=by rw[h]
theorem isCall {E:Cr}{dst:Option Nat}{V:AN}{K:AV->Bx->Prop}{f:FuncId}{xs:List AV}(h:EE E dst V f xs K):EE E dst V f xs K:=h
theorem A1 {α:Type}{S:Ba}{T:α->Ba}{I M:α->Prop}(h:∃y,S=T y/\I y/\M y):∃y,S=T y/\I y/\M y:=h
theorem Ab {α β:Type}{S:Ba}{T:α×β->Ba}{I M:α×β->Prop}(h:∃y,S=T y/\I y/\M y):∃y,S=T y/\I y/\M y:=h
theorem BT {α β γ:Type}{S:Ba}{T:α×β×γ->Ba}{I M:α×β×γ->Prop}(h:∃y,S=T y/\I y/\M y):∃y,S=T y/\I y/\M y:=h
theorem Cc {α β γ δ:Type}{S:Ba}{T:α×β×γ×δ->Ba}{I M:α×β×γ×δ->Prop}(h:∃y,S=T y/\I y/\M y):∃y,S=T y/\I y/\M y:=h
theorem nP {m k a}:Fs m k a []=some a:=rfl
theorem nR {k:IntKind}{a b:Int} {rest}:Fs true k a (.d (.int k b)::rest)=Fs true k (max a b) rest:=by
 simp only[Fs,if_true,j0];congr 1;omega
theorem nQ {k:IntKind}{a b:Int} {rest}:Fs false k a (.d (.int k b)::rest)=Fs false k (min a b) rest:=by
 simp only[Fs,if_true,jz,Bool.false_eq_true,if_false];congr 1;omega
theorem Z4 {α:Type}(xs:List α) (a:Nat):(xs.drop a).take (xs.length-a)=xs.drop a:=List.take_of_length_le (by simp)
theorem Z8 (n:Nat):n-0=n:=rfl
def qp (a b:List D):Prop:=FJ a b=true
section
variable {E:Cr}{dst:Option Nat}{V:AN}{K:AV->Bx->Prop}
end
def q8 (E:Cr) (p:PC) (Q:B_->Ba->Prop) (s:Ba):Prop:=∃e s',Q e s'/\∀Q':B_->Ba->Prop,Q' e s'->pw E p Q' s
attribute [go_sem] oK jQ jU nB eE m_ jV eF jS nA Th XT Z3 Sg Yz Wx YG WG fU fV kW pP fW fc fY kY YM fX kX YL ff nx fS ja eK fR kV pO bM jZ jY fT jb a5 je jd dk aQ dl Xi aR mz m8 bD X5 go pd fw pz oq ij mV mU ig ii ik mW oo mT il dR ny kZ n8 pQ kb fq fu bR ft bP YN ka bQ nz fk kc fv n9 fo dH dI List.flatMap_cons List.flatMap_nil aG Xc aH dX Yx jp S4 jO ak a7 jf VI ic kQ kR kP eG eH gm gn cW lQ kE eU Lt ew X6 bE nq dD iX dC kw X7 V8 eQ eR Xs o_ a8 jl jk eS eV nI eW a9 j8 o8 jc nF gR bz bx gQ oT lA oS lB k9 k_ oQ pX pW mQ ib om bF X8 mR lT pg oX pf ep qF pc lO bU YS bV YT cQ Yv mP iY mO oG kl oJ oD WU UU UV bb UQ P' UX SX Yf kn Ye oI ko Yg kp UR YX UW SW RR WY Yd gK UT YY WT US YZ Ya Yb WQ WR WW WV gL Xw Vs bZ km ki WS gF bX bW WX YW SV oH mq mo mn Yc bd bc be gI ba Yi Yj bf Yk WZ Yh nC nD lM lG lH lJ lK lL au bv bh bn bl bk bj bi bu gM bg Vr UC Xu Xv Z4 Z8 nP nR nQ Yr NC LR UI B7 bJ bH fI bI fG fH X' bG dF Zz Vt Mq d5 d6 Vk pE pD cG k8 cF fO bK fL fM YA kK fJ d7 aZ mw my iy iw iu mb i0 iz aF mZ mc mj jF o0 mh ir aw oi ol List.map_cons List.map_nil List.zipIdx_cons List.zipIdx_nil List.zip_cons_cons List.zip_nil_left List.length_cons List.length_nil List.getElem?_cons_zero List.getElem?_cons_succ List.drop_zero List.drop_succ_cons List.take_succ_cons List.take_zero List.take_nil List.drop_nil List.contains_cons List.contains_nil List.filter_cons List.filter_nil List.all_cons List.all_nil List.cons_append List.nil_append List.append_nil List.set_cons_zero List.set_cons_succ Z_ List.replicate_succ List.replicate_zero List.isEmpty_cons List.isEmpty_nil List.length_map id_eq Nat.lt_irrefl Nat.zero_add Nat.add_zero Nat.zero_mul Nat.one_mul Nat.mul_one if_true if_false Bool.false_eq_true Bool.not_true Bool.not_false Bool.true_or Bool.false_or Bool.or_true Bool.or_false Bool.true_and Bool.false_and Bool.and_true Bool.and_false beq_self_eq_true Bool.and_self Bool.or_self true_and and_true false_and and_false ite_self exists_prop_of_true exists_prop not_false_eq_true not_true_eq_false forall_const eq_self and_self true_implies false_implies implies_true ne_eq List.cons_ne_nil Nat.le_refl Nat.not_lt_zero dh aP df aN aO Xg aL Xf Int.toNat_natCast Int.toNat_zero gd nU m9 cx Vu cV XO U5 cX W9 iR nN jt V3 jq Vz bB O_ pB av p_ nO an T_ aK Xe Vj aX kG nW kF nX nV pI
attribute [go_sem_proc] Nat.reduceAdd Nat.reduceSub Nat.reduceMul Nat.reduceEqDiff Nat.reduceBEq Nat.reduceLeDiff Nat.reduceLT Int.reduceToNat Int.reduceLE Int.reduceLT Int.reduceNeg reduceIte reduceCtorEq Int.reduceEq Int.reduceAdd Int.reduceSub Int.reduceMul
end Go.Pw
