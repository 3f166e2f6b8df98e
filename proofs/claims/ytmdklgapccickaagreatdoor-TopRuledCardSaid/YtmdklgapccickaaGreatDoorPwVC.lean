/- A part of the proof. -/
import Derived.Test.YtmdklgapccickaaGreatDoorPkZa
import Derived.IntWalk
set_option linter.all false
namespace Go.Pw
def Iv:Nat:=0
theorem oK:Iv=0:=Eq.symm (Eq.symm rfl)
def LZ (v:AV) (b:Bool) (A B:Prop):Prop :=
 match v with
 |.d (.bool b')=>HP (b == b') A B
 |.tup []=>B
 |_=>False
def Yb (v:AV) (t:Nat) (sl:Nat->AV) (V:AL) (KS:Bg->Prop):Prop :=
 match v with
 |.own o g=>IU (V.get o g) fun _ _ nl l=>KS ⟨CO sl t (.d (.list nl l)),V.drop o⟩
 |_=>KS ⟨sl,V⟩
def bo (v:AV) (t:Nat) (sl:Nat->AV) (V:AL) (KS:Bg->Prop):Prop :=
 match v with
 |.ptr o g 0=>Ha (V.get o g) fun xs=>BW (BV AV.toD1 xs) fun cs=>cs≠[]/\KS ⟨CO sl t (.d (.ptr cs)),V.drop o⟩
 |_=>KS ⟨sl,V⟩
def rI (y:Option AW) (o g:Nat) (sl:Nat->AV) (V:AL) (KS:Bg->Prop):Prop :=
 match y with
 |some (.rowH ety l i q p)=>IU (V.get q p) fun _ _ nl xs=>KS ⟨sl,(V.drop q).app (.keep o g (.row ety 1 false (l.set i (.list nl xs))))⟩
 |_=>KS ⟨sl,V⟩
def tB (v:AV) (sl:Nat->AV) (V:AL) (KS:Bg->Prop):Prop :=
 match v with
 |.own o g=>rI (V.get o g) o g sl V KS
 |_=>KS ⟨sl,V⟩
def tA (v:AV) (t:Nat) (sl:Nat->AV) (V:AL) (KS:Bg->Prop):Prop :=
 match v with
 |.mref .out o g=>lX (V.get o g) fun _ _ nl ix rows=>ZG ix rows=true/\KS ⟨CO sl t (.d (.list nl (NN ix rows))),V.drop o⟩
 |_=>KS ⟨sl,V⟩
def rK (x:Option AW) (t o:Nat) (sl:Nat->AV) (V:AL) (KS:Bg->Prop):Prop :=
 match x with
 |some (.cells (c::l))=>KS ⟨CO sl t (.ablk false (c::l) 0),V.drop o⟩
 |_=>False
def tE (v:AV) (t:Nat) (sl:Nat->AV) (V:AL) (KS:Bg->Prop):Prop :=
 match v with
 |.ptr o g 0=>rK (V.get o g) t o sl V KS
 |_=>KS ⟨sl,V⟩
def rJ (y:Option AW) (b g k o:Nat) (xs:List AV) (sl:Nat->AV) (V:AL) (KS:Bg->Prop):Prop :=
 match y with
 |some (.mapB tys es _)=>KS ⟨sl,(V.drop o).app (.keep b g (.cells (xs.set k (.d (.map tys (es.map (·.2)))))))⟩
 |_=>False
def py (x:Option AV) (b g k:Nat) (xs:List AV) (sl:Nat->AV) (V:AL) (KS:Bg->Prop):Prop :=
 match x with
 |some (.own o p)=>IU (V.get o p) fun _ _ nl l=>KS ⟨sl,(V.drop o).app (.keep b g (.cells (xs.set k (.d (.list nl l)))))⟩
 |some (.mref .out o p)=>lX (V.get o p) fun _ _ nl ix rows=>ZG ix rows=true/\KS ⟨sl,(V.drop o).app (.keep b g (.cells (xs.set k (.d (.list nl (NN ix rows))))))⟩
 |some (.map o p)=>rJ (V.get o p) b g k o xs sl V KS
 |_=>KS ⟨sl,V⟩
def tC (v:AV) (off:Nat) (sl:Nat->AV) (V:AL) (KS:Bg->Prop):Prop :=
 match v with
 |.ptr b g f=>(match V.get b g with
  |some (.cells xs)=>py xs[f+off]? b g (f+off) xs sl V KS
  |_=>KS ⟨sl,V⟩)
 |_=>KS ⟨sl,V⟩
def tD (y:Option AW) (b g k:Nat) (sl:Nat->AV) (V:AL) (KS:Bg->Prop):Prop :=
 match y with
 |some (.cells xs)=>py xs[k]? b g k xs sl V KS
 |_=>KS ⟨sl,V⟩
def sf (v:AV) (t e2:Nat) (sl:Nat->AV) (V:AL) (KS:Bg->Prop):Prop :=
 match v with
 |.own o g=>IU (V.get o g) fun e1 es nl l=>nl=false/\es=1/\o<C_/\(∀x,x∈l->x=.list true []) /\
  KS ⟨CO sl t (.mref .out o (V.cn o)),V.app (.fresh o (.mat e1 e2 false (List.range l.length) (List.replicate l.length (true,[]))))⟩
 |_=>KS ⟨sl,V⟩
def sg (v:AV) (t o e1 e2:Nat) (sl:Nat->AV) (V:AL) (KS:Bg->Prop):Prop :=
 match v with
 |.d (.list true [])=>o<C_/\KS ⟨CO sl t (.mref .out o (V.cn o)),V.app (.fresh o (.mat e1 e2 true [] []))⟩
 |_=>KS ⟨sl,V⟩
def fA (v:AV) (t o ety es:Nat) (sl:Nat->AV) (V:AL) (KS:Bg->Prop):Prop :=
 match v with
 |.d (.list true [])=>o<C_/\KS ⟨CO sl t (.own o (V.cn o)),V.app (.fresh o (.row ety es true []))⟩
 |_=>KS ⟨sl,V⟩
def bK (x:Option AV) (b g k o ety es:Nat) (xs:List AV) (sl:Nat->AV) (V:AL) (KS:Bg->Prop):Prop :=
 match x with
 |some (.d (.list true []))=>o<C_/\o≠b/\KS ⟨sl,(V.app (.fresh o (.row ety es true []))).app (.keep b g (.cells (xs.set k (.own o (V.cn o)))))⟩
 |_=>KS ⟨sl,V⟩
def bL (y:Option AW) (b g k o ety es:Nat) (sl:Nat->AV) (V:AL) (KS:Bg->Prop):Prop :=
 match y with
 |some (.cells xs)=>bK xs[k]? b g k o ety es xs sl V KS
 |_=>KS ⟨sl,V⟩
def fC (v:AV) (off o ety es:Nat) (sl:Nat->AV) (V:AL) (KS:Bg->Prop):Prop :=
 match v with
 |.ptr b g f=>bL (V.get b g) b g (f+off) o ety es sl V KS
 |_=>KS ⟨sl,V⟩
def q_ (x:Option AV) (b g k o e1 e2:Nat) (xs:List AV) (sl:Nat->AV) (V:AL) (KS:Bg->Prop):Prop :=
 match x with
 |some (.d (.list true []))=>o<C_/\o≠b/\KS ⟨sl,(V.app (.fresh o (.mat e1 e2 true [] []))).app (.keep b g (.cells (xs.set k (.mref .out o (V.cn o)))))⟩
 |_=>KS ⟨sl,V⟩
def rA (y:Option AW) (b g k o e1 e2:Nat) (sl:Nat->AV) (V:AL) (KS:Bg->Prop):Prop :=
 match y with
 |some (.cells xs)=>q_ xs[k]? b g k o e1 e2 xs sl V KS
 |_=>KS ⟨sl,V⟩
def rj (v:AV) (off o e1 e2:Nat) (sl:Nat->AV) (V:AL) (KS:Bg->Prop):Prop :=
 match v with
 |.ptr b g f=>rA (V.get b g) b g (f+off) o e1 e2 sl V KS
 |_=>KS ⟨sl,V⟩
section
variable {E:CW}{Q:B7->Bg->Prop}{s s':Bg}{K:AV->B3->Prop}{KS:Bg->Prop}
theorem Bm {z:Nat}{p:PC}(hz:Iv=z) (h:s=s'):pw E p Q s=pw E p Q s':=by rw[h]
theorem BC {z:Nat}{l:List Ew}(hz:Iv=z) (h:s=s'):Gu E l s KS=Gu E l s' KS:=by rw[h]
theorem Ak {z:Nat}{I:Ew}(hz:Iv=z) (h:s=s'):El E I s K=El E I s' K:=by rw[h]
theorem Bn {z:Nat}{dst:Option Nat}{op:Bw}{V V':AL}{xs xs':List AV}(hz:Iv=z) (hV:V=V') (h:xs=xs'):ev E dst V op xs K=ev E dst V' op xs' K:=by rw[h,hV]
theorem Aq {z:Nat}{b:BinOp}{k k' k1 k2:IntKind}{x y x' y':Int}{C:AV->Prop}(hz:Iv=z) (h1:k=k1) (h2:k'=k2) (hx:x=x') (hy:y=y'):D7 b k k' x y C=D7 b k1 k2 x' y' C:=by rw[h1,h2,hx,hy]
theorem Au {z:Nat}{c c':Bool}{A B:Prop}(hz:Iv=z) (h:c=c'):HP c A B=HP c' A B:=by rw[h]
theorem Ar {z:Nat}{v v':AV}{A B:Prop}(hz:Iv=z) (h:v=v'):SU v A B=SU v' A B:=by rw[h]
theorem Aj {z:Nat}{e e':B7}{A:Bg->Prop}(hz:Iv=z) (he:e=e') (h:s=s'):KD A Q e s=KD A Q e' s':=by rw[he,h]
theorem Af {z:Nat}{i:Nat}{e e':B7}(hz:Iv=z) (he:e=e') (h:s=s'):J8 i Q e s=J8 i Q e' s':=by rw[he,h]
theorem AY {α:Type}{z:Nat}{x y:Option α}{A:α->Prop}(hz:Iv=z) (h:x=y):BW x A=BW y A:=by rw[h]
theorem AU {z:Nat}{x y:Option AW} {A} (hz:Iv=z) (h:x=y):Ha x A=Ha y A:=by rw[h]
theorem Am {z:Nat}{x y:Option AW} {A} (hz:Iv=z) (h:x=y):IU x A=IU y A:=by rw[h]
theorem Ao {z:Nat}{x y:Option AW} {A} (hz:Iv=z) (h:x=y):R6 x A=R6 y A:=by rw[h]
theorem Ag {z:Nat}{x y:Option AW} {A B} (hz:Iv=z) (h:x=y):Ju x A B=Ju y A B:=by rw[h]
theorem Av {z:Nat}{x y:Option AW} {A B} (hz:Iv=z) (h:x=y):QR x A B=QR y A B:=by rw[h]
theorem BQ {z:Nat}{es es':List (D×D)}{l l':List Nat} {A B} (hz:Iv=z) (h:es=es') (h':l=l'):jl es l A B=jl es' l' A B:=by rw[h,h']
theorem An {α:Type}{z:Nat}{x y:Option α}{A:α->Prop}{B:Prop}(hz:Iv=z) (h:x=y):R5 x A B=R5 y A B:=by rw[h]
theorem Ad {z:Nat}{gs:List EE}(hz:Iv=z) (h:s=s'):CL gs s KS=CL gs s' KS:=by rw[h]
theorem Ap {z:Nat}{g:EE}(hz:Iv=z) (h:s=s'):GZ g s KS=GZ g s' KS:=by rw[h]
theorem Ae {z:Nat}{dst:Option Nat}{V V':AL}{f:FuncId}{xs xs':List AV}(hz:Iv=z) (hV:V=V') (h:xs=xs'):Dk E dst V f xs K=Dk E dst V' f xs' K:=by rw[h,hV]
theorem BH {z:Nat}{α:Type}{ag:Bool}{n n':Nat}{cs cs':List α}{off off':Nat}{mk:List α->AV}{one:α->AV}{C:AV->Prop}(hz:Iv=z) (hn:n=n') (h:cs=cs') (ho:off=off'):Cb ag n cs off mk one C=Cb ag n' cs' off' mk one C:=by rw[hn,h,ho]
theorem BZ {z:Nat}{lo hi:Bool}{n n':Nat}{xs xs':List AV}{C:Nat->Nat->Prop}(hz:Iv=z) (hn:n=n') (h:xs=xs'):MV lo hi n xs C=MV lo hi n' xs' C:=by rw[hn,h]
theorem Ab {z:Nat}{v v':AV}{b:Bool}{A B:Prop}(hz:Iv=z) (h:v=v'):LZ v b A B=LZ v' b A B:=by rw[h]
theorem BM {z:Nat}{v v':AV}{t:Nat}{sl:Nat->AV}{V:AL}(hz:Iv=z) (h:v=v'):Yb v t sl V KS=Yb v' t sl V KS:=by rw[h]
theorem BI {z:Nat}{v v':AV}{t o ety es:Nat}{sl:Nat->AV}{V:AL}(hz:Iv=z) (h:v=v'):fA v t o ety es sl V KS=fA v' t o ety es sl V KS:=by rw[h]
theorem BF {z:Nat}{rs:List RT}{K:List AV->Prop}(hz:Iv=z) (h:s=s'):Fy E s rs K=Fy E s' rs K:=by rw[h]
theorem BG {z:Nat}{r:RT}{K:AV->Prop}(hz:Iv=z) (h:s=s'):X4 E s r K=X4 E s' r K:=by rw[h]
theorem BB {z:Nat}{y y':AV}{xs xs':List AV}{V V':AL}(hz:Iv=z) (h1:y=y') (h2:xs=xs') (h3:V=V'):PE E y xs V K=PE E y' xs' V' K:=by rw[h1,h2,h3]
theorem BE {z:Nat}{α:Type}{T:α->AL} {Inv PInv m gs ks os sl e e'} (hz:Iv=z) (he:e=e') (h:s=s'):WA T Inv PInv m gs ks os sl e s=WA T Inv PInv m gs ks os sl e' s':=by rw[he,h]
theorem Al {z:Nat}{A:Bg->Prop} {e e'} (hz:Iv=z) (he:e=e') (h:s=s'):Ms A e s=Ms A e' s':=by rw[he,h]
theorem Ba {z:Nat}{P P':RD}{n n':Nat}{ds ds':List D} {A} (hz:Iv=z) (h1:P=P') (h2:n=n') (h3:ds=ds'):oe P n ds A=oe P' n' ds' A:=by rw[h1,h2,h3]
theorem Aa {z:Nat}{x y:Option AW} {A} (hz:Iv=z) (h:x=y):R7 x A=R7 y A:=by rw[h]
theorem Gs {b:Bool}{A B:Prop}(h1:b=true->A) (h2:b=false->B):HP b A B:=⟨h1,h2⟩
theorem iw {d t b op xs} {sl:Nat->AV}{V:AL}:El E ⟨d,some (t,b),op,xs⟩ ⟨sl,V⟩ K=LZ (sl t) b (ev E d V op (xs.map (Hd.val sl)) K) (K (.tup []) .none):=rfl
theorem kI {b:Bool}{A B:Prop}:LZ (.d (.bool b)) true A B=HP b A B:=by simp[LZ]
theorem kJ {b:Bool}{A B:Prop}:LZ (.d (.bool b)) false A B=HP b B A:=by cases b<;>simp[LZ]
theorem kH {b:Bool}{A B:Prop}:LZ (.tup []) b A B=B:=rfl
theorem f4 {t:Nat}{sl:Nat->AV}{V:AL}:GZ (.freeze t) ⟨sl,V⟩ KS=Yb (sl t) t sl V KS:=by
 simp only[GZ,Yb]
 cases sl t with
 |own o g=>simp only;cases V.get o g with
  |none=>rfl
  |some x=>cases x<;>rfl
 |_=>rfl
theorem kL {t o g:Nat}{sl:Nat->AV}{V:AL}:Yb (.own o g) t sl V KS=IU (V.get o g) fun _ _ nl l=>KS ⟨CO sl t (.d (.list nl l)),V.drop o⟩:=rfl
theorem pv {t:Nat}{x:D}{sl:Nat->AV}{V:AL}:Yb (.d x) t sl V KS=KS ⟨sl,V⟩:=rfl
theorem bn {t:Nat}{sl:Nat->AV}{V:AL}:Yb .undef t sl V KS=KS ⟨sl,V⟩:=rfl
theorem f5 {t:Nat}{sl:Nat->AV}{V:AL}:GZ (.frzP t) ⟨sl,V⟩ KS=bo (sl t) t sl V KS:=by
 simp only[GZ,bo]
 cases sl t with
 |ptr o g f =>
  cases f with
  |zero =>
   simp only;cases V.get o g with
   |none=>rfl
   |some x =>
    cases x with
    |cells xs =>
     simp only[Ha]
     cases BV AV.toD1 xs with
     |none=>rfl
     |some l=>cases l<;>simp[BW]
    |_=>rfl
  |succ n=>rfl
 |_=>rfl
theorem kM {t o g:Nat}{sl:Nat->AV}{V:AL}:bo (.ptr o g 0) t sl V KS=Ha (V.get o g) fun xs=>BW (BV AV.toD1 xs) fun cs=>cs≠[]/\KS ⟨CO sl t (.d (.ptr cs)),V.drop o⟩:=rfl
theorem px {t:Nat}{x:D}{sl:Nat->AV}{V:AL}:bo (.d x) t sl V KS=KS ⟨sl,V⟩:=rfl
theorem BN {z:Nat}{v v':AV}{t:Nat}{sl:Nat->AV}{V:AL}(hz:Iv=z) (h:v=v'):bo v t sl V KS=bo v' t sl V KS:=by rw[h]
theorem AZ {z:Nat}{x y:Option AW} {A B} (hz:Iv=z) (h:x=y):NK x A B=NK y A B:=by rw[h]
theorem fy {t o ety es:Nat}{sl:Nat->AV}{V:AL}:GZ (.own t o ety es) ⟨sl,V⟩ KS=fA (sl t) t o ety es sl V KS:=rfl
theorem fz {t off o ety es:Nat}{sl:Nat->AV}{V:AL}:GZ (.ownC t off o ety es) ⟨sl,V⟩ KS=fC (sl t) off o ety es sl V KS:=by
 simp only[GZ,fC]
 cases sl t with
 |ptr b g f =>
  simp only[bL]
  cases V.get b g with
  |none=>rfl
  |some x =>
   cases x with
   |cells xs=>simp only[bK];rfl
   |_=>rfl
 |_=>rfl
theorem jc {b g f off o ety es:Nat}{sl:Nat->AV}{V:AL}:fC (.ptr b g f) off o ety es sl V KS=bL (V.get b g) b g (f+off) o ety es sl V KS:=rfl
theorem bJ {b g k o ety es:Nat}{xs:List AV}{sl:Nat->AV}{V:AL}:bL (some (.cells xs)) b g k o ety es sl V KS=bK xs[k]? b g k o ety es xs sl V KS:=rfl
theorem ji {b g k o ety es:Nat}{xs:List AV}{sl:Nat->AV}{V:AL}:bK (some (.d (.list true []))) b g k o ety es xs sl V KS=(o<C_/\o≠b/\KS ⟨sl,(V.app (.fresh o (.row ety es true []))).app (.keep b g (.cells (xs.set k (.own o (V.cn o)))))⟩):=rfl
theorem BJ {z:Nat}{v v':AV}{off o ety es:Nat}{sl:Nat->AV}{V:AL}(hz:Iv=z) (h:v=v'):fC v off o ety es sl V KS=fC v' off o ety es sl V KS:=by rw[h]
theorem BL {z:Nat}{y y':Option AW}{b g k k' o ety es:Nat}{sl:Nat->AV}{V:AL}(hz:Iv=z) (h:y=y') (hk:k=k'):bL y b g k o ety es sl V KS=bL y' b g k' o ety es sl V KS:=by rw[h,hk]
theorem BK {z:Nat}{y y':Option AV}{b g k o ety es:Nat}{xs:List AV}{sl:Nat->AV}{V:AL}(hz:Iv=z) (h:y=y'):bK y b g k o ety es xs sl V KS=bK y' b g k o ety es xs sl V KS:=by rw[h]
def sP (y:Option AW) (t k o g:Nat) (sl:Nat->AV) (V:AL) (KS:Bg->Prop):Prop :=
 match y with
 |some (.cells (c::l))=>KS ⟨CO sl t (.ablk false (Sv o g (c::l) k) 0),V.drop o⟩
 |_=>False
def tX (v:AV) (t k:Nat) (sl:Nat->AV) (V:AL) (KS:Bg->Prop):Prop :=
 match v with
 |.ptr o g 0=>sP (V.get o g) t k o g sl V KS
 |_=>KS ⟨sl,V⟩
def je (P:Bool->List D->Prop) (A:Bool->List D->Prop):Prop:=∀nl l,P nl l->A nl l
theorem BP {z:Nat} {P P'} {A:Bool->List D->Prop}(hz:Iv=z) (h:P=P'):je P A=je P' A:=by rw[h]
def dP (y:Option AW) (t o:Nat) (sl:Nat->AV) (V:AL) (KS:Bg->Prop):Prop :=
 match y with
 |some (.row ety es nl l)=>o<C_/\KS ⟨CO sl t (.own o (V.cn o)),V.app (.fresh o (.row ety es nl l))⟩
 |some (.rowP ety es P)=>o<C_/\je P fun nl l=>KS ⟨CO sl t (.own o (V.cn o)),V.app (.fresh o (.row ety es nl l))⟩
 |_=>KS ⟨sl,V⟩
def gq (v:AV) (t:Nat) (sl:Nat->AV) (V:AL) (KS:Bg->Prop):Prop :=
 match v with
 |.own o g=>dP (V.get o g) t o sl V KS
 |_=>KS ⟨sl,V⟩
theorem f6 {t:Nat}{sl:Nat->AV}{V:AL}:GZ (.bump t) ⟨sl,V⟩ KS=gq (sl t) t sl V KS:=by
 simp only[GZ,gq]
 cases sl t with
 |own o g=>simp only[dP];cases V.get o g with
  |none=>rfl
  |some x=>cases x<;>rfl
 |_=>rfl
theorem kz {t o g:Nat}{sl:Nat->AV}{V:AL}:gq (.own o g) t sl V KS=dP (V.get o g) t o sl V KS:=rfl
theorem dN {t o ety es:Nat} {P} {sl:Nat->AV}{V:AL}:dP (some (.rowP ety es P)) t o sl V KS=(o<C_/\je P fun nl l=>KS ⟨CO sl t (.own o (V.cn o)),V.app (.fresh o (.row ety es nl l))⟩):=rfl
theorem BR {z:Nat}{v v':AV}{t:Nat}{sl:Nat->AV}{V:AL}(hz:Iv=z) (h:v=v'):gq v t sl V KS=gq v' t sl V KS:=by rw[h]
theorem BS {z:Nat}{y y':Option AW}{t o:Nat}{sl:Nat->AV}{V:AL}(hz:Iv=z) (h:y=y'):dP y t o sl V KS=dP y' t o sl V KS:=by rw[h]
theorem jb {t o ety es:Nat}{sl:Nat->AV}{V:AL}:fA (.d (.list true [])) t o ety es sl V KS=(o<C_/\KS ⟨CO sl t (.own o (V.cn o)),V.app (.fresh o (.row ety es true []))⟩):=rfl
theorem ja {t o ety es o' g:Nat}{sl:Nat->AV}{V:AL}:fA (.own o' g) t o ety es sl V KS=KS ⟨sl,V⟩:=rfl
end
theorem iY {α:Type}(f:Nat->α) (i:Nat) (x:α) (j:Nat):CO f i x j=if j=i then x else f j:=rfl
theorem dz (f:Nat->Nat) (i x y:Nat):CO (CO f i x) i y=CO f i y:=by funext j;simp only[CO];split<;>rfl
theorem pW {x:D}:(AV.d x).one=x.one:=rfl
theorem jf {o g}:(AV.own o g).one=true:=rfl
theorem jg {o g}:(AV.map o g).one=true:=rfl
theorem gZ {k n}:(D.int k n).one=true:=rfl
theorem cx {b}:(D.bool b).one=true:=rfl
theorem cv {n l}:(D.list n l).one=true:=rfl
theorem oW {c}:(AV.agg c).cells?=some c:=rfl
theorem kr {c}:(AV.d (.agg c)).cells?=some (c.map .d):=rfl
theorem oV {k n}:(AV.d (.int k n)).cells?=some [.d (.int k n)]:=rfl
theorem ku {b}:(AV.d (.bool b)).cells?=some [.d (.bool b)]:=rfl
theorem ko {n l}:(AV.d (.list n l)).cells?=some [.d (.list n l)]:=rfl
theorem kq {f l}:(AV.d (.map f l)).cells?=some [.d (.map f l)]:=rfl
theorem oT {o g}:(AV.own o g).cells?=some [.own o g]:=rfl
theorem oU {o g}:(AV.map o g).cells?=some [.map o g]:=rfl
theorem qD {l}:(AV.ex l).cells?=some [.ex l]:=rfl
theorem qC {f c}:(AV.fn f c).cells?=some [.fn f c]:=rfl
theorem mP {k n}:AV.toD0 (.d (.int k n))=some (.int k n):=rfl
theorem iq {b}:AV.toD0 (.d (.bool b))=some (.bool b):=rfl
theorem ip {n l}:AV.toD0 (.d (.list n l))=some (.list n l):=rfl
theorem mO {l}:AV.toD0 (.d (.ptr l))=some (.ptr l):=rfl
theorem mL {k n}:AV.toD1 (.d (.int k n))=some (.int k n):=rfl
theorem il {n l}:AV.toD1 (.d (.list n l))=some (.list n l):=rfl
theorem io {l}:AV.toD1 (.d (.agg l))=some (.agg l):=rfl
theorem im {f l}:AV.toD1 (.d (.map f l))=some (.map f l):=rfl
theorem mM {f cs}:AV.toD1 (.bnd f cs)=match BV AV.toD0 cs with|some l=>some (.bnd f l)|none=>none:=rfl
theorem pC {l}:AV.toD1 (.ex l)=some (.list false l):=rfl
theorem ba {α β:Type}{f:α->Option β}:BV f []=some []:=rfl
theorem YO {α β:Type}{f:α->Option β}{x:α}{xs:List α}:BV f (x::xs)=match f x with
 |none=>none
 |some y=>match BV f xs with|none=>none|some ys=>some (y::ys):=rfl
theorem mN {cs}:AV.toD1 (.agg cs)=match BV AV.toD0 cs with|some l=>some (.agg l)|none=>none:=rfl
theorem pB {f cs}:AV.toD1 (.fn f cs)=match BV AV.toD0 cs with|some l=>some (.fn f l)|none=>none:=rfl
theorem lM {V:AL} {n l}:(AV.d (.list n l)).asList V=some (n,l):=rfl
theorem qL {V:AL} {l}:(AV.ex l).asList V=some (false,l):=rfl
theorem oZ {V:AL} {o g}:(AV.own o g).asList V=match V.get o g with|some (.row _ _ nil xs)=>some (nil,xs)|_=>none:=rfl
theorem qK {V:AL} {o g}:(AV.mref .out o g).asList V=match V.get o g with|some (.mat _ _ nil ix rows)=>if ZG ix rows then some (nil,NN ix rows) else none|_=>none:=rfl
theorem rU {V:AL} {x}:EU V none (.d x)=match (AV.d x).asList V with|some (_,ys)=>some ys|none=>none:=rfl
theorem qF {V:AL} {x}:EU V none (.ex x)=match (AV.ex x).asList V with|some (_,ys)=>some ys|none=>none:=rfl
theorem lJ {V:AL} {z n}:EU V (some z) (.d (.int .i64 n))=if 0<=n/\n<=(C1:Int) then some (List.replicate n.toNat z) else none:=rfl
theorem bt {es xs}:F_ es xs []=some xs:=rfl
theorem Yk {es xs i v rest}:F_ es xs ((i,v)::rest)=match v.toD1 with
 |none=>none
 |some x=>if x.cells.length=es/\i<xs.length then F_ es (xs.set i x) rest else none:=rfl
theorem bu {cs}:Mw cs []=some cs:=rfl
theorem Yl {cs off size v rest}:Mw cs (((off,size),v)::rest)=match v.cells? with
 |none=>none
 |some vs=>if vs.length=size/\off+size<=cs.length then Mw (Bs cs off vs) rest else none:=rfl
theorem dJ {k n}:(D.int k n).cells=[.int k n]:=rfl
theorem Y9 {n l}:(D.list n l).cells=[.list n l]:=rfl
theorem dK {l}:(D.agg l).cells=l:=rfl
theorem mF {k n}:up (.int k n)=.d (.int k n):=rfl
theorem iZ {b}:up (.bool b)=.d (.bool b):=rfl
theorem mE {l}:up (.tup l)=.tup (l.map .d):=rfl
theorem aV:B3.site .none=[]:=rfl
theorem eN {a b}:B3.site (.seq a b)=a.site++b.site:=rfl
theorem Xt {o x}:B3.site (.fresh o x)=[o]:=rfl
theorem aW {o g x}:B3.site (.keep o g x)=[o]:=rfl
def BU (xs:List Int):List D:=xs.map (D.int .i64)
@[simp] theorem WZ:BU []=[]:=rfl
theorem U3 (xs:List Int):(BU xs=[])=(xs=[]):=by cases xs<;>simp[BU]
theorem CR (xs:List Int):(BU xs).length=xs.length:=by simp[BU]
theorem Gh (xs:List Int) (n:Nat):(BU xs).drop n=BU (xs.drop n):=by simp[BU]
theorem He (xs:List Int) (n:Nat):(BU xs).take n=BU (xs.take n):=by simp[BU]
theorem fh (xs ys:List Int):BU xs++BU ys=BU (xs++ys):=by simp[BU]
theorem bf (xs:List Int) (y:Int):BU xs++[.int .i64 y]=BU (xs++[y]):=by simp[BU]
theorem N' (xs:List Int) (i:Nat) (y:Int):(BU xs).set i (.int .i64 y)=BU (xs.set i y):=by simp[BU,List.map_set]
theorem YU (xs:List Int):(BU xs).isEmpty=xs.isEmpty:=by cases xs<;>rfl
theorem be (xs:List Int):C0 1 (BU xs)=True:=by
 simp only[C0,BU,eq_iff_iff,iff_true];intro x hx;simp at hx;obtain⟨n,_,rfl⟩:=hx;rfl
theorem d7 {es:Nat}:C0 es []=True:=by simp[C0]
theorem Z9 {es:Nat}{x:D}{l:List D}:C0 es (x::l)=(x.cells.length=es/\C0 es l):=by simp[C0]
theorem K7 {α:Type}{es:Nat}{f:α->D}{l:List α}(h:∀x,(f x).cells.length=es):C0 es (l.map f)=True:=by
 simp only[C0,eq_iff_iff,iff_true];intro x hx;simp at hx;obtain⟨y,_,rfl⟩:=hx;exact h y
theorem WL {xs:List Int}{i:Nat}{A:D->Prop}:BW (BU xs)[i]? A=(i<xs.length/\A (.int .i64 (xs[i]?.getD 0))):=by
 unfold BU
 rw[List.getElem?_map]
 by_cases h:i<xs.length
 ·simp[h,BW]
 ·have:xs[i]?=none:=List.getElem?_eq_none (by omega)
  simp[this,h,BW]
theorem Ht {α:Type} [Inhabited α] {f:α->D}{xs:List α}{i:Nat}{A:D->Prop}:BW (xs.map f)[i]? A=(i<xs.length/\A (f (xs[i]?.getD default))):=by
 rw[List.getElem?_map]
 by_cases h:i<xs.length
 ·simp[h,BW]
 ·have:xs[i]?=none:=List.getElem?_eq_none (by omega)
  simp[this,h,BW]
def rq {α:Type}(f:α->D) (M:List (List α)):List (Bool×List D):=M.map fun r=>(false,r.map f)
section
variable {E:CW}{dst:Option Nat}{V:AL}{K:AV->B3->Prop}{f:FuncId}{xs:List AV}
theorem HE {ds:List D}{r:D}(h:Cc E f ds r) (ha:FB xs=some ds) (hk:K (up r) .none):Dk E dst V f xs K:=.inl ⟨ds,r,ha,h,hk⟩
theorem oX {ds:List D}{r:D}(h:Cc E f ds r) (ha:Sg V xs=some ds) (hf:r.flat=true) (hk:K (up r) .none):Dk E dst V f xs K:=.inr (.inl ⟨ds,r,ha,h,hf,hk⟩)
end
section
variable {E:CW}{Q:B7->Bg->Prop}{s:Bg}
def eU (l:List (Nat×AV)) (k:Nat) (v:AV):List (Nat×AV):=l.map fun p=>if p.1=k then (k,v) else p
def eS (l:List (Nat×(Nat×AW))) (k:Nat) (x:AW):List (Nat×(Nat×AW)):=l.map fun p=>if p.1=k then (k,(0,x)) else p
def K9 (l:List (Nat×AV)):List (Nat×AV)->List (Nat×AV)
 |[]=>l
 |(k,v)::r=>eU (K9 l r) k v
def KF (l:List (Nat×(Nat×AW))):List (Nat×AW)->List (Nat×(Nat×AW))
 |[]=>l
 |(k,v)::r=>eS (KF l r) k v
theorem eT {k:Nat}{v:AV}:eU [] k v=[]:=rfl
theorem ae {a k:Nat}{b v:AV} {l}:eU ((a,b)::l) k v=(if a=k then (k,v) else (a,b))::eU l k v:=rfl
theorem eR {k:Nat}{v:AW}:eS [] k v=[]:=rfl
theorem aZ {a k:Nat}{b:Nat×AW}{v:AW} {l}:eS ((a,b)::l) k v=(if a=k then (k,(0,v)) else (a,b))::eS l k v:=rfl
theorem ab {l}:K9 l []=l:=rfl
theorem Xw {l k v r}:K9 l ((k,v)::r)=eU (K9 l r) k v:=rfl
theorem aY {l}:KF l []=l:=rfl
theorem Xv {l k v r}:KF l ((k,v)::r)=eS (KF l r) k v:=rfl
theorem oz {f:Nat->AV}{n:Nat}:Hd.val f (.t n)=f n:=rfl
theorem o4 {f:Nat->AV}{v:AV}:Hd.val f (.k v)=v:=rfl
theorem aK {α:Type}(cs:List α) (off:Nat) (vs:List α):Bs cs off vs=cs.take off++vs++cs.drop (off+vs.length):=rfl
theorem B4 {α:Type}(up:α->List (Nat×AV)) (uo:α->List (Nat×AW)) (Inv:α->Prop) (μ:α->Nat) (x0:α) {gs:List EE}{ks os:List Nat}{a:PC}
  {l0:List (Nat×AV)}{m0:List (Nat×(Nat×AW))}(h0:CL gs s fun s1=>s1.nrm ks os=⟨EC l0,⟨Bt m0,fun _=>1⟩⟩)
  (he:K9 l0 (up x0)=l0) (he':KF m0 (uo x0)=m0) (hI:Inv x0)
  (step:∀x,Inv x->pw E a (KD (fun s'=>CL gs s' fun s1=>∃y,s1.nrm ks os=⟨EC (K9 l0 (up y)),⟨Bt (KF m0 (uo y)),fun _=>1⟩⟩/\Inv y/\μ y<μ x) Q) ⟨EC (K9 l0 (up x)),⟨Bt (KF m0 (uo x)),fun _=>1⟩⟩) :
  pw E (.loop gs ks os a) Q s :=
 ep (fun x=>⟨EC (K9 l0 (up x)),⟨Bt (KF m0 (uo x)),fun _=>1⟩⟩) Inv μ x0 (by rw[he,he'];exact h0) hI step
theorem Bh {α:Type}(up:α->List (Nat×AV)) (uo:α->List (Nat×AW)) (Inv:α->Prop) (μ:α->Nat) (x0:α) {gs:List EE}{ks os:List Nat}{a:PC}
 {l0:List (Nat×AV)}{m0:List (Nat×(Nat×AW))}(hI:Inv x0)
 (step:∀x,Inv x->pw E a (KD (fun s'=>CL gs s' fun s1=>∃y,s1.nrm ks os=⟨EC (K9 l0 (up y)),⟨Bt (KF m0 (uo y)),fun _=>1⟩⟩/\Inv y/\μ y<μ x) Q) ⟨EC (K9 l0 (up x)),⟨Bt (KF m0 (uo x)),fun _=>1⟩⟩)
 (h0:CL gs s fun s1=>s1.nrm ks os=⟨EC l0,⟨Bt m0,fun _=>1⟩⟩:=by simp -implicitDefEqProofs only[go_sem];rfl)
 (he:K9 l0 (up x0)=l0:=by rfl) (he':KF m0 (uo x0)=m0:=by rfl) :
 pw E (.loop gs ks os a) Q s:=B4 up uo Inv μ x0 h0 he he' hI step
end
theorem Bd (n:Int) (h:-9223372036854775808<=n/\n<=9223372036854775807):IntKind.i64.wrap n=n:=Go.IntWalk.i64_in n h
theorem el {E:CW} {rs r s}:pO E rs r .ret s=Fy E s rs (Nr s.V r):=rfl
theorem en {E:CW} {s K}:Fy E s [] K=K []:=rfl
theorem ao {E:CW} {s r l K}:Fy E s (r::l) K=X4 E s r fun v=>Fy E s l fun vs=>K (v::vs):=rfl
theorem my {E:CW} {s n K}:X4 E s (.t n) K=K (s.sl n):=rfl
theorem mz {E:CW} {s a ty ag n K}:X4 E s (.c a ty ag n) K=ev E none s.V (.load ag n) [s.sl a] fun v _=>K v:=rfl
theorem i_ {V r v}:Nr V r [v]=(v.snap V=some r):=rfl
theorem i9 {V r v u}:Nr V r [v,u]=((BV (AV.snap V) [v,u]).map .tup=some r):=rfl
theorem i8 {V r v u t}:Nr V r [v,u,t]=((BV (AV.snap V) [v,u,t]).map .tup=some r):=rfl
theorem mb {V k n}:AV.snap V (.d (.int k n))=some (.int k n):=rfl
theorem jC {V b}:AV.snap V (.d (.bool b))=some (.bool b):=rfl
theorem jB {V n l}:AV.snap V (.d (.list n l))=some (.list n l):=rfl
theorem pH {V l}:AV.snap V (.ex l)=some (.list false l):=rfl
theorem aU {V}:AV.snap V (.d .nilptr)=some .nilptr:=rfl
theorem mY {V o g}:AV.snap V (.own o g)=match V.get o g with|some (.row _ _ nil xs)=>some (.list nil xs)|_=>none:=rfl
theorem mZ {V o g}:AV.snap V (.map o g)=match V.get o g with|some (.map t kvs)=>some (.map t kvs)|some (.mapB t es _)=>some (.map t (es.map (·.2)))|_=>none:=rfl
theorem mc {V cs}:AV.snap V (.agg cs)=match BV (AV.snap0 V) cs with|some l=>some (.agg l)|none=>none:=rfl
theorem mh {V k n}:AV.snap0 V (.d (.int k n))=some (.int k n):=rfl
theorem jM {V b}:AV.snap0 V (.d (.bool b))=some (.bool b):=rfl
theorem jL {V n l}:AV.snap0 V (.d (.list n l))=some (.list n l):=rfl
theorem pN {V l}:AV.snap0 V (.ex l)=some (.list false l):=rfl
theorem mf {V o g}:AV.snap0 V (.map o g)=match V.get o g with|some (.map t kvs)=>some (.map t kvs)|some (.mapB t es _)=>some (.map t (es.map (·.2)))|_=>none:=rfl
theorem i7 {α:Type}{a b:α}:(some a=some b)=(a=b):=by simp
theorem bI {α β:Type}{f:α->β}{a:α}:Option.map f (some a)=some (f a):=rfl
section
variable {k k':IntKind}{a b:Int}{C:AV->Prop}
theorem lD:D7 .eql k k' a b C=(k=k'/\(a=b->C (.d (.bool true)))/\(¬a=b->C (.d (.bool false)))):=by
 rw[cp];by_cases h:a=b<;>simp[h]
theorem k8:D7 .neq k k' a b C=(k=k'/\(a=b->C (.d (.bool false)))/\(¬a=b->C (.d (.bool true)))):=by
 rw[cV];by_cases h:a=b<;>simp[h]
theorem k9:D7 .lss k k' a b C=(k=k'/\(a<b->C (.d (.bool true)))/\(¬a<b->C (.d (.bool false)))):=by
 rw[ce];by_cases h:a<b<;>simp[h]
theorem lA:D7 .leq k k' a b C=(k=k'/\(a<=b->C (.d (.bool true)))/\(¬a<=b->C (.d (.bool false)))):=by
 rw[cg];by_cases h:a<=b<;>simp[h]
theorem lB:D7 .gtr k k' a b C=(k=k'/\(b<a->C (.d (.bool true)))/\(¬b<a->C (.d (.bool false)))):=by
 rw[cj];by_cases h:b<a<;>simp[h]
theorem lC:D7 .geq k k' a b C=(k=k'/\(b<=a->C (.d (.bool true)))/\(¬b<=a->C (.d (.bool false)))):=by
 rw[cm];by_cases h:b<=a<;>simp[h]
end
section
variable {E:CW}{dst:Option Nat}{V:AL}{K:AV->B3->Prop}{f:FuncId}{xs:List AV}
theorem Y_ {ds:List D}{b:Bool}(h:Cc E f ds (.bool b)) (ha:FB xs=some ds) (h1:b=true->K (.d (.bool true)) .none) (h2:b=false->K (.d (.bool false)) .none):Dk E dst V f xs K :=
 HE h ha (by cases b with|true=>exact h1 rfl|false=>exact h2 rfl)
theorem bG {α:Type}{p:Prop} [Decidable p] {x:α}{A:α->Prop}:BW (if p then some x else none) A=(p/\A x):=by
 by_cases h:p<;>simp[h,BW]
end
section
variable {E:CW}{K:Bg->Prop}
def LW (j:Nat):List (Nat×Ss)->Option Ss
 |[]=>none
 |(i,r)::l=>if j=i then some r else LW j l
def Si (x:Option Ss) (b:Ss):Bool:=match x with|some r=>KA r b|none=>false
def Ur (need:List Nat) (i:Nat) (r:Ss) (rec:List (Nat×Ss)):List (Nat×Ss):=if need.contains i then (i,r)::rec else rec
def Qq (E:CW):Nat->List Nat->List (Ew×List Nat)->List (Nat×Ss)->Bg->(Bg->Prop)->Prop
 |_,_,[],_,s,K=>K s
 |i,need,(I,dy)::l,rec,s,K=>El E I s fun v ch =>
  (dy.all fun j=>Si (LW j rec) (ch.site,DV I s))=true /\
  Qq E (i+1) need l (Ur need i (ch.site,DV I s) rec) (put s I.dst v ch) K
theorem ZV {need:List Nat}:∀{l:List (Ew×List Nat)}{rec:List Ss}{recE:List (Nat×Ss)}{s:Bg},(∀j,j∈l.flatMap (·.2)->j∈need)->(∀j,j∈need->LW j recE=rec[j]?)->Qr E l rec s K=Qq E rec.length need l recE s K
 |[],_,_,_,_,_=>rfl
 |(I,dy)::l,rec,recE,s,hn,hr=>by
  simp only[Qr,Qq]
  congr 1
  funext v ch
  have h1:(dy.all fun j=>match rec[j]? with|some r=>KA r (ch.site,DV I s)|none=>false)=(dy.all fun j=>Si (LW j recE) (ch.site,DV I s)):=by
   rw[Bool.eq_iff_iff,List.all_eq_true,List.all_eq_true]
   have:∀j,j∈dy->(match rec[j]? with|some r=>KA r (ch.site,DV I s)|none=>false)=Si (LW j recE) (ch.site,DV I s):=fun j hj=>by
    rw[hr j (hn j (by simp[hj]))];rfl
   exact⟨fun h j hj=>by rw[←this j hj];exact h j hj,fun h j hj=>by rw[this j hj];exact h j hj⟩
  refine congr (congrArg And (congrArg (fun b=>b=true) h1)) ?_
  have h2:=ZV (need:=need) (l:=l) (rec:=rec++[(ch.site,DV I s)]) (recE:=Ur need rec.length (ch.site,DV I s) recE) (s:=put s I.dst v ch) (fun j hj=>hn j (by simp at hj ⊢;exact .inr hj)) fun j hj=>by
   unfold Ur
   by_cases h:need.contains rec.length=true
   ·rw[if_pos h]
    simp only[LW]
    by_cases hjl:j=rec.length
    ·subst hjl;simp
    ·rw[if_neg hjl,hr j hj]
     by_cases hlt:j<rec.length
     ·rw[List.getElem?_append_left hlt]
     ·rw[List.getElem?_eq_none (by omega),List.getElem?_eq_none (by simp;omega)]
   ·rw[if_neg h,hr j hj]
    have hne:j≠rec.length:=by rintro rfl;exact h (by simpa using hj)
    by_cases hlt:j<rec.length
    ·rw[List.getElem?_append_left hlt]
    ·rw[List.getElem?_eq_none (by omega),List.getElem?_eq_none (by simp;omega)]
  rw[h2];simp
theorem eq {Q:B7->Bg->Prop}{s:Bg} {gs l ks}:pw E (.draw gs l ks) Q s=CL gs s fun s'=>Qq E 0 (l.flatMap (·.2)) l [] s' fun s'=>Q .normal (s'.keep ks):=by
 rw[jV]
 congr 1;funext s'
 exact ZV (rec:=[]) (recE:=[]) (fun j hj=>hj) fun j hj=>by simp[LW]
theorem eZ {i need r} {s:Bg}:Qq E i need [] r s K=K s:=rfl
theorem Xx {i need I l r} {s:Bg}:Qq E i need ((I,[])::l) r s K=El E I s fun v ch=>Qq E (i+1) need l (Ur need i (ch.site,DV I s) r) (put s I.dst v ch) K:=by
 simp[Qq]
theorem ai {i need I j dy l r} {s:Bg}:Qq E i need ((I,j::dy)::l) r s K=El E I s fun v ch =>
 ((j::dy).all fun j=>Si (LW j r) (ch.site,DV I s))=true/\Qq E (i+1) need l (Ur need i (ch.site,DV I s) r) (put s I.dst v ch) K:=rfl
theorem BD {z:Nat} {i i' need need' l} {r r':List (Nat×Ss)}{s s':Bg}(hz:Iv=z) (hi:i=i') (hn:need=need') (hr:r=r') (h:s=s'):Qq E i need l r s K=Qq E i' need' l r' s' K:=by rw[h,hr,hi,hn]
theorem m5 {need:List Nat}{i:Nat}{r:Ss}{rec:List (Nat×Ss)}(h:need.contains i=true):Ur need i r rec=(i,r)::rec:=by simp only[Ur,h,if_true]
theorem m6 {need:List Nat}{i:Nat}{r:Ss}{rec:List (Nat×Ss)}(h:need.contains i=false):Ur need i r rec=rec:=by simp only[Ur,h,Bool.false_eq_true,if_false]
theorem bT {j:Nat}:LW j []=none:=rfl
theorem YK {j i:Nat}{r:Ss} {l}:LW j ((i,r)::l)=if j=i then some r else LW j l:=rfl
theorem g8 {r b:Ss}:Si (some r) b=KA r b:=rfl
theorem qI {a f b f'}:KA (a,f) (b,f')=((a.all fun o=>!f'.contains o) && (b.all fun o=>!f.contains o)):=rfl
theorem gI {d g op xs} {sl:Nat->AV}{V:AL}:DV ⟨d,g,op,xs⟩ ⟨sl,V⟩=fp V d op (xs.map (Hd.val sl)):=rfl
theorem qi {x}:AV.sites (.d x)=[]:=by cases x<;>rfl
theorem pF {x}:AV.sites (.ex x)=[]:=rfl
theorem iz {x n}:AV.sites (.dptr x n)=[]:=rfl
theorem mU {o g}:AV.sites (.own o g)=[o]:=rfl
theorem mV {o g}:AV.sites (.map o g)=[o]:=rfl
theorem mT {o g f}:AV.sites (.ptr o g f)=[o]:=rfl
theorem iy {o g e i f}:AV.sites (.rptr o g e i f)=[o]:=rfl
theorem mW {l}:AV.sites (.agg l)=AV.sites.sitesL l:=rfl
theorem pE {f l}:AV.sites (.fn f l)=AV.sites.sitesL l:=rfl
theorem mS {l}:AV.sites (.tup l)=AV.sites.sitesL l:=rfl
theorem i0:AV.sites.sitesL []=[]:=rfl
theorem eJ {x l}:AV.sites.sitesL (x::l)=x.sites++AV.sites.sitesL l:=rfl
section
variable {d:Option Nat}{xs:List AV}{V:AL}
theorem nu:fp V d .mov xs=[]:=rfl
theorem kN:fp V d .pick xs=[]:=rfl
theorem ny {b}:fp V d (.bin b) xs=[]:=rfl
theorem pz {b}:fp V d (.un b) xs=[]:=rfl
theorem kP {b}:fp V d (.conv b) xs=[]:=rfl
theorem gC:fp V d .nilck xs=[]:=rfl
theorem gE {a}:fp V d (.faddr a) xs=[]:=rfl
theorem br {a b}:fp V d (.iaddrA a b) xs=[]:=rfl
theorem gG {a b}:fp V d (.build a b) xs=[]:=rfl
theorem gD {a b c e}:fp V d (.mkrow a b c e) xs=[]:=rfl
theorem bp {a}:fp V d (.minmax a) xs=[]:=rfl
theorem Yd {a}:fp V d (.extract a) xs=[]:=rfl
theorem kO {a b}:fp V d (.load a b) xs=AV.sites.sitesL xs:=rfl
theorem bq {a}:fp V d (.iaddrS a) xs=AV.sites.sitesL xs:=rfl
theorem nv {a}:fp V d (.len a) xs=AV.sites.sitesL xs:=rfl
theorem gA {a}:fp V d (.store a) xs=d.toList++AV.sites.sitesL xs:=rfl
theorem kQ {a}:fp V d (.call a) xs=Dd d V xs:=rfl
theorem gF:fp V d .callv xs=Dd d V xs:=rfl
theorem Y' {t}:Dd (some t) V xs=S0 t++V.reach 3 (AV.sites.sitesL xs):=rfl
theorem jq {t}:S0 t=[t,t+10000,t+20000,t+30000]:=rfl
theorem Tk:∀{n:Nat},V.reach n []=[]
 |0=>rfl
 |n+1=>by simp only[AL.reach,List.flatMap_nil,Tk,List.append_nil]
theorem jP {o l}:V.reach 3 (o::l)=(o::l)++V.reach 2 ((o::l).flatMap V.osites):=rfl
def U1:Option (Nat×AW)->List Nat
 |some (_,.cells xs)=>AV.sites.sitesL xs
 |some (_,.rowH _ _ _ q _)=>[q]
 |some (_,.mitO q _ _ _)=>[q]
 |_=>[]
theorem a9 {ob cn o}:(AL.mk ob cn).osites o=U1 (ob o):=rfl
theorem jj {g a b c l}:U1 (some (g,.row a b c l))=[]:=rfl
theorem jk {g a l}:U1 (some (g,.map a l))=[]:=rfl
theorem nz {a b c e}:fp V d (.app a b c e) xs=d.toList++AV.sites.sitesL xs:=rfl
theorem gB {a b c e}:fp V d (.slice a b c e) xs=d.toList++AV.sites.sitesL xs:=rfl
end
theorem eD {a:Nat}:(some a).toList=[a]:=rfl
theorem eE:(none:Option Nat).toList=[]:=rfl
end
theorem FL {k n}:(D.int k n).WF=K4 k n:=by rw[D.WF]
theorem Ea {b}:(D.bool b).WF=True:=by rw[D.WF]
theorem EM {nl xs}:(D.list nl xs).WF=(xs.length<=maxLen/\∀x,x∈xs->x.WF):=by rw[D.WF]
theorem Fd {xs}:(D.agg xs).WF=(∀x,x∈xs->x.WF):=by rw[D.WF]
theorem Fc {xs}:(D.ptr xs).WF=(∀x,x∈xs->x.WF):=by rw[D.WF]
theorem HI {f xs}:(D.fn f xs).WF=(∀x,x∈xs->x.WF):=by rw[D.WF]
theorem Fb {xs}:(D.tup xs).WF=(∀x,x∈xs->x.WF):=by rw[D.WF]
theorem EZ {nl} {xs:List Int}:(D.list nl (BU xs)).WF=(xs.length<=maxLen/\∀x,x∈xs->K4 .i64 x):=by
 rw[EM,CR];simp[BU,FL]
theorem CI {x:D}{l:List D}:(∀y,y∈x::l->y.WF)=(x.WF/\∀y,y∈l->y.WF):=by simp
theorem CX:(∀y,y∈([]:List D)->y.WF)=True:=by simp
theorem CY {α:Type}{f:α->D}{l:List α}:(∀y,y∈l.map f->y.WF)=(∀x,x∈l->(f x).WF):=by simp
theorem Eb {n:Int}:K4 .i64 n=(-9223372036854775808<=n/\n<=9223372036854775807):=by
 simp[K4,IntKind.min,IntKind.max,IntKind.signed,IntKind.bits]
theorem C9:maxLen=9223372036854775807:=rfl
theorem Lq {x:AV}{d:D}{xs:List AV}{ds:List D}(h:x.toD1=some d) (h':BV AV.toD1 xs=some ds):FB (x::xs)=some (d::ds):=by
 simp only[FB,BV,h,h']
theorem gn:C1=1073741824:=rfl
theorem nY:C_=900000:=rfl
theorem Cg (V0:List (Nat×Nat×AW)) (xs:List AV):Bg.enterM V0 xs=⟨EC (xs.zipIdx.map fun(d,k)=>(k,d)),⟨Bt V0,fun _=>1⟩⟩:=by
 have key:∀(xs:List AV) (n t:Nat),(match xs[t]? with|some d=>d|none=>.undef)=EC ((xs.zipIdx n).map fun(d,k)=>(k,d)) (n+t):=by
  intro xs
  induction xs with
  |nil=>intro n t;simp[EC]
  |cons x xs ih =>
   intro n t
   cases t with
   |zero=>simp[EC]
   |succ t =>
    have:=ih (n+1) t
    simp only[List.getElem?_cons_succ,List.zipIdx_cons,List.map_cons,EC]
    rw[if_neg (by omega),this]
    congr 1;omega
 unfold Bg.enterM
 congr 1
 funext t
 have:=key xs 0 t
 simp only[Nat.zero_add] at this
 rw[←this]
 cases xs[t]?<;>rfl
theorem oY {E:CW}{dst:Option Nat}{V:AL}{K:AV->B3->Prop}{f:FuncId}{xs:List AV}{V0 V1:List (Nat×Nat×AW)}{cxs:List AV}{r r':AV}{ch:B3}(ρ ρ2:Ren) (h:Ft E f V0 cxs V1 r) (h1:Sf ρ cxs xs)
  (h2:Handed V (Dd dst V xs) ρ V0) (h3:Gp V.cn dst V0 V1 ρ ρ2=true) (h4:r.ren ρ2=some r') (h5:Ki ρ ρ2 V1=some ch) (hk:K r' ch):Dk E dst V f xs K :=
 .inr (.inr (.inr (.inl ⟨V0,cxs,V1,r,r',ch,ρ,ρ2,h1,h,h2,h3,h4,h5,hk⟩)))
theorem Cz {E:CW}{dst:Option Nat}{V:AL}{K:AV->B3->Prop}{f:FuncId}{xs:List AV}{V0 V1:List (Nat×Nat×AW)}{cxs:List AV}{r r':AV}{ch:B3}(ρ ρ2:Ren) (h:Ft E f V0 cxs V1 r) (hk:K r' ch)
  (h1:Sf ρ cxs xs:=by repeat' first|exact True.intro|exact rfl|refine And.intro ?_ ?_)
  (h2:Handed V (Dd dst V xs) ρ V0:=by simp[Handed,Ren.get,AW.ren,AV.ren,AV.ren.renL,AL.get,Bt,Dd,S0,AL.reach,AV.sites,AV.sites.sitesL,AL.osites])
  (h3:Gp V.cn dst V0 V1 ρ ρ2=true:=by simp[Gp,It,Dt,Ren.get,S0,C_,CO,VM,RI]) (h4:r.ren ρ2=some r':=by rfl)
  (h5:Ki ρ ρ2 V1=some ch:=by simp only[Ki,Ren.get,AW.ren,AV.ren,AV.ren.renL,and_self,and_true,true_and,if_true,reduceIte];rfl):Dk E dst V f xs K :=
 oY ρ ρ2 h h1 h2 h3 h4 h5 hk
theorem em {E:CW} {rs V1 r s}:mu E rs V1 r .ret s=(Fy E s rs (jx V1 s.V r)/\fq s.V V1):=rfl
theorem WC {E:CW} {rs V1 r s}:mu E rs V1 r .normal s=(Fy E s rs (jx V1 s.V r)/\fq s.V V1):=rfl
section
variable {V:AL}{V1:List (Nat×Nat×AW)}
theorem pd {r v}:jx V1 V r [v]=Qb V1 V v r:=rfl
theorem pe {rs}:jx V1 V (.tup rs) []=Om V1 V [] rs:=rfl
theorem pc {rs v u l}:jx V1 V (.tup rs) (v::u::l)=Om V1 V (v::u::l) rs:=rfl
theorem dF:Om V1 V [] []=True:=rfl
theorem Y5 {v r vs rs}:Om V1 V (v::vs) (r::rs)=(Qb V1 V v r/\Om V1 V vs rs):=rfl
theorem km {v d}:Qb V1 V v (.d d)=(v.snap V=some d/\(v.sites.all fun o=>!YY V1 o)=true):=rfl
theorem dD {v o g f}:Qb V1 V v (.ptr o g f)=(v=.ptr o g f):=rfl
theorem dE {v o g}:Qb V1 V v (.own o g)=(v=.own o g):=rfl
theorem fv {o}:YY [] o=false:=rfl
theorem bi {p l o}:YY (p::l) o=(p.1 == o || YY l o):=rfl
def YW:Option (Nat×AW)->Nat->AW->Prop
 |some (g',.map t l),g,.map t' l'=>g'=g/\t=t'/\l=l'
 |some (g',.row a b c l),g,.row a' b' c' l'=>g'=g/\a=a'/\b=b'/\c=c'/\l=l'
 |some (g',.cells l),g,.cells l'=>g'=g/\l=l'
 |some (g',.hist a b c),g,.hist a' b' c'=>g'=g/\a=a'/\b=b'/\c=c'
 |some (g',.mapB a b c),g,.mapB a' b' c'=>g'=g/\a=a'/\b=b'/\c=c'
 |some (g',.mitO a b c d),g,.mitO a' b' c' d'=>g'=g/\a=a'/\b=b'/\c=c'/\d=d'
 |some (g',.mitD a b c),g,.mitD a' b' c'=>g'=g/\a=a'/\b=b'/\c=c'
 |some (g',.rowP a b c),g,.rowP a' b' c'=>g'=g/\a=a'/\b=b'/\c=c'
 |some (g',.rowH a b c d e),g,.rowH a' b' c' d' e'=>g'=g/\a=a'/\b=b'/\c=c'/\d=d'/\e=e'
 |some (g',.mat a b c d e),g,.mat a' b' c' d' e'=>g'=g/\a=a'/\b=b'/\c=c'/\d=d'/\e=e'
 |_,_,_=>False
theorem kE {x:Option (Nat×AW)}{g:Nat}{y:AW}:YW x g y=(x=some (g,y)):=by
 cases x with
 |none=>simp[YW]
 |some p=>obtain⟨g',z⟩:=p;cases z<;>cases y<;>simp[YW]
theorem fu {g' t l g t' l'}:YW (some (g',.map t l)) g (.map t' l')=(g'=g/\t=t'/\l=l'):=rfl
theorem ft {g' a b c l g a' b' c' l'}:YW (some (g',.row a b c l)) g (.row a' b' c' l')=(g'=g/\a=a'/\b=b'/\c=c'/\l=l'):=rfl
theorem YV {g' l g l'}:YW (some (g',.cells l)) g (.cells l')=(g'=g/\l=l'):=rfl
theorem kD:fq V []=True:=rfl
theorem fo {o g x l}:fq V ((o,g,x)::l)=(YW (V.ob o) g x/\fq V l):=by rw[kE];rfl
end
theorem Zx {E:CW}{t:Nat}{V:AL}{K:AV->B3->Prop}{f:FuncId}{xs:List AV}{ds:List D}{ety es:Nat}{P:Bool->List D->Prop}(h:ZH E f ds ety es P) (ht:t<C_)
  (hk:K (.own t (V.cn t)) (.fresh t (.rowP ety es P))) (ha:FB xs=some ds:=by rfl):Dk E (some t) V f xs K :=
 .inr (.inr (.inl ⟨ds,t,ety,es,P,_,rfl,ht,.inl ha,h,.inl rfl,hk⟩))
theorem RN {E:CW}{t:Nat}{V:AL}{K:AV->B3->Prop}{f:FuncId}{xs:List AV}{ds:List D}{ety es:Nat}{nl:Bool}{l:List D}(h:iC E f ds ety es nl l) (ht:t<C_) (hp:KI l=true)
  (hk:K (.own t (V.cn t)) (.fresh t (.row ety es nl l))) (ha:Sg V xs=some ds:=by rfl):Dk E (some t) V f xs K :=
 .inr (.inr (.inl ⟨ds,t,ety,es,_,_,rfl,ht,.inr ⟨ha,fun a b hab=>by rw[hab.2];exact hp⟩,h,.inr ⟨nl,l,rfl,fun _ _ h=>h⟩,hk⟩))
def kB (K:AV->B3->Prop):D->Prop
 |.bool b=>(b=true->K (.d (.bool true)) .none)/\(b=false->K (.d (.bool false)) .none)
 |r=>K (up r) .none
theorem j9 {K:AV->B3->Prop} {b}:kB K (.bool b)=((b=true->K (.d (.bool true)) .none)/\(b=false->K (.d (.bool false)) .none)):=rfl
theorem na {K:AV->B3->Prop} {k n}:kB K (.int k n)=K (.d (.int k n)) .none:=rfl
theorem j8 {K:AV->B3->Prop} {n l}:kB K (.list n l)=K (.d (.list n l)) .none:=rfl
theorem nc {K:AV->B3->Prop} {l}:kB K (.agg l)=K (.d (.agg l)) .none:=rfl
theorem nZ {K:AV->B3->Prop} {l}:kB K (.tup l)=K (.tup (l.map .d)) .none:=rfl
theorem pn {K:AV->B3->Prop} {f l}:kB K (.fn f l)=K (.d (.fn f l)) .none:=rfl
theorem AG {E:CW}{dst:Option Nat}{V:AL}{K:AV->B3->Prop}{f:FuncId}{xs:List AV}{ds:List D}{r:D}(h:Cc E f ds r) (hk:kB K r)
  (ha:FB xs=some ds\/(Sg V xs=some ds/\r.flat=true):=by first|exact .inl rfl|exact .inr ⟨rfl,rfl⟩):Dk E dst V f xs K:=by
 have hu:K (up r) .none:=by
  cases r with
  |bool b=>cases b with
   |true=>exact hk.1 rfl
   |false=>exact hk.2 rfl
  |_=>exact hk
 exact ha.elim (fun h1=>HE h h1 hu) fun h1=>oX h h1.1 h1.2 hu
theorem aI {a b:Prop}(h:a) (k:b):a/\b:=⟨h,k⟩
theorem tI:True:=⟨⟩
theorem Bq {z:Nat}{K:AV->B3->Prop}{r r':D}(hz:Iv=z) (h:r=r'):kB K r=kB K r':=by rw[h]
theorem isCall {E:CW}{dst:Option Nat}{V:AL}{K:AV->B3->Prop}{f:FuncId}{xs:List AV}(h:Dk E dst V f xs K):Dk E dst V f xs K:=h
theorem pp {α:Type}{S:Bg}{T:α->Bg}{I M:α->Prop}(h:∃y,S=T y/\I y/\M y):∃y,S=T y/\I y/\M y:=h
theorem Zj {α β:Type}{S:Bg}{T:α×β->Bg}{I M:α×β->Prop}(h:∃y,S=T y/\I y/\M y):∃y,S=T y/\I y/\M y:=h
theorem fg {α β γ:Type}{S:Bg}{T:α×β×γ->Bg}{I M:α×β×γ->Prop}(h:∃y,S=T y/\I y/\M y):∃y,S=T y/\I y/\M y:=h
theorem lq {α β γ δ:Type}{S:Bg}{T:α×β×γ×δ->Bg}{I M:α×β×γ×δ->Prop}(h:∃y,S=T y/\I y/\M y):∃y,S=T y/\I y/\M y:=h
theorem ff {α β γ δ ε:Type}{S:Bg}{T:α×β×γ×δ×ε->Bg}{I M:α×β×γ×δ×ε->Prop}(h:∃y,S=T y/\I y/\M y):∃y,S=T y/\I y/\M y:=h
theorem lp {α β γ δ ε ζ:Type}{S:Bg}{T:α×β×γ×δ×ε×ζ->Bg}{I M:α×β×γ×δ×ε×ζ->Prop}(h:∃y,S=T y/\I y/\M y):∃y,S=T y/\I y/\M y:=h
theorem ln {α β γ δ ε ζ η:Type}{S:Bg}{T:α×β×γ×δ×ε×ζ×η->Bg}{I M:α×β×γ×δ×ε×ζ×η->Prop}(h:∃y,S=T y/\I y/\M y):∃y,S=T y/\I y/\M y:=h
theorem ll {α β γ δ ε ζ η θ:Type}{S:Bg}{T:α×β×γ×δ×ε×ζ×η×θ->Bg}{I M:α×β×γ×δ×ε×ζ×η×θ->Prop}(h:∃y,S=T y/\I y/\M y):∃y,S=T y/\I y/\M y:=h
theorem nT {m k a}:GL m k a []=some a:=rfl
theorem nV {k:IntKind}{a b:Int} {rest}:GL true k a (.d (.int k b)::rest)=GL true k (max a b) rest:=by
 simp only[GL,if_true,jz];congr 1;omega
theorem nU {k:IntKind}{a b:Int} {rest}:GL false k a (.d (.int k b)::rest)=GL false k (min a b) rest:=by
 simp only[GL,if_true,jy,Bool.false_eq_true,if_false];congr 1;omega
theorem aD {α:Type}(xs:List α) (a:Nat):(xs.drop a).take (xs.length-a)=xs.drop a:=List.take_of_length_le (by simp)
theorem aH (n:Nat):n-0=n:=rfl
def tQ (a b:List D):Prop:=E3 a b=true
theorem ii {ts:List (Option IntKind)}{cs:List D}:Gt (true,ts) (.agg cs)=D4 ts cs:=by simp[Gt,D.isAgg,D.cells]
theorem d9:D4 [] []=true:=rfl
theorem d_ {k:IntKind}{n:Int} {ts cs}:D4 (some k::ts) (.int k n::cs)=D4 ts cs:=by simp[D4]
theorem Z' {b:Bool} {ts cs}:D4 (none::ts) (.bool b::cs)=D4 ts cs:=rfl
theorem ig {k:IntKind}{n:Int}:Gt (false,[some k]) (.int k n)=true:=by simp[Gt,D.isAgg,D.cells,D4]
section
variable {E:CW}{dst:Option Nat}{V:AL}{K:AV->B3->Prop}
end
def uA (E:CW) (p:PC) (Q:B7->Bg->Prop) (s:Bg):Prop:=∃e s',Q e s'/\∀Q':B7->Bg->Prop,Q' e s'->pw E p Q' s
attribute [go_sem] oK jR jW nA eq nC fE fD fF m9 jX eu jU m_ UU Xd aB TC ZB W_ YZ Wd f4 f5 kM px fy kL pv bn jb ja fz f6 kz dN jc bJ ji eY ah eZ Xx ai m5 m6 bT YK g8 qI gI qi pF iz mU mV mT iy mW pE mS i0 eJ nu kN ny pz kP gC gE br gG gD bp Yd kO bq nv gA kQ gF nz gB eD eE List.flatMap_cons List.flatMap_nil aV Xt aW eN Y' jq Tk jP a9 jj jk Vk iw kI kJ kH ew ey gz g7 dU lK j7 fQ ML fc YL bU nk d0 iY dz ki YM WU fK fL X_ pX bM jo fO jn fN nP fR bN j0 pW jf jg gZ cx cv oW kr oV ku ko oT oU qD qC mP iq ip mO mL il io pC ba YO mN pB lM qL oZ qK rU qF lJ bt Yk bu Yl dJ Y9 dK mF iZ mE oD kc oI oC Wm VA VB cA U7 Qx VD S8 Ys ke Yr oH kf Yt kg U9 S6 Yn VC S7 SF Wo kZ gW U_ Yo U' Wl bx kd kY gQ gP bw Wn Ym U8 S5 oG mr mq mn Yq cE gU ii d9 d_ Z' ig bz Yp gT Wk b8 fU nB YG jh kq im mM mZ mf bC b9 b_ gV Yv Yw cJ Wp Yu nI nJ lD k8 k9 lA lB lC bG cr cO cX cU cR cQ cP cq gX cN WK U0 YB YC YF YD YE aD aH nT nV nU Y4 Nb Lo U3 CR Gh He fh bf N' YU be d7 Z9 WL Ht el em WC pe pd pc dF Y5 km dD dE fv bi fu ft YV kD fo en ao my mz i_ i9 i8 mb jC jB pH aU mY mc mh jM jL pN i7 bI oz o4 List.map_cons List.map_nil List.zipIdx_cons List.zipIdx_nil List.zip_cons_cons List.zip_nil_left List.length_cons List.length_nil List.getElem?_cons_zero List.getElem?_cons_succ List.drop_zero List.drop_succ_cons List.take_succ_cons List.take_zero List.take_nil List.drop_nil List.contains_cons List.contains_nil List.filter_cons List.filter_nil List.all_cons List.all_nil List.cons_append List.nil_append List.append_nil List.set_cons_zero List.set_cons_succ aK List.replicate_succ List.replicate_zero List.isEmpty_cons List.isEmpty_nil List.length_map id_eq Nat.lt_irrefl Nat.zero_add Nat.add_zero Nat.zero_mul Nat.one_mul Nat.mul_one if_true if_false Bool.false_eq_true Bool.not_true Bool.not_false Bool.true_or Bool.false_or Bool.or_true Bool.or_false Bool.true_and Bool.false_and Bool.and_true Bool.and_false beq_self_eq_true Bool.and_self Bool.or_self true_and and_true false_and and_false ite_self exists_prop_of_true exists_prop not_false_eq_true not_true_eq_false forall_const eq_self and_self true_implies false_implies implies_true ne_eq List.cons_ne_nil Nat.le_refl Nat.not_lt_zero eT ae eR aZ ab Xw aY Xv Int.toNat_natCast Int.toNat_zero gn nY m8 di WM jm dT gR XT Vb dV XI iT nR ju WQ jr WP bQ PZ pY bH rC nS bD Ux aX Xu V_ an j9 na j8 nc nZ pn
attribute [go_sem_proc] Nat.reduceAdd Nat.reduceSub Nat.reduceMul Nat.reduceEqDiff Nat.reduceBEq Nat.reduceLeDiff Nat.reduceLT Int.reduceToNat Int.reduceLE Int.reduceLT Int.reduceNeg reduceIte reduceCtorEq Int.reduceEq Int.reduceAdd Int.reduceSub Int.reduceMul
end Go.Pw
