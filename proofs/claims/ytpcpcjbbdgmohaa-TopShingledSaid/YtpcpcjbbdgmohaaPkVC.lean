/- A part of the proof. -/
import Derived.Test.YtpcpcjbbdgmohaaPkZa
import Derived.IntWalk
set_option linter.all false
section
namespace Go.Pw
def Hs:Nat:=0
theorem fJ:Hs=0:=Eq.symm (Eq.symm rfl)
def Jv (v:AV) (b:Bool) (A B:Prop):Prop :=
 match v with
 |.d (.bool b')=>HM (b == b') A B
 |.tup []=>B
 |_=>False
def Zh (v:AV) (t:Nat) (sl:Nat->AV) (V:AB) (KS:BE->Prop):Prop :=
 match v with
 |.own o g=>Fq (V.get o g) fun _ _ nl l=>KS ⟨A9 sl t (.d (.list nl l)),V.drop o⟩
 |_=>KS ⟨sl,V⟩
def Zi (v:AV) (t:Nat) (sl:Nat->AV) (V:AB) (KS:BE->Prop):Prop :=
 match v with
 |.ptr o g 0=>Gy (V.get o g) fun xs=>Ay (A6 AV.toD1 xs) fun cs=>cs≠[]/\KS ⟨A9 sl t (.d (.ptr cs)),V.drop o⟩
 |_=>KS ⟨sl,V⟩
def gm (y:Option AE) (o g:Nat) (sl:Nat->AV) (V:AB) (KS:BE->Prop):Prop :=
 match y with
 |some (.rowH ety l i q p)=>Fq (V.get q p) fun _ _ nl xs=>KS ⟨sl,(V.drop q).app (.keep o g (.row ety 1 false (l.set i (.list nl xs))))⟩
 |_=>KS ⟨sl,V⟩
def iC (v:AV) (sl:Nat->AV) (V:AB) (KS:BE->Prop):Prop :=
 match v with
 |.own o g=>gm (V.get o g) o g sl V KS
 |_=>KS ⟨sl,V⟩
def iB (v:AV) (t:Nat) (sl:Nat->AV) (V:AB) (KS:BE->Prop):Prop :=
 match v with
 |.mref .out o g=>Fr (V.get o g) fun _ _ nl ix rows=>KS ⟨A9 sl t (.d (.list nl (HU ix rows))),V.drop o⟩
 |_=>KS ⟨sl,V⟩
def gn (x:Option AE) (t o:Nat) (sl:Nat->AV) (V:AB) (KS:BE->Prop):Prop :=
 match x with
 |some (.cells (c::l))=>KS ⟨A9 sl t (.ablk false (c::l) 0),V.drop o⟩
 |_=>False
def iE (v:AV) (t:Nat) (sl:Nat->AV) (V:AB) (KS:BE->Prop):Prop :=
 match v with
 |.ptr o g 0=>gn (V.get o g) t o sl V KS
 |_=>KS ⟨sl,V⟩
def XD (y:Option AE) (b g k o:Nat) (xs:List AV) (sl:Nat->AV) (V:AB) (KS:BE->Prop):Prop :=
 match y with
 |some (.mapB tys es _)=>KS ⟨sl,(V.drop o).app (.keep b g (.cells (xs.set k (.d (.map tys (es.map (·.2)))))))⟩
 |_=>False
def Pa (x:Option AV) (b g k:Nat) (xs:List AV) (sl:Nat->AV) (V:AB) (KS:BE->Prop):Prop :=
 match x with
 |some (.own o p)=>Fq (V.get o p) fun _ _ nl l=>KS ⟨sl,(V.drop o).app (.keep b g (.cells (xs.set k (.d (.list nl l)))))⟩
 |some (.mref .out o p)=>Fr (V.get o p) fun _ _ nl ix rows=>KS ⟨sl,(V.drop o).app (.keep b g (.cells (xs.set k (.d (.list nl (HU ix rows))))))⟩
 |some (.map o p)=>XD (V.get o p) b g k o xs sl V KS
 |_=>KS ⟨sl,V⟩
def XC (v:AV) (off:Nat) (sl:Nat->AV) (V:AB) (KS:BE->Prop):Prop :=
 match v with
 |.ptr b g f=>(match V.get b g with
  |some (.cells xs)=>Pa xs[f+off]? b g (f+off) xs sl V KS
  |_=>KS ⟨sl,V⟩)
 |_=>KS ⟨sl,V⟩
def Zl (y:Option AE) (b g k:Nat) (sl:Nat->AV) (V:AB) (KS:BE->Prop):Prop :=
 match y with
 |some (.cells xs)=>Pa xs[k]? b g k xs sl V KS
 |_=>KS ⟨sl,V⟩
def g_ (v:AV) (t e2:Nat) (sl:Nat->AV) (V:AB) (KS:BE->Prop):Prop :=
 match v with
 |.own o g=>Fq (V.get o g) fun e1 es nl l=>nl=false/\es=1/\o<A2/\(∀x,x∈l->x=.list true []) /\
  KS ⟨A9 sl t (.mref .out o (V.cn o)),V.app (.fresh o (.mat e1 e2 false (List.range l.length) (List.replicate l.length (true,[]))))⟩
 |_=>KS ⟨sl,V⟩
def hC (v:AV) (t o e1 e2:Nat) (sl:Nat->AV) (V:AB) (KS:BE->Prop):Prop :=
 match v with
 |.d (.list true [])=>o<A2/\KS ⟨A9 sl t (.mref .out o (V.cn o)),V.app (.fresh o (.mat e1 e2 true [] []))⟩
 |_=>KS ⟨sl,V⟩
def Yu (v:AV) (t o ety es:Nat) (sl:Nat->AV) (V:AB) (KS:BE->Prop):Prop :=
 match v with
 |.d (.list true [])=>o<A2/\KS ⟨A9 sl t (.own o (V.cn o)),V.app (.fresh o (.row ety es true []))⟩
 |_=>KS ⟨sl,V⟩
def gj (x:Option AV) (b g k o ety es:Nat) (xs:List AV) (sl:Nat->AV) (V:AB) (KS:BE->Prop):Prop :=
 match x with
 |some (.d (.list true []))=>o<A2/\o≠b/\KS ⟨sl,(V.app (.fresh o (.row ety es true []))).app (.keep b g (.cells (xs.set k (.own o (V.cn o)))))⟩
 |_=>KS ⟨sl,V⟩
def gk (y:Option AE) (b g k o ety es:Nat) (sl:Nat->AV) (V:AB) (KS:BE->Prop):Prop :=
 match y with
 |some (.cells xs)=>gj xs[k]? b g k o ety es xs sl V KS
 |_=>KS ⟨sl,V⟩
def hO (v:AV) (off o ety es:Nat) (sl:Nat->AV) (V:AB) (KS:BE->Prop):Prop :=
 match v with
 |.ptr b g f=>gk (V.get b g) b g (f+off) o ety es sl V KS
 |_=>KS ⟨sl,V⟩
def UU (x:Option AV) (b g k o e1 e2:Nat) (xs:List AV) (sl:Nat->AV) (V:AB) (KS:BE->Prop):Prop :=
 match x with
 |some (.d (.list true []))=>o<A2/\o≠b/\KS ⟨sl,(V.app (.fresh o (.mat e1 e2 true [] []))).app (.keep b g (.cells (xs.set k (.mref .out o (V.cn o)))))⟩
 |_=>KS ⟨sl,V⟩
def Wl (y:Option AE) (b g k o e1 e2:Nat) (sl:Nat->AV) (V:AB) (KS:BE->Prop):Prop :=
 match y with
 |some (.cells xs)=>UU xs[k]? b g k o e1 e2 xs sl V KS
 |_=>KS ⟨sl,V⟩
def Sb (v:AV) (off o e1 e2:Nat) (sl:Nat->AV) (V:AB) (KS:BE->Prop):Prop :=
 match v with
 |.ptr b g f=>Wl (V.get b g) b g (f+off) o e1 e2 sl V KS
 |_=>KS ⟨sl,V⟩
section
variable {E:C3}{Q:CC->BE->Prop}{s s':BE}{K:AV->Bk->Prop}{KS:BE->Prop}
theorem Dy {z:Nat}{p:PC}(hz:Hs=z) (h:s=s'):pw E p Q s=pw E p Q s':=by rw[h]
theorem CG {z:Nat}{l:List E7}(hz:Hs=z) (h:s=s'):Je E l s KS=Je E l s' KS:=by rw[h]
theorem Bn {z:Nat}{I:E7}(hz:Hs=z) (h:s=s'):Ej E I s K=Ej E I s' K:=by rw[h]
theorem D0 {z:Nat}{dst:Option Nat}{op:Ba}{V V':AB}{xs xs':List AV}(hz:Hs=z) (hV:V=V') (h:xs=xs'):ev E dst V op xs K=ev E dst V' op xs' K:=by rw[h,hV]
theorem Bu {z:Nat}{b:BinOp}{k k' k1 k2:IntKind}{x y x' y':Int}{C:AV->Prop}(hz:Hs=z) (h1:k=k1) (h2:k'=k2) (hx:x=x') (hy:y=y'):ED b k k' x y C=ED b k1 k2 x' y' C:=by rw[h1,h2,hx,hy]
theorem Bw {z:Nat}{c c':Bool}{A B:Prop}(hz:Hs=z) (h:c=c'):HM c A B=HM c' A B:=by rw[h]
theorem Bv {z:Nat}{v v':AV}{A B:Prop}(hz:Hs=z) (h:v=v'):O' v A B=O' v' A B:=by rw[h]
theorem Bm {z:Nat}{e e':CC}{A:BE->Prop}(hz:Hs=z) (he:e=e') (h:s=s'):JX A Q e s=JX A Q e' s':=by rw[he,h]
theorem BU {z:Nat}{i:Nat}{e e':CC}(hz:Hs=z) (he:e=e') (h:s=s'):I3 i Q e s=I3 i Q e' s':=by rw[he,h]
theorem BN {α:Type}{z:Nat}{x y:Option α}{A:α->Prop}(hz:Hs=z) (h:x=y):Ay x A=Ay y A:=by rw[h]
theorem BG {z:Nat}{x y:Option AE} {A} (hz:Hs=z) (h:x=y):Gy x A=Gy y A:=by rw[h]
theorem Bp {z:Nat}{x y:Option AE} {A} (hz:Hs=z) (h:x=y):Fq x A=Fq y A:=by rw[h]
theorem BP {z:Nat}{x y:Option AE} {A B} (hz:Hs=z) (h:x=y):Gf x A B=Gf y A B:=by rw[h]
theorem BQ {z:Nat}{x y:Option AE} {A} (hz:Hs=z) (h:x=y):Jq x A=Jq y A:=by rw[h]
theorem Bs {z:Nat}{x y:Option AE} {A B} (hz:Hs=z) (h:x=y):Lt x A B=Lt y A B:=by rw[h]
theorem CO {z:Nat}{es es':List (Nat×D×D)}{l l':List Nat} {A B} (hz:Hs=z) (h:es=es') (h':l=l'):be es l A B=be es' l' A B:=by rw[h,h']
theorem CP {z:Nat}{es es':List (D×D)}{l l':List Nat} {A B} (hz:Hs=z) (h:es=es') (h':l=l'):bf es l A B=bf es' l' A B:=by rw[h,h']
theorem Bq {α:Type}{z:Nat}{x y:Option α}{A:α->Prop}{B:Prop}(hz:Hs=z) (h:x=y):QJ x A B=QJ y A B:=by rw[h]
theorem BS {z:Nat}{gs:List EN}(hz:Hs=z) (h:s=s'):C7 gs s KS=C7 gs s' KS:=by rw[h]
theorem Bt {z:Nat}{g:EN}(hz:Hs=z) (h:s=s'):Fb g s KS=Fb g s' KS:=by rw[h]
theorem BT {z:Nat}{dst:Option Nat}{V V':AB}{f:FuncId}{xs xs':List AV}(hz:Hs=z) (hV:V=V') (h:xs=xs'):Dk E dst V f xs K=Dk E dst V' f xs' K:=by rw[h,hV]
theorem CK {z:Nat}{α:Type}{ag:Bool}{n n':Nat}{cs cs':List α}{off off':Nat}{mk:List α->AV}{one:α->AV}{C:AV->Prop}(hz:Hs=z) (hn:n=n') (h:cs=cs') (ho:off=off'):Ca ag n cs off mk one C=Ca ag n' cs' off' mk one C:=by rw[hn,h,ho]
theorem C8 {z:Nat}{lo hi:Bool}{n n':Nat}{xs xs':List AV}{C:Nat->Nat->Prop}(hz:Hs=z) (hn:n=n') (h:xs=xs'):Nc lo hi n xs C=Nc lo hi n' xs' C:=by rw[hn,h]
theorem BR {z:Nat}{v v':AV}{b:Bool}{A B:Prop}(hz:Hs=z) (h:v=v'):Jv v b A B=Jv v' b A B:=by rw[h]
theorem CQ {z:Nat}{v v':AV}{t:Nat}{sl:Nat->AV}{V:AB}(hz:Hs=z) (h:v=v'):Zh v t sl V KS=Zh v' t sl V KS:=by rw[h]
theorem CL {z:Nat}{v v':AV}{t o ety es:Nat}{sl:Nat->AV}{V:AB}(hz:Hs=z) (h:v=v'):Yu v t o ety es sl V KS=Yu v' t o ety es sl V KS:=by rw[h]
theorem CI {z:Nat}{rs:List RT}{K:List AV->Prop}(hz:Hs=z) (h:s=s'):Gd E s rs K=Gd E s' rs K:=by rw[h]
theorem CJ {z:Nat}{r:RT}{K:AV->Prop}(hz:Hs=z) (h:s=s'):UG E s r K=UG E s' r K:=by rw[h]
theorem Af {b:Bool}{A B:Prop}(h1:b=true->A) (h2:b=false->B):HM b A B:=⟨h1,h2⟩
theorem ak {d t b op xs} {sl:Nat->AV}{V:AB}:Ej E ⟨d,some (t,b),op,xs⟩ ⟨sl,V⟩ K=Jv (sl t) b (ev E d V op (xs.map (I5.val sl)) K) (K (.tup []) .none):=rfl
theorem b9 {b:Bool}{A B:Prop}:Jv (.d (.bool b)) true A B=HM b A B:=by simp[Jv]
theorem b_ {b:Bool}{A B:Prop}:Jv (.d (.bool b)) false A B=HM b B A:=by cases b<;>simp[Jv]
theorem b8 {b:Bool}{A B:Prop}:Jv (.tup []) b A B=B:=rfl
theorem Zc {t:Nat}{sl:Nat->AV}{V:AB}:Fb (.freeze t) ⟨sl,V⟩ KS=Zh (sl t) t sl V KS:=by
 simp only[Fb,Zh]
 cases sl t with
 |own o g=>simp only;cases V.get o g with
  |none=>rfl
  |some x=>cases x<;>rfl
 |_=>rfl
theorem cH {t o g:Nat}{sl:Nat->AV}{V:AB}:Zh (.own o g) t sl V KS=Fq (V.get o g) fun _ _ nl l=>KS ⟨A9 sl t (.d (.list nl l)),V.drop o⟩:=rfl
theorem Zd {t:Nat}{sl:Nat->AV}{V:AB}:Fb (.frzP t) ⟨sl,V⟩ KS=Zi (sl t) t sl V KS:=by
 simp only[Fb,Zi]
 cases sl t with
 |ptr o g f =>
  cases f with
  |zero =>
   simp only;cases V.get o g with
   |none=>rfl
   |some x =>
    cases x with
    |cells xs =>
     simp only[Gy]
     cases A6 AV.toD1 xs with
     |none=>rfl
     |some l=>cases l<;>simp[Ay]
    |_=>rfl
  |succ n=>rfl
 |_=>rfl
theorem cK {t o g:Nat}{sl:Nat->AV}{V:AB}:Zi (.ptr o g 0) t sl V KS=Gy (V.get o g) fun xs=>Ay (A6 AV.toD1 xs) fun cs=>cs≠[]/\KS ⟨A9 sl t (.d (.ptr cs)),V.drop o⟩:=rfl
theorem CR {z:Nat}{v v':AV}{t:Nat}{sl:Nat->AV}{V:AB}(hz:Hs=z) (h:v=v'):Zi v t sl V KS=Zi v' t sl V KS:=by rw[h]
theorem BO {z:Nat}{x y:Option AE} {A B} (hz:Hs=z) (h:x=y):LD x A B=LD y A B:=by rw[h]
theorem Zb {t o ety es:Nat}{sl:Nat->AV}{V:AB}:Fb (.own t o ety es) ⟨sl,V⟩ KS=Yu (sl t) t o ety es sl V KS:=rfl
theorem W_ {t off o e1 e2:Nat}{sl:Nat->AV}{V:AB}:Fb (.ownMC t off o e1 e2) ⟨sl,V⟩ KS=Sb (sl t) off o e1 e2 sl V KS:=by
 simp only[Fb,Sb]
 cases sl t with
 |ptr b g f =>
  simp only[Wl]
  cases V.get b g with
  |none=>rfl
  |some x =>
   cases x with
   |cells xs=>simp only[UU];rfl
   |_=>rfl
 |_=>rfl
theorem Y2 {b g f off o e1 e2:Nat}{sl:Nat->AV}{V:AB}:Sb (.ptr b g f) off o e1 e2 sl V KS=Wl (V.get b g) b g (f+off) o e1 e2 sl V KS:=rfl
theorem UT {b g k o e1 e2:Nat}{xs:List AV}{sl:Nat->AV}{V:AB}:Wl (some (.cells xs)) b g k o e1 e2 sl V KS=UU xs[k]? b g k o e1 e2 xs sl V KS:=rfl
theorem Y3 {b g k o e1 e2:Nat}{xs:List AV}{sl:Nat->AV}{V:AB}:UU (some (.d (.list true []))) b g k o e1 e2 xs sl V KS=(o<A2/\o≠b/\KS ⟨sl,(V.app (.fresh o (.mat e1 e2 true [] []))).app (.keep b g (.cells (xs.set k (.mref .out o (V.cn o)))))⟩):=rfl
theorem Wk {b g k o e1 e2 k' o' g':_}{xs:List AV}{sl:Nat->AV}{V:AB}:UU (some (.mref k' o' g')) b g k o e1 e2 xs sl V KS=KS ⟨sl,V⟩:=rfl
theorem Bo {z:Nat}{v v':AV}{off o e1 e2:Nat}{sl:Nat->AV}{V:AB}(hz:Hs=z) (h:v=v'):Sb v off o e1 e2 sl V KS=Sb v' off o e1 e2 sl V KS:=by rw[h]
theorem CN {z:Nat}{y y':Option AE}{b g k k' o e1 e2:Nat}{sl:Nat->AV}{V:AB}(hz:Hs=z) (h:y=y') (hk:k=k'):Wl y b g k o e1 e2 sl V KS=Wl y' b g k' o e1 e2 sl V KS:=by rw[h,hk]
theorem CM {z:Nat}{y y':Option AV}{b g k o e1 e2:Nat}{xs:List AV}{sl:Nat->AV}{V:AB}(hz:Hs=z) (h:y=y'):UU y b g k o e1 e2 xs sl V KS=UU y' b g k o e1 e2 xs sl V KS:=by rw[h]
theorem Ze {t off:Nat}{sl:Nat->AV}{V:AB}:Fb (.frzC t off) ⟨sl,V⟩ KS=XC (sl t) off sl V KS:=by
 simp only[Fb,XC]
 cases sl t with
 |ptr b g f =>
  simp only
  cases V.get b g with
  |none=>rfl
  |some x =>
   cases x with
   |cells xs =>
    simp only[Pa]
    cases xs[f+off]? with
    |none=>rfl
    |some y =>
     cases y with
     |own o p=>simp only;cases V.get o p with
      |none=>rfl
      |some z=>cases z<;>rfl
     |mref q o p =>
      cases q with
      |out=>simp only;cases V.get o p with
       |none=>rfl
       |some z=>cases z<;>rfl
      |_=>rfl
     |map o p=>simp only[XD];cases V.get o p with
      |none=>rfl
      |some z=>cases z<;>rfl
     |_=>rfl
   |_=>rfl
 |_=>rfl
theorem cL {b g f off:Nat}{sl:Nat->AV}{V:AB}:XC (.ptr b g f) off sl V KS=Zl (V.get b g) b g (f+off) sl V KS:=by
 simp only[XC,Zl]
theorem Ul {b g k:Nat}{xs:List AV}{sl:Nat->AV}{V:AB}:Zl (some (.cells xs)) b g k sl V KS=Pa xs[k]? b g k xs sl V KS:=rfl
theorem Zj {b g k o p:Nat}{xs:List AV}{sl:Nat->AV}{V:AB}:Pa (some (.own o p)) b g k xs sl V KS=Fq (V.get o p) fun _ _ nl l=>KS ⟨sl,(V.drop o).app (.keep b g (.cells (xs.set k (.d (.list nl l)))))⟩:=rfl
theorem XA {b g k o p:Nat}{xs:List AV}{sl:Nat->AV}{V:AB}:Pa (some (.mref .out o p)) b g k xs sl V KS=Fr (V.get o p) fun _ _ nl ix rows=>KS ⟨sl,(V.drop o).app (.keep b g (.cells (xs.set k (.d (.list nl (HU ix rows))))))⟩:=rfl
theorem Zk {b g k o p:Nat}{xs:List AV}{sl:Nat->AV}{V:AB}:Pa (some (.map o p)) b g k xs sl V KS=XD (V.get o p) b g k o xs sl V KS:=rfl
theorem XB {b g k o:Nat} {tys es cl} {xs:List AV}{sl:Nat->AV}{V:AB}:XD (some (.mapB tys es cl)) b g k o xs sl V KS=KS ⟨sl,(V.drop o).app (.keep b g (.cells (xs.set k (.d (.map tys (es.map (·.2)))))))⟩:=rfl
theorem CV {z:Nat}{y y':Option AE}{b g k o:Nat}{xs:List AV}{sl:Nat->AV}{V:AB}(hz:Hs=z) (h:y=y'):XD y b g k o xs sl V KS=XD y' b g k o xs sl V KS:=by rw[h]
theorem ep {b g k:Nat}{x:D}{xs:List AV}{sl:Nat->AV}{V:AB}:Pa (some (.d x)) b g k xs sl V KS=KS ⟨sl,V⟩:=rfl
theorem CT {z:Nat}{v v':AV}{off:Nat}{sl:Nat->AV}{V:AB}(hz:Hs=z) (h:v=v'):XC v off sl V KS=XC v' off sl V KS:=by rw[h]
theorem CU {z:Nat}{y y':Option AE}{b g k k':Nat}{sl:Nat->AV}{V:AB}(hz:Hs=z) (h:y=y') (hk:k=k'):Zl y b g k sl V KS=Zl y' b g k' sl V KS:=by rw[h,hk]
theorem CS {z:Nat}{y y':Option AV}{b g k:Nat}{xs:List AV}{sl:Nat->AV}{V:AB}(hz:Hs=z) (h:y=y'):Pa y b g k xs sl V KS=Pa y' b g k xs sl V KS:=by rw[h]
def Xy (y:Option AE) (t o:Nat) (sl:Nat->AV) (V:AB) (KS:BE->Prop):Prop :=
 match y with
 |some (.row ety es nl l)=>o<A2/\KS ⟨A9 sl t (.own o (V.cn o)),V.app (.fresh o (.row ety es nl l))⟩
 |_=>KS ⟨sl,V⟩
def aJ (v:AV) (t:Nat) (sl:Nat->AV) (V:AB) (KS:BE->Prop):Prop :=
 match v with
 |.own o g=>Xy (V.get o g) t o sl V KS
 |_=>KS ⟨sl,V⟩
theorem Zf {t:Nat}{sl:Nat->AV}{V:AB}:Fb (.bump t) ⟨sl,V⟩ KS=aJ (sl t) t sl V KS:=by
 simp only[Fb,aJ]
 cases sl t with
 |own o g=>simp only[Xy];cases V.get o g with
  |none=>rfl
  |some x=>cases x<;>rfl
 |_=>rfl
theorem c9 {t o g:Nat}{sl:Nat->AV}{V:AB}:aJ (.own o g) t sl V KS=Xy (V.get o g) t o sl V KS:=rfl
theorem aH {t o ety es:Nat}{nl:Bool}{l:List D}{sl:Nat->AV}{V:AB}:Xy (some (.row ety es nl l)) t o sl V KS=(o<A2/\KS ⟨A9 sl t (.own o (V.cn o)),V.app (.fresh o (.row ety es nl l))⟩):=rfl
theorem CW {z:Nat}{v v':AV}{t:Nat}{sl:Nat->AV}{V:AB}(hz:Hs=z) (h:v=v'):aJ v t sl V KS=aJ v' t sl V KS:=by rw[h]
theorem CX {z:Nat}{y y':Option AE}{t o:Nat}{sl:Nat->AV}{V:AB}(hz:Hs=z) (h:y=y'):Xy y t o sl V KS=Xy y' t o sl V KS:=by rw[h]
theorem Br {z:Nat}{x y:Option AE} {A} (hz:Hs=z) (h:x=y):Fr x A=Fr y A:=by rw[h]
theorem bS {t o ety es:Nat}{sl:Nat->AV}{V:AB}:Yu (.d (.list true [])) t o ety es sl V KS=(o<A2/\KS ⟨A9 sl t (.own o (V.cn o)),V.app (.fresh o (.row ety es true []))⟩):=rfl
theorem bR {t o ety es o' g:Nat}{sl:Nat->AV}{V:AB}:Yu (.own o' g) t o ety es sl V KS=KS ⟨sl,V⟩:=rfl
end
theorem aZ {α:Type}(f:Nat->α) (i:Nat) (x:α) (j:Nat):A9 f i x j=if j=i then x else f j:=rfl
theorem YC (f:Nat->Nat) (i x y:Nat):A9 (A9 f i x) i y=A9 f i y:=by funext j;simp only[A9];split<;>rfl
theorem fq {x:D}:(AV.d x).one=x.one:=rfl
theorem bW {o g}:(AV.own o g).one=true:=rfl
theorem bX {o g}:(AV.map o g).one=true:=rfl
theorem bV {o g f}:(AV.ptr o g f).one=true:=rfl
theorem Y1 {k o g}:(AV.mref k o g).one=true:=rfl
theorem Z8 {k n}:(D.int k n).one=true:=rfl
theorem Xo {n l}:(D.list n l).one=true:=rfl
theorem Z7 {f l}:(D.map f l).one=true:=rfl
theorem fP {c}:(AV.agg c).cells?=some c:=rfl
theorem c8 {c}:(AV.d (.agg c)).cells?=some (c.map .d):=rfl
theorem fO {k n}:(AV.d (.int k n)).cells?=some [.d (.int k n)]:=rfl
theorem c6 {n l}:(AV.d (.list n l)).cells?=some [.d (.list n l)]:=rfl
theorem c7 {f l}:(AV.d (.map f l)).cells?=some [.d (.map f l)]:=rfl
theorem fM {o g}:(AV.own o g).cells?=some [.own o g]:=rfl
theorem fN {o g}:(AV.map o g).cells?=some [.map o g]:=rfl
theorem fL {o g f}:(AV.ptr o g f).cells?=some [.ptr o g f]:=rfl
theorem gM {l}:(AV.ex l).cells?=some [.ex l]:=rfl
theorem cz {k o g}:(AV.mref k o g).cells?=some [.mref k o g]:=rfl
theorem gL {f c}:(AV.fn f c).cells?=some [.fn f c]:=rfl
theorem dk {k n}:AV.toD0 (.d (.int k n))=some (.int k n):=rfl
theorem di {l}:AV.toD0 (.d (.ptr l))=some (.ptr l):=rfl
theorem df {k n}:AV.toD1 (.d (.int k n))=some (.int k n):=rfl
theorem af {n l}:AV.toD1 (.d (.list n l))=some (.list n l):=rfl
theorem ai {l}:AV.toD1 (.d (.agg l))=some (.agg l):=rfl
theorem ah {f l}:AV.toD1 (.d (.map f l))=some (.map f l):=rfl
theorem dg {f cs}:AV.toD1 (.bnd f cs)=match A6 AV.toD0 cs with|some l=>some (.bnd f l)|none=>none:=rfl
theorem fZ {l}:AV.toD1 (.ex l)=some (.list false l):=rfl
theorem Wu {α β:Type}{f:α->Option β}:A6 f []=some []:=rfl
theorem Uc {α β:Type}{f:α->Option β}{x:α}{xs:List α}:A6 f (x::xs)=match f x with
 |none=>none
 |some y=>match A6 f xs with|none=>none|some ys=>some (y::ys):=rfl
theorem dh {cs}:AV.toD1 (.agg cs)=match A6 AV.toD0 cs with|some l=>some (.agg l)|none=>none:=rfl
theorem fY {f cs}:AV.toD1 (.fn f cs)=match A6 AV.toD0 cs with|some l=>some (.fn f l)|none=>none:=rfl
theorem dM {V:AB} {n l}:(AV.d (.list n l)).asList V=some (n,l):=rfl
theorem gS {V:AB} {l}:(AV.ex l).asList V=some (false,l):=rfl
theorem gR {V:AB} {o g}:(AV.mref .out o g).asList V=match V.get o g with|some (.mat _ _ nil ix rows)=>some (nil,HU ix rows)|_=>none:=rfl
theorem gq {V:AB} {x}:Fx V none (.d x)=match (AV.d x).asList V with|some (_,ys)=>some ys|none=>none:=rfl
theorem gN {V:AB} {x}:Fx V none (.ex x)=match (AV.ex x).asList V with|some (_,ys)=>some ys|none=>none:=rfl
theorem XN {es xs}:Fd es xs []=some xs:=rfl
theorem Us {es xs i v rest}:Fd es xs ((i,v)::rest)=match v.toD1 with
 |none=>none
 |some x=>if x.cells.length=es/\i<xs.length then Fd es (xs.set i x) rest else none:=rfl
theorem XO {cs}:Ku cs []=some cs:=rfl
theorem Ut {cs off size v rest}:Ku cs (((off,size),v)::rest)=match v.cells? with
 |none=>none
 |some vs=>if vs.length=size/\off+size<=cs.length then Ku (BK cs off vs) rest else none:=rfl
theorem Xv {k n}:(D.int k n).cells=[.int k n]:=rfl
theorem VF {n l}:(D.list n l).cells=[.list n l]:=rfl
theorem Xw {l}:(D.agg l).cells=l:=rfl
theorem de {k n}:up (.int k n)=.d (.int k n):=rfl
theorem WK:Bk.site .none=[]:=rfl
theorem YR {a b}:Bk.site (.seq a b)=a.site++b.site:=rfl
theorem T5 {o x}:Bk.site (.fresh o x)=[o]:=rfl
theorem WL {o g x}:Bk.site (.keep o g x)=[o]:=rfl
def Bi (xs:List Int):List D:=xs.map (D.int .i64)
@[simp] theorem f9:Bi []=[]:=rfl
theorem Ft (xs:List Int):(Bi xs=[])=(xs=[]):=by cases xs<;>simp[Bi]
theorem HI (xs:List Int):(Bi xs).length=xs.length:=by simp[Bi]
theorem W5 (xs:List Int) (n:Nat):(Bi xs).drop n=Bi (xs.drop n):=by simp[Bi]
theorem W4 (xs:List Int) (n:Nat):(Bi xs).take n=Bi (xs.take n):=by simp[Bi]
theorem ZT (xs ys:List Int):Bi xs++Bi ys=Bi (xs++ys):=by simp[Bi]
theorem IM (xs:List Int) (y:Int):Bi xs++[.int .i64 y]=Bi (xs++[y]):=by simp[Bi]
theorem HH (xs:List Int) (i:Nat) (y:Int):(Bi xs).set i (.int .i64 y)=Bi (xs.set i y):=by simp[Bi,List.map_set]
theorem ZS (n:Nat) (y:Int):List.replicate n (D.int .i64 y)=Bi (List.replicate n y):=by simp[Bi]
theorem IL (xs:List Int):DY 1 (Bi xs)=True:=by
 simp only[DY,Bi,eq_iff_iff,iff_true];intro x hx;simp at hx;obtain⟨n,_,rfl⟩:=hx;rfl
theorem YG {es:Nat}:DY es []=True:=by simp[DY]
theorem V6 {es:Nat}{x:D}{l:List D}:DY es (x::l)=(x.cells.length=es/\DY es l):=by simp[DY]
theorem JW {α:Type}{es:Nat}{f:α->D}{l:List α}(h:∀x,(f x).cells.length=es):DY es (l.map f)=True:=by
 simp only[DY,eq_iff_iff,iff_true];intro x hx;simp at hx;obtain⟨y,_,rfl⟩:=hx;exact h y
theorem Se {xs:List Int}{i:Nat}{A:D->Prop}:Ay (Bi xs)[i]? A=(i<xs.length/\A (.int .i64 (xs[i]?.getD 0))):=by
 unfold Bi
 rw[List.getElem?_map]
 by_cases h:i<xs.length
 ·simp[h,Ay]
 ·have:xs[i]?=none:=List.getElem?_eq_none (by omega)
  simp[this,h,Ay]
theorem FQ {α:Type} [Inhabited α] {f:α->D}{xs:List α}{i:Nat}{A:D->Prop}:Ay (xs.map f)[i]? A=(i<xs.length/\A (f (xs[i]?.getD default))):=by
 rw[List.getElem?_map]
 by_cases h:i<xs.length
 ·simp[h,Ay]
 ·have:xs[i]?=none:=List.getElem?_eq_none (by omega)
  simp[this,h,Ay]
theorem Sd {xs:List Nat}{i:Nat}{A:Nat->Prop}:Ay xs[i]? A=(i<xs.length/\A (xs[i]?.getD 0)):=by
 by_cases h:i<xs.length
 ·simp[h,Ay]
 ·have:xs[i]?=none:=List.getElem?_eq_none (by omega)
  simp[this,h,Ay]
def gz {α:Type}(f:α->D) (M:List (List α)):List (Bool×List D):=M.map fun r=>(false,r.map f)
section
variable {E:C3}{dst:Option Nat}{V:AB}{K:AV->Bk->Prop}{f:FuncId}{xs:List AV}
theorem VG {ds:List D}{r:D}(h:E9 E f ds r) (ha:Fw xs=some ds) (hk:K (up r) .none):Dk E dst V f xs K:=.inl ⟨ds,r,ha,h,hk⟩
theorem M3 {ds:List D}{r:D}(h:E9 E f ds r) (ha:PI V xs=some ds) (hf:r.flat=true) (hk:K (up r) .none):Dk E dst V f xs K:=.inr (.inl ⟨ds,r,ha,h,hf,hk⟩)
end
section
variable {E:C3}{Q:CC->BE->Prop}{s:BE}
def setL (l:List (Nat×AV)) (k:Nat) (v:AV):List (Nat×AV):=l.map fun p=>if p.1=k then (k,v) else p
def YW (l:List (Nat×(Nat×AE))) (k:Nat) (x:AE):List (Nat×(Nat×AE)):=l.map fun p=>if p.1=k then (k,(0,x)) else p
def NB (l:List (Nat×AV)):List (Nat×AV)->List (Nat×AV)
 |[]=>l
 |(k,v)::r=>setL (NB l r) k v
def Le (l:List (Nat×(Nat×AE))):List (Nat×AE)->List (Nat×(Nat×AE))
 |[]=>l
 |(k,v)::r=>YW (Le l r) k v
theorem YY {k:Nat}{v:AV}:setL [] k v=[]:=rfl
theorem WT {a k:Nat}{b v:AV} {l}:setL ((a,b)::l) k v=(if a=k then (k,v) else (a,b))::setL l k v:=rfl
theorem YV {k:Nat}{v:AE}:YW [] k v=[]:=rfl
theorem WQ {a k:Nat}{b:Nat×AE}{v:AE} {l}:YW ((a,b)::l) k v=(if a=k then (k,(0,v)) else (a,b))::YW l k v:=rfl
theorem WR {l}:NB l []=l:=rfl
theorem T8 {l k v r}:NB l ((k,v)::r)=setL (NB l r) k v:=rfl
theorem WP {l}:Le l []=l:=rfl
theorem T7 {l k v r}:Le l ((k,v)::r)=YW (Le l r) k v:=rfl
theorem fV {f:Nat->AV}{n:Nat}:I5.val f (.t n)=f n:=rfl
theorem fW {f:Nat->AV}{v:AV}:I5.val f (.k v)=v:=rfl
theorem WB {α:Type}(cs:List α) (off:Nat) (vs:List α):BK cs off vs=cs.take off++vs++cs.drop (off+vs.length):=rfl
theorem BB {α:Type}(up:α->List (Nat×AV)) (uo:α->List (Nat×AE)) (Inv:α->Prop) (μ:α->Nat) (x0:α) {gs:List EN}{ks os:List Nat}{a:PC}
  {l0:List (Nat×AV)}{m0:List (Nat×(Nat×AE))}(h0:C7 gs s fun s1=>s1.nrm ks os=⟨Eg l0,⟨AX m0,fun _=>1⟩⟩)
  (he:NB l0 (up x0)=l0) (he':Le m0 (uo x0)=m0) (hI:Inv x0)
  (step:∀x,Inv x->pw E a (JX (fun s'=>C7 gs s' fun s1=>∃y,s1.nrm ks os=⟨Eg (NB l0 (up y)),⟨AX (Le m0 (uo y)),fun _=>1⟩⟩/\Inv y/\μ y<μ x) Q) ⟨Eg (NB l0 (up x)),⟨AX (Le m0 (uo x)),fun _=>1⟩⟩) :
  pw E (.loop gs ks os a) Q s :=
 Yk (fun x=>⟨Eg (NB l0 (up x)),⟨AX (Le m0 (uo x)),fun _=>1⟩⟩) Inv μ x0 (by rw[he,he'];exact h0) hI step
end
theorem BM (n:Int) (h:-9223372036854775808<=n/\n<=9223372036854775807):IntKind.i64.wrap n=n:=Go.IntWalk.i64_in n h
theorem Yg {E:C3} {rs r s}:eD E rs r .ret s=Gd E s rs (M_ s.V r):=rfl
theorem SV {E:C3} {rs r s}:eD E rs r .normal s=Gd E s rs (M_ s.V r):=rfl
theorem Yi {E:C3} {s K}:Gd E s [] K=K []:=rfl
theorem Wb {E:C3} {s r l K}:Gd E s (r::l) K=UG E s r fun v=>Gd E s l fun vs=>K (v::vs):=rfl
theorem eG {E:C3} {s n K}:UG E s (.t n) K=K (s.sl n):=rfl
theorem eH {E:C3} {s a ty ag n K}:UG E s (.c a ty ag n) K=ev E none s.V (.load ag n) [s.sl a] fun v _=>K v:=rfl
theorem av {V r v}:M_ V r [v]=(v.snap V=some r):=rfl
theorem au {V r v u}:M_ V r [v,u]=((A6 (AV.snap V) [v,u]).map .tup=some r):=rfl
theorem du {V k n}:AV.snap V (.d (.int k n))=some (.int k n):=rfl
theorem a7 {V b}:AV.snap V (.d (.bool b))=some (.bool b):=rfl
theorem aw {V n l}:AV.snap V (.d (.list n l))=some (.list n l):=rfl
theorem dt {V o g}:AV.snap V (.own o g)=match V.get o g with|some (.row _ _ nil xs)=>some (.list nil xs)|_=>none:=rfl
theorem dv {V cs}:AV.snap V (.agg cs)=match A6 (AV.snap0 V) cs with|some l=>some (.agg l)|none=>none:=rfl
theorem d6 {V k n}:AV.snap0 V (.d (.int k n))=some (.int k n):=rfl
theorem bA {V n l}:AV.snap0 V (.d (.list n l))=some (.list n l):=rfl
theorem fj {V l}:AV.snap0 V (.ex l)=some (.list false l):=rfl
theorem d0 {V o g}:AV.snap0 V (.own o g)=match V.get o g with|some (.row _ _ nil xs)=>some (.list nil xs)|_=>none:=rfl
theorem ar {α:Type}{a b:α}:(some a=some b)=(a=b):=by simp
theorem Wm {α β:Type}{f:α->β}{a:α}:Option.map f (some a)=some (f a):=rfl
section
variable {k k':IntKind}{a b:Int}{C:AV->Prop}
theorem dF:ED .eql k k' a b C=(k=k'/\(a=b->C (.d (.bool true)))/\(¬a=b->C (.d (.bool false)))):=by
 rw[Xk];by_cases h:a=b<;>simp[h]
theorem c_:ED .neq k k' a b C=(k=k'/\(a=b->C (.d (.bool false)))/\(¬a=b->C (.d (.bool true)))):=by
 rw[Xe];by_cases h:a=b<;>simp[h]
theorem dA:ED .lss k k' a b C=(k=k'/\(a<b->C (.d (.bool true)))/\(¬a<b->C (.d (.bool false)))):=by
 rw[Xg];by_cases h:a<b<;>simp[h]
theorem dC:ED .leq k k' a b C=(k=k'/\(a<=b->C (.d (.bool true)))/\(¬a<=b->C (.d (.bool false)))):=by
 rw[Xh];by_cases h:a<=b<;>simp[h]
theorem dD:ED .gtr k k' a b C=(k=k'/\(b<a->C (.d (.bool true)))/\(¬b<a->C (.d (.bool false)))):=by
 rw[Xi];by_cases h:b<a<;>simp[h]
theorem dE:ED .geq k k' a b C=(k=k'/\(b<=a->C (.d (.bool true)))/\(¬b<=a->C (.d (.bool false)))):=by
 rw[Xj];by_cases h:b<=a<;>simp[h]
end
section
variable {E:C3}{dst:Option Nat}{V:AB}{K:AV->Bk->Prop}{f:FuncId}{xs:List AV}
theorem VH {ds:List D}{b:Bool}(h:E9 E f ds (.bool b)) (ha:Fw xs=some ds) (h1:b=true->K (.d (.bool true)) .none) (h2:b=false->K (.d (.bool false)) .none):Dk E dst V f xs K :=
 VG h ha (by cases b with|true=>exact h1 rfl|false=>exact h2 rfl)
end
section
variable {E:C3}{K:BE->Prop}
def Jt (j:Nat):List (Nat×PN)->Option PN
 |[]=>none
 |(i,r)::l=>if j=i then some r else Jt j l
def PK (x:Option PN) (b:PN):Bool:=match x with|some r=>J6 r b|none=>false
def RE (need:List Nat) (i:Nat) (r:PN) (rec:List (Nat×PN)):List (Nat×PN):=if need.contains i then (i,r)::rec else rec
def Nb (E:C3):Nat->List Nat->List (E7×List Nat)->List (Nat×PN)->BE->(BE->Prop)->Prop
 |_,_,[],_,s,K=>K s
 |i,need,(I,dy)::l,rec,s,K=>Ej E I s fun v ch =>
  (dy.all fun j=>PK (Jt j rec) (ch.site,Dx I s))=true /\
  Nb E (i+1) need l (RE need i (ch.site,Dx I s) rec) (put s I.dst v ch) K
theorem Va {need:List Nat}:∀{l:List (E7×List Nat)}{rec:List PN}{recE:List (Nat×PN)}{s:BE},(∀j,j∈l.flatMap (·.2)->j∈need)->(∀j,j∈need->Jt j recE=rec[j]?)->PP E l rec s K=Nb E rec.length need l recE s K
 |[],_,_,_,_,_=>rfl
 |(I,dy)::l,rec,recE,s,hn,hr=>by
  simp only[PP,Nb]
  congr 1
  funext v ch
  have h1:(dy.all fun j=>match rec[j]? with|some r=>J6 r (ch.site,Dx I s)|none=>false)=(dy.all fun j=>PK (Jt j recE) (ch.site,Dx I s)):=by
   rw[Bool.eq_iff_iff,List.all_eq_true,List.all_eq_true]
   have:∀j,j∈dy->(match rec[j]? with|some r=>J6 r (ch.site,Dx I s)|none=>false)=PK (Jt j recE) (ch.site,Dx I s):=fun j hj=>by
    rw[hr j (hn j (by simp[hj]))];rfl
   exact⟨fun h j hj=>by rw[←this j hj];exact h j hj,fun h j hj=>by rw[this j hj];exact h j hj⟩
  refine congr (congrArg And (congrArg (fun b=>b=true) h1)) ?_
  have h2:=Va (need:=need) (l:=l) (rec:=rec++[(ch.site,Dx I s)]) (recE:=RE need rec.length (ch.site,Dx I s) recE) (s:=put s I.dst v ch) (fun j hj=>hn j (by simp at hj ⊢;exact .inr hj)) fun j hj=>by
   unfold RE
   by_cases h:need.contains rec.length=true
   ·rw[if_pos h]
    simp only[Jt]
    by_cases hjl:j=rec.length
    ·subst hjl;simp
    ·rw[if_neg hjl,hr j hj]
     by_cases hlt:j<rec.length
     ·rw[List.getElem?_append_left hlt]
     ·rw[List.getElem?_eq_none (by omega),List.getElem?_eq_none (by simp;omega)]
   ·rw[if_neg h,hr j hj]
    have hne:j≠rec.length:=by rintro rfl;exact h (by simpa using hj)
    by_cases hlt:j<rec.length
    ·rw[List.getElem?_append_left hlt]
    ·rw[List.getElem?_eq_none (by omega),List.getElem?_eq_none (by simp;omega)]
  rw[h2];simp
theorem Yl {Q:CC->BE->Prop}{s:BE} {gs l ks}:pw E (.draw gs l ks) Q s=C7 gs s fun s'=>Nb E 0 (l.flatMap (·.2)) l [] s' fun s'=>Q .normal (s'.keep ks):=by
 rw[bL]
 congr 1;funext s'
 exact Va (rec:=[]) (recE:=[]) (fun j hj=>hj) fun j hj=>by simp[Jt]
theorem Yb {i need r} {s:BE}:Nb E i need [] r s K=K s:=rfl
theorem UA {i need I l r} {s:BE}:Nb E i need ((I,[])::l) r s K=Ej E I s fun v ch=>Nb E (i+1) need l (RE need i (ch.site,Dx I s) r) (put s I.dst v ch) K:=by
 simp[Nb]
theorem WV {i need I j dy l r} {s:BE}:Nb E i need ((I,j::dy)::l) r s K=Ej E I s fun v ch =>
 ((j::dy).all fun j=>PK (Jt j r) (ch.site,Dx I s))=true/\Nb E (i+1) need l (RE need i (ch.site,Dx I s) r) (put s I.dst v ch) K:=rfl
theorem CH {z:Nat} {i i' need need' l} {r r':List (Nat×PN)}{s s':BE}(hz:Hs=z) (hi:i=i') (hn:need=need') (hr:r=r') (h:s=s'):Nb E i need l r s K=Nb E i' need' l r' s' K:=by rw[h,hr,hi,hn]
theorem eI {need:List Nat}{i:Nat}{r:PN}{rec:List (Nat×PN)}(h:need.contains i=true):RE need i r rec=(i,r)::rec:=by simp only[RE,h,if_true]
theorem eJ {need:List Nat}{i:Nat}{r:PN}{rec:List (Nat×PN)}(h:need.contains i=false):RE need i r rec=rec:=by simp only[RE,h,Bool.false_eq_true,if_false]
theorem Ws {j:Nat}:Jt j []=none:=rfl
theorem UZ {j i:Nat}{r:PN} {l}:Jt j ((i,r)::l)=if j=i then some r else Jt j l:=rfl
theorem aM {r b:PN}:PK (some r) b=J6 r b:=rfl
theorem gQ {a f b f'}:J6 (a,f) (b,f')=((a.all fun o=>!f'.contains o) && (b.all fun o=>!f.contains o)):=rfl
theorem Zu {d g op xs} {sl:Nat->AV}{V:AB}:Dx ⟨d,g,op,xs⟩ ⟨sl,V⟩=fp V d op (xs.map (I5.val sl)):=rfl
theorem gd {x}:AV.sites (.d x)=[]:=by cases x<;>rfl
theorem fe {x}:AV.sites (.ex x)=[]:=rfl
theorem an {x n}:AV.sites (.dptr x n)=[]:=rfl
theorem dp {o g}:AV.sites (.own o g)=[o]:=rfl
theorem dq {o g}:AV.sites (.map o g)=[o]:=rfl
theorem dn {o g f}:AV.sites (.ptr o g f)=[o]:=rfl
theorem al {o g e i f}:AV.sites (.rptr o g e i f)=[o]:=rfl
theorem am {k o g}:AV.sites (.mref k o g)=[o]:=rfl
theorem ao {s l f}:AV.sites (.ablk s l f)=AV.sites.sitesL l:=rfl
theorem dr {l}:AV.sites (.agg l)=AV.sites.sitesL l:=rfl
theorem fc {f l}:AV.sites (.fn f l)=AV.sites.sitesL l:=rfl
theorem dm {l}:AV.sites (.tup l)=AV.sites.sitesL l:=rfl
theorem ap:AV.sites.sitesL []=[]:=rfl
theorem YM {x l}:AV.sites.sitesL (x::l)=x.sites++AV.sites.sitesL l:=rfl
section
variable {d:Option Nat}{xs:List AV}{V:AB}
theorem eq:fp V d .mov xs=[]:=rfl
theorem cT:fp V d .pick xs=[]:=rfl
theorem ew {b}:fp V d (.bin b) xs=[]:=rfl
theorem eu {b t}:fp V d (.eqv b t) xs=[]:=rfl
theorem gA {b}:fp V d (.un b) xs=[]:=rfl
theorem Zo:fp V d .nilck xs=[]:=rfl
theorem Zq {a b c}:fp V d (.field a b c) xs=[]:=rfl
theorem Zr {a}:fp V d (.faddr a) xs=[]:=rfl
theorem XI {a b}:fp V d (.iaddrA a b) xs=[]:=rfl
theorem Zt {a b}:fp V d (.build a b) xs=[]:=rfl
theorem Zp {a b c e}:fp V d (.mkrow a b c e) xs=[]:=rfl
theorem XE {a}:fp V d (.minmax a) xs=[]:=rfl
theorem Um {a}:fp V d (.extract a) xs=[]:=rfl
theorem cV {a b}:fp V d (.load a b) xs=AV.sites.sitesL xs:=rfl
theorem XH {a}:fp V d (.iaddrS a) xs=AV.sites.sitesL xs:=rfl
theorem er {a}:fp V d (.len a) xs=AV.sites.sitesL xs:=rfl
theorem XG {a b c}:fp V d (.lookup a b c) xs=AV.sites.sitesL xs:=rfl
theorem Zm {a}:fp V d (.store a) xs=d.toList++AV.sites.sitesL xs:=rfl
theorem cX {a}:fp V d (.call a) xs=Ag d V xs:=rfl
theorem Zs:fp V d .callv xs=Ag d V xs:=rfl
theorem VI {t}:Ag (some t) V xs=AY t++V.reach 3 (AV.sites.sitesL xs):=rfl
theorem bi {t}:AY t=[t,t+10000,t+20000,t+30000]:=rfl
theorem QA:∀{n:Nat},V.reach n []=[]
 |0=>rfl
 |n+1=>by simp only[AB.reach,List.flatMap_nil,QA,List.append_nil]
theorem bE {o l}:V.reach 3 (o::l)=(o::l)++V.reach 2 ((o::l).flatMap V.osites):=rfl
theorem bF {o l}:V.reach 2 (o::l)=(o::l)++V.reach 1 ((o::l).flatMap V.osites):=rfl
def Nx:Option (Nat×AE)->List Nat
 |some (_,.cells xs)=>AV.sites.sitesL xs
 |some (_,.rowH _ _ _ q _)=>[q]
 |some (_,.mitO q _ _ _)=>[q]
 |_=>[]
theorem Wd {ob cn o}:(AB.mk ob cn).osites o=Nx (ob o):=rfl
theorem Wn {g xs}:Nx (some (g,.cells xs))=AV.sites.sitesL xs:=rfl
theorem bd {g a b c l}:Nx (some (g,.row a b c l))=[]:=rfl
theorem Y5 {g a l c}:Nx (some (g,.mapB a l c))=[]:=rfl
theorem ey {a b c e}:fp V d (.app a b c e) xs=d.toList++AV.sites.sitesL xs:=rfl
theorem Zn {a b c e}:fp V d (.slice a b c e) xs=d.toList++AV.sites.sitesL xs:=rfl
theorem cN {a}:fp V d (.zero a) xs=d.toList++AV.sites.sitesL xs:=rfl
theorem cU {a b c e}:fp V d (.mksl a b c e) xs=d.toList++AV.sites.sitesL xs:=rfl
theorem XF {a}:fp V d (.mapupd a) xs=d.toList++AV.sites.sitesL xs:=rfl
end
theorem YJ {a:Nat}:(some a).toList=[a]:=rfl
theorem YK:(none:Option Nat).toList=[]:=rfl
end
theorem Md {k n}:(D.int k n).WF=Kj k n:=by rw[D.WF]
theorem LT {b}:(D.bool b).WF=True:=by rw[D.WF]
theorem KF {nl xs}:(D.list nl xs).WF=(xs.length<=maxLen/\∀x,x∈xs->x.WF):=by rw[D.WF]
theorem N_ {xs}:(D.agg xs).WF=(∀x,x∈xs->x.WF):=by rw[D.WF]
theorem N9 {xs}:(D.ptr xs).WF=(∀x,x∈xs->x.WF):=by rw[D.WF]
theorem Rr {f xs}:(D.fn f xs).WF=(∀x,x∈xs->x.WF):=by rw[D.WF]
theorem N8 {xs}:(D.tup xs).WF=(∀x,x∈xs->x.WF):=by rw[D.WF]
theorem LS {nl} {xs:List Int}:(D.list nl (Bi xs)).WF=(xs.length<=maxLen/\∀x,x∈xs->Kj .i64 x):=by
 rw[KF,HI];simp[Bi,Md]
theorem GN {x:D}{l:List D}:(∀y,y∈x::l->y.WF)=(x.WF/\∀y,y∈l->y.WF):=by simp
theorem G5:(∀y,y∈([]:List D)->y.WF)=True:=by simp
theorem G6 {α:Type}{f:α->D}{l:List α}:(∀y,y∈l.map f->y.WF)=(∀x,x∈l->(f x).WF):=by simp
theorem L7 {n:Int}:Kj .i64 n=(-9223372036854775808<=n/\n<=9223372036854775807):=by
 simp[Kj,IntKind.min,IntKind.max,IntKind.signed,IntKind.bits]
theorem IJ:maxLen=9223372036854775807:=rfl
theorem J5 {x:AV}{d:D}{xs:List AV}{ds:List D}(h:x.toD1=some d) (h':A6 AV.toD1 xs=some ds):Fw (x::xs)=some (d::ds):=by
 simp only[Fw,A6,h,h']
theorem aG:DE=1073741824:=rfl
theorem ef:A2=900000:=rfl
theorem A5 (V0:List (Nat×Nat×AE)) (xs:List AV):BE.enterM V0 xs=⟨Eg (xs.zipIdx.map fun(d,k)=>(k,d)),⟨AX V0,fun _=>1⟩⟩:=by
 have key:∀(xs:List AV) (n t:Nat),(match xs[t]? with|some d=>d|none=>.undef)=Eg ((xs.zipIdx n).map fun(d,k)=>(k,d)) (n+t):=by
  intro xs
  induction xs with
  |nil=>intro n t;simp[Eg]
  |cons x xs ih =>
   intro n t
   cases t with
   |zero=>simp[Eg]
   |succ t =>
    have:=ih (n+1) t
    simp only[List.getElem?_cons_succ,List.zipIdx_cons,List.map_cons,Eg]
    rw[if_neg (by omega),this]
    congr 1;omega
 unfold BE.enterM
 congr 1
 funext t
 have:=key xs 0 t
 simp only[Nat.zero_add] at this
 rw[←this]
 cases xs[t]?<;>rfl
theorem Ad {E:C3}{dst:Option Nat}{V:AB}{K:AV->Bk->Prop}{f:FuncId}{xs:List AV}{V0 V1:List (Nat×Nat×AE)}{cxs:List AV}{r r':AV}{ch:Bk}(ρ ρ2:Ah) (h:D1 E f V0 cxs V1 r) (h1:TX ρ cxs xs)
  (h2:AW V (Ag dst V xs) ρ V0) (h3:AL V.cn dst V0 V1 ρ ρ2=true) (h4:r.ren ρ2=some r') (h5:Ai ρ ρ2 V1=some ch) (hk:K r' ch):Dk E dst V f xs K :=
 .inr (.inr (.inr (.inl ⟨V0,cxs,V1,r,r',ch,ρ,ρ2,h1,h,h2,h3,h4,h5,hk⟩)))
theorem Yh {E:C3} {rs V1 r s}:eE E rs V1 r .ret s=(Gd E s rs (bp V1 s.V r)/\ZV s.V V1):=rfl
theorem SW {E:C3} {rs V1 r s}:eE E rs V1 r .normal s=(Gd E s rs (bp V1 s.V r)/\ZV s.V V1):=rfl
section
variable {V:AB}{V1:List (Nat×Nat×AE)}
theorem fy {r v}:bp V1 V r [v]=MR V1 V v r:=rfl
theorem fz {rs}:bp V1 V (.tup rs) []=MS V1 V [] rs:=rfl
theorem fx {rs v u l}:bp V1 V (.tup rs) (v::u::l)=MS V1 V (v::u::l) rs:=rfl
theorem Xu:MS V1 V [] []=True:=rfl
theorem VC {v r vs rs}:MS V1 V (v::vs) (r::rs)=(MR V1 V v r/\MS V1 V vs rs):=rfl
theorem cy {v d}:MR V1 V v (.d d)=(v.snap V=some d/\(v.sites.all fun o=>!Ui V1 o)=true):=rfl
theorem Xs {v o g f}:MR V1 V v (.ptr o g f)=(v=.ptr o g f):=rfl
theorem VB {v o g e i f}:MR V1 V v (.rptr o g e i f)=(v=.rptr o g e i f):=rfl
theorem Xt {v o g}:MR V1 V v (.own o g)=(v=.own o g):=rfl
theorem ZY {o}:Ui [] o=false:=rfl
theorem W8 {p l o}:Ui (p::l) o=(p.1 == o || Ui l o):=rfl
def Sx:Option (Nat×AE)->Nat->AE->Prop
 |some (g',.map t l),g,.map t' l'=>g'=g/\t=t'/\l=l'
 |some (g',.row a b c l),g,.row a' b' c' l'=>g'=g/\a=a'/\b=b'/\c=c'/\l=l'
 |some (g',.cells l),g,.cells l'=>g'=g/\l=l'
 |some (g',.hist a b c),g,.hist a' b' c'=>g'=g/\a=a'/\b=b'/\c=c'
 |some (g',.mapB a b c),g,.mapB a' b' c'=>g'=g/\a=a'/\b=b'/\c=c'
 |some (g',.mitO a b c d),g,.mitO a' b' c' d'=>g'=g/\a=a'/\b=b'/\c=c'/\d=d'
 |some (g',.mitD a b c),g,.mitD a' b' c'=>g'=g/\a=a'/\b=b'/\c=c'
 |some (g',.rowH a b c d e),g,.rowH a' b' c' d' e'=>g'=g/\a=a'/\b=b'/\c=c'/\d=d'/\e=e'
 |some (g',.mat a b c d e),g,.mat a' b' c' d' e'=>g'=g/\a=a'/\b=b'/\c=c'/\d=d'/\e=e'
 |_,_,_=>False
theorem b7 {x:Option (Nat×AE)}{g:Nat}{y:AE}:Sx x g y=(x=some (g,y)):=by
 cases x with
 |none=>simp[Sx]
 |some p=>obtain⟨g',z⟩:=p;cases z<;>cases y<;>simp[Sx]
theorem ZW {g' a b c l g a' b' c' l'}:Sx (some (g',.row a b c l)) g (.row a' b' c' l')=(g'=g/\a=a'/\b=b'/\c=c'/\l=l'):=rfl
theorem ZX {g' a b c d e g a' b' c' d' e'}:Sx (some (g',.mat a b c d e)) g (.mat a' b' c' d' e')=(g'=g/\a=a'/\b=b'/\c=c'/\d=d'/\e=e'):=rfl
theorem W6 {g' a b c g a' b' c'}:Sx (some (g',.mapB a b c)) g (.mapB a' b' c')=(g'=g/\a=a'/\b=b'/\c=c'):=rfl
theorem Uh {g' l g l'}:Sx (some (g',.cells l)) g (.cells l')=(g'=g/\l=l'):=rfl
theorem b5:ZV V []=True:=rfl
theorem ZU {o g x l}:ZV V ((o,g,x)::l)=(Sx (V.ob o) g x/\ZV V l):=by rw[b7];rfl
end
theorem G1 {E:C3}{t:Nat}{V:AB}{K:AV->Bk->Prop}{f:FuncId}{xs:List AV}{ds:List D}{ety es:Nat}{nl:Bool}{l:List D}(h:dQ E f ds ety es nl l) (ht:t<A2) (hp:Gn l=true)
  (hk:K (.own t (V.cn t)) (.fresh t (.row ety es nl l))) (ha:PI V xs=some ds:=by rfl):Dk E (some t) V f xs K :=
 .inr (.inr (.inl ⟨ds,t,ety,es,nl,l,rfl,ht,.inr ⟨ha,hp⟩,h,hk⟩))
def kB (K:AV->Bk->Prop):D->Prop
 |.bool b=>(b=true->K (.d (.bool true)) .none)/\(b=false->K (.d (.bool false)) .none)
 |r=>K (up r) .none
theorem bz {K:AV->Bk->Prop} {b}:kB K (.bool b)=((b=true->K (.d (.bool true)) .none)/\(b=false->K (.d (.bool false)) .none)):=rfl
theorem ej {K:AV->Bk->Prop} {k n}:kB K (.int k n)=K (.d (.int k n)) .none:=rfl
theorem bx {K:AV->Bk->Prop} {n l}:kB K (.list n l)=K (.d (.list n l)) .none:=rfl
theorem ek {K:AV->Bk->Prop} {l}:kB K (.agg l)=K (.d (.agg l)) .none:=rfl
theorem ei {K:AV->Bk->Prop} {l}:kB K (.tup l)=K (.tup (l.map .d)) .none:=rfl
theorem f7 {K:AV->Bk->Prop} {f l}:kB K (.fn f l)=K (.d (.fn f l)) .none:=rfl
theorem Ae {E:C3}{dst:Option Nat}{V:AB}{K:AV->Bk->Prop}{f:FuncId}{xs:List AV}{ds:List D}{r:D}(h:E9 E f ds r) (hk:kB K r)
  (ha:Fw xs=some ds\/(PI V xs=some ds/\r.flat=true):=by first|exact .inl rfl|exact .inr ⟨rfl,rfl⟩):Dk E dst V f xs K:=by
 have hu:K (up r) .none:=by
  cases r with
  |bool b=>cases b with
   |true=>exact hk.1 rfl
   |false=>exact hk.2 rfl
  |_=>exact hk
 exact ha.elim (fun h1=>VG h h1 hu) fun h1=>M3 h h1.1 h1.2 hu
theorem aI {a b:Prop}(h:a) (k:b):a/\b:=⟨h,k⟩
theorem tI:True:=⟨⟩
theorem Dz {z:Nat}{K:AV->Bk->Prop}{r r':D}(hz:Hs=z) (h:r=r'):kB K r=kB K r':=by rw[h]
theorem isCall {E:C3}{dst:Option Nat}{V:AB}{K:AV->Bk->Prop}{f:FuncId}{xs:List AV}(h:Dk E dst V f xs K):Dk E dst V f xs K:=h
theorem BF {α:Type}{S:BE}{T:α->BE}{I M:α->Prop}(h:∃y,S=T y/\I y/\M y):∃y,S=T y/\I y/\M y:=h
theorem Eo {α β:Type}{S:BE}{T:α×β->BE}{I M:α×β->Prop}(h:∃y,S=T y/\I y/\M y):∃y,S=T y/\I y/\M y:=h
theorem B5 {α β γ:Type}{S:BE}{T:α×β×γ->BE}{I M:α×β×γ->Prop}(h:∃y,S=T y/\I y/\M y):∃y,S=T y/\I y/\M y:=h
theorem Gr {α β γ δ:Type}{S:BE}{T:α×β×γ×δ->BE}{I M:α×β×γ×δ->Prop}(h:∃y,S=T y/\I y/\M y):∃y,S=T y/\I y/\M y:=h
theorem Gp {α β γ δ ε:Type}{S:BE}{T:α×β×γ×δ×ε->BE}{I M:α×β×γ×δ×ε->Prop}(h:∃y,S=T y/\I y/\M y):∃y,S=T y/\I y/\M y:=h
theorem dU {α β γ δ ε ζ η:Type}{S:BE}{T:α×β×γ×δ×ε×ζ×η->BE}{I M:α×β×γ×δ×ε×ζ×η->Prop}(h:∃y,S=T y/\I y/\M y):∃y,S=T y/\I y/\M y:=h
theorem eY {m k a}:HJ m k a []=some a:=rfl
theorem eZ {k:IntKind}{a b:Int} {rest}:HJ true k a (.d (.int k b)::rest)=HJ true k (max a b) rest:=by
 simp only[HJ,if_true,br];congr 1;omega
theorem WA (n:Nat):n-0=n:=rfl
def Ta (a b:List D):Prop:=Ep a b=true
theorem bu {a b:List D}:(DT (.agg a) (.agg b)=true)=Ta a b:=rfl
theorem bv {a b:List D}:(DT (.agg a) (.agg b)=false)=¬Ta a b:=by simp[DT,Ta,D.cells]
theorem aO:Ta [] []=True:=by simp[Ta,Ep]
theorem aP {k k':IntKind}{a b:Int}{asq bs:List D}:Ta (.int k a::asq) (.int k' b::bs)=((k=k'/\a=b)/\Ta asq bs):=by
 simp[Ta,Ep,Fi]
theorem ab {ts:List (Option IntKind)}{cs:List D}:GJ (true,ts) (.agg cs)=D2 ts cs:=by simp[GJ,D.isAgg,D.cells]
theorem YH:D2 [] []=true:=rfl
theorem YI {k:IntKind}{n:Int} {ts cs}:D2 (some k::ts) (.int k n::cs)=D2 ts cs:=by simp[D2]
section
variable {E:C3}{dst:Option Nat}{V:AB}{K:AV->Bk->Prop}
theorem cp {n tys x y}:ev E dst V (.eqv n tys) [x,y] K=Ay x.toD1 fun a=>Ay y.toD1 fun b=>GJ tys a=true/\GJ tys b=true/\(DT a b=true->K (.d (.bool (!n))) .none)/\(DT a b=false->K (.d (.bool n)) .none):=by
 rw[fE];congr 1;funext a;congr 1;funext b;cases DT a b<;>cases n<;>simp
end
def iI (E:C3) (p:PC) (Q:CC->BE->Prop) (s:BE):Prop:=∃e s',Q e s'/\∀Q':CC->BE->Prop,Q' e s'->pw E p Q' s
attribute [go_sem] fJ bG bM eM Yl eK bN Ym bK eL Qo Tu V9 Pl VK TU Uj S1 Zc Zd cK Ze cL Ul Zj Zk XB XA ep Zb cH bS bR Zf c9 aH W_ Y2 UT Y3 Wk Ya WU Yb UA WV eI eJ Ws UZ aM gQ Zu gd fe an dp dq dn al am ao dr fc dm ap YM eq cT ew eu gA Zo Zq Zr XI Zt Zp XE Um cV XH er XG Zm cX Zs ey Zn cN cU XF YJ YK List.flatMap_cons List.flatMap_nil WK T5 WL YR VI bi QA bE bF Wd Wn bd R1 ak b9 b_ b8 Yn Yo aK aL X2 dI bw eV KR ZG Ua Wt eo YD aZ YC cv Ub Sn Yz Y0 UL fu eU bh Y8 bg Y7 eT Y_ Wo bt fq bW bX bV Y1 Z8 Xo fP c8 fO c6 fM cz fN fL gM gL dk di df af ai fZ Wu Uc dh fY dM gS gR gq gN XN Us XO Ut Xv VF Xw de fD cj fH fC TG RY RZ XV RR Ni MC Rb Pf Pg U1 co Uz fG cq U2 cr RS Pc U0 Ra TJ Pe ci Z1 RV Uv RX TE RU Uw Ux fB fF TA TI TH Z2 US Sd XQ ck cg TD Zy Ov Pb d_ XX Uy XW cm Z0 cp bu bv aO aP ab YH YI XS TF XY XR TB TC XT ZA eN Sf Sg bZ ba Z7 c7 ah dg Y5 W6 Wh Wg Wf XU U4 XZ TK U3 eO eP dF c_ dA dC dD dE Xl Xa Xf Xd Xc Xb Sc RK UO UP UQ UR WA eY eZ VA LM J2 Ft HI W5 W4 ZT IM HH ZS IL YG V6 Se FQ Yg SV Yh SW fz fy fx Xu VC cy Xs VB Xt ZY W8 ZW ZX Uh b5 ZU Yi Wb eG eH av au du a7 aw dt dv d6 bA fj d0 ar Wm fV fW List.map_cons List.map_nil List.zipIdx_cons List.zipIdx_nil List.zip_cons_cons List.zip_nil_left List.length_cons List.length_nil List.getElem?_cons_zero List.getElem?_cons_succ List.drop_zero List.drop_succ_cons List.take_succ_cons List.take_zero List.take_nil List.drop_nil List.contains_cons List.contains_nil List.filter_cons List.filter_nil List.all_cons List.all_nil List.cons_append List.nil_append List.append_nil List.set_cons_zero List.set_cons_succ WB List.replicate_succ List.replicate_zero List.isEmpty_cons List.isEmpty_nil List.length_map id_eq Nat.lt_irrefl Nat.zero_add Nat.add_zero Nat.zero_mul Nat.one_mul Nat.mul_one if_true if_false Bool.false_eq_true Bool.not_true Bool.not_false Bool.true_or Bool.false_or Bool.or_true Bool.or_false Bool.true_and Bool.false_and Bool.and_true Bool.and_false beq_self_eq_true Bool.and_self Bool.or_self true_and and_true false_and and_false ite_self exists_prop_of_true exists_prop not_false_eq_true not_true_eq_false forall_const eq_self and_self true_implies false_implies implies_true ne_eq List.cons_ne_nil Nat.le_refl Nat.not_lt_zero YY WT YV WQ WR T8 WP T7 Int.toNat_natCast Int.toNat_zero aG ef X1 Tn Rs X3 Tc eW bn Sj bj Si Wq Mq fv Wj gl eX Wi bz ej bx ek ei f7
attribute [go_sem_proc] Nat.reduceAdd Nat.reduceSub Nat.reduceMul Nat.reduceEqDiff Nat.reduceBEq Nat.reduceLeDiff Nat.reduceLT Int.reduceToNat Int.reduceLE Int.reduceLT Int.reduceNeg reduceIte reduceCtorEq Int.reduceEq Int.reduceAdd Int.reduceSub Int.reduceMul
end Go.Pw
end
section
namespace Go.Pw
theorem dw (a:Int) (k:Nat):a.fdiv (2^k)=a/2^k:=by
 rw[Int.fdiv_eq_ediv_of_nonneg]
 exact Int.pow_nonneg (by omega)
theorem dJ (x:Int):Cf .and .i64 x 1=x%2:=by
 have h:(BitVec.ofInt 64 x &&& BitVec.ofInt 64 1).toNat=(x%2).toNat:=by
  have h1:(BitVec.ofInt 64 (1:Int)).toNat=1:=by decide
  rw[BitVec.toNat_and,h1,Nat.and_one_is_mod,BitVec.toNat_ofInt]
  omega
 show IntKind.i64.wrap (((BitVec.ofInt 64 x &&& BitVec.ofInt 64 1).toNat:Nat):Int)=_
 rw[h,BM]<;>omega
theorem fU (n:Int) (h:0<=n/\n<=18446744073709551615):IntKind.u64.wrap n=n:=by rw[IntKind.wrap_u64];omega
theorem Yr {k:Nat}(h:k<=62):(2:Int)^k<=4611686018427387904:=by
 have:(2:Nat)^k<=2^62:=Nat.pow_le_pow_right (by omega) h
 have h2:((2^k:Nat):Int)=(2:Int)^k:=by simp
 have h3:(2:Nat)^62=4611686018427387904:=by decide
 omega
theorem Yq (k:Nat):(1:Int)<=(2:Int)^k:=by
 have:0<(2:Int)^k:=Int.pow_pos (by omega)
 omega
theorem dz (b:Int) (h:0<=b/\b<=62):IntKind.i64.wrap (1*2^min b.toNat IntKind.i64.bits)=2^b.toNat:=by
 have hm:min b.toNat IntKind.i64.bits=b.toNat:=by
  have:IntKind.i64.bits=64:=rfl
  rw[this];omega
 rw[hm,Int.one_mul,BM]
 have:=Yr (k:=b.toNat) (by omega)
 have:=Yq b.toNat
 omega
theorem fg (a b:Int) (h:0<=b/\b<=64):a.fdiv (2^min b.toNat IntKind.i64.bits)=a/2^b.toNat:=by
 have hm:min b.toNat IntKind.i64.bits=b.toNat:=by
  have:IntKind.i64.bits=64:=rfl
  rw[this];omega
 rw[hm,dw]
theorem fh (b:Int) (h:0<=b/\b<=62):IntKind.i64.wrap (1*2^min b.toNat 64)=2^b.toNat:=dz b h
theorem dx (b:Int) (h:0<=b/\b<=62):IntKind.i64.wrap (2^min b.toNat 64)=2^b.toNat:=by
 have:=dz b h;rwa [Int.one_mul] at this
theorem ff (a b:Int) (h:0<=b/\b<=64):a.fdiv (2^min b.toNat 64)=a/2^b.toNat:=fg a b h
theorem A8:(∀(n:Int),-9223372036854775808<=n/\n<=9223372036854775807->IntKind.i64.wrap n=n)/\(∀(n:Int),0<=n/\n<=18446744073709551615->IntKind.u64.wrap n=n)/\(∀(b:Int),0<=b/\b<=62->IntKind.i64.wrap (1*2^min b.toNat IntKind.i64.bits)=2^b.toNat)/\(∀(b:Int),0<=b/\b<=62->IntKind.i64.wrap (1*2^min b.toNat 64)=2^b.toNat)/\(∀(b:Int),0<=b/\b<=62->IntKind.i64.wrap (2^min b.toNat 64)=2^b.toNat)/\(∀(a b:Int),0<=b/\b<=64->a.fdiv (2^min b.toNat IntKind.i64.bits)=a/2^b.toNat)/\(∀(a b:Int),0<=b/\b<=64->a.fdiv (2^min b.toNat 64)=a/2^b.toNat)/\∀(x:Int),Cf .and .i64 x 1=x%2:=⟨BM,fU,dz,fh,dx,fg,ff,dJ⟩
end Go.Pw
end
