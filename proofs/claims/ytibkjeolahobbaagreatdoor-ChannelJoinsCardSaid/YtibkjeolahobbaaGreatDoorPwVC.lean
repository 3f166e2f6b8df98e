/- A part of the proof. -/
import Derived.Test.YtibkjeolahobbaaGreatDoorPkZa
import Derived.IntWalk
set_option linter.all false
namespace Go.Pw
def H9:Nat:=0
theorem qD:H9=0:=Eq.symm (Eq.symm rfl)
def Kf (v:AV) (b:Bool) (A B:Prop):Prop :=
 match v with
 |.d (.bool b')=>G7 (b == b') A B
 |.tup []=>B
 |_=>False
def WT (v:AV) (t:Nat) (sl:Nat->AV) (V:AN) (KS:A1->Prop):Prop :=
 match v with
 |.own o g=>Eo (V.get o g) fun _ _ nl l=>KS ⟨Bs sl t (.d (.list nl l)),V.drop o⟩
 |_=>KS ⟨sl,V⟩
def bl (v:AV) (t:Nat) (sl:Nat->AV) (V:AN) (KS:A1->Prop):Prop :=
 match v with
 |.ptr o g 0=>Ga (V.get o g) fun xs=>Av (Ax AV.toD1 xs) fun cs=>cs≠[]/\KS ⟨Bs sl t (.d (.ptr cs)),V.drop o⟩
 |_=>KS ⟨sl,V⟩
def r0 (y:Option Ah) (o g:Nat) (sl:Nat->AV) (V:AN) (KS:A1->Prop):Prop :=
 match y with
 |some (.rowH ety l i q p)=>Eo (V.get q p) fun _ _ nl xs=>KS ⟨sl,(V.drop q).app (.keep o g (.row ety 1 false (l.set i (.list nl xs))))⟩
 |_=>KS ⟨sl,V⟩
def sq (v:AV) (sl:Nat->AV) (V:AN) (KS:A1->Prop):Prop :=
 match v with
 |.own o g=>r0 (V.get o g) o g sl V KS
 |_=>KS ⟨sl,V⟩
def gQ (v:AV) (t:Nat) (sl:Nat->AV) (V:AN) (KS:A1->Prop):Prop :=
 match v with
 |.mref .out o g=>D3 (V.get o g) fun _ _ nl ix rows=>KS ⟨Bs sl t (.d (.list nl (Gw ix rows))),V.drop o⟩
 |_=>KS ⟨sl,V⟩
def gV (x:Option Ah) (t o:Nat) (sl:Nat->AV) (V:AN) (KS:A1->Prop):Prop :=
 match x with
 |some (.cells (c::l))=>KS ⟨Bs sl t (.ablk false (c::l) 0),V.drop o⟩
 |_=>False
def gU (v:AV) (t:Nat) (sl:Nat->AV) (V:AN) (KS:A1->Prop):Prop :=
 match v with
 |.ptr o g 0=>gV (V.get o g) t o sl V KS
 |_=>KS ⟨sl,V⟩
def WU (x:Option AV) (b g k:Nat) (xs:List AV) (sl:Nat->AV) (V:AN) (KS:A1->Prop):Prop :=
 match x with
 |some (.own o p)=>Eo (V.get o p) fun _ _ nl l=>KS ⟨sl,(V.drop o).app (.keep b g (.cells (xs.set k (.d (.list nl l)))))⟩
 |_=>KS ⟨sl,V⟩
def bm (v:AV) (off:Nat) (sl:Nat->AV) (V:AN) (KS:A1->Prop):Prop :=
 match v with
 |.ptr b g f=>(match V.get b g with
  |some (.cells xs)=>WU xs[f+off]? b g (f+off) xs sl V KS
  |_=>KS ⟨sl,V⟩)
 |_=>KS ⟨sl,V⟩
def gT (y:Option Ah) (b g k:Nat) (sl:Nat->AV) (V:AN) (KS:A1->Prop):Prop :=
 match y with
 |some (.cells xs)=>WU xs[k]? b g k xs sl V KS
 |_=>KS ⟨sl,V⟩
def bB (v:AV) (t e2:Nat) (sl:Nat->AV) (V:AN) (KS:A1->Prop):Prop :=
 match v with
 |.own o g=>Eo (V.get o g) fun e1 es nl l=>nl=false/\es=1/\o<D7/\(∀x,x∈l->x=.list true []) /\
  KS ⟨Bs sl t (.mref .out o (V.cn o)),V.app (.fresh o (.mat e1 e2 false (List.range l.length) (List.replicate l.length (true,[]))))⟩
 |_=>KS ⟨sl,V⟩
def e9 (v:AV) (t o e1 e2:Nat) (sl:Nat->AV) (V:AN) (KS:A1->Prop):Prop :=
 match v with
 |.d (.list true [])=>o<D7/\KS ⟨Bs sl t (.mref .out o (V.cn o)),V.app (.fresh o (.mat e1 e2 true [] []))⟩
 |_=>KS ⟨sl,V⟩
def ey (v:AV) (t o ety es:Nat) (sl:Nat->AV) (V:AN) (KS:A1->Prop):Prop :=
 match v with
 |.d (.list true [])=>o<D7/\KS ⟨Bs sl t (.own o (V.cn o)),V.app (.fresh o (.row ety es true []))⟩
 |_=>KS ⟨sl,V⟩
def YB (x:Option AV) (b g k o ety es:Nat) (xs:List AV) (sl:Nat->AV) (V:AN) (KS:A1->Prop):Prop :=
 match x with
 |some (.d (.list true []))=>o<D7/\o≠b/\KS ⟨sl,(V.app (.fresh o (.row ety es true []))).app (.keep b g (.cells (xs.set k (.own o (V.cn o)))))⟩
 |_=>KS ⟨sl,V⟩
def bO (y:Option Ah) (b g k o ety es:Nat) (sl:Nat->AV) (V:AN) (KS:A1->Prop):Prop :=
 match y with
 |some (.cells xs)=>YB xs[k]? b g k o ety es xs sl V KS
 |_=>KS ⟨sl,V⟩
def e_ (v:AV) (off o ety es:Nat) (sl:Nat->AV) (V:AN) (KS:A1->Prop):Prop :=
 match v with
 |.ptr b g f=>bO (V.get b g) b g (f+off) o ety es sl V KS
 |_=>KS ⟨sl,V⟩
section
variable {E:CB}{Q:BP->A1->Prop}{s s':A1}{K:AV->BQ->Prop}{KS:A1->Prop}
theorem rG {z:Nat}{p:PC}(hz:H9=z) (h:s=s'):pw E p Q s=pw E p Q s':=by rw[h]
theorem mL {z:Nat}{l:List EX}(hz:H9=z) (h:s=s'):KE E l s KS=KE E l s' KS:=by rw[h]
theorem ib {z:Nat}{I:EX}(hz:H9=z) (h:s=s'):Du E I s K=Du E I s' K:=by rw[h]
theorem rI {z:Nat}{dst:Option Nat}{op:B5}{V V':AN}{xs xs':List AV}(hz:H9=z) (hV:V=V') (h:xs=xs'):ev E dst V op xs K=ev E dst V' op xs' K:=by rw[h,hV]
theorem ik {z:Nat}{b:BinOp}{k k' k1 k2:IntKind}{x y x' y':Int}{C:AV->Prop}(hz:H9=z) (h1:k=k1) (h2:k'=k2) (hx:x=x') (hy:y=y'):Cf b k k' x y C=Cf b k1 k2 x' y' C:=by rw[h1,h2,hx,hy]
theorem im {z:Nat}{c c':Bool}{A B:Prop}(hz:H9=z) (h:c=c'):G7 c A B=G7 c' A B:=by rw[h]
theorem il {z:Nat}{v v':AV}{A B:Prop}(hz:H9=z) (h:v=v'):R6 v A B=R6 v' A B:=by rw[h]
theorem ia {z:Nat}{e e':BP}{A:A1->Prop}(hz:H9=z) (he:e=e') (h:s=s'):KA A Q e s=KA A Q e' s':=by rw[he,h]
theorem dI {z:Nat}{i:Nat}{e e':BP}(hz:H9=z) (he:e=e') (h:s=s'):JP i Q e s=JP i Q e' s':=by rw[he,h]
theorem dD {α:Type}{z:Nat}{x y:Option α}{A:α->Prop}(hz:H9=z) (h:x=y):Av x A=Av y A:=by rw[h]
theorem Y6 {z:Nat}{x y:Option Ah} {A} (hz:H9=z) (h:x=y):Ga x A=Ga y A:=by rw[h]
theorem ig {z:Nat}{x y:Option Ah} {A} (hz:H9=z) (h:x=y):Eo x A=Eo y A:=by rw[h]
theorem dG {z:Nat}{gs:List EG}(hz:H9=z) (h:s=s'):B1 gs s KS=B1 gs s' KS:=by rw[h]
theorem ij {z:Nat}{g:EG}(hz:H9=z) (h:s=s'):DU g s KS=DU g s' KS:=by rw[h]
theorem dH {z:Nat}{dst:Option Nat}{V V':AN}{f:FuncId}{xs xs':List AV}(hz:H9=z) (hV:V=V') (h:xs=xs'):DF E dst V f xs K=DF E dst V' f xs' K:=by rw[h,hV]
theorem mQ {z:Nat}{α:Type}{ag:Bool}{n n':Nat}{cs cs':List α}{off off':Nat}{mk:List α->AV}{one:α->AV}{C:AV->Prop}(hz:H9=z) (hn:n=n') (h:cs=cs') (ho:off=off'):BV ag n cs off mk one C=BV ag n' cs' off' mk one C:=by rw[hn,h,ho]
theorem qJ {z:Nat}{lo hi:Bool}{n n':Nat}{xs xs':List AV}{C:Nat->Nat->Prop}(hz:H9=z) (hn:n=n') (h:xs=xs'):MV lo hi n xs C=MV lo hi n' xs' C:=by rw[hn,h]
theorem dF {z:Nat}{v v':AV}{b:Bool}{A B:Prop}(hz:H9=z) (h:v=v'):Kf v b A B=Kf v' b A B:=by rw[h]
theorem mX {z:Nat}{v v':AV}{t:Nat}{sl:Nat->AV}{V:AN}(hz:H9=z) (h:v=v'):WT v t sl V KS=WT v' t sl V KS:=by rw[h]
theorem mS {z:Nat}{v v':AV}{t o ety es:Nat}{sl:Nat->AV}{V:AN}(hz:H9=z) (h:v=v'):ey v t o ety es sl V KS=ey v' t o ety es sl V KS:=by rw[h]
theorem mO {z:Nat}{rs:List RT}{K:List AV->Prop}(hz:H9=z) (h:s=s'):GE E s rs K=GE E s' rs K:=by rw[h]
theorem mP {z:Nat}{r:RT}{K:AV->Prop}(hz:H9=z) (h:s=s'):X2 E s r K=X2 E s' r K:=by rw[h]
theorem mK {z:Nat}{y y':AV}{xs xs':List AV}{V V':AN}(hz:H9=z) (h1:y=y') (h2:xs=xs') (h3:V=V'):Sb y xs V K=Sb y' xs' V' K:=by rw[h1,h2,h3]
theorem mN {z:Nat}{α:Type}{T:α->AN} {Inv PInv m gs ks os sl e e'} (hz:H9=z) (he:e=e') (h:s=s'):a8 T Inv PInv m gs ks os sl e s=a8 T Inv PInv m gs ks os sl e' s':=by rw[he,h]
theorem ic {z:Nat}{A:A1->Prop} {e e'} (hz:H9=z) (he:e=e') (h:s=s'):PV A e s=PV A e' s':=by rw[he,h]
theorem dE {z:Nat}{x y:Option Ah} {A} (hz:H9=z) (h:x=y):RQ x A=RQ y A:=by rw[h]
theorem AJ {b:Bool}{A B:Prop}(h1:b=true->A) (h2:b=false->B):G7 b A B:=⟨h1,h2⟩
theorem jk {d t b op xs} {sl:Nat->AV}{V:AN}:Du E ⟨d,some (t,b),op,xs⟩ ⟨sl,V⟩ K=Kf (sl t) b (ev E d V op (xs.map (Jq.val sl)) K) (K (.tup []) .none):=rfl
theorem lJ {b:Bool}{A B:Prop}:Kf (.d (.bool b)) true A B=G7 b A B:=by simp[Kf]
theorem lK {b:Bool}{A B:Prop}:Kf (.d (.bool b)) false A B=G7 b B A:=by cases b<;>simp[Kf]
theorem lI {b:Bool}{A B:Prop}:Kf (.tup []) b A B=B:=rfl
theorem gH {t:Nat}{sl:Nat->AV}{V:AN}:DU (.freeze t) ⟨sl,V⟩ KS=WT (sl t) t sl V KS:=by
 simp only[DU,WT]
 cases sl t with
 |own o g=>simp only;cases V.get o g with
  |none=>rfl
  |some x=>cases x<;>rfl
 |_=>rfl
theorem lO {t o g:Nat}{sl:Nat->AV}{V:AN}:WT (.own o g) t sl V KS=Eo (V.get o g) fun _ _ nl l=>KS ⟨Bs sl t (.d (.list nl l)),V.drop o⟩:=rfl
theorem q5 {t:Nat}{x:D}{sl:Nat->AV}{V:AN}:WT (.d x) t sl V KS=KS ⟨sl,V⟩:=rfl
theorem pr {t:Nat}{x:List D}{sl:Nat->AV}{V:AN}:WT (.ex x) t sl V KS=KS ⟨sl,V⟩:=rfl
theorem bk {t:Nat}{sl:Nat->AV}{V:AN}:WT .undef t sl V KS=KS ⟨sl,V⟩:=rfl
theorem gI {t:Nat}{sl:Nat->AV}{V:AN}:DU (.frzP t) ⟨sl,V⟩ KS=bl (sl t) t sl V KS:=by
 simp only[DU,bl]
 cases sl t with
 |ptr o g f =>
  cases f with
  |zero =>
   simp only;cases V.get o g with
   |none=>rfl
   |some x =>
    cases x with
    |cells xs =>
     simp only[Ga]
     cases Ax AV.toD1 xs with
     |none=>rfl
     |some l=>cases l<;>simp[Av]
    |_=>rfl
  |succ n=>rfl
 |_=>rfl
theorem lP {t o g:Nat}{sl:Nat->AV}{V:AN}:bl (.ptr o g 0) t sl V KS=Ga (V.get o g) fun xs=>Av (Ax AV.toD1 xs) fun cs=>cs≠[]/\KS ⟨Bs sl t (.d (.ptr cs)),V.drop o⟩:=rfl
theorem q6 {t:Nat}{x:D}{sl:Nat->AV}{V:AN}:bl (.d x) t sl V KS=KS ⟨sl,V⟩:=rfl
theorem mY {z:Nat}{v v':AV}{t:Nat}{sl:Nat->AV}{V:AN}(hz:H9=z) (h:v=v'):bl v t sl V KS=bl v' t sl V KS:=by rw[h]
theorem gE {t o ety es:Nat}{sl:Nat->AV}{V:AN}:DU (.own t o ety es) ⟨sl,V⟩ KS=ey (sl t) t o ety es sl V KS:=rfl
theorem gG {t off o ety es:Nat}{sl:Nat->AV}{V:AN}:DU (.ownC t off o ety es) ⟨sl,V⟩ KS=e_ (sl t) off o ety es sl V KS:=by
 simp only[DU,e_]
 cases sl t with
 |ptr b g f =>
  simp only[bO]
  cases V.get b g with
  |none=>rfl
  |some x =>
   cases x with
   |cells xs=>simp only[YB];rfl
   |_=>rfl
 |_=>rfl
theorem kX {b g f off o ety es:Nat}{sl:Nat->AV}{V:AN}:e_ (.ptr b g f) off o ety es sl V KS=bO (V.get b g) b g (f+off) o ety es sl V KS:=rfl
theorem bN {b g k o ety es:Nat}{xs:List AV}{sl:Nat->AV}{V:AN}:bO (some (.cells xs)) b g k o ety es sl V KS=YB xs[k]? b g k o ety es xs sl V KS:=rfl
theorem kb {b g k o ety es:Nat}{xs:List AV}{sl:Nat->AV}{V:AN}:YB (some (.d (.list true []))) b g k o ety es xs sl V KS=(o<D7/\o≠b/\KS ⟨sl,(V.app (.fresh o (.row ety es true []))).app (.keep b g (.cells (xs.set k (.own o (V.cn o)))))⟩):=rfl
theorem ka {b g k o ety es o' g':Nat}{xs:List AV}{sl:Nat->AV}{V:AN}:YB (some (.own o' g')) b g k o ety es xs sl V KS=KS ⟨sl,V⟩:=rfl
theorem mU {z:Nat}{v v':AV}{off o ety es:Nat}{sl:Nat->AV}{V:AN}(hz:H9=z) (h:v=v'):e_ v off o ety es sl V KS=e_ v' off o ety es sl V KS:=by rw[h]
theorem mW {z:Nat}{y y':Option Ah}{b g k k' o ety es:Nat}{sl:Nat->AV}{V:AN}(hz:H9=z) (h:y=y') (hk:k=k'):bO y b g k o ety es sl V KS=bO y' b g k' o ety es sl V KS:=by rw[h,hk]
theorem mV {z:Nat}{y y':Option AV}{b g k o ety es:Nat}{xs:List AV}{sl:Nat->AV}{V:AN}(hz:H9=z) (h:y=y'):YB y b g k o ety es xs sl V KS=YB y' b g k o ety es xs sl V KS:=by rw[h]
theorem gJ {t:Nat}{sl:Nat->AV}{V:AN}:DU (.frzM t) ⟨sl,V⟩ KS=gQ (sl t) t sl V KS:=by
 simp only[DU,gQ]
 cases sl t with
 |mref k o g =>
  cases k with
  |out=>simp only;cases V.get o g with
   |none=>rfl
   |some x=>cases x<;>rfl
  |_=>rfl
 |_=>rfl
theorem gP {t o g:Nat}{sl:Nat->AV}{V:AN}:gQ (.mref .out o g) t sl V KS=D3 (V.get o g) fun _ _ nl ix rows=>KS ⟨Bs sl t (.d (.list nl (Gw ix rows))),V.drop o⟩:=rfl
theorem mZ {z:Nat}{v v':AV}{t:Nat}{sl:Nat->AV}{V:AN}(hz:H9=z) (h:v=v'):gQ v t sl V KS=gQ v' t sl V KS:=by rw[h]
theorem gL {t:Nat}{sl:Nat->AV}{V:AN}:DU (.frzA t) ⟨sl,V⟩ KS=gU (sl t) t sl V KS:=by
 simp only[DU,gU]
 cases sl t with
 |ptr o g f =>
  cases f with
  |zero=>rfl
  |succ n=>rfl
 |_=>rfl
theorem lR {t o g:Nat}{sl:Nat->AV}{V:AN}:gU (.ptr o g 0) t sl V KS=gV (V.get o g) t o sl V KS:=rfl
theorem Ya {t o:Nat}{c:AV}{l:List AV}{sl:Nat->AV}{V:AN}:gV (some (.cells (c::l))) t o sl V KS=KS ⟨Bs sl t (.ablk false (c::l) 0),V.drop o⟩:=rfl
theorem me {z:Nat}{v v':AV}{t:Nat}{sl:Nat->AV}{V:AN}(hz:H9=z) (h:v=v'):gU v t sl V KS=gU v' t sl V KS:=by rw[h]
theorem mf {z:Nat}{y y':Option Ah}{t o:Nat}{sl:Nat->AV}{V:AN}(hz:H9=z) (h:y=y'):gV y t o sl V KS=gV y' t o sl V KS:=by rw[h]
theorem gK {t off:Nat}{sl:Nat->AV}{V:AN}:DU (.frzC t off) ⟨sl,V⟩ KS=bm (sl t) off sl V KS:=by
 simp only[DU,bm]
 cases sl t with
 |ptr b g f =>
  simp only
  cases V.get b g with
  |none=>rfl
  |some x =>
   cases x with
   |cells xs =>
    simp only[WU]
    cases xs[f+off]? with
    |none=>rfl
    |some y =>
     cases y with
     |own o p=>simp only;cases V.get o p with
      |none=>rfl
      |some z=>cases z<;>rfl
     |_=>rfl
   |_=>rfl
 |_=>rfl
theorem lQ {b g f off:Nat}{sl:Nat->AV}{V:AN}:bm (.ptr b g f) off sl V KS=gT (V.get b g) b g (f+off) sl V KS:=by
 simp only[bm,gT]
theorem YZ {b g k:Nat}{xs:List AV}{sl:Nat->AV}{V:AN}:gT (some (.cells xs)) b g k sl V KS=WU xs[k]? b g k xs sl V KS:=rfl
theorem gS {b g k o p:Nat}{xs:List AV}{sl:Nat->AV}{V:AN}:WU (some (.own o p)) b g k xs sl V KS=Eo (V.get o p) fun _ _ nl l=>KS ⟨sl,(V.drop o).app (.keep b g (.cells (xs.set k (.d (.list nl l)))))⟩:=rfl
theorem pt {b g k:Nat}{x:D}{xs:List AV}{sl:Nat->AV}{V:AN}:WU (some (.d x)) b g k xs sl V KS=KS ⟨sl,V⟩:=rfl
theorem mc {z:Nat}{v v':AV}{off:Nat}{sl:Nat->AV}{V:AN}(hz:H9=z) (h:v=v'):bm v off sl V KS=bm v' off sl V KS:=by rw[h]
theorem md {z:Nat}{y y':Option Ah}{b g k k':Nat}{sl:Nat->AV}{V:AN}(hz:H9=z) (h:y=y') (hk:k=k'):gT y b g k sl V KS=gT y' b g k' sl V KS:=by rw[h,hk]
theorem mb {z:Nat}{y y':Option AV}{b g k:Nat}{xs:List AV}{sl:Nat->AV}{V:AN}(hz:H9=z) (h:y=y'):WU y b g k xs sl V KS=WU y' b g k xs sl V KS:=by rw[h]
theorem bi {t e2:Nat}{sl:Nat->AV}{V:AN}:DU (.ownR t e2) ⟨sl,V⟩ KS=bB (sl t) t e2 sl V KS:=by
 simp only[DU,bB]
 cases sl t with
 |own o g=>simp only;cases V.get o g with
  |none=>rfl
  |some x=>cases x<;>rfl
 |_=>rfl
theorem kT {t e2 o g:Nat}{sl:Nat->AV}{V:AN}:bB (.own o g) t e2 sl V KS=Eo (V.get o g) fun e1 es nl l=>nl=false/\es=1/\o<D7/\(∀x,x∈l->x=.list true []) /\
 KS ⟨Bs sl t (.mref .out o (V.cn o)),V.app (.fresh o (.mat e1 e2 false (List.range l.length) (List.replicate l.length (true,[]))))⟩:=rfl
theorem ew {t e2 k o g:_}{sl:Nat->AV}{V:AN}:bB (.mref k o g) t e2 sl V KS=KS ⟨sl,V⟩:=rfl
theorem mR {z:Nat}{v v':AV}{t e2:Nat}{sl:Nat->AV}{V:AN}(hz:H9=z) (h:v=v'):bB v t e2 sl V KS=bB v' t e2 sl V KS:=by rw[h]
theorem gF {t o e1 e2:Nat}{sl:Nat->AV}{V:AN}:DU (.ownM t o e1 e2) ⟨sl,V⟩ KS=e9 (sl t) t o e1 e2 sl V KS:=rfl
theorem kW {t o e1 e2:Nat}{sl:Nat->AV}{V:AN}:e9 (.d (.list true [])) t o e1 e2 sl V KS=(o<D7/\KS ⟨Bs sl t (.mref .out o (V.cn o)),V.app (.fresh o (.mat e1 e2 true [] []))⟩):=rfl
theorem ez {t o e1 e2:Nat} {k o' g} {sl:Nat->AV}{V:AN}:e9 (.mref k o' g) t o e1 e2 sl V KS=KS ⟨sl,V⟩:=rfl
theorem mT {z:Nat}{v v':AV}{t o e1 e2:Nat}{sl:Nat->AV}{V:AN}(hz:H9=z) (h:v=v'):e9 v t o e1 e2 sl V KS=e9 v' t o e1 e2 sl V KS:=by rw[h]
theorem ii {z:Nat}{x y:Option Ah} {A} (hz:H9=z) (h:x=y):D3 x A=D3 y A:=by rw[h]
theorem kV {t o ety es:Nat}{sl:Nat->AV}{V:AN}:ey (.d (.list true [])) t o ety es sl V KS=(o<D7/\KS ⟨Bs sl t (.own o (V.cn o)),V.app (.fresh o (.row ety es true []))⟩):=rfl
theorem kU {t o ety es o' g:Nat}{sl:Nat->AV}{V:AN}:ey (.own o' g) t o ety es sl V KS=KS ⟨sl,V⟩:=rfl
end
theorem jd {α:Type}(f:Nat->α) (i:Nat) (x:α) (j:Nat):Bs f i x j=if j=i then x else f j:=rfl
theorem dk (f:Nat->Nat) (i x y:Nat):Bs (Bs f i x) i y=Bs f i y:=by funext j;simp only[Bs];split<;>rfl
theorem qn {x:D}:(AV.d x).one=x.one:=rfl
theorem kZ {o g}:(AV.own o g).one=true:=rfl
theorem pM {f c}:(AV.fn f c).one=true:=rfl
theorem iI {k n}:(D.int k n).one=true:=rfl
theorem cr {b}:(D.bool b).one=true:=rfl
theorem cq {n l}:(D.list n l).one=true:=rfl
theorem iH {l}:(D.ptr l).one=true:=rfl
theorem qI {c}:(AV.agg c).cells?=some c:=rfl
theorem mF {c}:(AV.d (.agg c)).cells?=some (c.map .d):=rfl
theorem qH {k n}:(AV.d (.int k n)).cells?=some [.d (.int k n)]:=rfl
theorem mG {b}:(AV.d (.bool b)).cells?=some [.d (.bool b)]:=rfl
theorem mD {n l}:(AV.d (.list n l)).cells?=some [.d (.list n l)]:=rfl
theorem mE {l}:(AV.d (.ptr l)).cells?=some [.d (.ptr l)]:=rfl
theorem qG {o g}:(AV.own o g).cells?=some [.own o g]:=rfl
theorem rD {l}:(AV.ex l).cells?=some [.ex l]:=rfl
theorem rC {f c}:(AV.fn f c).cells?=some [.fn f c]:=rfl
theorem oO {k n}:AV.toD1 (.d (.int k n))=some (.int k n):=rfl
theorem jh {n l}:AV.toD1 (.d (.list n l))=some (.list n l):=rfl
theorem qZ {l}:AV.toD1 (.ex l)=some (.list false l):=rfl
theorem bX {α β:Type}{f:α->Option β}:Ax f []=some []:=rfl
theorem YL {α β:Type}{f:α->Option β}{x:α}{xs:List α}:Ax f (x::xs)=match f x with
 |none=>none
 |some y=>match Ax f xs with|none=>none|some ys=>some (y::ys):=rfl
theorem oP {cs}:AV.toD1 (.agg cs)=match Ax AV.toD0 cs with|some l=>some (.agg l)|none=>none:=rfl
theorem m_ {V:AN} {n l}:(AV.d (.list n l)).asList V=some (n,l):=rfl
theorem rR {V:AN} {l}:(AV.ex l).asList V=some (false,l):=rfl
theorem qM {V:AN} {o g}:(AV.own o g).asList V=match V.get o g with|some (.row _ _ nil xs)=>some (nil,xs)|_=>none:=rfl
theorem rQ {V:AN} {o g}:(AV.mref .out o g).asList V=match V.get o g with|some (.mat _ _ nil ix rows)=>some (nil,Gw ix rows)|_=>none:=rfl
theorem fU {ix rows}:(Gw ix rows).length=ix.length:=by simp[Gw]
theorem sC {V:AN} {x}:DN V none (.d x)=match (AV.d x).asList V with|some (_,ys)=>some ys|none=>none:=rfl
theorem rL {V:AN} {x}:DN V none (.ex x)=match (AV.ex x).asList V with|some (_,ys)=>some ys|none=>none:=rfl
theorem mt {V:AN} {z n}:DN V (some z) (.d (.int .i64 n))=if 0<=n/\n<=(Cn:Int) then some (List.replicate n.toNat z) else none:=rfl
theorem bv {es xs}:FY es xs []=some xs:=rfl
theorem Yh {es xs i v rest}:FY es xs ((i,v)::rest)=match v.toD1 with
 |none=>none
 |some x=>if x.cells.length=es/\i<xs.length then FY es (xs.set i x) rest else none:=rfl
theorem bw {cs}:L_ cs []=some cs:=rfl
theorem Yi {cs off size v rest}:L_ cs (((off,size),v)::rest)=match v.cells? with
 |none=>none
 |some vs=>if vs.length=size/\off+size<=cs.length then L_ (BA cs off vs) rest else none:=rfl
theorem dJ {k n}:(D.int k n).cells=[.int k n]:=rfl
theorem Y8 {n l}:(D.list n l).cells=[.list n l]:=rfl
theorem dK {l}:(D.agg l).cells=l:=rfl
theorem oH {k n}:up (.int k n)=.d (.int k n):=rfl
theorem je {b}:up (.bool b)=.d (.bool b):=rfl
theorem oG {l}:up (.tup l)=.tup (l.map .d):=rfl
theorem ah:BQ.site .none=[]:=rfl
theorem eA {a b}:BQ.site (.seq a b)=a.site++b.site:=rfl
theorem Xt {o x}:BQ.site (.fresh o x)=[o]:=rfl
theorem ai {o g x}:BQ.site (.keep o g x)=[o]:=rfl
def Aa (xs:List Int):List D:=xs.map (D.int .i64)
@[simp] theorem qy:Aa []=[]:=rfl
theorem UQ (xs:List Int):(Aa xs=[])=(xs=[]):=by cases xs<;>simp[Aa]
theorem BH (xs:List Int):(Aa xs).length=xs.length:=by simp[Aa]
theorem be (xs:List Int) (n:Nat):(Aa xs).drop n=Aa (xs.drop n):=by simp[Aa]
theorem bc (xs:List Int) (n:Nat):(Aa xs).take n=Aa (xs.take n):=by simp[Aa]
theorem fv (xs ys:List Int):Aa xs++Aa ys=Aa (xs++ys):=by simp[Aa]
theorem bd (xs:List Int) (y:Int):Aa xs++[.int .i64 y]=Aa (xs++[y]):=by simp[Aa]
theorem ft (xs:List Int) (i:Nat) (y:Int):(Aa xs).set i (.int .i64 y)=Aa (xs.set i y):=by simp[Aa,List.map_set]
theorem fu (n:Nat) (y:Int):List.replicate n (D.int .i64 y)=Aa (List.replicate n y):=by simp[Aa]
theorem YQ (xs:List Int):(Aa xs).isEmpty=xs.isEmpty:=by cases xs<;>rfl
theorem bb (xs:List Int):CJ 1 (Aa xs)=True:=by
 simp only[CJ,Aa,eq_iff_iff,iff_true];intro x hx;simp at hx;obtain⟨n,_,rfl⟩:=hx;rfl
theorem dm {es:Nat}:CJ es []=True:=by simp[CJ]
theorem aF {es:Nat}{x:D}{l:List D}:CJ es (x::l)=(x.cells.length=es/\CJ es l):=by simp[CJ]
theorem VL {α:Type}{es:Nat}{f:α->D}{l:List α}(h:∀x,(f x).cells.length=es):CJ es (l.map f)=True:=by
 simp only[CJ,eq_iff_iff,iff_true];intro x hx;simp at hx;obtain⟨y,_,rfl⟩:=hx;exact h y
theorem V8 {xs:List Int}{i:Nat}{A:D->Prop}:Av (Aa xs)[i]? A=(i<xs.length/\A (.int .i64 (xs[i]?.getD 0))):=by
 unfold Aa
 rw[List.getElem?_map]
 by_cases h:i<xs.length
 ·simp[h,Av]
 ·have:xs[i]?=none:=List.getElem?_eq_none (by omega)
  simp[this,h,Av]
theorem Ma {α:Type} [Inhabited α] {f:α->D}{xs:List α}{i:Nat}{A:D->Prop}:Av (xs.map f)[i]? A=(i<xs.length/\A (f (xs[i]?.getD default))):=by
 rw[List.getElem?_map]
 by_cases h:i<xs.length
 ·simp[h,Av]
 ·have:xs[i]?=none:=List.getElem?_eq_none (by omega)
  simp[this,h,Av]
theorem KZ {xs:List Nat}{i:Nat}{A:Nat->Prop}:Av xs[i]? A=(i<xs.length/\A (xs[i]?.getD 0)):=by
 by_cases h:i<xs.length
 ·simp[h,Av]
 ·have:xs[i]?=none:=List.getElem?_eq_none (by omega)
  simp[this,h,Av]
def sN {α:Type}(f:α->D) (M:List (List α)):List (Bool×List D):=M.map fun r=>(false,r.map f)
section
variable {E:CB}{dst:Option Nat}{V:AN}{K:AV->BQ->Prop}{f:FuncId}{xs:List AV}
theorem G_ {ds:List D}{r:D}(h:BR E f ds r) (ha:Ed xs=some ds) (hk:K (up r) .none):DF E dst V f xs K:=.inl ⟨ds,r,ha,h,hk⟩
theorem qK {ds:List D}{r:D}(h:BR E f ds r) (ha:XG V xs=some ds) (hf:r.flat=true) (hk:K (up r) .none):DF E dst V f xs K:=.inr (.inl ⟨ds,r,ha,h,hf,hk⟩)
end
section
variable {E:CB}{Q:BP->A1->Prop}{s:A1}
def eI (l:List (Nat×AV)) (k:Nat) (v:AV):List (Nat×AV):=l.map fun p=>if p.1=k then (k,v) else p
def eG (l:List (Nat×(Nat×Ah))) (k:Nat) (x:Ah):List (Nat×(Nat×Ah)):=l.map fun p=>if p.1=k then (k,(0,x)) else p
def PO (l:List (Nat×AV)):List (Nat×AV)->List (Nat×AV)
 |[]=>l
 |(k,v)::r=>eI (PO l r) k v
def PN (l:List (Nat×(Nat×Ah))):List (Nat×Ah)->List (Nat×(Nat×Ah))
 |[]=>l
 |(k,v)::r=>eG (PN l r) k v
theorem eH {k:Nat}{v:AV}:eI [] k v=[]:=rfl
theorem ap {a k:Nat}{b v:AV} {l}:eI ((a,b)::l) k v=(if a=k then (k,v) else (a,b))::eI l k v:=rfl
theorem eF {k:Nat}{v:Ah}:eG [] k v=[]:=rfl
theorem an {a k:Nat}{b:Nat×Ah}{v:Ah} {l}:eG ((a,b)::l) k v=(if a=k then (k,(0,v)) else (a,b))::eG l k v:=rfl
theorem ao {l}:PO l []=l:=rfl
theorem Xw {l k v r}:PO l ((k,v)::r)=eI (PO l r) k v:=rfl
theorem am {l}:PN l []=l:=rfl
theorem Xv {l k v r}:PN l ((k,v)::r)=eG (PN l r) k v:=rfl
theorem qX {f:Nat->AV}{n:Nat}:Jq.val f (.t n)=f n:=rfl
theorem qY {f:Nat->AV}{v:AV}:Jq.val f (.k v)=v:=rfl
theorem aU {α:Type}(cs:List α) (off:Nat) (vs:List α):BA cs off vs=cs.take off++vs++cs.drop (off+vs.length):=rfl
theorem AU {α:Type}(up:α->List (Nat×AV)) (uo:α->List (Nat×Ah)) (Inv:α->Prop) (μ:α->Nat) (x0:α) {gs:List EG}{ks os:List Nat}{a:PC}
  {l0:List (Nat×AV)}{m0:List (Nat×(Nat×Ah))}(h0:B1 gs s fun s1=>s1.nrm ks os=⟨EJ l0,⟨A' m0,fun _=>1⟩⟩)
  (he:PO l0 (up x0)=l0) (he':PN m0 (uo x0)=m0) (hI:Inv x0)
  (step:∀x,Inv x->pw E a (KA (fun s'=>B1 gs s' fun s1=>∃y,s1.nrm ks os=⟨EJ (PO l0 (up y)),⟨A' (PN m0 (uo y)),fun _=>1⟩⟩/\Inv y/\μ y<μ x) Q) ⟨EJ (PO l0 (up x)),⟨A' (PN m0 (uo x)),fun _=>1⟩⟩) :
  pw E (.loop gs ks os a) Q s :=
 en (fun x=>⟨EJ (PO l0 (up x)),⟨A' (PN m0 (uo x)),fun _=>1⟩⟩) Inv μ x0 (by rw[he,he'];exact h0) hI step
end
theorem AZ (n:Int) (h:-9223372036854775808<=n/\n<=9223372036854775807):IntKind.i64.wrap n=n:=Go.IntWalk.i64_in n h
theorem eY {E:CB} {rs r s}:qi E rs r .ret s=GE E s rs (PM s.V r):=rfl
theorem ec {E:CB} {s K}:GE E s [] K=K []:=rfl
theorem a9 {E:CB} {s r l K}:GE E s (r::l) K=X2 E s r fun v=>GE E s l fun vs=>K (v::vs):=rfl
theorem o_ {E:CB} {s n K}:X2 E s (.t n) K=K (s.sl n):=rfl
theorem pA {E:CB} {s a ty ag n K}:X2 E s (.c a ty ag n) K=ev E none s.V (.load ag n) [s.sl a] fun v _=>K v:=rfl
theorem jy {V r v}:PM V r [v]=(v.snap V=some r):=rfl
theorem jx {V r v u}:PM V r [v,u]=((Ax (AV.snap V) [v,u]).map .tup=some r):=rfl
theorem jw {V r v u t}:PM V r [v,u,t]=((Ax (AV.snap V) [v,u,t]).map .tup=some r):=rfl
theorem oc {V k n}:AV.snap V (.d (.int k n))=some (.int k n):=rfl
theorem j0 {V b}:AV.snap V (.d (.bool b))=some (.bool b):=rfl
theorem jz {V n l}:AV.snap V (.d (.list n l))=some (.list n l):=rfl
theorem af {V}:AV.snap V (.d .nilptr)=some .nilptr:=rfl
theorem oa {V o g}:AV.snap V (.own o g)=match V.get o g with|some (.row _ _ nil xs)=>some (.list nil xs)|_=>none:=rfl
theorem od {V cs}:AV.snap V (.agg cs)=match Ax (AV.snap0 V) cs with|some l=>some (.agg l)|none=>none:=rfl
theorem ot {V k n}:AV.snap0 V (.d (.int k n))=some (.int k n):=rfl
theorem kE {V n l}:AV.snap0 V (.d (.list n l))=some (.list n l):=rfl
theorem qg {V l}:AV.snap0 V (.ex l)=some (.list false l):=rfl
theorem oq {V o g}:AV.snap0 V (.own o g)=match V.get o g with|some (.row _ _ nil xs)=>some (.list nil xs)|_=>none:=rfl
theorem jv {α:Type}{a b:α}:(some a=some b)=(a=b):=by simp
theorem bM {α β:Type}{f:α->β}{a:α}:Option.map f (some a)=some (f a):=rfl
section
variable {k k':IntKind}{a b:Int}{C:AV->Prop}
theorem mq:Cf .eql k k' a b C=(k=k'/\(a=b->C (.d (.bool true)))/\(¬a=b->C (.d (.bool false)))):=by
 rw[cj];by_cases h:a=b<;>simp[h]
theorem mg:Cf .neq k k' a b C=(k=k'/\(a=b->C (.d (.bool false)))/\(¬a=b->C (.d (.bool true)))):=by
 rw[cX];by_cases h:a=b<;>simp[h]
theorem mh:Cf .lss k k' a b C=(k=k'/\(a<b->C (.d (.bool true)))/\(¬a<b->C (.d (.bool false)))):=by
 rw[ce];by_cases h:a<b<;>simp[h]
theorem ml:Cf .leq k k' a b C=(k=k'/\(a<=b->C (.d (.bool true)))/\(¬a<=b->C (.d (.bool false)))):=by
 rw[cf];by_cases h:a<=b<;>simp[h]
theorem mn:Cf .gtr k k' a b C=(k=k'/\(b<a->C (.d (.bool true)))/\(¬b<a->C (.d (.bool false)))):=by
 rw[cg];by_cases h:b<a<;>simp[h]
theorem mo:Cf .geq k k' a b C=(k=k'/\(b<=a->C (.d (.bool true)))/\(¬b<=a->C (.d (.bool false)))):=by
 rw[ci];by_cases h:b<=a<;>simp[h]
end
section
variable {E:CB}{dst:Option Nat}{V:AN}{K:AV->BQ->Prop}{f:FuncId}{xs:List AV}
theorem Y9 {ds:List D}{b:Bool}(h:BR E f ds (.bool b)) (ha:Ed xs=some ds) (h1:b=true->K (.d (.bool true)) .none) (h2:b=false->K (.d (.bool false)) .none):DF E dst V f xs K :=
 G_ h ha (by cases b with|true=>exact h1 rfl|false=>exact h2 rfl)
theorem bK {α:Type}{p:Prop} [Decidable p] {x:α}{A:α->Prop}:Av (if p then some x else none) A=(p/\A x):=by
 by_cases h:p<;>simp[h,Av]
end
section
variable {E:CB}{K:A1->Prop}
def Kb (j:Nat):List (Nat×SZ)->Option SZ
 |[]=>none
 |(i,r)::l=>if j=i then some r else Kb j l
def SJ (x:Option SZ) (b:SZ):Bool:=match x with|some r=>K2 r b|none=>false
def UC (need:List Nat) (i:Nat) (r:SZ) (rec:List (Nat×SZ)):List (Nat×SZ):=if need.contains i then (i,r)::rec else rec
def Pp (E:CB):Nat->List Nat->List (EX×List Nat)->List (Nat×SZ)->A1->(A1->Prop)->Prop
 |_,_,[],_,s,K=>K s
 |i,need,(I,dy)::l,rec,s,K=>Du E I s fun v ch =>
  (dy.all fun j=>SJ (Kb j rec) (ch.site,Cz I s))=true /\
  Pp E (i+1) need l (UC need i (ch.site,Cz I s) rec) (put s I.dst v ch) K
theorem ZU {need:List Nat}:∀{l:List (EX×List Nat)}{rec:List SZ}{recE:List (Nat×SZ)}{s:A1},(∀j,j∈l.flatMap (·.2)->j∈need)->(∀j,j∈need->Kb j recE=rec[j]?)->Sf E l rec s K=Pp E rec.length need l recE s K
 |[],_,_,_,_,_=>rfl
 |(I,dy)::l,rec,recE,s,hn,hr=>by
  simp only[Sf,Pp]
  congr 1
  funext v ch
  have h1:(dy.all fun j=>match rec[j]? with|some r=>K2 r (ch.site,Cz I s)|none=>false)=(dy.all fun j=>SJ (Kb j recE) (ch.site,Cz I s)):=by
   rw[Bool.eq_iff_iff,List.all_eq_true,List.all_eq_true]
   have:∀j,j∈dy->(match rec[j]? with|some r=>K2 r (ch.site,Cz I s)|none=>false)=SJ (Kb j recE) (ch.site,Cz I s):=fun j hj=>by
    rw[hr j (hn j (by simp[hj]))];rfl
   exact⟨fun h j hj=>by rw[←this j hj];exact h j hj,fun h j hj=>by rw[this j hj];exact h j hj⟩
  refine congr (congrArg And (congrArg (fun b=>b=true) h1)) ?_
  have h2:=ZU (need:=need) (l:=l) (rec:=rec++[(ch.site,Cz I s)]) (recE:=UC need rec.length (ch.site,Cz I s) recE) (s:=put s I.dst v ch) (fun j hj=>hn j (by simp at hj ⊢;exact .inr hj)) fun j hj=>by
   unfold UC
   by_cases h:need.contains rec.length=true
   ·rw[if_pos h]
    simp only[Kb]
    by_cases hjl:j=rec.length
    ·subst hjl;simp
    ·rw[if_neg hjl,hr j hj]
     by_cases hlt:j<rec.length
     ·rw[List.getElem?_append_left hlt]
     ·rw[List.getElem?_eq_none (by omega),List.getElem?_eq_none (by simp;omega)]
   ·rw[if_neg h,hr j hj]
    have hne:j≠rec.length:=by rintro rfl;exact h (by simpa using hj)
    by_cases hlt:j<rec.length
    ·rw[List.getElem?_append_left hlt]
    ·rw[List.getElem?_eq_none (by omega),List.getElem?_eq_none (by simp;omega)]
  rw[h2];simp
theorem eo {Q:BP->A1->Prop}{s:A1} {gs l ks}:pw E (.draw gs l ks) Q s=B1 gs s fun s'=>Pp E 0 (l.flatMap (·.2)) l [] s' fun s'=>Q .normal (s'.keep ks):=by
 rw[kO]
 congr 1;funext s'
 exact ZU (rec:=[]) (recE:=[]) (fun j hj=>hj) fun j hj=>by simp[Kb]
theorem eL {i need r} {s:A1}:Pp E i need [] r s K=K s:=rfl
theorem Xy {i need I l r} {s:A1}:Pp E i need ((I,[])::l) r s K=Du E I s fun v ch=>Pp E (i+1) need l (UC need i (ch.site,Cz I s) r) (put s I.dst v ch) K:=by
 simp[Pp]
theorem au {i need I j dy l r} {s:A1}:Pp E i need ((I,j::dy)::l) r s K=Du E I s fun v ch =>
 ((j::dy).all fun j=>SJ (Kb j r) (ch.site,Cz I s))=true/\Pp E (i+1) need l (UC need i (ch.site,Cz I s) r) (put s I.dst v ch) K:=rfl
theorem mM {z:Nat} {i i' need need' l} {r r':List (Nat×SZ)}{s s':A1}(hz:H9=z) (hi:i=i') (hn:need=need') (hr:r=r') (h:s=s'):Pp E i need l r s K=Pp E i' need' l r' s' K:=by rw[h,hr,hi,hn]
theorem pB {need:List Nat}{i:Nat}{r:SZ}{rec:List (Nat×SZ)}(h:need.contains i=true):UC need i r rec=(i,r)::rec:=by simp only[UC,h,if_true]
theorem pC {need:List Nat}{i:Nat}{r:SZ}{rec:List (Nat×SZ)}(h:need.contains i=false):UC need i r rec=rec:=by simp only[UC,h,Bool.false_eq_true,if_false]
theorem bV {j:Nat}:Kb j []=none:=rfl
theorem YI {j i:Nat}{r:SZ} {l}:Kb j ((i,r)::l)=if j=i then some r else Kb j l:=rfl
theorem i_ {r b:SZ}:SJ (some r) b=K2 r b:=rfl
theorem rN {a f b f'}:K2 (a,f) (b,f')=((a.all fun o=>!f'.contains o) && (b.all fun o=>!f.contains o)):=rfl
theorem gc {d g op xs} {sl:Nat->AV}{V:AN}:Cz ⟨d,g,op,xs⟩ ⟨sl,V⟩=fp V d op (xs.map (Jq.val sl)):=rfl
theorem rp {x}:AV.sites (.d x)=[]:=by cases x<;>rfl
theorem qb {x}:AV.sites (.ex x)=[]:=rfl
theorem jn {x n}:AV.sites (.dptr x n)=[]:=rfl
theorem oV {o g}:AV.sites (.own o g)=[o]:=rfl
theorem oU {o g f}:AV.sites (.ptr o g f)=[o]:=rfl
theorem jl {o g e i f}:AV.sites (.rptr o g e i f)=[o]:=rfl
theorem jm {k o g}:AV.sites (.mref k o g)=[o]:=rfl
theorem jo {s l f}:AV.sites (.ablk s l f)=AV.sites.sitesL l:=rfl
theorem oW {l}:AV.sites (.agg l)=AV.sites.sitesL l:=rfl
theorem qa {f l}:AV.sites (.fn f l)=AV.sites.sitesL l:=rfl
theorem oT {l}:AV.sites (.tup l)=AV.sites.sitesL l:=rfl
theorem jp:AV.sites.sitesL []=[]:=rfl
theorem d5 {x l}:AV.sites.sitesL (x::l)=x.sites++AV.sites.sitesL l:=rfl
section
variable {d:Option Nat}{xs:List AV}{V:AN}
theorem pu:fp V d .mov xs=[]:=rfl
theorem lS:fp V d .pick xs=[]:=rfl
theorem py {b}:fp V d (.bin b) xs=[]:=rfl
theorem q7 {b}:fp V d (.un b) xs=[]:=rfl
theorem lU {b}:fp V d (.conv b) xs=[]:=rfl
theorem gY:fp V d .nilck xs=[]:=rfl
theorem ga {a}:fp V d (.faddr a) xs=[]:=rfl
theorem bp {a b}:fp V d (.iaddrA a b) xs=[]:=rfl
theorem gZ {a b c e}:fp V d (.mkrow a b c e) xs=[]:=rfl
theorem bn {a}:fp V d (.minmax a) xs=[]:=rfl
theorem Yb {a}:fp V d (.extract a) xs=[]:=rfl
theorem lT {a b}:fp V d (.load a b) xs=AV.sites.sitesL xs:=rfl
theorem bo {a}:fp V d (.iaddrS a) xs=AV.sites.sitesL xs:=rfl
theorem px {a}:fp V d (.len a) xs=AV.sites.sitesL xs:=rfl
theorem gW {a}:fp V d (.store a) xs=d.toList++AV.sites.sitesL xs:=rfl
theorem lV {a}:fp V d (.call a) xs=CC d V xs:=rfl
theorem gb:fp V d .callv xs=CC d V xs:=rfl
theorem Y_ {t}:CC (some t) V xs=Lf t++V.reach 3 (AV.sites.sitesL xs):=rfl
theorem ki {t}:Lf t=[t,t+10000,t+20000,t+30000]:=rfl
theorem TD:∀{n:Nat},V.reach n []=[]
 |0=>rfl
 |n+1=>by simp only[AN.reach,List.flatMap_nil,TD,List.append_nil]
theorem kJ {o l}:V.reach 3 (o::l)=(o::l)++V.reach 2 ((o::l).flatMap V.osites):=rfl
def UJ:Option (Nat×Ah)->List Nat
 |some (_,.cells xs)=>AV.sites.sitesL xs
 |some (_,.rowH _ _ _ q _)=>[q]
 |_=>[]
theorem bC {ob cn o}:(AN.mk ob cn).osites o=UJ (ob o):=rfl
theorem bP {g xs}:UJ (some (g,.cells xs))=AV.sites.sitesL xs:=rfl
theorem kc {g a b c d e}:UJ (some (g,.mat a b c d e))=[]:=rfl
theorem pz {a b c e}:fp V d (.app a b c e) xs=d.toList++AV.sites.sitesL xs:=rfl
theorem gX {a b c e}:fp V d (.slice a b c e) xs=d.toList++AV.sites.sitesL xs:=rfl
end
theorem dp {a:Nat}:(some a).toList=[a]:=rfl
theorem dq:(none:Option Nat).toList=[]:=rfl
end
theorem CU {k n}:(D.int k n).WF=MC k n:=by rw[D.WF]
theorem Bu {b}:(D.bool b).WF=True:=by rw[D.WF]
theorem Bq {nl xs}:(D.list nl xs).WF=(xs.length<=maxLen/\∀x,x∈xs->x.WF):=by rw[D.WF]
theorem Cd {xs}:(D.agg xs).WF=(∀x,x∈xs->x.WF):=by rw[D.WF]
theorem Cc {xs}:(D.ptr xs).WF=(∀x,x∈xs->x.WF):=by rw[D.WF]
theorem Dt {f xs}:(D.fn f xs).WF=(∀x,x∈xs->x.WF):=by rw[D.WF]
theorem Cb {xs}:(D.tup xs).WF=(∀x,x∈xs->x.WF):=by rw[D.WF]
theorem Bt {nl} {xs:List Int}:(D.list nl (Aa xs)).WF=(xs.length<=maxLen/\∀x,x∈xs->MC .i64 x):=by
 rw[Bq,BH];simp[Aa,CU]
theorem A2 {x:D}{l:List D}:(∀y,y∈x::l->y.WF)=(x.WF/\∀y,y∈l->y.WF):=by simp
theorem A9:(∀y,y∈([]:List D)->y.WF)=True:=by simp
theorem A_ {α:Type}{f:α->D}{l:List α}:(∀y,y∈l.map f->y.WF)=(∀x,x∈l->(f x).WF):=by simp
theorem Bz {n:Int}:MC .i64 n=(-9223372036854775808<=n/\n<=9223372036854775807):=by
 simp[MC,IntKind.min,IntKind.max,IntKind.signed,IntKind.bits]
theorem BG:maxLen=9223372036854775807:=rfl
theorem K1 {x:AV}{d:D}{xs:List AV}{ds:List D}(h:x.toD1=some d) (h':Ax AV.toD1 xs=some ds):Ed (x::xs)=some (d::ds):=by
 simp only[Ed,Ax,h,h']
theorem ip:Cn=1073741824:=rfl
theorem pX:D7=900000:=rfl
theorem De (V0:List (Nat×Nat×Ah)) (xs:List AV):A1.enterM V0 xs=⟨EJ (xs.zipIdx.map fun(d,k)=>(k,d)),⟨A' V0,fun _=>1⟩⟩:=by
 have key:∀(xs:List AV) (n t:Nat),(match xs[t]? with|some d=>d|none=>.undef)=EJ ((xs.zipIdx n).map fun(d,k)=>(k,d)) (n+t):=by
  intro xs
  induction xs with
  |nil=>intro n t;simp[EJ]
  |cons x xs ih =>
   intro n t
   cases t with
   |zero=>simp[EJ]
   |succ t =>
    have:=ih (n+1) t
    simp only[List.getElem?_cons_succ,List.zipIdx_cons,List.map_cons,EJ]
    rw[if_neg (by omega),this]
    congr 1;omega
 unfold A1.enterM
 congr 1
 funext t
 have:=key xs 0 t
 simp only[Nat.zero_add] at this
 rw[←this]
 cases xs[t]?<;>rfl
theorem EM {E:CB}{dst:Option Nat}{V:AN}{K:AV->BQ->Prop}{f:FuncId}{xs:List AV}{V0 V1:List (Nat×Nat×Ah)}{cxs:List AV}{r r':AV}{ch:BQ}(ρ ρ2:Gk) (h:Hk E f V0 cxs V1 r) (hk:K r' ch)
  (h1:N8 ρ cxs xs:=by repeat' first|exact True.intro|exact rfl|refine And.intro ?_ ?_)
  (h2:Handed V (CC dst V xs) ρ V0:=by simp[Handed,Gk.get,Ah.ren,AV.ren,AV.ren.renL,AN.get,A',CC,Lf,AN.reach,AV.sites,AV.sites.sitesL,AN.osites])
  (h3:Gb V.cn dst V0 V1 ρ ρ2=true:=by simp[Gb,J4,E9,Gk.get,Lf,D7,Bs])
  (h4:r.ren ρ2=some r':=by rfl)
  (h5:Kz ρ ρ2 V1=some ch:=by simp only[Kz,Gk.get,Ah.ren,AV.ren,AV.ren.renL,and_self,and_true,true_and,if_true,reduceIte];rfl):DF E dst V f xs K :=
 .inr (.inr (.inr (.inl ⟨V0,cxs,V1,r,r',ch,ρ,ρ2,h1,h,h2,h3,h4,h5,hk⟩)))
theorem eZ {E:CB} {rs V1 r s}:o8 E rs V1 r .ret s=(GE E s rs (nP V1 s.V r)/\fx s.V V1):=rfl
theorem V3 {E:CB} {rs V1 r s}:o8 E rs V1 r .normal s=(GE E s rs (nP V1 s.V r)/\fx s.V V1):=rfl
section
variable {V:AN}{V1:List (Nat×Nat×Ah)}
theorem qs {r v}:nP V1 V r [v]=TV V1 V v r:=rfl
theorem qt {rs}:nP V1 V (.tup rs) []=TW V1 V [] rs:=rfl
theorem c_:TW V1 V [] []=True:=rfl
theorem mC {v d}:TV V1 V v (.d d)=(v.snap V=some d/\(v.sites.all fun o=>!YV V1 o)=true):=rfl
theorem c9 {v o g}:TV V1 V v (.own o g)=(v=.own o g):=rfl
theorem gA {o}:YV [] o=false:=rfl
theorem bg {p l o}:YV (p::l) o=(p.1 == o || YV l o):=rfl
def YS:Option (Nat×Ah)->Nat->Ah->Prop
 |some (g',.map t l),g,.map t' l'=>g'=g/\t=t'/\l=l'
 |some (g',.row a b c l),g,.row a' b' c' l'=>g'=g/\a=a'/\b=b'/\c=c'/\l=l'
 |some (g',.cells l),g,.cells l'=>g'=g/\l=l'
 |some (g',.hist a b c),g,.hist a' b' c'=>g'=g/\a=a'/\b=b'/\c=c'
 |some (g',.rowH a b c d e),g,.rowH a' b' c' d' e'=>g'=g/\a=a'/\b=b'/\c=c'/\d=d'/\e=e'
 |some (g',.mat a b c d e),g,.mat a' b' c' d' e'=>g'=g/\a=a'/\b=b'/\c=c'/\d=d'/\e=e'
 |_,_,_=>False
theorem lF {x:Option (Nat×Ah)}{g:Nat}{y:Ah}:YS x g y=(x=some (g,y)):=by
 cases x with
 |none=>simp[YS]
 |some p=>obtain⟨g',z⟩:=p;cases z<;>cases y<;>simp[YS]
theorem fy {g' a b c l g a' b' c' l'}:YS (some (g',.row a b c l)) g (.row a' b' c' l')=(g'=g/\a=a'/\b=b'/\c=c'/\l=l'):=rfl
theorem fz {g' a b c d e g a' b' c' d' e'}:YS (some (g',.mat a b c d e)) g (.mat a' b' c' d' e')=(g'=g/\a=a'/\b=b'/\c=c'/\d=d'/\e=e'):=rfl
theorem YR {g' l g l'}:YS (some (g',.cells l)) g (.cells l')=(g'=g/\l=l'):=rfl
theorem lE:fx V []=True:=rfl
theorem fw {o g x l}:fx V ((o,g,x)::l)=(YS (V.ob o) g x/\fx V l):=by rw[lF];rfl
end
def kB (K:AV->BQ->Prop):D->Prop
 |.bool b=>(b=true->K (.d (.bool true)) .none)/\(b=false->K (.d (.bool false)) .none)
 |r=>K (up r) .none
theorem lB {K:AV->BQ->Prop} {b}:kB K (.bool b)=((b=true->K (.d (.bool true)) .none)/\(b=false->K (.d (.bool false)) .none)):=rfl
theorem pZ {K:AV->BQ->Prop} {k n}:kB K (.int k n)=K (.d (.int k n)) .none:=rfl
theorem lA {K:AV->BQ->Prop} {n l}:kB K (.list n l)=K (.d (.list n l)) .none:=rfl
theorem pc {K:AV->BQ->Prop} {l}:kB K (.agg l)=K (.d (.agg l)) .none:=rfl
theorem pY {K:AV->BQ->Prop} {l}:kB K (.tup l)=K (.tup (l.map .d)) .none:=rfl
theorem qw {K:AV->BQ->Prop} {f l}:kB K (.fn f l)=K (.d (.fn f l)) .none:=rfl
theorem AE {E:CB}{dst:Option Nat}{V:AN}{K:AV->BQ->Prop}{f:FuncId}{xs:List AV}{ds:List D}{r:D}(h:BR E f ds r) (hk:kB K r)
  (ha:Ed xs=some ds\/(XG V xs=some ds/\r.flat=true):=by first|exact .inl rfl|exact .inr ⟨rfl,rfl⟩):DF E dst V f xs K:=by
 have hu:K (up r) .none:=by
  cases r with
  |bool b=>cases b with
   |true=>exact hk.1 rfl
   |false=>exact hk.2 rfl
  |_=>exact hk
 exact ha.elim (fun h1=>G_ h h1 hu) fun h1=>qK h h1.1 h1.2 hu
theorem aI {a b:Prop}(h:a) (k:b):a/\b:=⟨h,k⟩
theorem tI:True:=⟨⟩
theorem rH {z:Nat}{K:AV->BQ->Prop}{r r':D}(hz:H9=z) (h:r=r'):kB K r=kB K r':=by rw[h]
theorem isCall {E:CB}{dst:Option Nat}{V:AN}{K:AV->BQ->Prop}{f:FuncId}{xs:List AV}(h:DF E dst V f xs K):DF E dst V f xs K:=h
theorem Ca {α:Type}{S:A1}{T:α->A1}{I M:α->Prop}(h:∃y,S=T y/\I y/\M y):∃y,S=T y/\I y/\M y:=h
theorem Ab {α:Type}{S:A1}{T:α->A1}{I M:α->Prop}{a:α}(e:S=T a) (h:I a) (k:M a):∃y,S=T y/\I y/\M y:=⟨a,e,h,k⟩
theorem Ae {α β:Type}{S:A1}{T:α×β->A1}{I M:α×β->Prop}{a:α}{b:β}(e:S=T (a,b)) (h:I (a,b)) (k:M (a,b)):∃y,S=T y/\I y/\M y:=⟨(a,b),e,h,k⟩
theorem Ag {α β γ:Type}{S:A1}{T:α×β×γ->A1}{I M:α×β×γ->Prop}{a:α}{b:β}{c:γ}(e:S=T (a,b,c)) (h:I (a,b,c)) (k:M (a,b,c)):∃y,S=T y/\I y/\M y:=⟨(a,b,c),e,h,k⟩
theorem A8 {α β γ δ:Type}{S:A1}{T:α×β×γ×δ->A1}{I M:α×β×γ×δ->Prop}{a:α}{b:β}{c:γ}{d:δ}(e:S=T (a,b,c,d)) (h:I (a,b,c,d)) (k:M (a,b,c,d)):∃y,S=T y/\I y/\M y:=⟨(a,b,c,d),e,h,k⟩
theorem pU {m k a}:E_ m k a []=some a:=rfl
theorem pW {k:IntKind}{a b:Int} {rest}:E_ true k a (.d (.int k b)::rest)=E_ true k (max a b) rest:=by
 simp only[E_,if_true,ko];congr 1;omega
theorem pV {k:IntKind}{a b:Int} {rest}:E_ false k a (.d (.int k b)::rest)=E_ false k (min a b) rest:=by
 simp only[E_,if_true,kn,Bool.false_eq_true,if_false];congr 1;omega
theorem aL {α:Type}(xs:List α) (a:Nat):(xs.drop a).take (xs.length-a)=xs.drop a:=List.take_of_length_le (by simp)
theorem aR (n:Nat):n-0=n:=rfl
def s6 (a b:List D):Prop:=jH a b=true
section
variable {E:CB}{dst:Option Nat}{V:AN}{K:AV->BQ->Prop}
end
def tK (E:CB) (p:PC) (Q:BP->A1->Prop) (s:A1):Prop:=∃e s',Q e s'/\∀Q':BP->A1->Prop,Q' e s'->pw E p Q' s
attribute [go_sem] qD kL kP pG eo pE kQ ep kN pF Tr Xk aK Sx ZC XC YX WR gH gI lP q6 gJ gP gL lR Ya gK lQ YZ gS pt bi kT ew gF kW ez gE lO q5 pr bk kV kU gG kX bN kb ka eK aq eL Xy au pB pC bV YI i_ rN gc rp qb jn oV oU jl jm jo oW qa oT jp d5 pu lS py q7 lU gY ga bp gZ bn Yb lT bo px gW lV gb pz gX dp dq List.flatMap_cons List.flatMap_nil ah Xt ai eA Y_ ki TD kJ bC bP kc VU jk lJ lK lI eq et i8 i9 dP mw k_ fI LV fW YJ bW pn dl jd dk lx YK WI fD fE X7 qp bQ ke kd fG fJ pO fK bR ku qn kZ pM iI cr cq iH qI mF qH mG mD mE qG rD rC oO jh qZ bX YL oP m_ rR qM rQ fU sC rL mt bv Yh bw Yi dJ Y8 dK oH je oG p9 ld qB p8 Wh Ue Uf cE Ua Px Uh Sp Yt lf Ys qA lh Yu lj Ub Yl Ug So Rh Wl Yr g9 Ud Ym Wg Uc Yn Yo Yp Wd Wc We Wj Wi g_ X_ KZ b9 le lb Wf b8 gw gx bz bx Wk Rg Yk Sn p_ o6 o5 o4 cJ Yq cH cF cK g7 b_ Yw Yx cN Yy Wm Yv pI pJ mq mg mh ml mn mo bK co cP cY cV cU cT cQ cm hC cO V7 UI X9 aL aR pU pW pV Y4 Mv Kw UQ BH be bc fv bd ft fu YQ bb dm aF V8 Ma eY eZ V3 qt qs c_ mC c9 gA bg fy fz YR lE fw ec a9 o_ pA jy jx jw oc j0 jz af oa od ot kE qg oq jv bM qX qY List.map_cons List.map_nil List.zipIdx_cons List.zipIdx_nil List.zip_cons_cons List.zip_nil_left List.length_cons List.length_nil List.getElem?_cons_zero List.getElem?_cons_succ List.drop_zero List.drop_succ_cons List.take_succ_cons List.take_zero List.take_nil List.drop_nil List.contains_cons List.contains_nil List.filter_cons List.filter_nil List.all_cons List.all_nil List.cons_append List.nil_append List.append_nil List.set_cons_zero List.set_cons_succ aU List.replicate_succ List.replicate_zero List.isEmpty_cons List.isEmpty_nil List.length_map id_eq Nat.lt_irrefl Nat.zero_add Nat.add_zero Nat.zero_mul Nat.one_mul Nat.mul_one if_true if_false Bool.false_eq_true Bool.not_true Bool.not_false Bool.true_or Bool.false_or Bool.or_true Bool.or_false Bool.true_and Bool.false_and Bool.and_true Bool.and_false beq_self_eq_true Bool.and_self Bool.or_self true_and and_true false_and and_false ite_self exists_prop_of_true exists_prop not_false_eq_true not_true_eq_false forall_const eq_self and_self true_implies false_implies implies_true ne_eq List.cons_ne_nil Nat.le_refl Nat.not_lt_zero eH ap eF an ao Xw am Xv Int.toNat_natCast Int.toNat_zero ip pX pD dZ V9 dN Xc VI dQ XL jX pS kl WB kj WA bT Ok qq bL ry pT bF UE al Xu Vz a7 lB pZ lA pc pY qw
attribute [go_sem_proc] Nat.reduceAdd Nat.reduceSub Nat.reduceMul Nat.reduceEqDiff Nat.reduceBEq Nat.reduceLeDiff Nat.reduceLT Int.reduceToNat Int.reduceLE Int.reduceLT Int.reduceNeg reduceIte reduceCtorEq Int.reduceEq Int.reduceAdd Int.reduceSub Int.reduceMul
attribute [congr] rG mL ib rI ik im il ia dI dD Y6 ig dG ij dH mQ qJ dF mX mS mO mP mK mN ic dE mY mU mW mV mZ me mf mc md mb mR mT ii mM rH
end Go.Pw
