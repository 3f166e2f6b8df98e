/- Part. -/
import Derived.Test.YtmdklgapccickaaGreatDoorPkZa
import Derived.IntWalk
set_option linter.all false
namespace Go.Pw
def Ie:Nat:=0
theorem zb:Ie=0:=Eq.symm (Eq.symm rfl)
def Nd(v:AV)(b:Bool)(A B:Prop):Prop :=
 match v with
 |.d (.bool b')=>JL (b == b') A B
 |.tup []=>B
 |_=>False
def fu(v:AV)(t:Nat)(sl:Nat->AV)(V:AO)(KS:BG->Prop):Prop :=
 match v with
 |.own o g=>Hu (V.get o g) fun _ _ nl l=>KS ⟨CB sl t (.d (.list nl l)),V.drop o⟩
 |_=>KS ⟨sl,V⟩
def lB(v:AV)(t:Nat)(sl:Nat->AV)(V:AO)(KS:BG->Prop):Prop :=
 match v with
 |.ptr o g 0=>Ib (V.get o g) fun xs=>Au (Ax AV.toD1 xs) fun cs=>cs≠[]/\KS ⟨CB sl t (.d (.ptr cs)),V.drop o⟩
 |_=>KS ⟨sl,V⟩
def qF(v:AV)(t:Nat)(sl:Nat->AV)(V:AO)(KS:BG->Prop):Prop :=
 match v with
 |.mref .out o g=>F8 (V.get o g) fun _ _ nl ix rows=>Zo ix rows=true/\KS ⟨CB sl t (.d (.list nl (Mw ix rows))),V.drop o⟩
 |_=>KS ⟨sl,V⟩
def qJ(x:Option AY)(t o:Nat)(sl:Nat->AV)(V:AO)(KS:BG->Prop):Prop :=
 match x with
 |some (.cells (c::l))=>KS ⟨CB sl t (.ablk false (c::l) 0),V.drop o⟩
 |_=>False
def qI(v:AV)(t:Nat)(sl:Nat->AV)(V:AO)(KS:BG->Prop):Prop :=
 match v with
 |.ptr o g 0=>qJ (V.get o g) t o sl V KS
 |_=>KS ⟨sl,V⟩
def cQ(x:Option AV)(b g k:Nat)(xs:List AV)(sl:Nat->AV)(V:AO)(KS:BG->Prop):Prop :=
 match x with
 |some (.own o p)=>Hu (V.get o p) fun _ _ nl l=>KS ⟨sl,(V.drop o).app (.keep b g (.cells (xs.set k (.d (.list nl l)))))⟩
 |_=>KS ⟨sl,V⟩
def lC(v:AV)(off:Nat)(sl:Nat->AV)(V:AO)(KS:BG->Prop):Prop :=
 match v with
 |.ptr b g f=>(match V.get b g with
  |some (.cells xs)=>cQ xs[f+off]? b g (f+off) xs sl V KS
  |_=>KS ⟨sl,V⟩)
 |_=>KS ⟨sl,V⟩
def qH(y:Option AY)(b g k:Nat)(sl:Nat->AV)(V:AO)(KS:BG->Prop):Prop :=
 match y with
 |some (.cells xs)=>cQ xs[k]? b g k xs sl V KS
 |_=>KS ⟨sl,V⟩
def om(v:AV)(t o e1 e2:Nat)(sl:Nat->AV)(V:AO)(KS:BG->Prop):Prop :=
 match v with
 |.d (.list true [])=>o<Cr/\KS ⟨CB sl t (.mref .out o (V.cn o)),V.app (.fresh o (.mat e1 e2 true [] []))⟩
 |_=>KS ⟨sl,V⟩
def oi(v:AV)(t o ety es:Nat)(sl:Nat->AV)(V:AO)(KS:BG->Prop):Prop :=
 match v with
 |.d (.list true [])=>o<Cr/\KS ⟨CB sl t (.own o (V.cn o)),V.app (.fresh o (.row ety es true []))⟩
 |_=>KS ⟨sl,V⟩
def ka(x:Option AV)(b g k o ety es:Nat)(xs:List AV)(sl:Nat->AV)(V:AO)(KS:BG->Prop):Prop :=
 match x with
 |some (.d (.list true []))=>o<Cr/\o≠b/\KS ⟨sl,(V.app (.fresh o (.row ety es true []))).app (.keep b g (.cells (xs.set k (.own o (V.cn o)))))⟩
 |_=>KS ⟨sl,V⟩
def kb(y:Option AY)(b g k o ety es:Nat)(sl:Nat->AV)(V:AO)(KS:BG->Prop):Prop :=
 match y with
 |some (.cells xs)=>ka xs[k]? b g k o ety es xs sl V KS
 |_=>KS ⟨sl,V⟩
def oo(v:AV)(off o ety es:Nat)(sl:Nat->AV)(V:AO)(KS:BG->Prop):Prop :=
 match v with
 |.ptr b g f=>kb (V.get b g) b g (f+off) o ety es sl V KS
 |_=>KS ⟨sl,V⟩
section
variable {E:CW}{Q:Bk->BG->Prop}{s s':BG}{K:AV->Bs->Prop}{KS:BG->Prop}
theorem ABE{z:Nat}{p:PC}(hz:Ie=z)(h:s=s'):pw E p Q s=pw E p Q s':=by rw[h]
theorem vy{z:Nat}{l:List Fu}(hz:Ie=z)(h:s=s'):Lf E l s KS=Lf E l s' KS:=by rw[h]
theorem rN{z:Nat}{I:Fu}(hz:Ie=z)(h:s=s'):Ey E I s K=Ey E I s' K:=by rw[h]
theorem ABG{z:Nat}{dst:Option Nat}{op:Bx}{V V':AO}{xs xs':List AV}(hz:Ie=z)(hV:V=V')(h:xs=xs'):ev E dst V op xs K=ev E dst V' op xs' K:=by rw[h,hV]
theorem rV{z:Nat}{b:BinOp}{k k' k1 k2:IntKind}{x y x' y':Int}{C:AV->Prop}(hz:Ie=z)(h1:k=k1)(h2:k'=k2)(hx:x=x')(hy:y=y'):Dn b k k' x y C=Dn b k1 k2 x' y' C:=by rw[h1,h2,hx,hy]
theorem rY{z:Nat}{c c':Bool}{A B:Prop}(hz:Ie=z)(h:c=c'):JL c A B=JL c' A B:=by rw[h]
theorem rX{z:Nat}{v v':AV}{A B:Prop}(hz:Ie=z)(h:v=v'):V5 v A B=V5 v' A B:=by rw[h]
theorem rM{z:Nat}{e e':Bk}{A:BG->Prop}(hz:Ie=z)(he:e=e')(h:s=s'):L5 A Q e s=L5 A Q e' s':=by rw[he,h]
theorem mO{z:Nat}{i:Nat}{e e':Bk}(hz:Ie=z)(he:e=e')(h:s=s'):Lx i Q e s=Lx i Q e' s':=by rw[he,h]
theorem mI{α:Type}{z:Nat}{x y:Option α}{A:α->Prop}(hz:Ie=z)(h:x=y):Au x A=Au y A:=by rw[h]
theorem gc{z:Nat}{x y:Option AY}{A}(hz:Ie=z)(h:x=y):Ib x A=Ib y A:=by rw[h]
theorem rP{z:Nat}{x y:Option AY}{A}(hz:Ie=z)(h:x=y):Hu x A=Hu y A:=by rw[h]
theorem rT{z:Nat}{x y:Option AY}{A}(hz:Ie=z)(h:x=y):NW x A=NW y A:=by rw[h]
theorem rS{z:Nat}{x y:Option AY}{B}(hz:Ie=z)(h:x=y):Xm x B=Xm y B:=by rw[h]
theorem wD{z:Nat}{es es':List (D×D)}{l l':List Nat}{A B}(hz:Ie=z)(h:es=es')(h':l=l'):uB es l A B=uB es' l' A B:=by rw[h,h']
theorem rQ{α:Type}{z:Nat}{x y:Option α}{A:α->Prop}{B:Prop}(hz:Ie=z)(h:x=y):Xl x A B=Xl y A B:=by rw[h]
theorem mL{z:Nat}{gs:List EE}(hz:Ie=z)(h:s=s'):B5 gs s KS=B5 gs s' KS:=by rw[h]
theorem rU{z:Nat}{g:EE}(hz:Ie=z)(h:s=s'):E3 g s KS=E3 g s' KS:=by rw[h]
theorem mM{z:Nat}{dst:Option Nat}{V V':AO}{f:FuncId}{xs xs':List AV}(hz:Ie=z)(hV:V=V')(h:xs=xs'):DW E dst V f xs K=DW E dst V' f xs' K:=by rw[h,hV]
theorem v6{z:Nat}{α:Type}{ag:Bool}{n n':Nat}{cs cs':List α}{off off':Nat}{mk:List α->AV}{one:α->AV}{C:AV->Prop}(hz:Ie=z)(hn:n=n')(h:cs=cs')(ho:off=off'):DI ag n cs off mk one C=DI ag n' cs' off' mk one C:=by rw[hn,h,ho]
theorem zl{z:Nat}{lo hi:Bool}{n n':Nat}{xs xs':List AV}{C:Nat->Nat->Prop}(hz:Ie=z)(hn:n=n')(h:xs=xs'):Pt lo hi n xs C=Pt lo hi n' xs' C:=by rw[hn,h]
theorem mK{z:Nat}{v v':AV}{b:Bool}{A B:Prop}(hz:Ie=z)(h:v=v'):Nd v b A B=Nd v' b A B:=by rw[h]
theorem wE{z:Nat}{v v':AV}{t:Nat}{sl:Nat->AV}{V:AO}(hz:Ie=z)(h:v=v'):fu v t sl V KS=fu v' t sl V KS:=by rw[h]
theorem v7{z:Nat}{v v':AV}{t o ety es:Nat}{sl:Nat->AV}{V:AO}(hz:Ie=z)(h:v=v'):oi v t o ety es sl V KS=oi v' t o ety es sl V KS:=by rw[h]
theorem v4{z:Nat}{rs:List RT}{K:List AV->Prop}(hz:Ie=z)(h:s=s'):GL E s rs K=GL E s' rs K:=by rw[h]
theorem v5{z:Nat}{r:RT}{K:AV->Prop}(hz:Ie=z)(h:s=s'):eu E s r K=eu E s' r K:=by rw[h]
theorem vx{z:Nat}{y y':AV}{xs xs':List AV}{V V':AO}(hz:Ie=z)(h1:y=y')(h2:xs=xs')(h3:V=V'):Ux E y xs V K=Ux E y' xs' V' K:=by rw[h1,h2,h3]
theorem v3{z:Nat}{α:Type}{T:α->AO}{Inv PInv m gs ks os sl e e'}(hz:Ie=z)(he:e=e')(h:s=s'):bQ T Inv PInv m gs ks os sl e s=bQ T Inv PInv m gs ks os sl e' s':=by rw[he,h]
theorem rO{z:Nat}{A:BG->Prop}{e e'}(hz:Ie=z)(he:e=e')(h:s=s'):PK A e s=PK A e' s':=by rw[he,h]
theorem zm{z:Nat}{P P':Us}{n n':Nat}{ds ds':List D}{A}(hz:Ie=z)(h1:P=P')(h2:n=n')(h3:ds=ds'):zu P n ds A=zu P' n' ds' A:=by rw[h1,h2,h3]
theorem mJ{z:Nat}{x y:Option AY}{A}(hz:Ie=z)(h:x=y):VV x A=VV y A:=by rw[h]
theorem GK{b:Bool}{A B:Prop}(h1:b=true->A)(h2:b=false->B):JL b A B:=⟨h1,h2⟩
theorem sf{d t b op xs}{sl:Nat->AV}{V:AO}:Ey E ⟨d,some (t,b),op,xs⟩ ⟨sl,V⟩ K=Nd (sl t) b (ev E d V op (xs.map (Jk.val sl)) K) (K (.tup []) .none):=rfl
theorem u4{b:Bool}{A B:Prop}:Nd (.d (.bool b)) true A B=JL b A B:=by simp[Nd]
theorem u5{b:Bool}{A B:Prop}:Nd (.d (.bool b)) false A B=JL b B A:=by cases b<;>simp[Nd]
theorem u0{b:Bool}{A B:Prop}:Nd (.tup []) b A B=B:=rfl
theorem p8{t:Nat}{sl:Nat->AV}{V:AO}:E3 (.freeze t) ⟨sl,V⟩ KS=fu (sl t) t sl V KS:=by
 simp only[E3,fu]
 cases sl t with
 |own o g=>simp only;cases V.get o g with
  |none=>rfl
  |some x=>cases x<;>rfl
 |_=>rfl
theorem u7{t o g:Nat}{sl:Nat->AV}{V:AO}:fu (.own o g) t sl V KS=Hu (V.get o g) fun _ _ nl l=>KS ⟨CB sl t (.d (.list nl l)),V.drop o⟩:=rfl
theorem AA1{t:Nat}{x:D}{sl:Nat->AV}{V:AO}:fu (.d x) t sl V KS=KS ⟨sl,V⟩:=rfl
theorem lA{t:Nat}{sl:Nat->AV}{V:AO}:fu .undef t sl V KS=KS ⟨sl,V⟩:=rfl
theorem p9{t:Nat}{sl:Nat->AV}{V:AO}:E3 (.frzP t) ⟨sl,V⟩ KS=lB (sl t) t sl V KS:=by
 simp only[E3,lB]
 cases sl t with
 |ptr o g f =>
  cases f with
  |zero =>
   simp only;cases V.get o g with
   |none=>rfl
   |some x =>
    cases x with
    |cells xs =>
     simp only[Ib]
     cases Ax AV.toD1 xs with
     |none=>rfl
     |some l=>cases l<;>simp[Au]
    |_=>rfl
  |succ n=>rfl
 |_=>rfl
theorem u9{t o g:Nat}{sl:Nat->AV}{V:AO}:lB (.ptr o g 0) t sl V KS=Ib (V.get o g) fun xs=>Au (Ax AV.toD1 xs) fun cs=>cs≠[]/\KS ⟨CB sl t (.d (.ptr cs)),V.drop o⟩:=rfl
theorem AA2{t:Nat}{x:D}{sl:Nat->AV}{V:AO}:lB (.d x) t sl V KS=KS ⟨sl,V⟩:=rfl
theorem wF{z:Nat}{v v':AV}{t:Nat}{sl:Nat->AV}{V:AO}(hz:Ie=z)(h:v=v'):lB v t sl V KS=lB v' t sl V KS:=by rw[h]
theorem p5{t o ety es:Nat}{sl:Nat->AV}{V:AO}:E3 (.own t o ety es) ⟨sl,V⟩ KS=oi (sl t) t o ety es sl V KS:=rfl
theorem p7{t off o ety es:Nat}{sl:Nat->AV}{V:AO}:E3 (.ownC t off o ety es) ⟨sl,V⟩ KS=oo (sl t) off o ety es sl V KS:=by
 simp only[E3,oo]
 cases sl t with
 |ptr b g f =>
  simp only[kb]
  cases V.get b g with
  |none=>rfl
  |some x =>
   cases x with
   |cells xs=>simp only[ka];rfl
   |_=>rfl
 |_=>rfl
theorem tp{b g f off o ety es:Nat}{sl:Nat->AV}{V:AO}:oo (.ptr b g f) off o ety es sl V KS=kb (V.get b g) b g (f+off) o ety es sl V KS:=rfl
theorem kZ{b g k o ety es:Nat}{xs:List AV}{sl:Nat->AV}{V:AO}:kb (some (.cells xs)) b g k o ety es sl V KS=ka xs[k]? b g k o ety es xs sl V KS:=rfl
theorem t5{b g k o ety es:Nat}{xs:List AV}{sl:Nat->AV}{V:AO}:ka (some (.d (.list true []))) b g k o ety es xs sl V KS=(o<Cr/\o≠b/\KS ⟨sl,(V.app (.fresh o (.row ety es true []))).app (.keep b g (.cells (xs.set k (.own o (V.cn o)))))⟩):=rfl
theorem v9{z:Nat}{v v':AV}{off o ety es:Nat}{sl:Nat->AV}{V:AO}(hz:Ie=z)(h:v=v'):oo v off o ety es sl V KS=oo v' off o ety es sl V KS:=by rw[h]
theorem wC{z:Nat}{y y':Option AY}{b g k k' o ety es:Nat}{sl:Nat->AV}{V:AO}(hz:Ie=z)(h:y=y')(hk:k=k'):kb y b g k o ety es sl V KS=kb y' b g k' o ety es sl V KS:=by rw[h,hk]
theorem wA{z:Nat}{y y':Option AV}{b g k o ety es:Nat}{xs:List AV}{sl:Nat->AV}{V:AO}(hz:Ie=z)(h:y=y'):ka y b g k o ety es xs sl V KS=ka y' b g k o ety es xs sl V KS:=by rw[h]
theorem p_{t:Nat}{sl:Nat->AV}{V:AO}:E3 (.frzM t) ⟨sl,V⟩ KS=qF (sl t) t sl V KS:=by
 simp only[E3,qF]
 cases sl t with
 |mref k o g =>
  cases k with
  |out=>simp only;cases V.get o g with
   |none=>rfl
   |some x=>cases x<;>rfl
  |_=>rfl
 |_=>rfl
theorem qE{t o g:Nat}{sl:Nat->AV}{V:AO}:qF (.mref .out o g) t sl V KS=F8 (V.get o g) fun _ _ nl ix rows=>Zo ix rows=true/\KS ⟨CB sl t (.d (.list nl (Mw ix rows))),V.drop o⟩:=rfl
theorem wG{z:Nat}{v v':AV}{t:Nat}{sl:Nat->AV}{V:AO}(hz:Ie=z)(h:v=v'):qF v t sl V KS=qF v' t sl V KS:=by rw[h]
theorem qB{t:Nat}{sl:Nat->AV}{V:AO}:E3 (.frzA t) ⟨sl,V⟩ KS=qI (sl t) t sl V KS:=by
 simp only[E3,qI]
 cases sl t with
 |ptr o g f =>
  cases f with
  |zero=>rfl
  |succ n=>rfl
 |_=>rfl
theorem vA{t o g:Nat}{sl:Nat->AV}{V:AO}:qI (.ptr o g 0) t sl V KS=qJ (V.get o g) t o sl V KS:=rfl
theorem fw{t o:Nat}{c:AV}{l:List AV}{sl:Nat->AV}{V:AO}:qJ (some (.cells (c::l))) t o sl V KS=KS ⟨CB sl t (.ablk false (c::l) 0),V.drop o⟩:=rfl
theorem wK{z:Nat}{v v':AV}{t:Nat}{sl:Nat->AV}{V:AO}(hz:Ie=z)(h:v=v'):qI v t sl V KS=qI v' t sl V KS:=by rw[h]
theorem wL{z:Nat}{y y':Option AY}{t o:Nat}{sl:Nat->AV}{V:AO}(hz:Ie=z)(h:y=y'):qJ y t o sl V KS=qJ y' t o sl V KS:=by rw[h]
theorem qA{t off:Nat}{sl:Nat->AV}{V:AO}:E3 (.frzC t off) ⟨sl,V⟩ KS=lC (sl t) off sl V KS:=by
 simp only[E3,lC]
 cases sl t with
 |ptr b g f =>
  simp only
  cases V.get b g with
  |none=>rfl
  |some x =>
   cases x with
   |cells xs =>
    simp only[cQ]
    cases xs[f+off]? with
    |none=>rfl
    |some y =>
     cases y with
     |own o p=>simp only;cases V.get o p with
      |none=>rfl
      |some z=>cases z<;>rfl
     |_=>rfl
   |_=>rfl
 |_=>rfl
theorem u_{b g f off:Nat}{sl:Nat->AV}{V:AO}:lC (.ptr b g f) off sl V KS=qH (V.get b g) b g (f+off) sl V KS:=by
 simp only[lC,qH]
theorem fv{b g k:Nat}{xs:List AV}{sl:Nat->AV}{V:AO}:qH (some (.cells xs)) b g k sl V KS=cQ xs[k]? b g k xs sl V KS:=rfl
theorem qG{b g k o p:Nat}{xs:List AV}{sl:Nat->AV}{V:AO}:cQ (some (.own o p)) b g k xs sl V KS=Hu (V.get o p) fun _ _ nl l=>KS ⟨sl,(V.drop o).app (.keep b g (.cells (xs.set k (.d (.list nl l)))))⟩:=rfl
theorem zK{b g k:Nat}{x:D}{xs:List AV}{sl:Nat->AV}{V:AO}:cQ (some (.d x)) b g k xs sl V KS=KS ⟨sl,V⟩:=rfl
theorem wI{z:Nat}{v v':AV}{off:Nat}{sl:Nat->AV}{V:AO}(hz:Ie=z)(h:v=v'):lC v off sl V KS=lC v' off sl V KS:=by rw[h]
theorem wJ{z:Nat}{y y':Option AY}{b g k k':Nat}{sl:Nat->AV}{V:AO}(hz:Ie=z)(h:y=y')(hk:k=k'):qH y b g k sl V KS=qH y' b g k' sl V KS:=by rw[h,hk]
theorem wH{z:Nat}{y y':Option AV}{b g k:Nat}{xs:List AV}{sl:Nat->AV}{V:AO}(hz:Ie=z)(h:y=y'):cQ y b g k xs sl V KS=cQ y' b g k xs sl V KS:=by rw[h]
def tq(P:Bool->List D->Prop)(A:Bool->List D->Prop):Prop:=∀nl l,P nl l->A nl l
theorem v_{z:Nat}{P P'}{A:Bool->List D->Prop}(hz:Ie=z)(h:P=P'):tq P A=tq P' A:=by rw[h]
def mW(y:Option AY)(t o:Nat)(sl:Nat->AV)(V:AO)(KS:BG->Prop):Prop :=
 match y with
 |some (.row ety es nl l)=>o<Cr/\KS ⟨CB sl t (.own o (V.cn o)),V.app (.fresh o (.row ety es nl l))⟩
 |some (.rowP ety es P)=>o<Cr/\tq P fun nl l=>KS ⟨CB sl t (.own o (V.cn o)),V.app (.fresh o (.row ety es nl l))⟩
 |_=>KS ⟨sl,V⟩
def mV(v:AV)(t:Nat)(sl:Nat->AV)(V:AO)(KS:BG->Prop):Prop :=
 match v with
 |.own o g=>mW (V.get o g) t o sl V KS
 |_=>KS ⟨sl,V⟩
theorem qC{t:Nat}{sl:Nat->AV}{V:AO}:E3 (.bump t) ⟨sl,V⟩ KS=mV (sl t) t sl V KS:=by
 simp only[E3,mV]
 cases sl t with
 |own o g=>simp only[mW];cases V.get o g with
  |none=>rfl
  |some x=>cases x<;>rfl
 |_=>rfl
theorem wP{t o g:Nat}{sl:Nat->AV}{V:AO}:mV (.own o g) t sl V KS=mW (V.get o g) t o sl V KS:=rfl
theorem mU{t o ety es:Nat}{P}{sl:Nat->AV}{V:AO}:mW (some (.rowP ety es P)) t o sl V KS=(o<Cr/\tq P fun nl l=>KS ⟨CB sl t (.own o (V.cn o)),V.app (.fresh o (.row ety es nl l))⟩):=rfl
theorem wM{z:Nat}{v v':AV}{t:Nat}{sl:Nat->AV}{V:AO}(hz:Ie=z)(h:v=v'):mV v t sl V KS=mV v' t sl V KS:=by rw[h]
theorem wN{z:Nat}{y y':Option AY}{t o:Nat}{sl:Nat->AV}{V:AO}(hz:Ie=z)(h:y=y'):mW y t o sl V KS=mW y' t o sl V KS:=by rw[h]
theorem p6{t o e1 e2:Nat}{sl:Nat->AV}{V:AO}:E3 (.ownM t o e1 e2) ⟨sl,V⟩ KS=om (sl t) t o e1 e2 sl V KS:=rfl
theorem tn{t o e1 e2:Nat}{sl:Nat->AV}{V:AO}:om (.d (.list true [])) t o e1 e2 sl V KS=(o<Cr/\KS ⟨CB sl t (.mref .out o (V.cn o)),V.app (.fresh o (.mat e1 e2 true [] []))⟩):=rfl
theorem ol{t o e1 e2:Nat}{k o' g}{sl:Nat->AV}{V:AO}:om (.mref k o' g) t o e1 e2 sl V KS=KS ⟨sl,V⟩:=rfl
theorem v8{z:Nat}{v v':AV}{t o e1 e2:Nat}{sl:Nat->AV}{V:AO}(hz:Ie=z)(h:v=v'):om v t o e1 e2 sl V KS=om v' t o e1 e2 sl V KS:=by rw[h]
theorem rR{z:Nat}{x y:Option AY}{A}(hz:Ie=z)(h:x=y):F8 x A=F8 y A:=by rw[h]
theorem tl{t o ety es:Nat}{sl:Nat->AV}{V:AO}:oi (.d (.list true [])) t o ety es sl V KS=(o<Cr/\KS ⟨CB sl t (.own o (V.cn o)),V.app (.fresh o (.row ety es true []))⟩):=rfl
theorem tk{t o ety es o' g:Nat}{sl:Nat->AV}{V:AO}:oi (.own o' g) t o ety es sl V KS=KS ⟨sl,V⟩:=rfl
end
theorem sP{α:Type}(f:Nat->α)(i:Nat)(x:α)(j:Nat):CB f i x j=if j=i then x else f j:=rfl
theorem m_(f:Nat->Nat)(i x y:Nat):CB (CB f i x) i y=CB f i y:=by funext j;simp only[CB];split<;>rfl
theorem AAc{x:D}:(AV.d x).one=x.one:=rfl
theorem tv{o g}:(AV.own o g).one=true:=rfl
theorem tw{o g}:(AV.map o g).one=true:=rfl
theorem yj{f c}:(AV.fn f c).one=true:=rfl
theorem qx{k n}:(D.int k n).one=true:=rfl
theorem ly{b}:(D.bool b).one=true:=rfl
theorem lx{n l}:(D.list n l).one=true:=rfl
theorem qw{l}:(D.ptr l).one=true:=rfl
theorem zk{c}:(AV.agg c).cells?=some c:=rfl
theorem vn{c}:(AV.d (.agg c)).cells?=some (c.map .d):=rfl
theorem zj{k n}:(AV.d (.int k n)).cells?=some [.d (.int k n)]:=rfl
theorem vp{b}:(AV.d (.bool b)).cells?=some [.d (.bool b)]:=rfl
theorem vj{n l}:(AV.d (.list n l)).cells?=some [.d (.list n l)]:=rfl
theorem vk{l}:(AV.d (.ptr l)).cells?=some [.d (.ptr l)]:=rfl
theorem vm{f l}:(AV.d (.map f l)).cells?=some [.d (.map f l)]:=rfl
theorem zh{o g}:(AV.own o g).cells?=some [.own o g]:=rfl
theorem zi{o g}:(AV.map o g).cells?=some [.map o g]:=rfl
theorem ABC{l}:(AV.ex l).cells?=some [.ex l]:=rfl
theorem ABB{f c}:(AV.fn f c).cells?=some [.fn f c]:=rfl
theorem xx{k n}:AV.toD0 (.d (.int k n))=some (.int k n):=rfl
theorem sc{b}:AV.toD0 (.d (.bool b))=some (.bool b):=rfl
theorem sa{n l}:AV.toD0 (.d (.list n l))=some (.list n l):=rfl
theorem xw{l}:AV.toD0 (.d (.ptr l))=some (.ptr l):=rfl
theorem xt{k n}:AV.toD1 (.d (.int k n))=some (.int k n):=rfl
theorem sX{n l}:AV.toD1 (.d (.list n l))=some (.list n l):=rfl
theorem sZ{l}:AV.toD1 (.d (.agg l))=some (.agg l):=rfl
theorem sY{f l}:AV.toD1 (.d (.map f l))=some (.map f l):=rfl
theorem xu{f cs}:AV.toD1 (.bnd f cs)=match Ax AV.toD0 cs with|some l=>some (.bnd f l)|none=>none:=rfl
theorem AAL{l}:AV.toD1 (.ex l)=some (.list false l):=rfl
theorem kr{α β:Type}{f:α->Option β}:Ax f []=some []:=rfl
theorem fU{α β:Type}{f:α->Option β}{x:α}{xs:List α}:Ax f (x::xs)=match f x with
 |none=>none
 |some y=>match Ax f xs with|none=>none|some ys=>some (y::ys):=rfl
theorem xv{cs}:AV.toD1 (.agg cs)=match Ax AV.toD0 cs with|some l=>some (.agg l)|none=>none:=rfl
theorem AAK{f cs}:AV.toD1 (.fn f cs)=match Ax AV.toD0 cs with|some l=>some (.fn f l)|none=>none:=rfl
theorem wv{V:AO}{n l}:(AV.d (.list n l)).asList V=some (n,l):=rfl
theorem ABN{V:AO}{l}:(AV.ex l).asList V=some (false,l):=rfl
theorem zq{V:AO}{o g}:(AV.own o g).asList V=match V.get o g with|some (.row _ _ nil xs)=>some (nil,xs)|_=>none:=rfl
theorem ABM{V:AO}{o g}:(AV.mref .out o g).asList V=match V.get o g with|some (.mat _ _ nil ix rows)=>if Zo ix rows then some (nil,Mw ix rows)else none|_=>none:=rfl
theorem pT{ix rows}:(Mw ix rows).length=ix.length:=by simp[Mw]
theorem ABp{V:AO}{x}:Dq V none (.d x)=match (AV.d x).asList V with|some (_,ys)=>some ys|none=>none:=rfl
theorem ABI{V:AO}{x}:Dq V none (.ex x)=match (AV.ex x).asList V with|some (_,ys)=>some ys|none=>none:=rfl
theorem wg{V:AO}{z n}:Dq V (some z) (.d (.int .i64 n))=if 0<=n/\n<=(Ch:Int)then some (List.replicate n.toNat z)else none:=rfl
theorem lG{es xs}:Ga es xs []=some xs:=rfl
theorem f_{es xs i v rest}:Ga es xs ((i,v)::rest)=match v.toD1 with
 |none=>none
 |some x=>if x.cells.length=es/\i<xs.length then Ga es (xs.set i x) rest else none:=rfl
theorem lH{cs}:PO cs []=some cs:=rfl
theorem gA{cs off size v rest}:PO cs (((off,size),v)::rest)=match v.cells? with
 |none=>none
 |some vs=>if vs.length=size/\off+size<=cs.length then PO (BX cs off vs) rest else none:=rfl
theorem mP{k n}:(D.int k n).cells=[.int k n]:=rfl
theorem gh{n l}:(D.list n l).cells=[.list n l]:=rfl
theorem mQ{l}:(D.agg l).cells=l:=rfl
theorem xl{k n}:up (.int k n)=.d (.int k n):=rfl
theorem sQ{b}:up (.bool b)=.d (.bool b):=rfl
theorem xk{l}:up (.tup l)=.tup (l.map .d):=rfl
theorem ju:Bs.site .none=[]:=rfl
theorem nU{a b}:Bs.site (.seq a b)=a.site++b.site:=rfl
theorem eZ{o x}:Bs.site (.fresh o x)=[o]:=rfl
theorem jv{o g x}:Bs.site (.keep o g x)=[o]:=rfl
def Ad(xs:List Int):List D:=xs.map (D.int .i64)
@[simp] theorem AAx:Ad []=[]:=rfl
theorem Y_(xs:List Int):(Ad xs=[])=(xs=[]):=by cases xs<;>simp[Ad]
theorem Bq(xs:List Int):(Ad xs).length=xs.length:=by simp[Ad]
theorem Sn(xs:List Int)(n:Nat):(Ad xs).drop n=Ad (xs.drop n):=by simp[Ad]
theorem Xx(xs:List Int)(n:Nat):(Ad xs).take n=Ad (xs.take n):=by simp[Ad]
theorem pk(xs ys:List Int):Ad xs++Ad ys=Ad (xs++ys):=by simp[Ad]
theorem ky(xs:List Int)(y:Int):Ad xs++[.int .i64 y]=Ad (xs++[y]):=by simp[Ad]
theorem RA(xs:List Int)(i:Nat)(y:Int):(Ad xs).set i (.int .i64 y)=Ad (xs.set i y):=by simp[Ad,List.map_set]
theorem pi(n:Nat)(y:Int):List.replicate n (D.int .i64 y)=Ad (List.replicate n y):=by simp[Ad]
theorem fZ(xs:List Int):(Ad xs).isEmpty=xs.isEmpty:=by cases xs<;>rfl
theorem kx(xs:List Int):Cc 1 (Ad xs)=True:=by
 simp only[Cc,Ad,eq_iff_iff,iff_true];intro x hx;simp at hx;obtain⟨n,_,rfl⟩:=hx;rfl
theorem nB{es:Nat}:Cc es []=True:=by simp[Cc]
theorem jZ{es:Nat}{x:D}{l:List D}:Cc es (x::l)=(x.cells.length=es/\Cc es l):=by simp[Cc]
theorem KU{α:Type}{es:Nat}{f:α->D}{l:List α}(h:∀x,(f x).cells.length=es):Cc es (l.map f)=True:=by
 simp only[Cc,eq_iff_iff,iff_true];intro x hx;simp at hx;obtain⟨y,_,rfl⟩:=hx;exact h y
theorem bd{xs:List Int}{i:Nat}{A:D->Prop}:Au (Ad xs)[i]? A=(i<xs.length/\A (.int .i64 (xs[i]?.getD 0))):=by
 unfold Ad;rw[List.getElem?_map]
 by_cases h:i<xs.length
 ·simp[h,Au]
 ·have:xs[i]?=none:=List.getElem?_eq_none (by omega);simp[this,h,Au]
theorem GN{α:Type}[Inhabited α]{f:α->D}{xs:List α}{i:Nat}{A:D->Prop}:Au (xs.map f)[i]? A=(i<xs.length/\A (f (xs[i]?.getD default))):=by
 rw[List.getElem?_map]
 by_cases h:i<xs.length
 ·simp[h,Au]
 ·have:xs[i]?=none:=List.getElem?_eq_none (by omega);simp[this,h,Au]
theorem bc{xs:List Nat}{i:Nat}{A:Nat->Prop}:Au xs[i]? A=(i<xs.length/\A (xs[i]?.getD 0)):=by
 by_cases h:i<xs.length
 ·simp[h,Au]
 ·have:xs[i]?=none:=List.getElem?_eq_none (by omega);simp[this,h,Au]
section
variable {E:CW}{dst:Option Nat}{V:AO}{K:AV->Bs->Prop}{f:FuncId}{xs:List AV}
theorem IA{ds:List D}{r:D}(h:BU E f ds r)(ha:FJ xs=some ds)(hk:K (up r) .none):DW E dst V f xs K:=.inl ⟨ds,r,ha,h,hk⟩
theorem zp{ds:List D}{r:D}(h:BU E f ds r)(ha:WL V xs=some ds)(hf:r.flat=true)(hk:K (up r) .none):DW E dst V f xs K:=.inr (.inl ⟨ds,r,ha,h,hf,hk⟩)
end
section
variable {E:CW}{Q:Bk->BG->Prop}{s:BG}
def nk(l:List (Nat×AV))(k:Nat)(v:AV):List (Nat×AV):=l.map fun p=>if p.1=k then(k,v)else p
def nh(l:List (Nat×(Nat×AY)))(k:Nat)(x:AY):List (Nat×(Nat×AY)):=l.map fun p=>if p.1=k then(k,(0,x))else p
def M8(l:List (Nat×AV)):List (Nat×AV)->List (Nat×AV)
 |[]=>l
 |(k,v)::r=>nk (M8 l r) k v
def KW(l:List (Nat×(Nat×AY))):List (Nat×AY)->List (Nat×(Nat×AY))
 |[]=>l
 |(k,v)::r=>nh (KW l r) k v
theorem nj{k:Nat}{v:AV}:nk [] k v=[]:=rfl
theorem j7{a k:Nat}{b v:AV}{l}:nk ((a,b)::l) k v=(if a=k then(k,v)else(a,b))::nk l k v:=rfl
theorem nf{k:Nat}{v:AY}:nh [] k v=[]:=rfl
theorem j5{a k:Nat}{b:Nat×AY}{v:AY}{l}:nh ((a,b)::l) k v=(if a=k then(k,(0,v))else(a,b))::nh l k v:=rfl
theorem j6{l}:M8 l []=l:=rfl
theorem eg{l k v r}:M8 l ((k,v)::r)=nk (M8 l r) k v:=rfl
theorem jy{l}:KW l []=l:=rfl
theorem ef{l k v r}:KW l ((k,v)::r)=nh (KW l r) k v:=rfl
theorem AAF{f:Nat->AV}{n:Nat}:Jk.val f (.t n)=f n:=rfl
theorem AAG{f:Nat->AV}{v:AV}:Jk.val f (.k v)=v:=rfl
theorem jo{α:Type}(cs:List α)(off:Nat)(vs:List α):BX cs off vs=cs.take off++vs++cs.drop (off+vs.length):=rfl
theorem BN{α:Type}(up:α->List (Nat×AV))(uo:α->List (Nat×AY))(Inv:α->Prop)(μ:α->Nat)(x0:α){gs:List EE}{ks os:List Nat}{a:PC}
  {l0:List (Nat×AV)}{m0:List (Nat×(Nat×AY))}(h0:B5 gs s fun s1=>s1.nrm ks os=⟨Dm l0,⟨BH m0,fun _=>1⟩⟩)
  (he:M8 l0 (up x0)=l0) (he':KW m0 (uo x0)=m0) (hI:Inv x0)
  (step:∀x,Inv x->pw E a (L5 (fun s'=>B5 gs s' fun s1=>∃y,s1.nrm ks os=⟨Dm (M8 l0 (up y)),⟨BH (KW m0 (uo y)),fun _=>1⟩⟩/\Inv y/\μ y<μ x) Q) ⟨Dm (M8 l0 (up x)),⟨BH (KW m0 (uo x)),fun _=>1⟩⟩) :
  pw E (.loop gs ks os a) Q s :=
 oY (fun x=>⟨Dm (M8 l0 (up x)),⟨BH (KW m0 (uo x)),fun _=>1⟩⟩) Inv μ x0 (by rw[he,he'];exact h0) hI step
theorem AZ{α:Type}(up:α->List (Nat×AV))(uo:α->List (Nat×AY))(Inv:α->Prop)(μ:α->Nat)(x0:α){gs:List EE}{ks os:List Nat}{a:PC}
 {l0:List (Nat×AV)}{m0:List (Nat×(Nat×AY))}(hI:Inv x0)
 (step:∀x,Inv x->pw E a (L5 (fun s'=>B5 gs s' fun s1=>∃y,s1.nrm ks os=⟨Dm (M8 l0 (up y)),⟨BH (KW m0 (uo y)),fun _=>1⟩⟩/\Inv y/\μ y<μ x) Q) ⟨Dm (M8 l0 (up x)),⟨BH (KW m0 (uo x)),fun _=>1⟩⟩)
 (h0:B5 gs s fun s1=>s1.nrm ks os=⟨Dm l0,⟨BH m0,fun _=>1⟩⟩:=by simp -implicitDefEqProofs only[go_sem];rfl)
 (he:M8 l0 (up x0)=l0:=by rfl) (he':KW m0 (uo x0)=m0:=by rfl) :
 pw E (.loop gs ks os a) Q s:=BN up uo Inv μ x0 h0 he he' hI step
end
theorem Am(n:Int)(h:-9223372036854775808<=n/\n<=9223372036854775807):IntKind.i64.wrap n=n:=Go.IntWalk.i64_in n h
theorem oK{E:CW}{rs r s}:yO E rs r .ret s=GL E s rs (Qe s.V r):=rfl
theorem bS{E:CW}{rs r s}:yO E rs r .normal s=GL E s rs (Qe s.V r):=rfl
theorem oP{E:CW}{s K}:GL E s [] K=K []:=rfl
theorem kG{E:CW}{s r l K}:GL E s (r::l) K=eu E s r fun v=>GL E s l fun vs=>K (v::vs):=rfl
theorem yR{E:CW}{s n K}:eu E s (.t n) K=K (s.sl n):=rfl
theorem yS{E:CW}{s a ty ag n K}:eu E s (.c a ty ag n) K=ev E none s.V (.load ag n) [s.sl a] fun v _=>K v:=rfl
theorem sw{V r v}:Qe V r [v]=(v.snap V=some r):=rfl
theorem sv{V r v u}:Qe V r [v,u]=((Ax (AV.snap V) [v,u]).map .tup=some r):=rfl
theorem su{V r v u t}:Qe V r [v,u,t]=((Ax (AV.snap V) [v,u,t]).map .tup=some r):=rfl
theorem yA{V k n}:AV.snap V (.d (.int k n))=some (.int k n):=rfl
theorem s9{V b}:AV.snap V (.d (.bool b))=some (.bool b):=rfl
theorem s8{V n l}:AV.snap V (.d (.list n l))=some (.list n l):=rfl
theorem AAP{V l}:AV.snap V (.ex l)=some (.list false l):=rfl
theorem jt{V}:AV.snap V (.d .nilptr)=some .nilptr:=rfl
theorem x9{V o g}:AV.snap V (.own o g)=match V.get o g with|some (.row _ _ nil xs)=>some (.list nil xs)|_=>none:=rfl
theorem x_{V o g}:AV.snap V (.map o g)=match V.get o g with|some (.map t kvs)=>some (.map t kvs)|_=>none:=rfl
theorem yB{V cs}:AV.snap V (.agg cs)=match Ax (AV.snap0 V) cs with|some l=>some (.agg l)|none=>none:=rfl
theorem yI{V k n}:AV.snap0 V (.d (.int k n))=some (.int k n):=rfl
theorem tL{V b}:AV.snap0 V (.d (.bool b))=some (.bool b):=rfl
theorem tK{V n l}:AV.snap0 V (.d (.list n l))=some (.list n l):=rfl
theorem AAV{V l}:AV.snap0 V (.ex l)=some (.list false l):=rfl
theorem yH{V o g}:AV.snap0 V (.map o g)=match V.get o g with|some (.map t kvs)=>some (.map t kvs)|_=>none:=rfl
theorem ss{α:Type}{a b:α}:(some a=some b)=(a=b):=by simp
theorem kY{α β:Type}{f:α->β}{a:α}:Option.map f (some a)=some (f a):=rfl
section
variable {k k':IntKind}{a b:Int}{C:AV->Prop}
theorem wW:Dn .eql k k' a b C=(k=k'/\(a=b->C (.d (.bool true)))/\(¬a=b->C (.d (.bool false)))):=by
 rw[lp];by_cases h:a=b<;>simp[h]
theorem wQ:Dn .neq k k' a b C=(k=k'/\(a=b->C (.d (.bool false)))/\(¬a=b->C (.d (.bool true)))):=by
 rw[ld];by_cases h:a=b<;>simp[h]
theorem wR:Dn .lss k k' a b C=(k=k'/\(a<b->C (.d (.bool true)))/\(¬a<b->C (.d (.bool false)))):=by
 rw[lh];by_cases h:a<b<;>simp[h]
theorem wT:Dn .leq k k' a b C=(k=k'/\(a<=b->C (.d (.bool true)))/\(¬a<=b->C (.d (.bool false)))):=by
 rw[lj];by_cases h:a<=b<;>simp[h]
theorem wU:Dn .gtr k k' a b C=(k=k'/\(b<a->C (.d (.bool true)))/\(¬b<a->C (.d (.bool false)))):=by
 rw[ll];by_cases h:b<a<;>simp[h]
theorem wV:Dn .geq k k' a b C=(k=k'/\(b<=a->C (.d (.bool true)))/\(¬b<=a->C (.d (.bool false)))):=by
 rw[ln];by_cases h:b<=a<;>simp[h]
end
section
variable {E:CW}{dst:Option Nat}{V:AO}{K:AV->Bs->Prop}{f:FuncId}{xs:List AV}
theorem Zg{ds:List D}{b:Bool}(h:BU E f ds (.bool b))(ha:FJ xs=some ds)(h1:b=true->K (.d (.bool true)) .none)(h2:b=false->K (.d (.bool false)) .none):DW E dst V f xs K :=
 IA h ha (by cases b with|true=>exact h1 rfl|false=>exact h2 rfl)
theorem kW{α:Type}{p:Prop}[Decidable p]{x:α}{A:α->Prop}:Au (if p then some x else none) A=(p/\A x):=by
 by_cases h:p<;>simp[h,Au]
end
section
variable {E:CW}{K:BG->Prop}
def Na(j:Nat):List (Nat×Wh)->Option Wh
 |[]=>none
 |(i,r)::l=>if j=i then some r else Na j l
def WN(x:Option Wh)(b:Wh):Bool:=match x with|some r=>N4 r b|none=>false
def Yx(need:List Nat)(i:Nat)(r:Wh)(rec:List (Nat×Wh)):List (Nat×Wh):=if need.contains i then(i,r)::rec else rec
def T1(E:CW):Nat->List Nat->List (Fu×List Nat)->List (Nat×Wh)->BG->(BG->Prop)->Prop
 |_,_,[],_,s,K=>K s
 |i,need,(I,dy)::l,rec,s,K=>Ey E I s fun v ch =>
  (dy.all fun j=>WN (Na j rec) (ch.site,EA I s))=true /\
  T1 E (i+1) need l (Yx need i (ch.site,EA I s) rec) (put s I.dst v ch) K
theorem iH{need:List Nat}:∀{l:List (Fu×List Nat)}{rec:List Wh}{recE:List (Nat×Wh)}{s:BG},(∀j,j∈l.flatMap (·.2)->j∈need)->(∀j,j∈need->Na j recE=rec[j]?)->Wm E l rec s K=T1 E rec.length need l recE s K
 |[],_,_,_,_,_=>rfl
 |(I,dy)::l,rec,recE,s,hn,hr=>by
  simp only[Wm,T1];congr 1;funext v ch
  have h1:(dy.all fun j=>match rec[j]? with|some r=>N4 r (ch.site,EA I s)|none=>false)=(dy.all fun j=>WN (Na j recE) (ch.site,EA I s)):=by
   rw[Bool.eq_iff_iff,List.all_eq_true,List.all_eq_true]
   have:∀j,j∈dy->(match rec[j]? with|some r=>N4 r (ch.site,EA I s)|none=>false)=WN (Na j recE) (ch.site,EA I s):=fun j hj=>by
    rw[hr j (hn j (by simp[hj]))];rfl
   exact⟨fun h j hj=>by rw[←this j hj];exact h j hj,fun h j hj=>by rw[this j hj];exact h j hj⟩
  refine congr (congrArg And (congrArg (fun b=>b=true) h1)) ?_
  have h2:=iH (need:=need) (l:=l) (rec:=rec++[(ch.site,EA I s)]) (recE:=Yx need rec.length (ch.site,EA I s) recE) (s:=put s I.dst v ch) (fun j hj=>hn j (by simp at hj ⊢;exact .inr hj)) fun j hj=>by
   unfold Yx
   by_cases h:need.contains rec.length=true
   ·rw[if_pos h];simp only[Na]
    by_cases hjl:j=rec.length
    ·subst hjl;simp
    ·rw[if_neg hjl,hr j hj]
     by_cases hlt:j<rec.length
     ·rw[List.getElem?_append_left hlt]
     ·rw[List.getElem?_eq_none (by omega),List.getElem?_eq_none (by simp;omega)]
   ·rw[if_neg h,hr j hj];have hne:j≠rec.length:=by rintro rfl;exact h (by simpa using hj)
    by_cases hlt:j<rec.length
    ·rw[List.getElem?_append_left hlt]
    ·rw[List.getElem?_eq_none (by omega),List.getElem?_eq_none (by simp;omega)]
  rw[h2];simp
theorem oZ{Q:Bk->BG->Prop}{s:BG}{gs l ks}:pw E (.draw gs l ks) Q s=B5 gs s fun s'=>T1 E 0 (l.flatMap (·.2)) l [] s' fun s'=>Q .normal (s'.keep ks):=by
 rw[tZ];congr 1;funext s';exact iH (rec:=[]) (recE:=[]) (fun j hj=>hj) fun j hj=>by simp[Na]
theorem nz{i need r}{s:BG}:T1 E i need [] r s K=K s:=rfl
theorem eh{i need I l r}{s:BG}:T1 E i need ((I,[])::l) r s K=Ey E I s fun v ch=>T1 E (i+1) need l (Yx need i (ch.site,EA I s) r) (put s I.dst v ch) K:=by
 simp[T1]
theorem j_{i need I j dy l r}{s:BG}:T1 E i need ((I,j::dy)::l) r s K=Ey E I s fun v ch =>
 ((j::dy).all fun j=>WN (Na j r) (ch.site,EA I s))=true/\T1 E (i+1) need l (Yx need i (ch.site,EA I s) r) (put s I.dst v ch) K:=rfl
theorem vz{z:Nat}{i i' need need' l}{r r':List (Nat×Wh)}{s s':BG}(hz:Ie=z)(hi:i=i')(hn:need=need')(hr:r=r')(h:s=s'):T1 E i need l r s K=T1 E i' need' l r' s' K:=by rw[h,hr,hi,hn]
theorem yT{need:List Nat}{i:Nat}{r:Wh}{rec:List (Nat×Wh)}(h:need.contains i=true):Yx need i r rec=(i,r)::rec:=by simp only[Yx,h,if_true]
theorem yU{need:List Nat}{i:Nat}{r:Wh}{rec:List (Nat×Wh)}(h:need.contains i=false):Yx need i r rec=rec:=by simp only[Yx,h,Bool.false_eq_true,if_false]
theorem km{j:Nat}:Na j []=none:=rfl
theorem fR{j i:Nat}{r:Wh}{l}:Na j ((i,r)::l)=if j=i then some r else Na j l:=rfl
theorem rq{r b:Wh}:WN (some r) b=N4 r b:=rfl
theorem ABK{a f b f'}:N4 (a,f) (b,f')=((a.all fun o=>!f'.contains o) && (b.all fun o=>!f.contains o)):=rfl
theorem qS{d g op xs}{sl:Nat->AV}{V:AO}:EA ⟨d,g,op,xs⟩ ⟨sl,V⟩=fp V d op (xs.map (Jk.val sl)):=rfl
theorem ABb{x}:AV.sites (.d x)=[]:=by cases x<;>rfl
theorem AAN{x}:AV.sites (.ex x)=[]:=rfl
theorem si{x n}:AV.sites (.dptr x n)=[]:=rfl
theorem x4{o g}:AV.sites (.own o g)=[o]:=rfl
theorem xz{o g f}:AV.sites (.ptr o g f)=[o]:=rfl
theorem sg{o g e i f}:AV.sites (.rptr o g e i f)=[o]:=rfl
theorem sh{k o g}:AV.sites (.mref k o g)=[o]:=rfl
theorem sj{s l f}:AV.sites (.ablk s l f)=AV.sites.sitesL l:=rfl
theorem x6{l}:AV.sites (.agg l)=AV.sites.sitesL l:=rfl
theorem AAM{f l}:AV.sites (.fn f l)=AV.sites.sitesL l:=rfl
theorem xy{l}:AV.sites (.tup l)=AV.sites.sitesL l:=rfl
theorem sk:AV.sites.sitesL []=[]:=rfl
theorem nQ{x l}:AV.sites.sitesL (x::l)=x.sites++AV.sites.sitesL l:=rfl
section
variable {d:Option Nat}{xs:List AV}{V:AO}
theorem zL:fp V d .mov xs=[]:=rfl
theorem vC:fp V d .pick xs=[]:=rfl
theorem zN{b}:fp V d (.bin b) xs=[]:=rfl
theorem AA4{b}:fp V d (.un b) xs=[]:=rfl
theorem vE{b}:fp V d (.conv b) xs=[]:=rfl
theorem qM:fp V d .nilck xs=[]:=rfl
theorem qO{a}:fp V d (.faddr a) xs=[]:=rfl
theorem lF{a b}:fp V d (.iaddrA a b) xs=[]:=rfl
theorem qQ{a b}:fp V d (.build a b) xs=[]:=rfl
theorem qN{a b c e}:fp V d (.mkrow a b c e) xs=[]:=rfl
theorem lD{a}:fp V d (.minmax a) xs=[]:=rfl
theorem fx{a}:fp V d (.extract a) xs=[]:=rfl
theorem vD{a b}:fp V d (.load a b) xs=AV.sites.sitesL xs:=rfl
theorem lE{a}:fp V d (.iaddrS a) xs=AV.sites.sitesL xs:=rfl
theorem zM{a}:fp V d (.len a) xs=AV.sites.sitesL xs:=rfl
theorem qK{a}:fp V d (.store a) xs=d.toList++AV.sites.sitesL xs:=rfl
theorem vF{a}:fp V d (.call a) xs=Cn d V xs:=rfl
theorem qP:fp V d .callv xs=Cn d V xs:=rfl
theorem gi{t}:Cn (some t) V xs=Jf t++V.reach 3 (AV.sites.sitesL xs):=rfl
theorem uI{t}:Jf t=[t,t+10000,t+20000,t+30000]:=rfl
theorem Xg:∀{n:Nat},V.reach n []=[]
 |0=>rfl
 |n+1=>by simp only[AO.reach,List.flatMap_nil,Xg,List.append_nil]
theorem tT{o l}:V.reach 3 (o::l)=(o::l)++V.reach 2 ((o::l).flatMap V.osites):=rfl
def Ub:Option (Nat×AY)->List Nat
 |some (_,.cells xs)=>AV.sites.sitesL xs
 |some (_,.rowH _ _ _ q _)=>[q]
 |some (_,.mitO q _ _ _)=>[q]
 |_=>[]
theorem kN{ob cn o}:(AO.mk ob cn).osites o=Ub (ob o):=rfl
theorem kc{g xs}:Ub (some (g,.cells xs))=AV.sites.sitesL xs:=rfl
theorem t6{g a b c l}:Ub (some (g,.row a b c l))=[]:=rfl
theorem t7{g a b c d e}:Ub (some (g,.mat a b c d e))=[]:=rfl
theorem zO{a b c e}:fp V d (.app a b c e) xs=d.toList++AV.sites.sitesL xs:=rfl
theorem qL{a b c e}:fp V d (.slice a b c e) xs=d.toList++AV.sites.sitesL xs:=rfl
theorem vB{a}:fp V d (.zero a) xs=d.toList++AV.sites.sitesL xs:=rfl
end
theorem nH{a:Nat}:(some a).toList=[a]:=rfl
theorem nI:(none:Option Nat).toList=[]:=rfl
end
theorem Eo{k n}:(D.int k n).WF=N7 k n:=by rw[D.WF]
theorem Dv{b}:(D.bool b).WF=True:=by rw[D.WF]
theorem Da{nl xs}:(D.list nl xs).WF=(xs.length<=maxLen/\∀x,x∈xs->x.WF):=by rw[D.WF]
theorem FE{xs}:(D.agg xs).WF=(∀x,x∈xs->x.WF):=by rw[D.WF]
theorem FD{xs}:(D.ptr xs).WF=(∀x,x∈xs->x.WF):=by rw[D.WF]
theorem HI{f xs}:(D.fn f xs).WF=(∀x,x∈xs->x.WF):=by rw[D.WF]
theorem FC{xs}:(D.tup xs).WF=(∀x,x∈xs->x.WF):=by rw[D.WF]
theorem Du{nl}{xs:List Int}:(D.list nl (Ad xs)).WF=(xs.length<=maxLen/\∀x,x∈xs->N7 .i64 x):=by
 rw[Da,Bq];simp[Ad,Eo]
theorem Bj{x:D}{l:List D}:(∀y,y∈x::l->y.WF)=(x.WF/\∀y,y∈l->y.WF):=by simp
theorem B0:(∀y,y∈([]:List D)->y.WF)=True:=by simp
theorem B1{α:Type}{f:α->D}{l:List α}:(∀y,y∈l.map f->y.WF)=(∀x,x∈l->(f x).WF):=by simp
theorem Dw{n:Int}:N7 .i64 n=(-9223372036854775808<=n/\n<=9223372036854775807):=by
 simp[N7,IntKind.min,IntKind.max,IntKind.signed,IntKind.bits]
theorem CO:maxLen=9223372036854775807:=rfl
theorem J8{x:AV}{d:D}{xs:List AV}{ds:List D}(h:x.toD1=some d)(h':Ax AV.toD1 xs=some ds):FJ (x::xs)=some (d::ds):=by
 simp only[FJ,Ax,h,h']
theorem rc:Ch=1073741824:=rfl
theorem y5:Cr=900000:=rfl
theorem Bh(V0:List (Nat×Nat×AY))(xs:List AV):BG.enterM V0 xs=⟨Dm (xs.zipIdx.map fun(d,k)=>(k,d)),⟨BH V0,fun _=>1⟩⟩:=by
 have key:∀(xs:List AV) (n t:Nat),(match xs[t]? with|some d=>d|none=>.undef)=Dm ((xs.zipIdx n).map fun(d,k)=>(k,d)) (n+t):=by
  intro xs
  induction xs with
  |nil=>intro n t;simp[Dm]
  |cons x xs ih =>
   intro n t
   cases t with
   |zero=>simp[Dm]
   |succ t =>
    have:=ih (n+1) t;simp only[List.getElem?_cons_succ,List.zipIdx_cons,List.map_cons,Dm];rw[if_neg (by omega),this];congr 1;omega
 unfold BG.enterM;congr 1;funext t;have:=key xs 0 t;simp only[Nat.zero_add]at this;rw[←this]
 cases xs[t]?<;>rfl
theorem QR{E:CW}{dst:Option Nat}{V:AO}{K:AV->Bs->Prop}{f:FuncId}{xs:List AV}{V0 V1:List (Nat×Nat×AY)}{cxs:List AV}{r r':AV}{ch:Bs}(ρ ρ2:Ren)(h:Eg E f V0 cxs V1 r)(h1:PT ρ cxs xs)
  (h2:Handed V (Cn dst V xs) ρ V0) (h3:ET V.cn dst V0 V1 ρ ρ2=true) (h4:r.ren ρ2=some r') (h5:HO ρ ρ2 V1=some ch) (hk:K r' ch):DW E dst V f xs K :=
 .inr (.inr (.inr (.inl ⟨V0,cxs,V1,r,r',ch,ρ,ρ2,h1,h,h2,h3,h4,h5,hk⟩)))
theorem B_{E:CW}{dst:Option Nat}{V:AO}{K:AV->Bs->Prop}{f:FuncId}{xs:List AV}{V0 V1:List (Nat×Nat×AY)}{cxs:List AV}{r r':AV}{ch:Bs}(ρ ρ2:Ren)(h:Eg E f V0 cxs V1 r)(hk:K r' ch)
  (h1:PT ρ cxs xs:=by repeat' first|exact True.intro|exact rfl|refine And.intro ?_ ?_)
  (h2:Handed V (Cn dst V xs) ρ V0:=by simp[Handed,Ren.get,AY.ren,AV.ren,AV.ren.renL,AO.get,BH,Cn,Jf,AO.reach,AV.sites,AV.sites.sitesL,AO.osites])
  (h3:ET V.cn dst V0 V1 ρ ρ2=true:=by simp[ET,Fh,CG,Ren.get,Jf,Cr,CB,Zj,Ug]) (h4:r.ren ρ2=some r':=by rfl)
  (h5:HO ρ ρ2 V1=some ch:=by simp only[HO,Ren.get,AY.ren,AV.ren,AV.ren.renL,and_self,and_true,true_and,if_true,reduceIte];rfl):DW E dst V f xs K :=
 QR ρ ρ2 h h1 h2 h3 h4 h5 hk
theorem oM{E:CW}{rs V1 r s}:yP E rs V1 r .ret s=(GL E s rs (uP V1 s.V r)/\pp s.V V1):=rfl
theorem bT{E:CW}{rs V1 r s}:yP E rs V1 r .normal s=(GL E s rs (uP V1 s.V r)/\pp s.V V1):=rfl
section
variable {V:AO}{V1:List (Nat×Nat×AY)}
theorem AAk{r v}:uP V1 V r [v]=Tl V1 V v r:=rfl
theorem AAl{rs}:uP V1 V (.tup rs) []=Rx V1 V [] rs:=rfl
theorem AAj{rs v u l}:uP V1 V (.tup rs) (v::u::l)=Rx V1 V (v::u::l) rs:=rfl
theorem mE:Rx V1 V [] []=True:=rfl
theorem gZ{v r vs rs}:Rx V1 V (v::vs) (r::rs)=(Tl V1 V v r/\Rx V1 V vs rs):=rfl
theorem vd{v d}:Tl V1 V v (.d d)=(v.snap V=some d/\(v.sites.all fun o=>!fh V1 o)=true):=rfl
theorem mC{v o g f}:Tl V1 V v (.ptr o g f)=(v=.ptr o g f):=rfl
theorem mD{v o g}:Tl V1 V v (.own o g)=(v=.own o g):=rfl
theorem pz{o}:fh [] o=false:=rfl
theorem k8{p l o}:fh (p::l) o=(p.1 == o || fh l o):=rfl
def b_:Option (Nat×AY)->Nat->AY->Prop
 |some (g',.map t l),g,.map t' l'=>g'=g/\t=t'/\l=l'
 |some (g',.row a b c l),g,.row a' b' c' l'=>g'=g/\a=a'/\b=b'/\c=c'/\l=l'
 |some (g',.cells l),g,.cells l'=>g'=g/\l=l'
 |some (g',.hist a b c),g,.hist a' b' c'=>g'=g/\a=a'/\b=b'/\c=c'
 |some (g',.mapB a b c),g,.mapB a' b' c'=>g'=g/\a=a'/\b=b'/\c=c'
 |some (g',.mitO a b c d),g,.mitO a' b' c' d'=>g'=g/\a=a'/\b=b'/\c=c'/\d=d'
 |some (g',.mitD a b c),g,.mitD a' b' c'=>g'=g/\a=a'/\b=b'/\c=c'
 |some (g',.rowP a b c),g,.rowP a' b' c'=>g'=g/\a=a'/\b=b'/\c=c'
 |some (g',.rowH a b c d e),g,.rowH a' b' c' d' e'=>g'=g/\a=a'/\b=b'/\c=c'/\d=d'/\e=e'
 |some (g',.mat a b c d e),g,.mat a' b' c' d' e'=>g'=g/\a=a'/\b=b'/\c=c'/\d=d'/\e=e'
 |_,_,_=>False
theorem ur{x:Option (Nat×AY)}{g:Nat}{y:AY}:b_ x g y=(x=some (g,y)):=by
 cases x with
 |none=>simp[b_]
 |some p=>obtain⟨g',z⟩:=p;cases z<;>cases y<;>simp[b_]
theorem px{g' t l g t' l'}:b_ (some (g',.map t l)) g (.map t' l')=(g'=g/\t=t'/\l=l'):=rfl
theorem pt{g' a b c l g a' b' c' l'}:b_ (some (g',.row a b c l)) g (.row a' b' c' l')=(g'=g/\a=a'/\b=b'/\c=c'/\l=l'):=rfl
theorem pu{g' a b c d e g a' b' c' d' e'}:b_ (some (g',.mat a b c d e)) g (.mat a' b' c' d' e')=(g'=g/\a=a'/\b=b'/\c=c'/\d=d'/\e=e'):=rfl
theorem fc{g' l g l'}:b_ (some (g',.cells l)) g (.cells l')=(g'=g/\l=l'):=rfl
theorem ul:pp V []=True:=rfl
theorem po{o g x l}:pp V ((o,g,x)::l)=(b_ (V.ob o) g x/\pp V l):=by rw[ur];rfl
end
theorem jF{E:CW}{t:Nat}{V:AO}{K:AV->Bs->Prop}{f:FuncId}{xs:List AV}{ds:List D}{ety es:Nat}{P:Bool->List D->Prop}(h:gq E f ds ety es P)(ht:t<Cr)
  (hk:K (.own t (V.cn t)) (.fresh t (.rowP ety es P))) (ha:FJ xs=some ds:=by rfl):DW E (some t) V f xs K :=
 .inr (.inr (.inl ⟨ds,t,ety,es,P,_,rfl,ht,.inl ha,h,.inl rfl,hk⟩))
theorem Un{E:CW}{t:Nat}{V:AO}{K:AV->Bs->Prop}{f:FuncId}{xs:List AV}{ds:List D}{ety es:Nat}{nl:Bool}{l:List D}(h:mf E f ds ety es nl l)(ht:t<Cr)(hp:MA l=true)
  (hk:K (.own t (V.cn t)) (.fresh t (.row ety es nl l))) (ha:WL V xs=some ds:=by rfl):DW E (some t) V f xs K :=
 .inr (.inr (.inl ⟨ds,t,ety,es,_,_,rfl,ht,.inr ⟨ha,fun a b hab=>by rw[hab.2];exact hp⟩,h,.inr ⟨nl,l,rfl,fun _ _ h=>h⟩,hk⟩))
def kB(K:AV->Bs->Prop):D->Prop
 |.bool b=>(b=true->K (.d (.bool true)) .none)/\(b=false->K (.d (.bool false)) .none)
 |r=>K (up r) .none
theorem ud{K:AV->Bs->Prop}{b}:kB K (.bool b)=((b=true->K (.d (.bool true)) .none)/\(b=false->K (.d (.bool false)) .none)):=rfl
theorem y7{K:AV->Bs->Prop}{k n}:kB K (.int k n)=K (.d (.int k n)) .none:=rfl
theorem uc{K:AV->Bs->Prop}{n l}:kB K (.list n l)=K (.d (.list n l)) .none:=rfl
theorem y8{K:AV->Bs->Prop}{l}:kB K (.agg l)=K (.d (.agg l)) .none:=rfl
theorem y6{K:AV->Bs->Prop}{l}:kB K (.tup l)=K (.tup (l.map .d)) .none:=rfl
theorem AAu{K:AV->Bs->Prop}{f l}:kB K (.fn f l)=K (.d (.fn f l)) .none:=rfl
theorem AF{E:CW}{dst:Option Nat}{V:AO}{K:AV->Bs->Prop}{f:FuncId}{xs:List AV}{ds:List D}{r:D}(h:BU E f ds r)(hk:kB K r)
  (ha:FJ xs=some ds\/(WL V xs=some ds/\r.flat=true):=by first|exact .inl rfl|exact .inr ⟨rfl,rfl⟩):DW E dst V f xs K:=by
 have hu:K (up r) .none:=by
  cases r with
  |bool b=>cases b with
   |true=>exact hk.1 rfl
   |false=>exact hk.2 rfl
  |_=>exact hk
 exact ha.elim (fun h1=>IA h h1 hu) fun h1=>zp h h1.1 h1.2 hu
theorem aI{a b:Prop}(h:a)(k:b):a/\b:=⟨h,k⟩
theorem tI:True:=⟨⟩
theorem ABF{z:Nat}{K:AV->Bs->Prop}{r r':D}(hz:Ie=z)(h:r=r'):kB K r=kB K r':=by rw[h]
theorem isCall{E:CW}{dst:Option Nat}{V:AO}{K:AV->Bs->Prop}{f:FuncId}{xs:List AV}(h:DW E dst V f xs K):DW E dst V f xs K:=h
theorem fY{α:Type}{S:BG}{T:α->BG}{I M:α->Prop}(h:∃y,S=T y/\I y/\M y):∃y,S=T y/\I y/\M y:=h
theorem b9{α β:Type}{S:BG}{T:α×β->BG}{I M:α×β->Prop}(h:∃y,S=T y/\I y/\M y):∃y,S=T y/\I y/\M y:=h
theorem im{α β γ:Type}{S:BG}{T:α×β×γ->BG}{I M:α×β×γ->Prop}(h:∃y,S=T y/\I y/\M y):∃y,S=T y/\I y/\M y:=h
theorem xR{α β γ δ:Type}{S:BG}{T:α×β×γ×δ->BG}{I M:α×β×γ×δ->Prop}(h:∃y,S=T y/\I y/\M y):∃y,S=T y/\I y/\M y:=h
theorem il{α β γ δ ε:Type}{S:BG}{T:α×β×γ×δ×ε->BG}{I M:α×β×γ×δ×ε->Prop}(h:∃y,S=T y/\I y/\M y):∃y,S=T y/\I y/\M y:=h
theorem xQ{α β γ δ ε ζ:Type}{S:BG}{T:α×β×γ×δ×ε×ζ->BG}{I M:α×β×γ×δ×ε×ζ->Prop}(h:∃y,S=T y/\I y/\M y):∃y,S=T y/\I y/\M y:=h
theorem xP{α β γ δ ε ζ η:Type}{S:BG}{T:α×β×γ×δ×ε×ζ×η->BG}{I M:α×β×γ×δ×ε×ζ×η->Prop}(h:∃y,S=T y/\I y/\M y):∃y,S=T y/\I y/\M y:=h
theorem xO{α β γ δ ε ζ η θ:Type}{S:BG}{T:α×β×γ×δ×ε×ζ×η×θ->BG}{I M:α×β×γ×δ×ε×ζ×η×θ->Prop}(h:∃y,S=T y/\I y/\M y):∃y,S=T y/\I y/\M y:=h
theorem yu{m k a}:Gv m k a []=some a:=rfl
theorem yw{k:IntKind}{a b:Int}{rest}:Gv true k a (.d (.int k b)::rest)=Gv true k (max a b) rest:=by
 simp only[Gv,if_true,uT];congr 1;omega
theorem yv{k:IntKind}{a b:Int}{rest}:Gv false k a (.d (.int k b)::rest)=Gv false k (min a b) rest:=by
 simp only[Gv,if_true,uS,Bool.false_eq_true,if_false];congr 1;omega
theorem jh{α:Type}(xs:List α)(a:Nat):(xs.drop a).take (xs.length-a)=xs.drop a:=List.take_of_length_le (by simp)
theorem jl(n:Nat):n-0=n:=rfl
theorem sU{ts:List (Option IntKind)}{cs:List D}:Jo (true,ts) (.agg cs)=Dk ts cs:=by simp[Jo,D.isAgg,D.cells]
theorem nD:Dk [] []=true:=rfl
theorem nE{k:IntKind}{n:Int}{ts cs}:Dk (some k::ts) (.int k n::cs)=Dk ts cs:=by simp[Dk]
theorem jd{b:Bool}{ts cs}:Dk (none::ts) (.bool b::cs)=Dk ts cs:=rfl
theorem sT{k:IntKind}{n:Int}:Jo (false,[some k]) (.int k n)=true:=by simp[Jo,D.isAgg,D.cells,Dk]
section
variable {E:CW}{dst:Option Nat}{V:AO}{K:AV->Bs->Prop}
end
attribute [go_sem] zb tW td yY oZ ya ot oq ou yW te oa tY yX YW eI jg XC gk dX fo cN p8 p9 u9 AA2 p_ qE qB vA fw qA u_ fv qG zK p6 tn ol p5 u7 AA1 lA tl tk p7 qC wP mU tp kZ t5 ny j9 nz eh j_ yT yU km fR rq ABK qS ABb AAN si x4 xz sg sh sj x6 AAM xy sk nQ zL vC zN AA4 vE qM qO lF qQ qN lD fx vD lE zM qK vF qP zO qL vB nH nI List.flatMap_cons List.flatMap_nil ju eZ jv nU gi uI Xg tT kN kc t6 t7 aj sf u4 u5 u0 oc od rk rm mc wp ub o_ Oc pV fS kn zH nA sP m_ vX fT bt oz o4 o5 fA AAe kd uE o8 uD o7 pA yn pB ke uV AAc tv tw yj qx ly lx qw zk vn zj vp vj vk zh zi ABC ABB xx sc sa xw xt sX sZ AAL kr fU xv AAK wv ABN zq ABM pT ABp ABI wg lG f_ lH gA mP gh mQ xl sQ xk zX vP za zW cy ZN ZO lQ ZH T9 ZQ Wz gM vR gL zZ vS gN vT ZJ Wx gE ZP Wy Vl dA vO qp ZL gF ZM cx ZK gH gI gJ cq cr c9 cz qq fH bc lL vQ vN qh cv qf lK lJ c_ gD ZI Ww zY yM yL gK lS lR lT qm sU nD nE jd sT lM gG qk cu lN pH yZ tz vm sY xu x_ yH kR lO lP qn gP gQ lU gR dB gO yg yh wW wQ wR wT wU wV kW lu lW lf lc lZ lY lX lq qr lV bb Y6 fE fI fF fG jh jl yu yw yv gY QK Nw Y_ Bq Sn Xx pk ky RA pi fZ kx nB jZ bd GN oK bS oM bT AAl AAk AAj mE gZ vd mC mD pz k8 px pt pu fc ul po oP kG yR yS sw sv su yA s9 s8 AAP jt x9 yB yI tL tK AAV ss kY AAF AAG List.map_cons List.map_nil List.zipIdx_cons List.zipIdx_nil List.zip_cons_cons List.zip_nil_left List.length_cons List.length_nil List.getElem?_cons_zero List.getElem?_cons_succ List.drop_zero List.drop_succ_cons List.take_succ_cons List.take_zero List.take_nil List.drop_nil List.contains_cons List.contains_nil List.filter_cons List.filter_nil List.all_cons List.all_nil List.cons_append List.nil_append List.append_nil List.set_cons_zero List.set_cons_succ jo List.replicate_succ List.replicate_zero List.isEmpty_cons List.isEmpty_nil List.length_map id_eq Nat.lt_irrefl Nat.zero_add Nat.add_zero Nat.zero_mul Nat.one_mul Nat.mul_one if_true if_false Bool.false_eq_true Bool.not_true Bool.not_false Bool.true_or Bool.false_or Bool.or_true Bool.or_false Bool.true_and Bool.false_and Bool.and_true Bool.and_false beq_self_eq_true Bool.and_self Bool.or_self true_and and_true false_and and_false ite_self exists_prop_of_true exists_prop not_false_eq_true not_true_eq_false forall_const eq_self and_self true_implies false_implies implies_true ne_eq List.cons_ne_nil Nat.le_refl Nat.not_lt_zero nj j7 nf j5 j6 eg jy ef Int.toNat_natCast Int.toNat_zero rc y5 yV my be uC mb qi d7 aL md dk sK yq uL bk uJ bj kh Sk AAh kX ABj yr kS Y2 jx ed bP kF ud y7 uc y8 y6 AAu
attribute [go_sem_proc] Nat.reduceAdd Nat.reduceSub Nat.reduceMul Nat.reduceEqDiff Nat.reduceBEq Nat.reduceLeDiff Nat.reduceLT Int.reduceToNat Int.reduceLE Int.reduceLT Int.reduceNeg reduceIte reduceCtorEq Int.reduceEq Int.reduceAdd Int.reduceSub Int.reduceMul
attribute [congr] ABE vy vz rN ABG rV rY rX rM mO mI gc rP rR wG wK wI wJ wH wL v8 wM wN v_ rT rQ mL rU mM v6 zl mK wE wF v7 v9 wC wA v4 v5 vx ABF v3 rO mJ zm rS wD
end Go.Pw
