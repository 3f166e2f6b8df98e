/- A part of the proof. -/
import Derived.Test.YtpcpcjbbdgmohaaGreatPkZa
import Derived.IntWalk
set_option linter.all false
namespace Go.Pw
def H4:Nat:=0
theorem kn:H4=0:=Eq.symm (Eq.symm rfl)
def JA (v:AV) (b:Bool) (A B:Prop):Prop :=
 match v with
 |.d (.bool b')=>GZ (b == b') A B
 |.tup []=>B
 |_=>False
def aZ (v:AV) (t:Nat) (sl:Nat->AV) (V:AO) (KS:A3->Prop):Prop :=
 match v with
 |.own o g=>HB (V.get o g) fun _ _ nl l=>KS ⟨CN sl t (.d (.list nl l)),V.drop o⟩
 |_=>KS ⟨sl,V⟩
def eR (v:AV) (t:Nat) (sl:Nat->AV) (V:AO) (KS:A3->Prop):Prop :=
 match v with
 |.ptr o g 0=>Ge (V.get o g) fun xs=>Ax (Aw AV.toD1 xs) fun cs=>cs≠[]/\KS ⟨CN sl t (.d (.ptr cs)),V.drop o⟩
 |_=>KS ⟨sl,V⟩
def mZ (y:Option Ae) (o g:Nat) (sl:Nat->AV) (V:AO) (KS:A3->Prop):Prop :=
 match y with
 |some (.rowH ety l i q p)=>HB (V.get q p) fun _ _ nl xs=>KS ⟨sl,(V.drop q).app (.keep o g (.row ety 1 false (l.set i (.list nl xs))))⟩
 |_=>KS ⟨sl,V⟩
def m_ (v:AV) (sl:Nat->AV) (V:AO) (KS:A3->Prop):Prop :=
 match v with
 |.own o g=>mZ (V.get o g) o g sl V KS
 |_=>KS ⟨sl,V⟩
def eT (v:AV) (t:Nat) (sl:Nat->AV) (V:AO) (KS:A3->Prop):Prop :=
 match v with
 |.mref .out o g=>Hj (V.get o g) fun _ _ nl ix rows=>Sf ix rows=true/\KS ⟨CN sl t (.d (.list nl (I9 ix rows))),V.drop o⟩
 |_=>KS ⟨sl,V⟩
def eV (x:Option Ae) (t o:Nat) (sl:Nat->AV) (V:AO) (KS:A3->Prop):Prop :=
 match x with
 |some (.cells (c::l))=>KS ⟨CN sl t (.ablk false (c::l) 0),V.drop o⟩
 |_=>False
def eU (v:AV) (t:Nat) (sl:Nat->AV) (V:AO) (KS:A3->Prop):Prop :=
 match v with
 |.ptr o g 0=>eV (V.get o g) t o sl V KS
 |_=>KS ⟨sl,V⟩
def mb (y:Option Ae) (b g k o:Nat) (xs:List AV) (sl:Nat->AV) (V:AO) (KS:A3->Prop):Prop :=
 match y with
 |some (.mapB tys es _)=>KS ⟨sl,(V.drop o).app (.keep b g (.cells (xs.set k (.d (.map tys (es.map (·.2)))))))⟩
 |_=>False
def lk (x:Option AV) (b g k:Nat) (xs:List AV) (sl:Nat->AV) (V:AO) (KS:A3->Prop):Prop :=
 match x with
 |some (.own o p)=>HB (V.get o p) fun _ _ nl l=>KS ⟨sl,(V.drop o).app (.keep b g (.cells (xs.set k (.d (.list nl l)))))⟩
 |some (.mref .out o p)=>Hj (V.get o p) fun _ _ nl ix rows=>Sf ix rows=true/\KS ⟨sl,(V.drop o).app (.keep b g (.cells (xs.set k (.d (.list nl (I9 ix rows))))))⟩
 |some (.map o p)=>mb (V.get o p) b g k o xs sl V KS
 |_=>KS ⟨sl,V⟩
def nA (v:AV) (off:Nat) (sl:Nat->AV) (V:AO) (KS:A3->Prop):Prop :=
 match v with
 |.ptr b g f=>(match V.get b g with
  |some (.cells xs)=>lk xs[f+off]? b g (f+off) xs sl V KS
  |_=>KS ⟨sl,V⟩)
 |_=>KS ⟨sl,V⟩
def nB (y:Option Ae) (b g k:Nat) (sl:Nat->AV) (V:AO) (KS:A3->Prop):Prop :=
 match y with
 |some (.cells xs)=>lk xs[k]? b g k xs sl V KS
 |_=>KS ⟨sl,V⟩
def Zx (v:AV) (t e2:Nat) (sl:Nat->AV) (V:AO) (KS:A3->Prop):Prop :=
 match v with
 |.own o g=>HB (V.get o g) fun e1 es nl l=>nl=false/\es=1/\o<DB/\(∀x,x∈l->x=.list true []) /\
  KS ⟨CN sl t (.mref .out o (V.cn o)),V.app (.fresh o (.mat e1 e2 false (List.range l.length) (List.replicate l.length (true,[]))))⟩
 |_=>KS ⟨sl,V⟩
def mz (v:AV) (t o e1 e2:Nat) (sl:Nat->AV) (V:AO) (KS:A3->Prop):Prop :=
 match v with
 |.d (.list true [])=>o<DB/\KS ⟨CN sl t (.mref .out o (V.cn o)),V.app (.fresh o (.mat e1 e2 true [] []))⟩
 |_=>KS ⟨sl,V⟩
def dQ (v:AV) (t o ety es:Nat) (sl:Nat->AV) (V:AO) (KS:A3->Prop):Prop :=
 match v with
 |.d (.list true [])=>o<DB/\KS ⟨CN sl t (.own o (V.cn o)),V.app (.fresh o (.row ety es true []))⟩
 |_=>KS ⟨sl,V⟩
def mR (x:Option AV) (b g k o ety es:Nat) (xs:List AV) (sl:Nat->AV) (V:AO) (KS:A3->Prop):Prop :=
 match x with
 |some (.d (.list true []))=>o<DB/\o≠b/\KS ⟨sl,(V.app (.fresh o (.row ety es true []))).app (.keep b g (.cells (xs.set k (.own o (V.cn o)))))⟩
 |_=>KS ⟨sl,V⟩
def mS (y:Option Ae) (b g k o ety es:Nat) (sl:Nat->AV) (V:AO) (KS:A3->Prop):Prop :=
 match y with
 |some (.cells xs)=>mR xs[k]? b g k o ety es xs sl V KS
 |_=>KS ⟨sl,V⟩
def m8 (v:AV) (off o ety es:Nat) (sl:Nat->AV) (V:AO) (KS:A3->Prop):Prop :=
 match v with
 |.ptr b g f=>mS (V.get b g) b g (f+off) o ety es sl V KS
 |_=>KS ⟨sl,V⟩
def mP (x:Option AV) (b g k o e1 e2:Nat) (xs:List AV) (sl:Nat->AV) (V:AO) (KS:A3->Prop):Prop :=
 match x with
 |some (.d (.list true []))=>o<DB/\o≠b/\KS ⟨sl,(V.app (.fresh o (.mat e1 e2 true [] []))).app (.keep b g (.cells (xs.set k (.mref .out o (V.cn o)))))⟩
 |_=>KS ⟨sl,V⟩
def mQ (y:Option Ae) (b g k o e1 e2:Nat) (sl:Nat->AV) (V:AO) (KS:A3->Prop):Prop :=
 match y with
 |some (.cells xs)=>mP xs[k]? b g k o e1 e2 xs sl V KS
 |_=>KS ⟨sl,V⟩
def mn (v:AV) (off o e1 e2:Nat) (sl:Nat->AV) (V:AO) (KS:A3->Prop):Prop :=
 match v with
 |.ptr b g f=>mQ (V.get b g) b g (f+off) o e1 e2 sl V KS
 |_=>KS ⟨sl,V⟩
section
variable {E:CU}{Q:CG->A3->Prop}{s s':A3}{K:AV->Bp->Prop}{KS:A3->Prop}
theorem DX {z:Nat}{p:PC}(hz:H4=z) (h:s=s'):pw E p Q s=pw E p Q s':=by rw[h]
theorem B3 {z:Nat}{l:List D6}(hz:H4=z) (h:s=s'):Fc E l s KS=Fc E l s' KS:=by rw[h]
theorem Bc {z:Nat}{I:D6}(hz:H4=z) (h:s=s'):D9 E I s K=D9 E I s' K:=by rw[h]
theorem DZ {z:Nat}{dst:Option Nat}{op:BV}{V V':AO}{xs xs':List AV}(hz:H4=z) (hV:V=V') (h:xs=xs'):ev E dst V op xs K=ev E dst V' op xs' K:=by rw[h,hV]
theorem Bj {z:Nat}{b:BinOp}{k k' k1 k2:IntKind}{x y x' y':Int}{C:AV->Prop}(hz:H4=z) (h1:k=k1) (h2:k'=k2) (hx:x=x') (hy:y=y'):Du b k k' x y C=Du b k1 k2 x' y' C:=by rw[h1,h2,hx,hy]
theorem Bl {z:Nat}{c c':Bool}{A B:Prop}(hz:H4=z) (h:c=c'):GZ c A B=GZ c' A B:=by rw[h]
theorem Bk {z:Nat}{v v':AV}{A B:Prop}(hz:H4=z) (h:v=v'):Rg v A B=Rg v' A B:=by rw[h]
theorem Bb {z:Nat}{e e':CG}{A:A3->Prop}(hz:H4=z) (he:e=e') (h:s=s'):J_ A Q e s=J_ A Q e' s':=by rw[he,h]
theorem BN {z:Nat}{i:Nat}{e e':CG}(hz:H4=z) (he:e=e') (h:s=s'):JM i Q e s=JM i Q e' s':=by rw[he,h]
theorem BF {α:Type}{z:Nat}{x y:Option α}{A:α->Prop}(hz:H4=z) (h:x=y):Ax x A=Ax y A:=by rw[h]
theorem A6 {z:Nat}{x y:Option Ae} {A} (hz:H4=z) (h:x=y):Ge x A=Ge y A:=by rw[h]
theorem Be {z:Nat}{x y:Option Ae} {A} (hz:H4=z) (h:x=y):HB x A=HB y A:=by rw[h]
theorem BH {z:Nat}{x y:Option Ae} {A B} (hz:H4=z) (h:x=y):HC x A B=HC y A B:=by rw[h]
theorem BJ {z:Nat}{x y:Option Ae} {A} (hz:H4=z) (h:x=y):Kd x A=Kd y A:=by rw[h]
theorem Bh {z:Nat}{x y:Option Ae} {A B} (hz:H4=z) (h:x=y):PN x A B=PN y A B:=by rw[h]
theorem CA {z:Nat}{es es':List (Nat×D×D)}{l l':List Nat} {A B} (hz:H4=z) (h:es=es') (h':l=l'):gU es l A B=gU es' l' A B:=by rw[h,h']
theorem Bf {α:Type}{z:Nat}{x y:Option α}{A:α->Prop}{B:Prop}(hz:H4=z) (h:x=y):PM x A B=PM y A B:=by rw[h]
theorem BL {z:Nat}{gs:List Dw}(hz:H4=z) (h:s=s'):CS gs s KS=CS gs s' KS:=by rw[h]
theorem Bi {z:Nat}{g:Dw}(hz:H4=z) (h:s=s'):EX g s KS=EX g s' KS:=by rw[h]
theorem BM {z:Nat}{dst:Option Nat}{V V':AO}{f:FuncId}{xs xs':List AV}(hz:H4=z) (hV:V=V') (h:xs=xs'):DM E dst V f xs K=DM E dst V' f xs' K:=by rw[h,hV]
theorem B8 {z:Nat}{α:Type}{ag:Bool}{n n':Nat}{cs cs':List α}{off off':Nat}{mk:List α->AV}{one:α->AV}{C:AV->Prop}(hz:H4=z) (hn:n=n') (h:cs=cs') (ho:off=off'):CP ag n cs off mk one C=CP ag n' cs' off' mk one C:=by rw[hn,h,ho]
theorem Cf {z:Nat}{lo hi:Bool}{n n':Nat}{xs xs':List AV}{C:Nat->Nat->Prop}(hz:H4=z) (hn:n=n') (h:xs=xs'):Px lo hi n xs C=Px lo hi n' xs' C:=by rw[hn,h]
theorem BK {z:Nat}{v v':AV}{b:Bool}{A B:Prop}(hz:H4=z) (h:v=v'):JA v b A B=JA v' b A B:=by rw[h]
theorem CB {z:Nat}{v v':AV}{t:Nat}{sl:Nat->AV}{V:AO}(hz:H4=z) (h:v=v'):aZ v t sl V KS=aZ v' t sl V KS:=by rw[h]
theorem B_ {z:Nat}{v v':AV}{t o ety es:Nat}{sl:Nat->AV}{V:AO}(hz:H4=z) (h:v=v'):dQ v t o ety es sl V KS=dQ v' t o ety es sl V KS:=by rw[h]
theorem B6 {z:Nat}{rs:List RT}{K:List AV->Prop}(hz:H4=z) (h:s=s'):Ev E s rs K=Ev E s' rs K:=by rw[h]
theorem B7 {z:Nat}{r:RT}{K:AV->Prop}(hz:H4=z) (h:s=s'):XT E s r K=XT E s' r K:=by rw[h]
theorem B2 {z:Nat}{y y':AV}{xs xs':List AV}{V V':AO}(hz:H4=z) (h1:y=y') (h2:xs=xs') (h3:V=V'):MI E y xs V K=MI E y' xs' V' K:=by rw[h1,h2,h3]
theorem B5 {z:Nat}{α:Type}{T:α->AO} {Inv PInv m gs ks os sl e e'} (hz:H4=z) (he:e=e') (h:s=s'):VY T Inv PInv m gs ks os sl e s=VY T Inv PInv m gs ks os sl e' s':=by rw[he,h]
theorem Bd {z:Nat}{A:A3->Prop} {e e'} (hz:H4=z) (he:e=e') (h:s=s'):NN A e s=NN A e' s':=by rw[he,h]
theorem BI {z:Nat}{x y:Option Ae} {A} (hz:H4=z) (h:x=y):Q_ x A=Q_ y A:=by rw[h]
theorem AU {b:Bool}{A B:Prop}(h1:b=true->A) (h2:b=false->B):GZ b A B:=⟨h1,h2⟩
theorem fo {d t b op xs} {sl:Nat->AV}{V:AO}:D9 E ⟨d,some (t,b),op,xs⟩ ⟨sl,V⟩ K=JA (sl t) b (ev E d V op (xs.map (Gh.val sl)) K) (K (.tup []) .none):=rfl
theorem gz {b:Bool}{A B:Prop}:JA (.d (.bool b)) true A B=GZ b A B:=by simp[JA]
theorem g7 {b:Bool}{A B:Prop}:JA (.d (.bool b)) false A B=GZ b B A:=by cases b<;>simp[JA]
theorem gy {b:Bool}{A B:Prop}:JA (.tup []) b A B=B:=rfl
theorem eL {t:Nat}{sl:Nat->AV}{V:AO}:EX (.freeze t) ⟨sl,V⟩ KS=aZ (sl t) t sl V KS:=by
 simp only[EX,aZ]
 cases sl t with
 |own o g=>simp only;cases V.get o g with
  |none=>rfl
  |some x=>cases x<;>rfl
 |_=>rfl
theorem g9 {t o g:Nat}{sl:Nat->AV}{V:AO}:aZ (.own o g) t sl V KS=HB (V.get o g) fun _ _ nl l=>KS ⟨CN sl t (.d (.list nl l)),V.drop o⟩:=rfl
theorem lj {t:Nat}{x:D}{sl:Nat->AV}{V:AO}:aZ (.d x) t sl V KS=KS ⟨sl,V⟩:=rfl
theorem eM {t:Nat}{sl:Nat->AV}{V:AO}:EX (.frzP t) ⟨sl,V⟩ KS=eR (sl t) t sl V KS:=by
 simp only[EX,eR]
 cases sl t with
 |ptr o g f =>
  cases f with
  |zero =>
   simp only;cases V.get o g with
   |none=>rfl
   |some x =>
    cases x with
    |cells xs =>
     simp only[Ge]
     cases Aw AV.toD1 xs with
     |none=>rfl
     |some l=>cases l<;>simp[Ax]
    |_=>rfl
  |succ n=>rfl
 |_=>rfl
theorem g_ {t o g:Nat}{sl:Nat->AV}{V:AO}:eR (.ptr o g 0) t sl V KS=Ge (V.get o g) fun xs=>Ax (Aw AV.toD1 xs) fun cs=>cs≠[]/\KS ⟨CN sl t (.d (.ptr cs)),V.drop o⟩:=rfl
theorem CC {z:Nat}{v v':AV}{t:Nat}{sl:Nat->AV}{V:AO}(hz:H4=z) (h:v=v'):eR v t sl V KS=eR v' t sl V KS:=by rw[h]
theorem BG {z:Nat}{x y:Option Ae} {A B} (hz:H4=z) (h:x=y):MU x A B=MU y A B:=by rw[h]
theorem eK {t o ety es:Nat}{sl:Nat->AV}{V:AO}:EX (.own t o ety es) ⟨sl,V⟩ KS=dQ (sl t) t o ety es sl V KS:=rfl
theorem eN {t:Nat}{sl:Nat->AV}{V:AO}:EX (.frzM t) ⟨sl,V⟩ KS=eT (sl t) t sl V KS:=by
 simp only[EX,eT]
 cases sl t with
 |mref k o g =>
  cases k with
  |out=>simp only;cases V.get o g with
   |none=>rfl
   |some x=>cases x<;>rfl
  |_=>rfl
 |_=>rfl
theorem eS {t o g:Nat}{sl:Nat->AV}{V:AO}:eT (.mref .out o g) t sl V KS=Hj (V.get o g) fun _ _ nl ix rows=>Sf ix rows=true/\KS ⟨CN sl t (.d (.list nl (I9 ix rows))),V.drop o⟩:=rfl
theorem CD {z:Nat}{v v':AV}{t:Nat}{sl:Nat->AV}{V:AO}(hz:H4=z) (h:v=v'):eT v t sl V KS=eT v' t sl V KS:=by rw[h]
theorem eO {t:Nat}{sl:Nat->AV}{V:AO}:EX (.frzA t) ⟨sl,V⟩ KS=eU (sl t) t sl V KS:=by
 simp only[EX,eU]
 cases sl t with
 |ptr o g f =>
  cases f with
  |zero=>rfl
  |succ n=>rfl
 |_=>rfl
theorem hY {t o g:Nat}{sl:Nat->AV}{V:AO}:eU (.ptr o g 0) t sl V KS=eV (V.get o g) t o sl V KS:=rfl
theorem X1 {t o:Nat}{c:AV}{l:List AV}{sl:Nat->AV}{V:AO}:eV (some (.cells (c::l))) t o sl V KS=KS ⟨CN sl t (.ablk false (c::l) 0),V.drop o⟩:=rfl
theorem CE {z:Nat}{v v':AV}{t:Nat}{sl:Nat->AV}{V:AO}(hz:H4=z) (h:v=v'):eU v t sl V KS=eU v' t sl V KS:=by rw[h]
theorem CF {z:Nat}{y y':Option Ae}{t o:Nat}{sl:Nat->AV}{V:AO}(hz:H4=z) (h:y=y'):eV y t o sl V KS=eV y' t o sl V KS:=by rw[h]
theorem aX {t e2:Nat}{sl:Nat->AV}{V:AO}:EX (.ownR t e2) ⟨sl,V⟩ KS=Zx (sl t) t e2 sl V KS:=by
 simp only[EX,Zx]
 cases sl t with
 |own o g=>simp only;cases V.get o g with
  |none=>rfl
  |some x=>cases x<;>rfl
 |_=>rfl
theorem gJ {t e2 o g:Nat}{sl:Nat->AV}{V:AO}:Zx (.own o g) t e2 sl V KS=HB (V.get o g) fun e1 es nl l=>nl=false/\es=1/\o<DB/\(∀x,x∈l->x=.list true []) /\
 KS ⟨CN sl t (.mref .out o (V.cn o)),V.app (.fresh o (.mat e1 e2 false (List.range l.length) (List.replicate l.length (true,[]))))⟩:=rfl
theorem dN {t e2 k o g:_}{sl:Nat->AV}{V:AO}:Zx (.mref k o g) t e2 sl V KS=KS ⟨sl,V⟩:=rfl
theorem B9 {z:Nat}{v v':AV}{t e2:Nat}{sl:Nat->AV}{V:AO}(hz:H4=z) (h:v=v'):Zx v t e2 sl V KS=Zx v' t e2 sl V KS:=by rw[h]
def k9 (y:Option Ae) (t k o g:Nat) (sl:Nat->AV) (V:AO) (KS:A3->Prop):Prop :=
 match y with
 |some (.cells (c::l))=>KS ⟨CN sl t (.ablk false (Qa o g (c::l) k) 0),V.drop o⟩
 |_=>False
def lG (v:AV) (t k:Nat) (sl:Nat->AV) (V:AO) (KS:A3->Prop):Prop :=
 match v with
 |.ptr o g 0=>k9 (V.get o g) t k o g sl V KS
 |_=>KS ⟨sl,V⟩
theorem eI {s:A3}{A B:Prop}:Vz none s A B=A:=rfl
theorem eH {t b} {sl:Nat->AV}{V:AO}{A B:Prop}:Vz (some (t,b)) ⟨sl,V⟩ A B=JA (sl t) b A B:=rfl
theorem eJ {t k:Nat}{sl:Nat->AV}{V:AO}:EX (.unr t k) ⟨sl,V⟩ KS=lG (sl t) t k sl V KS:=by
 simp only[EX,lG]
 cases sl t with
 |ptr o g off=>cases off with
  |zero=>simp only[k9];cases V.get o g with
   |none=>rfl
   |some x=>cases x with
    |cells xs=>cases xs<;>rfl
    |_=>rfl
  |succ _=>rfl
 |_=>rfl
theorem jH {t k o g:Nat}{sl:Nat->AV}{V:AO}:lG (.ptr o g 0) t k sl V KS=k9 (V.get o g) t k o g sl V KS:=rfl
theorem ZD {t k o g:Nat}{c:AV}{l:List AV}{sl:Nat->AV}{V:AO}:k9 (some (.cells (c::l))) t k o g sl V KS=KS ⟨CN sl t (.ablk false (Qa o g (c::l) k) 0),V.drop o⟩:=rfl
theorem Cd {z:Nat}{v v':AV}{t k:Nat}{sl:Nat->AV}{V:AO}(hz:H4=z) (h:v=v'):lG v t k sl V KS=lG v' t k sl V KS:=by rw[h]
theorem Ce {z:Nat}{y y':Option Ae}{t k o g:Nat}{sl:Nat->AV}{V:AO}(hz:H4=z) (h:y=y'):k9 y t k o g sl V KS=k9 y' t k o g sl V KS:=by rw[h]
def md (y:Option Ae) (t o:Nat) (sl:Nat->AV) (V:AO) (KS:A3->Prop):Prop :=
 match y with
 |some (.row ety es nl l)=>o<DB/\KS ⟨CN sl t (.own o (V.cn o)),V.app (.fresh o (.row ety es nl l))⟩
 |_=>KS ⟨sl,V⟩
def nC (v:AV) (t:Nat) (sl:Nat->AV) (V:AO) (KS:A3->Prop):Prop :=
 match v with
 |.own o g=>md (V.get o g) t o sl V KS
 |_=>KS ⟨sl,V⟩
theorem Bg {z:Nat}{x y:Option Ae} {A} (hz:H4=z) (h:x=y):Hj x A=Hj y A:=by rw[h]
theorem gL {t o ety es:Nat}{sl:Nat->AV}{V:AO}:dQ (.d (.list true [])) t o ety es sl V KS=(o<DB/\KS ⟨CN sl t (.own o (V.cn o)),V.app (.fresh o (.row ety es true []))⟩):=rfl
theorem gK {t o ety es o' g:Nat}{sl:Nat->AV}{V:AO}:dQ (.own o' g) t o ety es sl V KS=KS ⟨sl,V⟩:=rfl
end
theorem fV {α:Type}(f:Nat->α) (i:Nat) (x:α) (j:Nat):CN f i x j=if j=i then x else f j:=rfl
theorem br (f:Nat->Nat) (i x y:Nat):CN (CN f i x) i y=CN f i y:=by funext j;simp only[CN];split<;>rfl
theorem lX {x:D}:(AV.d x).one=x.one:=rfl
theorem gO {o g}:(AV.own o g).one=true:=rfl
theorem gP {o g}:(AV.map o g).one=true:=rfl
theorem kA {f c}:(AV.fn f c).one=true:=rfl
theorem eu {k n}:(D.int k n).one=true:=rfl
theorem bM {b}:(D.bool b).one=true:=rfl
theorem bL {n l}:(D.list n l).one=true:=rfl
theorem er {f l}:(D.map f l).one=true:=rfl
theorem iV {f l}:(D.fn f l).one=true:=rfl
theorem ku {c}:(AV.agg c).cells?=some c:=rfl
theorem ib {c}:(AV.d (.agg c)).cells?=some (c.map .d):=rfl
theorem kq {k n}:(AV.d (.int k n)).cells?=some [.d (.int k n)]:=rfl
theorem ic {b}:(AV.d (.bool b)).cells?=some [.d (.bool b)]:=rfl
theorem iZ {n l}:(AV.d (.list n l)).cells?=some [.d (.list n l)]:=rfl
theorem ia {f l}:(AV.d (.map f l)).cells?=some [.d (.map f l)]:=rfl
theorem kr {f l}:(AV.d (.fn f l)).cells?=some [.d (.fn f l)]:=rfl
theorem ko {o g}:(AV.own o g).cells?=some [.own o g]:=rfl
theorem kp {o g}:(AV.map o g).cells?=some [.map o g]:=rfl
theorem lr {l}:(AV.ex l).cells?=some [.ex l]:=rfl
theorem lq {f c}:(AV.fn f c).cells?=some [.fn f c]:=rfl
theorem jP {k n}:AV.toD0 (.d (.int k n))=some (.int k n):=rfl
theorem fj {b}:AV.toD0 (.d (.bool b))=some (.bool b):=rfl
theorem fi {n l}:AV.toD0 (.d (.list n l))=some (.list n l):=rfl
theorem jM {k n}:AV.toD1 (.d (.int k n))=some (.int k n):=rfl
theorem ff {n l}:AV.toD1 (.d (.list n l))=some (.list n l):=rfl
theorem fh {l}:AV.toD1 (.d (.agg l))=some (.agg l):=rfl
theorem fg {f l}:AV.toD1 (.d (.map f l))=some (.map f l):=rfl
theorem jN {f cs}:AV.toD1 (.bnd f cs)=match Aw AV.toD0 cs with|some l=>some (.bnd f l)|none=>none:=rfl
theorem aH {α β:Type}{f:α->Option β}:Aw f []=some []:=rfl
theorem Xs {α β:Type}{f:α->Option β}{x:α}{xs:List α}:Aw f (x::xs)=match f x with
 |none=>none
 |some y=>match Aw f xs with|none=>none|some ys=>some (y::ys):=rfl
theorem jO {cs}:AV.toD1 (.agg cs)=match Aw AV.toD0 cs with|some l=>some (.agg l)|none=>none:=rfl
theorem ir {V:AO} {n l}:(AV.d (.list n l)).asList V=some (n,l):=rfl
theorem lz {V:AO} {l}:(AV.ex l).asList V=some (false,l):=rfl
theorem ky {V:AO} {o g}:(AV.own o g).asList V=match V.get o g with|some (.row _ _ nil xs)=>some (nil,xs)|_=>none:=rfl
theorem ly {V:AO} {o g}:(AV.mref .out o g).asList V=match V.get o g with|some (.mat _ _ nil ix rows)=>if Sf ix rows then some (nil,I9 ix rows) else none|_=>none:=rfl
theorem me {V:AO} {x}:DN V none (.d x)=match (AV.d x).asList V with|some (_,ys)=>some ys|none=>none:=rfl
theorem ls {V:AO} {x}:DN V none (.ex x)=match (AV.ex x).asList V with|some (_,ys)=>some ys|none=>none:=rfl
theorem aj {es xs}:GY es xs []=some xs:=rfl
theorem X5 {es xs i v rest}:GY es xs ((i,v)::rest)=match v.toD1 with
 |none=>none
 |some x=>if x.cells.length=es/\i<xs.length then GY es (xs.set i x) rest else none:=rfl
theorem ak {cs}:L0 cs []=some cs:=rfl
theorem X6 {cs off size v rest}:L0 cs (((off,size),v)::rest)=match v.cells? with
 |none=>none
 |some vs=>if vs.length=size/\off+size<=cs.length then L0 (BO cs off vs) rest else none:=rfl
theorem bU {k n}:(D.int k n).cells=[.int k n]:=rfl
theorem YT {n l}:(D.list n l).cells=[.list n l]:=rfl
theorem bV {l}:(D.agg l).cells=l:=rfl
theorem jJ {k n}:up (.int k n)=.d (.int k n):=rfl
theorem fY {b}:up (.bool b)=.d (.bool b):=rfl
theorem jI {l}:up (.tup l)=.tup (l.map .d):=rfl
theorem ZY:Bp.site .none=[]:=rfl
theorem cY {a b}:Bp.site (.seq a b)=a.site++b.site:=rfl
theorem XJ {o x}:Bp.site (.fresh o x)=[o]:=rfl
theorem ZZ {o g x}:Bp.site (.keep o g x)=[o]:=rfl
def Bs (xs:List Int):List D:=xs.map (D.int .i64)
@[simp] theorem lh:Bs []=[]:=rfl
theorem FQ (xs:List Int):(Bs xs).length=xs.length:=by simp[Bs]
theorem aO (xs:List Int) (n:Nat):(Bs xs).take n=Bs (xs.take n):=by simp[Bs]
theorem TQ (xs:List Int) (y:Int):Bs xs++[.int .i64 y]=Bs (xs++[y]):=by simp[Bs]
theorem eB (xs:List Int) (i:Nat) (y:Int):(Bs xs).set i (.int .i64 y)=Bs (xs.set i y):=by simp[Bs,List.map_set]
theorem eC (n:Nat) (y:Int):List.replicate n (D.int .i64 y)=Bs (List.replicate n y):=by simp[Bs]
theorem TP (xs:List Int):Ci 1 (Bs xs)=True:=by
 simp only[Ci,Bs,eq_iff_iff,iff_true];intro x hx;simp at hx;obtain⟨n,_,rfl⟩:=hx;rfl
theorem b8 {es:Nat}:Ci es []=True:=by simp[Ci]
theorem ZG {es:Nat}{x:D}{l:List D}:Ci es (x::l)=(x.cells.length=es/\Ci es l):=by simp[Ci]
theorem J7 {α:Type}{es:Nat}{f:α->D}{l:List α}(h:∀x,(f x).cells.length=es):Ci es (l.map f)=True:=by
 simp only[Ci,eq_iff_iff,iff_true];intro x hx;simp at hx;obtain⟨y,_,rfl⟩:=hx;exact h y
theorem Vg {xs:List Int}{i:Nat}{A:D->Prop}:Ax (Bs xs)[i]? A=(i<xs.length/\A (.int .i64 (xs[i]?.getD 0))):=by
 unfold Bs
 rw[List.getElem?_map]
 by_cases h:i<xs.length
 ·simp[h,Ax]
 ·have:xs[i]?=none:=List.getElem?_eq_none (by omega)
  simp[this,h,Ax]
theorem HA {α:Type} [Inhabited α] {f:α->D}{xs:List α}{i:Nat}{A:D->Prop}:Ax (xs.map f)[i]? A=(i<xs.length/\A (f (xs[i]?.getD default))):=by
 rw[List.getElem?_map]
 by_cases h:i<xs.length
 ·simp[h,Ax]
 ·have:xs[i]?=none:=List.getElem?_eq_none (by omega)
  simp[this,h,Ax]
theorem Vf {xs:List Nat}{i:Nat}{A:Nat->Prop}:Ax xs[i]? A=(i<xs.length/\A (xs[i]?.getD 0)):=by
 by_cases h:i<xs.length
 ·simp[h,Ax]
 ·have:xs[i]?=none:=List.getElem?_eq_none (by omega)
  simp[this,h,Ax]
def mr {α:Type}(f:α->D) (M:List (List α)):List (Bool×List D):=M.map fun r=>(false,r.map f)
section
variable {E:CU}{dst:Option Nat}{V:AO}{K:AV->Bp->Prop}{f:FuncId}{xs:List AV}
theorem Mk {ds:List D}{r:D}(h:Ca E f ds r) (ha:Ea xs=some ds) (hk:K (up r) .none):DM E dst V f xs K:=.inl ⟨ds,r,ha,h,hk⟩
theorem Mj {ds:List D}{r:D}(h:Ca E f ds r) (ha:Ro V xs=some ds) (hf:r.flat=true) (hk:K (up r) .none):DM E dst V f xs K:=.inr (.inl ⟨ds,r,ha,h,hf,hk⟩)
end
section
variable {E:CU}{Q:CG->A3->Prop}{s:A3}
def ci (l:List (Nat×AV)) (k:Nat) (v:AV):List (Nat×AV):=l.map fun p=>if p.1=k then (k,v) else p
def ce (l:List (Nat×(Nat×Ae))) (k:Nat) (x:Ae):List (Nat×(Nat×Ae)):=l.map fun p=>if p.1=k then (k,(0,x)) else p
def PD (l:List (Nat×AV)):List (Nat×AV)->List (Nat×AV)
 |[]=>l
 |(k,v)::r=>ci (PD l r) k v
def HU (l:List (Nat×(Nat×Ae))):List (Nat×Ae)->List (Nat×(Nat×Ae))
 |[]=>l
 |(k,v)::r=>ce (HU l r) k v
theorem cg {k:Nat}{v:AV}:ci [] k v=[]:=rfl
theorem Ze {a k:Nat}{b v:AV} {l}:ci ((a,b)::l) k v=(if a=k then (k,v) else (a,b))::ci l k v:=rfl
theorem cZ {k:Nat}{v:Ae}:ce [] k v=[]:=rfl
theorem Zc {a k:Nat}{b:Nat×Ae}{v:Ae} {l}:ce ((a,b)::l) k v=(if a=k then (k,(0,v)) else (a,b))::ce l k v:=rfl
theorem Zd {l}:PD l []=l:=rfl
theorem XM {l k v r}:PD l ((k,v)::r)=ci (PD l r) k v:=rfl
theorem Zb {l}:HU l []=l:=rfl
theorem XL {l k v r}:HU l ((k,v)::r)=ce (HU l r) k v:=rfl
theorem lE {f:Nat->AV}{n:Nat}:Gh.val f (.t n)=f n:=rfl
theorem lF {f:Nat->AV}{v:AV}:Gh.val f (.k v)=v:=rfl
theorem ZQ {α:Type}(cs:List α) (off:Nat) (vs:List α):BO cs off vs=cs.take off++vs++cs.drop (off+vs.length):=rfl
theorem Ao {α:Type}(up:α->List (Nat×AV)) (uo:α->List (Nat×Ae)) (Inv:α->Prop) (μ:α->Nat) (x0:α) {gs:List Dw}{ks os:List Nat}{a:PC}
  {l0:List (Nat×AV)}{m0:List (Nat×(Nat×Ae))}(h0:CS gs s fun s1=>s1.nrm ks os=⟨Dc l0,⟨A7 m0,fun _=>1⟩⟩)
  (he:PD l0 (up x0)=l0) (he':HU m0 (uo x0)=m0) (hI:Inv x0)
  (step:∀x,Inv x->pw E a (J_ (fun s'=>CS gs s' fun s1=>∃y,s1.nrm ks os=⟨Dc (PD l0 (up y)),⟨A7 (HU m0 (uo y)),fun _=>1⟩⟩/\Inv y/\μ y<μ x) Q) ⟨Dc (PD l0 (up x)),⟨A7 (HU m0 (uo x)),fun _=>1⟩⟩) :
  pw E (.loop gs ks os a) Q s :=
 dC (fun x=>⟨Dc (PD l0 (up x)),⟨A7 (HU m0 (uo x)),fun _=>1⟩⟩) Inv μ x0 (by rw[he,he'];exact h0) hI step
end
theorem Ad (n:Int) (h:-9223372036854775808<=n/\n<=9223372036854775807):IntKind.i64.wrap n=n:=Go.IntWalk.i64_in n h
theorem cw {E:CU} {rs r s}:jo E rs r .ret s=Ev E s rs (HS s.V r):=rfl
theorem Va {E:CU} {rs r s}:jo E rs r .normal s=Ev E s rs (HS s.V r):=rfl
theorem cy {E:CU} {s K}:Ev E s [] K=K []:=rfl
theorem Zo {E:CU} {s r l K}:Ev E s (r::l) K=XT E s r fun v=>Ev E s l fun vs=>K (v::vs):=rfl
theorem jr {E:CU} {s n K}:XT E s (.t n) K=K (s.sl n):=rfl
theorem js {E:CU} {s a ty ag n K}:XT E s (.c a ty ag n) K=ev E none s.V (.load ag n) [s.sl a] fun v _=>K v:=rfl
theorem f5 {V r v}:HS V r [v]=(v.snap V=some r):=rfl
theorem f0 {V r v u}:HS V r [v,u]=((Aw (AV.snap V) [v,u]).map .tup=some r):=rfl
theorem fz {V r v u t}:HS V r [v,u,t]=((Aw (AV.snap V) [v,u,t]).map .tup=some r):=rfl
theorem fy {V r v u t x}:HS V r [v,u,t,x]=((Aw (AV.snap V) [v,u,t,x]).map .tup=some r):=rfl
theorem jb {V k n}:AV.snap V (.d (.int k n))=some (.int k n):=rfl
theorem f7 {V b}:AV.snap V (.d (.bool b))=some (.bool b):=rfl
theorem f6 {V n l}:AV.snap V (.d (.list n l))=some (.list n l):=rfl
theorem ja {V o g}:AV.snap V (.own o g)=match V.get o g with|some (.row _ _ nil xs)=>some (.list nil xs)|_=>none:=rfl
theorem jc {V cs}:AV.snap V (.agg cs)=match Aw (AV.snap0 V) cs with|some l=>some (.agg l)|none=>none:=rfl
theorem jj {V k n}:AV.snap0 V (.d (.int k n))=some (.int k n):=rfl
theorem f9 {V n l}:AV.snap0 V (.d (.list n l))=some (.list n l):=rfl
theorem lQ {V l}:AV.snap0 V (.ex l)=some (.list false l):=rfl
theorem fx {α:Type}{a b:α}:(some a=some b)=(a=b):=by simp
theorem Z6 {α β:Type}{f:α->β}{a:α}:Option.map f (some a)=some (f a):=rfl
section
variable {k k':IntKind}{a b:Int}{C:AV->Prop}
theorem io:Du .eql k k' a b C=(k=k'/\(a=b->C (.d (.bool true)))/\(¬a=b->C (.d (.bool false)))):=by
 rw[bE];by_cases h:a=b<;>simp[h]
theorem ig:Du .neq k k' a b C=(k=k'/\(a=b->C (.d (.bool false)))/\(¬a=b->C (.d (.bool true)))):=by
 rw[a9];by_cases h:a=b<;>simp[h]
theorem ii:Du .lss k k' a b C=(k=k'/\(a<b->C (.d (.bool true)))/\(¬a<b->C (.d (.bool false)))):=by
 rw[bA];by_cases h:a<b<;>simp[h]
theorem ik:Du .leq k k' a b C=(k=k'/\(a<=b->C (.d (.bool true)))/\(¬a<=b->C (.d (.bool false)))):=by
 rw[bB];by_cases h:a<=b<;>simp[h]
theorem il:Du .gtr k k' a b C=(k=k'/\(b<a->C (.d (.bool true)))/\(¬b<a->C (.d (.bool false)))):=by
 rw[bC];by_cases h:b<a<;>simp[h]
theorem im:Du .geq k k' a b C=(k=k'/\(b<=a->C (.d (.bool true)))/\(¬b<=a->C (.d (.bool false)))):=by
 rw[bD];by_cases h:b<=a<;>simp[h]
end
section
variable {E:CU}{dst:Option Nat}{V:AO}{K:AV->Bp->Prop}{f:FuncId}{xs:List AV}
theorem fB {ds:List D}{b:Bool}(h:Ca E f ds (.bool b)) (ha:Ea xs=some ds) (h1:b=true->K (.d (.bool true)) .none) (h2:b=false->K (.d (.bool false)) .none):DM E dst V f xs K :=
 Mk h ha (by cases b with|true=>exact h1 rfl|false=>exact h2 rfl)
end
section
variable {E:CU}{K:A3->Prop}
def Jm (j:Nat):List (Nat×Ry)->Option Ry
 |[]=>none
 |(i,r)::l=>if j=i then some r else Jm j l
def Rq (x:Option Ry) (b:Ry):Bool:=match x with|some r=>JP r b|none=>false
def UM (need:List Nat) (i:Nat) (r:Ry) (rec:List (Nat×Ry)):List (Nat×Ry):=if need.contains i then (i,r)::rec else rec
def OT (E:CU):Nat->List Nat->List (D6×List Nat)->List (Nat×Ry)->A3->(A3->Prop)->Prop
 |_,_,[],_,s,K=>K s
 |i,need,(I,dy)::l,rec,s,K=>D9 E I s fun v ch =>
  (dy.all fun j=>Rq (Jm j rec) (ch.site,C3 I s))=true /\
  OT E (i+1) need l (UM need i (ch.site,C3 I s) rec) (put s I.dst v ch) K
theorem UE {need:List Nat}:∀{l:List (D6×List Nat)}{rec:List Ry}{recE:List (Nat×Ry)}{s:A3},(∀j,j∈l.flatMap (·.2)->j∈need)->(∀j,j∈need->Jm j recE=rec[j]?)->My E l rec s K=OT E rec.length need l recE s K
 |[],_,_,_,_,_=>rfl
 |(I,dy)::l,rec,recE,s,hn,hr=>by
  simp only[My,OT]
  congr 1
  funext v ch
  have h1:(dy.all fun j=>match rec[j]? with|some r=>JP r (ch.site,C3 I s)|none=>false)=(dy.all fun j=>Rq (Jm j recE) (ch.site,C3 I s)):=by
   rw[Bool.eq_iff_iff,List.all_eq_true,List.all_eq_true]
   have:∀j,j∈dy->(match rec[j]? with|some r=>JP r (ch.site,C3 I s)|none=>false)=Rq (Jm j recE) (ch.site,C3 I s):=fun j hj=>by
    rw[hr j (hn j (by simp[hj]))];rfl
   exact⟨fun h j hj=>by rw[←this j hj];exact h j hj,fun h j hj=>by rw[this j hj];exact h j hj⟩
  refine congr (congrArg And (congrArg (fun b=>b=true) h1)) ?_
  have h2:=UE (need:=need) (l:=l) (rec:=rec++[(ch.site,C3 I s)]) (recE:=UM need rec.length (ch.site,C3 I s) recE) (s:=put s I.dst v ch) (fun j hj=>hn j (by simp at hj ⊢;exact .inr hj)) fun j hj=>by
   unfold UM
   by_cases h:need.contains rec.length=true
   ·rw[if_pos h]
    simp only[Jm]
    by_cases hjl:j=rec.length
    ·subst hjl;simp
    ·rw[if_neg hjl,hr j hj]
     by_cases hlt:j<rec.length
     ·rw[List.getElem?_append_left hlt]
     ·rw[List.getElem?_eq_none (by omega),List.getElem?_eq_none (by simp;omega)]
   ·rw[if_neg h,hr j hj]
    have hne:j≠rec.length:=by rintro rfl;exact h (by simpa using hj)
    by_cases hlt:j<rec.length
    ·rw[List.getElem?_append_left hlt]
    ·rw[List.getElem?_eq_none (by omega),List.getElem?_eq_none (by simp;omega)]
  rw[h2];simp
theorem dD {Q:CG->A3->Prop}{s:A3} {gs l ks}:pw E (.draw gs l ks) Q s=CS gs s fun s'=>OT E 0 (l.flatMap (·.2)) l [] s' fun s'=>Q .normal (s'.keep ks):=by
 rw[gF]
 congr 1;funext s'
 exact UE (rec:=[]) (recE:=[]) (fun j hj=>hj) fun j hj=>by simp[Jm]
theorem cq {i need r} {s:A3}:OT E i need [] r s K=K s:=rfl
theorem XO {i need I l r} {s:A3}:OT E i need ((I,[])::l) r s K=D9 E I s fun v ch=>OT E (i+1) need l (UM need i (ch.site,C3 I s) r) (put s I.dst v ch) K:=by
 simp[OT]
theorem Zh {i need I j dy l r} {s:A3}:OT E i need ((I,j::dy)::l) r s K=D9 E I s fun v ch =>
 ((j::dy).all fun j=>Rq (Jm j r) (ch.site,C3 I s))=true/\OT E (i+1) need l (UM need i (ch.site,C3 I s) r) (put s I.dst v ch) K:=rfl
theorem B4 {z:Nat} {i i' need need' l} {r r':List (Nat×Ry)}{s s':A3}(hz:H4=z) (hi:i=i') (hn:need=need') (hr:r=r') (h:s=s'):OT E i need l r s K=OT E i' need' l r' s' K:=by rw[h,hr,hi,hn]
theorem jt {need:List Nat}{i:Nat}{r:Ry}{rec:List (Nat×Ry)}(h:need.contains i=true):UM need i r rec=(i,r)::rec:=by simp only[UM,h,if_true]
theorem ju {need:List Nat}{i:Nat}{r:Ry}{rec:List (Nat×Ry)}(h:need.contains i=false):UM need i r rec=rec:=by simp only[UM,h,Bool.false_eq_true,if_false]
theorem aF {j:Nat}:Jm j []=none:=rfl
theorem Xp {j i:Nat}{r:Ry} {l}:Jm j ((i,r)::l)=if j=i then some r else Jm j l:=rfl
theorem fH {r b:Ry}:Rq (some r) b=JP r b:=rfl
theorem lx {a f b f'}:JP (a,f) (b,f')=((a.all fun o=>!f'.contains o) && (b.all fun o=>!f.contains o)):=rfl
theorem ee {d g op xs} {sl:Nat->AV}{V:AO}:C3 ⟨d,g,op,xs⟩ ⟨sl,V⟩=fp V d op (xs.map (Gh.val sl)):=rfl
theorem mJ {x}:AV.sites (.d x)=[]:=by cases x<;>rfl
theorem lM {x}:AV.sites (.ex x)=[]:=rfl
theorem ft {x n}:AV.sites (.dptr x n)=[]:=rfl
theorem jV {o g}:AV.sites (.own o g)=[o]:=rfl
theorem jW {o g}:AV.sites (.map o g)=[o]:=rfl
theorem jU {o g f}:AV.sites (.ptr o g f)=[o]:=rfl
theorem fq {o g e i f}:AV.sites (.rptr o g e i f)=[o]:=rfl
theorem fu {s l f}:AV.sites (.ablk s l f)=AV.sites.sitesL l:=rfl
theorem jX {l}:AV.sites (.agg l)=AV.sites.sitesL l:=rfl
theorem lL {f l}:AV.sites (.fn f l)=AV.sites.sitesL l:=rfl
theorem jT {l}:AV.sites (.tup l)=AV.sites.sitesL l:=rfl
theorem fv:AV.sites.sitesL []=[]:=rfl
theorem cO {x l}:AV.sites.sitesL (x::l)=x.sites++AV.sites.sitesL l:=rfl
section
variable {d:Option Nat}{xs:List AV}{V:AO}
theorem kZ:fp V d .mov xs=[]:=rfl
theorem iA:fp V d .pick xs=[]:=rfl
theorem kc {b}:fp V d (.bin b) xs=[]:=rfl
theorem kb {b t}:fp V d (.eqv b t) xs=[]:=rfl
theorem ll {b}:fp V d (.un b) xs=[]:=rfl
theorem eZ {a}:fp V d (.faddr a) xs=[]:=rfl
theorem af {a b}:fp V d (.iaddrA a b) xs=[]:=rfl
theorem ed {a b}:fp V d (.build a b) xs=[]:=rfl
theorem eY {a b c e}:fp V d (.mkrow a b c e) xs=[]:=rfl
theorem ab {a}:fp V d (.minmax a) xs=[]:=rfl
theorem X2 {a}:fp V d (.extract a) xs=[]:=rfl
theorem iB {a b}:fp V d (.load a b) xs=AV.sites.sitesL xs:=rfl
theorem ae {a}:fp V d (.iaddrS a) xs=AV.sites.sitesL xs:=rfl
theorem ka {a}:fp V d (.len a) xs=AV.sites.sitesL xs:=rfl
theorem eW {a}:fp V d (.store a) xs=d.toList++AV.sites.sitesL xs:=rfl
theorem iC {a}:fp V d (.call a) xs=CZ d V xs:=rfl
theorem ec:fp V d .callv xs=CZ d V xs:=rfl
theorem YU {t}:CZ (some t) V xs=Fd t++V.reach 3 (AV.sites.sitesL xs):=rfl
theorem gZ {t}:Fd t=[t,t+10000,t+20000,t+30000]:=rfl
theorem S8:∀{n:Nat},V.reach n []=[]
 |0=>rfl
 |n+1=>by simp only[AO.reach,List.flatMap_nil,S8,List.append_nil]
theorem gB {o l}:V.reach 3 (o::l)=(o::l)++V.reach 2 ((o::l).flatMap V.osites):=rfl
def Yy:Option (Nat×Ae)->List Nat
 |some (_,.cells xs)=>AV.sites.sitesL xs
 |some (_,.rowH _ _ _ q _)=>[q]
 |some (_,.mitO q _ _ _)=>[q]
 |_=>[]
theorem Z0 {ob cn o}:(AO.mk ob cn).osites o=Yy (ob o):=rfl
theorem da {g a l c}:Yy (some (g,.mapB a l c))=[]:=rfl
theorem kd {a b c e}:fp V d (.app a b c e) xs=d.toList++AV.sites.sitesL xs:=rfl
theorem eX {a b c e}:fp V d (.slice a b c e) xs=d.toList++AV.sites.sitesL xs:=rfl
theorem h_ {a}:fp V d (.zero a) xs=d.toList++AV.sites.sitesL xs:=rfl
end
theorem cE {a:Nat}:(some a).toList=[a]:=rfl
theorem cF:(none:Option Nat).toList=[]:=rfl
end
theorem ML {k n}:(D.int k n).WF=Lj k n:=by rw[D.WF]
theorem LG {b}:(D.bool b).WF=True:=by rw[D.WF]
theorem Iw {nl xs}:(D.list nl xs).WF=(xs.length<=maxLen/\∀x,x∈xs->x.WF):=by rw[D.WF]
theorem OK {xs}:(D.agg xs).WF=(∀x,x∈xs->x.WF):=by rw[D.WF]
theorem OJ {xs}:(D.ptr xs).WF=(∀x,x∈xs->x.WF):=by rw[D.WF]
theorem Sm {f xs}:(D.fn f xs).WF=(∀x,x∈xs->x.WF):=by rw[D.WF]
theorem OI {xs}:(D.tup xs).WF=(∀x,x∈xs->x.WF):=by rw[D.WF]
theorem LF {nl} {xs:List Int}:(D.list nl (Bs xs)).WF=(xs.length<=maxLen/\∀x,x∈xs->Lj .i64 x):=by
 rw[Iw,FQ];simp[Bs,ML]
theorem FA {x:D}{l:List D}:(∀y,y∈x::l->y.WF)=(x.WF/\∀y,y∈l->y.WF):=by simp
theorem Fm:(∀y,y∈([]:List D)->y.WF)=True:=by simp
theorem Fn {α:Type}{f:α->D}{l:List α}:(∀y,y∈l.map f->y.WF)=(∀x,x∈l->(f x).WF):=by simp
theorem LQ {n:Int}:Lj .i64 n=(-9223372036854775808<=n/\n<=9223372036854775807):=by
 simp[Lj,IntKind.min,IntKind.max,IntKind.signed,IntKind.bits]
theorem Gl:maxLen=9223372036854775807:=rfl
theorem Ho {x:AV}{d:D}{xs:List AV}{ds:List D}(h:x.toD1=some d) (h':Aw AV.toD1 xs=some ds):Ea (x::xs)=some (d::ds):=by
 simp only[Ea,Aw,h,h']
theorem fC:Ck=1073741824:=rfl
theorem kQ:DB=900000:=rfl
theorem Dv (V0:List (Nat×Nat×Ae)) (xs:List AV):A3.enterM V0 xs=⟨Dc (xs.zipIdx.map fun(d,k)=>(k,d)),⟨A7 V0,fun _=>1⟩⟩:=by
 have key:∀(xs:List AV) (n t:Nat),(match xs[t]? with|some d=>d|none=>.undef)=Dc ((xs.zipIdx n).map fun(d,k)=>(k,d)) (n+t):=by
  intro xs
  induction xs with
  |nil=>intro n t;simp[Dc]
  |cons x xs ih =>
   intro n t
   cases t with
   |zero=>simp[Dc]
   |succ t =>
    have:=ih (n+1) t
    simp only[List.getElem?_cons_succ,List.zipIdx_cons,List.map_cons,Dc]
    rw[if_neg (by omega),this]
    congr 1;omega
 unfold A3.enterM
 congr 1
 funext t
 have:=key xs 0 t
 simp only[Nat.zero_add] at this
 rw[←this]
 cases xs[t]?<;>rfl
theorem H6 {E:CU}{dst:Option Nat}{V:AO}{K:AV->Bp->Prop}{f:FuncId}{xs:List AV}{V0 V1:List (Nat×Nat×Ae)}{cxs:List AV}{r r':AV}{ch:Bp}(ρ ρ2:EQ) (h:OG E f V0 cxs V1 r) (h1:Wf ρ cxs xs)
  (h2:D7 V (CZ dst V xs) ρ V0) (h3:Db V.cn dst V0 V1 ρ ρ2=true) (h4:r.ren ρ2=some r') (h5:FG ρ ρ2 V1=some ch) (hk:K r' ch):DM E dst V f xs K :=
 .inr (.inr (.inr (.inl ⟨V0,cxs,V1,r,r',ch,ρ,ρ2,h1,h,h2,h3,h4,h5,hk⟩)))
theorem cx {E:CU} {rs V1 r s}:jp E rs V1 r .ret s=(Ev E s rs (i9 V1 s.V r)/\eE s.V V1):=rfl
theorem Vb {E:CU} {rs V1 r s}:jp E rs V1 r .normal s=(Ev E s rs (i9 V1 s.V r)/\eE s.V V1):=rfl
section
variable {V:AO}{V1:List (Nat×Nat×Ae)}
theorem ld {r v}:i9 V1 V r [v]=WW V1 V v r:=rfl
theorem le {rs}:i9 V1 V (.tup rs) []=Td V1 V [] rs:=rfl
theorem bS:Td V1 V [] []=True:=rfl
theorem bR {v o g}:WW V1 V v (.map o g)=(v=.map o g):=rfl
def aR:Option (Nat×Ae)->Nat->Ae->Prop
 |some (g',.map t l),g,.map t' l'=>g'=g/\t=t'/\l=l'
 |some (g',.row a b c l),g,.row a' b' c' l'=>g'=g/\a=a'/\b=b'/\c=c'/\l=l'
 |some (g',.cells l),g,.cells l'=>g'=g/\l=l'
 |some (g',.hist a b c),g,.hist a' b' c'=>g'=g/\a=a'/\b=b'/\c=c'
 |some (g',.mapB a b c),g,.mapB a' b' c'=>g'=g/\a=a'/\b=b'/\c=c'
 |some (g',.mitO a b c d),g,.mitO a' b' c' d'=>g'=g/\a=a'/\b=b'/\c=c'/\d=d'
 |some (g',.mitD a b c),g,.mitD a' b' c'=>g'=g/\a=a'/\b=b'/\c=c'
 |some (g',.rowH a b c d e),g,.rowH a' b' c' d' e'=>g'=g/\a=a'/\b=b'/\c=c'/\d=d'/\e=e'
 |some (g',.mat a b c d e),g,.mat a' b' c' d' e'=>g'=g/\a=a'/\b=b'/\c=c'/\d=d'/\e=e'
 |_,_,_=>False
theorem gx {x:Option (Nat×Ae)}{g:Nat}{y:Ae}:aR x g y=(x=some (g,y)):=by
 cases x with
 |none=>simp[aR]
 |some p=>obtain⟨g',z⟩:=p;cases z<;>cases y<;>simp[aR]
theorem eF {g' a b c l g a' b' c' l'}:aR (some (g',.row a b c l)) g (.row a' b' c' l')=(g'=g/\a=a'/\b=b'/\c=c'/\l=l'):=rfl
theorem aQ {g' a b c g a' b' c'}:aR (some (g',.mapB a b c)) g (.mapB a' b' c')=(g'=g/\a=a'/\b=b'/\c=c'):=rfl
theorem gw:eE V []=True:=rfl
theorem eD {o g x l}:eE V ((o,g,x)::l)=(aR (V.ob o) g x/\eE V l):=by rw[gx];rfl
end
theorem Uq {E:CU}{t:Nat}{V:AO}{K:AV->Bp->Prop}{f:FuncId}{xs:List AV}{ds:List D}{ety es:Nat}{nl:Bool}{l:List D}(h:bg E f ds ety es nl l) (ht:t<DB) (hp:Ln l=true)
  (hk:K (.own t (V.cn t)) (.fresh t (.row ety es nl l))) (ha:Ro V xs=some ds:=by rfl):DM E (some t) V f xs K :=
 .inr (.inr (.inl ⟨ds,t,ety,es,nl,l,rfl,ht,.inr ⟨ha,hp⟩,h,hk⟩))
def kB (K:AV->Bp->Prop):D->Prop
 |.bool b=>(b=true->K (.d (.bool true)) .none)/\(b=false->K (.d (.bool false)) .none)
 |r=>K (up r) .none
theorem gu {K:AV->Bp->Prop} {b}:kB K (.bool b)=((b=true->K (.d (.bool true)) .none)/\(b=false->K (.d (.bool false)) .none)):=rfl
theorem kT {K:AV->Bp->Prop} {k n}:kB K (.int k n)=K (.d (.int k n)) .none:=rfl
theorem gt {K:AV->Bp->Prop} {n l}:kB K (.list n l)=K (.d (.list n l)) .none:=rfl
theorem kU {K:AV->Bp->Prop} {l}:kB K (.agg l)=K (.d (.agg l)) .none:=rfl
theorem kS {K:AV->Bp->Prop} {l}:kB K (.tup l)=K (.tup (l.map .d)) .none:=rfl
theorem lg {K:AV->Bp->Prop} {f l}:kB K (.fn f l)=K (.d (.fn f l)) .none:=rfl
theorem AF {E:CU}{dst:Option Nat}{V:AO}{K:AV->Bp->Prop}{f:FuncId}{xs:List AV}{ds:List D}{r:D}(h:Ca E f ds r) (hk:kB K r)
  (ha:Ea xs=some ds\/(Ro V xs=some ds/\r.flat=true):=by first|exact .inl rfl|exact .inr ⟨rfl,rfl⟩):DM E dst V f xs K:=by
 have hu:K (up r) .none:=by
  cases r with
  |bool b=>cases b with
   |true=>exact hk.1 rfl
   |false=>exact hk.2 rfl
  |_=>exact hk
 exact ha.elim (fun h1=>Mk h h1 hu) fun h1=>Mj h h1.1 h1.2 hu
theorem aI {a b:Prop}(h:a) (k:b):a/\b:=⟨h,k⟩
theorem tI:True:=⟨⟩
theorem DY {z:Nat}{K:AV->Bp->Prop}{r r':D}(hz:H4=z) (h:r=r'):kB K r=kB K r':=by rw[h]
theorem isCall {E:CU}{dst:Option Nat}{V:AO}{K:AV->Bp->Prop}{f:FuncId}{xs:List AV}(h:DM E dst V f xs K):DM E dst V f xs K:=h
theorem A5 {α:Type}{S:A3}{T:α->A3}{I M:α->Prop}(h:∃y,S=T y/\I y/\M y):∃y,S=T y/\I y/\M y:=h
theorem A0 {α β:Type}{S:A3}{T:α×β->A3}{I M:α×β->Prop}(h:∃y,S=T y/\I y/\M y):∃y,S=T y/\I y/\M y:=h
theorem Ba {α β γ:Type}{S:A3}{T:α×β×γ->A3}{I M:α×β×γ->Prop}(h:∃y,S=T y/\I y/\M y):∃y,S=T y/\I y/\M y:=h
theorem Kj {α β γ δ:Type}{S:A3}{T:α×β×γ×δ->A3}{I M:α×β×γ×δ->Prop}(h:∃y,S=T y/\I y/\M y):∃y,S=T y/\I y/\M y:=h
theorem d_ {α β γ δ ε:Type}{S:A3}{T:α×β×γ×δ×ε->A3}{I M:α×β×γ×δ×ε->Prop}(h:∃y,S=T y/\I y/\M y):∃y,S=T y/\I y/\M y:=h
theorem PQ {α β γ δ ε ζ:Type}{S:A3}{T:α×β×γ×δ×ε×ζ->A3}{I M:α×β×γ×δ×ε×ζ->Prop}(h:∃y,S=T y/\I y/\M y):∃y,S=T y/\I y/\M y:=h
theorem PP {α β γ δ ε ζ η:Type}{S:A3}{T:α×β×γ×δ×ε×ζ×η->A3}{I M:α×β×γ×δ×ε×ζ×η->Prop}(h:∃y,S=T y/\I y/\M y):∃y,S=T y/\I y/\M y:=h
theorem kM {m k a}:FT m k a []=some a:=rfl
theorem kO {k:IntKind}{a b:Int} {rest}:FT true k a (.d (.int k b)::rest)=FT true k (max a b) rest:=by
 simp only[FT,if_true,gj];congr 1;omega
theorem kN {k:IntKind}{a b:Int} {rest}:FT false k a (.d (.int k b)::rest)=FT false k (min a b) rest:=by
 simp only[FT,if_true,gi,Bool.false_eq_true,if_false];congr 1;omega
theorem ZN (n:Nat):n-0=n:=rfl
def Wm (a b:List D):Prop:=EP a b=true
theorem go {a b:List D}:(DC (.agg a) (.agg b)=true)=Wm a b:=rfl
theorem gp {a b:List D}:(DC (.agg a) (.agg b)=false)=¬Wm a b:=by simp[DC,Wm,D.cells]
theorem fK:Wm [] []=True:=by simp[Wm,EP]
theorem fL {k k':IntKind}{a b:Int}{asq bs:List D}:Wm (.int k a::asq) (.int k' b::bs)=((k=k'/\a=b)/\Wm asq bs):=by
 simp[Wm,EP,FM]
theorem fZ {ts:List (Option IntKind)}{cs:List D}:Fo (true,ts) (.agg cs)=Dk ts cs:=by simp[Fo,D.isAgg,D.cells]
theorem b9:Dk [] []=true:=rfl
theorem b_ {k:IntKind}{n:Int} {ts cs}:Dk (some k::ts) (.int k n::cs)=Dk ts cs:=by simp[Dk]
section
variable {E:CU}{dst:Option Nat}{V:AO}{K:AV->Bp->Prop}
theorem iL {n tys x y}:ev E dst V (.eqv n tys) [x,y] K=Ax x.toD1 fun a=>Ax y.toD1 fun b=>Fo tys a=true/\Fo tys b=true/\(DC a b=true->K (.d (.bool (!n))) .none)/\(DC a b=false->K (.d (.bool n)) .none):=by
 rw[ki];congr 1;funext a;congr 1;funext b;cases DC a b<;>cases n<;>simp
end
def nD (E:CU) (p:PC) (Q:CG->A3->Prop) (s:A3):Prop:=∃e s',Q e s'/\∀Q':CG->A3->Prop,Q' e s'->pw E p Q' s
attribute [go_sem] kn gC dB j6 j4 dD jz gG dE gE j0 Tv W5 ZM SZ YW Wa Xy V4 eL eM g_ eN eS eO hY X1 aX gJ dN eK g9 lj gL gK jy eI eH eJ jH ZD co Zg cq XO Zh jt ju aF Xp fH lx ee mJ lM ft jV jW jU fq fu jX lL jT fv cO kZ iA kc kb ll eZ af ed eY ab X2 iB ae ka eW iC ec kd eX h_ cE cF List.flatMap_cons List.flatMap_nil ZY XJ ZZ cY YU gZ S8 gB Z0 U_ fo gz g7 gy dF dG fF fG bc ip gr dh LN du Xq aG kY bt fV br iQ Xr Vr dW dX XZ lY Z7 gX df gW de di kH dk Z8 Y3 lX gO gP kA eu bM bL iV ku ib kq ic iZ kr ko kp lr lq jP fj fi jM ff fh aH Xs jO ir lz ky ly me ls aj X5 ak X6 bU YT bV jJ fY jI kh iI kl kf WG Uf Ug au Ub P5 Nh Ui SF SG YD iK YC kj iM YE iO Uh SE iH YB em Uc X9 Ud X_ X' WA WH en Xg Vf iJ iG WC X7 an X8 jm YA av el iL go gp fK fL fZ b9 b_ kg ap WE WD Ue aw ao WB aq dl j5 Vh Vj gQ SH er ia fg jN da aQ dY Z3 Z2 ar YG YH WJ YI WI YF j8 j9 io ig ii ik il im bF a5 a_ a8 a7 a6 Ve UR Xc Xd Xe Xf ZN kM kO kN YS Mh Ks FQ aO TQ eB eC TP b8 ZG Vg HA cw Va cx Vb le ld bS bR eF gw eD cy Zo jr js f5 f0 fz fy jb f7 f6 ja jc jj f9 lQ fx Z6 lE lF List.map_cons List.map_nil List.zipIdx_cons List.zipIdx_nil List.zip_cons_cons List.zip_nil_left List.length_cons List.length_nil List.getElem?_cons_zero List.getElem?_cons_succ List.drop_zero List.drop_succ_cons List.take_succ_cons List.take_zero List.take_nil List.drop_nil List.contains_cons List.contains_nil List.filter_cons List.filter_nil List.all_cons List.all_nil List.cons_append List.nil_append List.append_nil List.set_cons_zero List.set_cons_succ ZQ List.replicate_succ List.replicate_zero List.isEmpty_cons List.isEmpty_nil List.length_map id_eq Nat.lt_irrefl Nat.zero_add Nat.add_zero Nat.zero_mul Nat.one_mul Nat.mul_one if_true if_false Bool.false_eq_true Bool.not_true Bool.not_false Bool.true_or Bool.false_or Bool.or_true Bool.or_false Bool.true_and Bool.false_and Bool.and_true Bool.and_false beq_self_eq_true Bool.and_self Bool.or_self true_and and_true false_and and_false ite_self exists_prop_of_true exists_prop not_false_eq_true not_true_eq_false forall_const eq_self and_self true_implies false_implies implies_true ne_eq List.cons_ne_nil Nat.le_refl Nat.not_lt_zero cg Ze cZ Zc Zd XM Zb XL Int.toNat_natCast Int.toNat_zero fC kQ jw bj Vi ba ej Ww U0 bd Wo fU kI ge Vn gb Vm Z_ Od lZ Z5 mV kJ kK jQ cJ Ss fm U8 lI Zz dT mI jR jS dr aE aA Xn aB iT iU eP Z4 UQ Za XK VX Zn cv gu kT gt kU kS lg
attribute [go_sem_proc] Nat.reduceAdd Nat.reduceSub Nat.reduceMul Nat.reduceEqDiff Nat.reduceBEq Nat.reduceLeDiff Nat.reduceLT Int.reduceToNat Int.reduceLE Int.reduceLT Int.reduceNeg reduceIte reduceCtorEq Int.reduceEq Int.reduceAdd Int.reduceSub Int.reduceMul
end Go.Pw
