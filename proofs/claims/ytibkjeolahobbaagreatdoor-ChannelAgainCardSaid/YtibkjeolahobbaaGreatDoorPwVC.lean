/- A part of the proof. -/
import Derived.Test.YtibkjeolahobbaaGreatDoorPkZa
import Derived.IntWalk
set_option linter.all false
namespace Go.Pw
def JR:Nat:=0
theorem ld:JR=0:=Eq.symm (Eq.symm rfl)
def Kr (v:AV) (b:Bool) (A B:Prop):Prop :=
 match v with
 |.d (.bool b')=>HQ (b == b') A B
 |.tup []=>B
 |_=>False
def W8 (v:AV) (t:Nat) (sl:Nat->AV) (V:AJ) (KS:BV->Prop):Prop :=
 match v with
 |.own o g=>Hz (V.get o g) fun _ _ nl l=>KS ⟨CF sl t (.d (.list nl l)),V.drop o⟩
 |_=>KS ⟨sl,V⟩
def Zj (v:AV) (t:Nat) (sl:Nat->AV) (V:AJ) (KS:BV->Prop):Prop :=
 match v with
 |.ptr o g 0=>Gz (V.get o g) fun xs=>BP (BM AV.toD1 xs) fun cs=>cs≠[]/\KS ⟨CF sl t (.d (.ptr cs)),V.drop o⟩
 |_=>KS ⟨sl,V⟩
def ng (y:Option Aa) (o g:Nat) (sl:Nat->AV) (V:AJ) (KS:BV->Prop):Prop :=
 match y with
 |some (.rowH ety l i q p)=>Hz (V.get q p) fun _ _ nl xs=>KS ⟨sl,(V.drop q).app (.keep o g (.row ety 1 false (l.set i (.list nl xs))))⟩
 |_=>KS ⟨sl,V⟩
def oq (v:AV) (sl:Nat->AV) (V:AJ) (KS:BV->Prop):Prop :=
 match v with
 |.own o g=>ng (V.get o g) o g sl V KS
 |_=>KS ⟨sl,V⟩
def dt (v:AV) (t:Nat) (sl:Nat->AV) (V:AJ) (KS:BV->Prop):Prop :=
 match v with
 |.mref .out o g=>E6 (V.get o g) fun _ _ nl ix rows=>KS ⟨CF sl t (.d (.list nl (KB ix rows))),V.drop o⟩
 |_=>KS ⟨sl,V⟩
def dz (x:Option Aa) (t o:Nat) (sl:Nat->AV) (V:AJ) (KS:BV->Prop):Prop :=
 match x with
 |some (.cells (c::l))=>KS ⟨CF sl t (.ablk false (c::l) 0),V.drop o⟩
 |_=>False
def dx (v:AV) (t:Nat) (sl:Nat->AV) (V:AJ) (KS:BV->Prop):Prop :=
 match v with
 |.ptr o g 0=>dz (V.get o g) t o sl V KS
 |_=>KS ⟨sl,V⟩
def VC (x:Option AV) (b g k:Nat) (xs:List AV) (sl:Nat->AV) (V:AJ) (KS:BV->Prop):Prop :=
 match x with
 |some (.own o p)=>Hz (V.get o p) fun _ _ nl l=>KS ⟨sl,(V.drop o).app (.keep b g (.cells (xs.set k (.d (.list nl l)))))⟩
 |_=>KS ⟨sl,V⟩
def Zk (v:AV) (off:Nat) (sl:Nat->AV) (V:AJ) (KS:BV->Prop):Prop :=
 match v with
 |.ptr b g f=>(match V.get b g with
  |some (.cells xs)=>VC xs[f+off]? b g (f+off) xs sl V KS
  |_=>KS ⟨sl,V⟩)
 |_=>KS ⟨sl,V⟩
def dw (y:Option Aa) (b g k:Nat) (sl:Nat->AV) (V:AJ) (KS:BV->Prop):Prop :=
 match y with
 |some (.cells xs)=>VC xs[k]? b g k xs sl V KS
 |_=>KS ⟨sl,V⟩
def cX (v:AV) (t o e1 e2:Nat) (sl:Nat->AV) (V:AJ) (KS:BV->Prop):Prop :=
 match v with
 |.d (.list true [])=>o<EL/\KS ⟨CF sl t (.mref .out o (V.cn o)),V.app (.fresh o (.mat e1 e2 true [] []))⟩
 |_=>KS ⟨sl,V⟩
def cU (v:AV) (t o ety es:Nat) (sl:Nat->AV) (V:AJ) (KS:BV->Prop):Prop :=
 match v with
 |.d (.list true [])=>o<EL/\KS ⟨CF sl t (.own o (V.cn o)),V.app (.fresh o (.row ety es true []))⟩
 |_=>KS ⟨sl,V⟩
def nY (x:Option AV) (b g k o ety es:Nat) (xs:List AV) (sl:Nat->AV) (V:AJ) (KS:BV->Prop):Prop :=
 match x with
 |some (.d (.list true []))=>o<EL/\o≠b/\KS ⟨sl,(V.app (.fresh o (.row ety es true []))).app (.keep b g (.cells (xs.set k (.own o (V.cn o)))))⟩
 |_=>KS ⟨sl,V⟩
def nZ (y:Option Aa) (b g k o ety es:Nat) (sl:Nat->AV) (V:AJ) (KS:BV->Prop):Prop :=
 match y with
 |some (.cells xs)=>nY xs[k]? b g k o ety es xs sl V KS
 |_=>KS ⟨sl,V⟩
def od (v:AV) (off o ety es:Nat) (sl:Nat->AV) (V:AJ) (KS:BV->Prop):Prop :=
 match v with
 |.ptr b g f=>nZ (V.get b g) b g (f+off) o ety es sl V KS
 |_=>KS ⟨sl,V⟩
section
variable {E:Cl}{Q:B2->BV->Prop}{s s':BV}{K:AV->Bq->Prop}{KS:BV->Prop}
theorem Bh {z:Nat}{p:PC}(hz:JR=z) (h:s=s'):pw E p Q s=pw E p Q s':=by rw[h]
theorem A7 {z:Nat}{l:List Eo}(hz:JR=z) (h:s=s'):KQ E l s KS=KQ E l s' KS:=by rw[h]
theorem Au {z:Nat}{I:Eo}(hz:JR=z) (h:s=s'):EQ E I s K=EQ E I s' K:=by rw[h]
theorem Bi {z:Nat}{dst:Option Nat}{op:B4}{V V':AJ}{xs xs':List AV}(hz:JR=z) (hV:V=V') (h:xs=xs'):ev E dst V op xs K=ev E dst V' op xs' K:=by rw[h,hV]
theorem Az {z:Nat}{b:BinOp}{k k' k1 k2:IntKind}{x y x' y':Int}{C:AV->Prop}(hz:JR=z) (h1:k=k1) (h2:k'=k2) (hx:x=x') (hy:y=y'):DD b k k' x y C=DD b k1 k2 x' y' C:=by rw[h1,h2,hx,hy]
theorem A1 {z:Nat}{c c':Bool}{A B:Prop}(hz:JR=z) (h:c=c'):HQ c A B=HQ c' A B:=by rw[h]
theorem A0 {z:Nat}{v v':AV}{A B:Prop}(hz:JR=z) (h:v=v'):Qv v A B=Qv v' A B:=by rw[h]
theorem Ar {z:Nat}{e e':B2}{A:BV->Prop}(hz:JR=z) (he:e=e') (h:s=s'):KK A Q e s=KK A Q e' s':=by rw[he,h]
theorem Ai {z:Nat}{i:Nat}{e e':B2}(hz:JR=z) (he:e=e') (h:s=s'):Jb i Q e s=Jb i Q e' s':=by rw[he,h]
theorem Ab {α:Type}{z:Nat}{x y:Option α}{A:α->Prop}(hz:JR=z) (h:x=y):BP x A=BP y A:=by rw[h]
theorem AZ {z:Nat}{x y:Option Aa} {A} (hz:JR=z) (h:x=y):Gz x A=Gz y A:=by rw[h]
theorem Aw {z:Nat}{x y:Option Aa} {A} (hz:JR=z) (h:x=y):Hz x A=Hz y A:=by rw[h]
theorem Ag {z:Nat}{gs:List Ef}(hz:JR=z) (h:s=s'):CS gs s KS=CS gs s' KS:=by rw[h]
theorem Ay {z:Nat}{g:Ef}(hz:JR=z) (h:s=s'):E7 g s KS=E7 g s' KS:=by rw[h]
theorem Ah {z:Nat}{dst:Option Nat}{V V':AJ}{f:FuncId}{xs xs':List AV}(hz:JR=z) (hV:V=V') (h:xs=xs'):Dz E dst V f xs K=Dz E dst V' f xs' K:=by rw[h,hV]
theorem BA {z:Nat}{α:Type}{ag:Bool}{n n':Nat}{cs cs':List α}{off off':Nat}{mk:List α->AV}{one:α->AV}{C:AV->Prop}(hz:JR=z) (hn:n=n') (h:cs=cs') (ho:off=off'):Bx ag n cs off mk one C=Bx ag n' cs' off' mk one C:=by rw[hn,h,ho]
theorem BS {z:Nat}{lo hi:Bool}{n n':Nat}{xs xs':List AV}{C:Nat->Nat->Prop}(hz:JR=z) (hn:n=n') (h:xs=xs'):MJ lo hi n xs C=MJ lo hi n' xs' C:=by rw[hn,h]
theorem Af {z:Nat}{v v':AV}{b:Bool}{A B:Prop}(hz:JR=z) (h:v=v'):Kr v b A B=Kr v' b A B:=by rw[h]
theorem BD {z:Nat}{v v':AV}{t:Nat}{sl:Nat->AV}{V:AJ}(hz:JR=z) (h:v=v'):W8 v t sl V KS=W8 v' t sl V KS:=by rw[h]
theorem BB {z:Nat}{v v':AV}{t o ety es:Nat}{sl:Nat->AV}{V:AJ}(hz:JR=z) (h:v=v'):cU v t o ety es sl V KS=cU v' t o ety es sl V KS:=by rw[h]
theorem A_ {z:Nat}{rs:List RT}{K:List AV->Prop}(hz:JR=z) (h:s=s'):Hg E s rs K=Hg E s' rs K:=by rw[h]
theorem A' {z:Nat}{r:RT}{K:AV->Prop}(hz:JR=z) (h:s=s'):WY E s r K=WY E s' r K:=by rw[h]
theorem A6 {z:Nat}{y y':AV}{xs xs':List AV}{V V':AJ}(hz:JR=z) (h1:y=y') (h2:xs=xs') (h3:V=V'):RN y xs V K=RN y' xs' V' K:=by rw[h1,h2,h3]
theorem A9 {z:Nat}{α:Type}{T:α->AJ} {Inv PInv m gs ks os sl e e'} (hz:JR=z) (he:e=e') (h:s=s'):ZA T Inv PInv m gs ks os sl e s=ZA T Inv PInv m gs ks os sl e' s':=by rw[he,h]
theorem Av {z:Nat}{A:BV->Prop} {e e'} (hz:JR=z) (he:e=e') (h:s=s'):O5 A e s=O5 A e' s':=by rw[he,h]
theorem Ae {z:Nat}{x y:Option Aa} {A} (hz:JR=z) (h:x=y):QQ x A=QQ y A:=by rw[h]
theorem AM {b:Bool}{A B:Prop}(h1:b=true->A) (h2:b=false->B):HQ b A B:=⟨h1,h2⟩
theorem fj {d t b op xs} {sl:Nat->AV}{V:AJ}:EQ E ⟨d,some (t,b),op,xs⟩ ⟨sl,V⟩ K=Kr (sl t) b (ev E d V op (xs.map (J0.val sl)) K) (K (.tup []) .none):=rfl
theorem iV {b:Bool}{A B:Prop}:Kr (.d (.bool b)) true A B=HQ b A B:=by simp[Kr]
theorem iW {b:Bool}{A B:Prop}:Kr (.d (.bool b)) false A B=HQ b B A:=by cases b<;>simp[Kr]
theorem iU {b:Bool}{A B:Prop}:Kr (.tup []) b A B=B:=rfl
theorem dg {t:Nat}{sl:Nat->AV}{V:AJ}:E7 (.freeze t) ⟨sl,V⟩ KS=W8 (sl t) t sl V KS:=by
 simp only[E7,W8]
 cases sl t with
 |own o g=>simp only;cases V.get o g with
  |none=>rfl
  |some x=>cases x<;>rfl
 |_=>rfl
theorem iY {t o g:Nat}{sl:Nat->AV}{V:AJ}:W8 (.own o g) t sl V KS=Hz (V.get o g) fun _ _ nl l=>KS ⟨CF sl t (.d (.list nl l)),V.drop o⟩:=rfl
theorem mg {t:Nat}{x:D}{sl:Nat->AV}{V:AJ}:W8 (.d x) t sl V KS=KS ⟨sl,V⟩:=rfl
theorem Zi {t:Nat}{sl:Nat->AV}{V:AJ}:W8 .undef t sl V KS=KS ⟨sl,V⟩:=rfl
theorem dh {t:Nat}{sl:Nat->AV}{V:AJ}:E7 (.frzP t) ⟨sl,V⟩ KS=Zj (sl t) t sl V KS:=by
 simp only[E7,Zj]
 cases sl t with
 |ptr o g f =>
  cases f with
  |zero =>
   simp only;cases V.get o g with
   |none=>rfl
   |some x =>
    cases x with
    |cells xs =>
     simp only[Gz]
     cases BM AV.toD1 xs with
     |none=>rfl
     |some l=>cases l<;>simp[BP]
    |_=>rfl
  |succ n=>rfl
 |_=>rfl
theorem iZ {t o g:Nat}{sl:Nat->AV}{V:AJ}:Zj (.ptr o g 0) t sl V KS=Gz (V.get o g) fun xs=>BP (BM AV.toD1 xs) fun cs=>cs≠[]/\KS ⟨CF sl t (.d (.ptr cs)),V.drop o⟩:=rfl
theorem mh {t:Nat}{x:D}{sl:Nat->AV}{V:AJ}:Zj (.d x) t sl V KS=KS ⟨sl,V⟩:=rfl
theorem BE {z:Nat}{v v':AV}{t:Nat}{sl:Nat->AV}{V:AJ}(hz:JR=z) (h:v=v'):Zj v t sl V KS=Zj v' t sl V KS:=by rw[h]
theorem Ad {z:Nat}{x y:Option Aa} {A B} (hz:JR=z) (h:x=y):MO x A B=MO y A B:=by rw[h]
theorem de {t o ety es:Nat}{sl:Nat->AV}{V:AJ}:E7 (.own t o ety es) ⟨sl,V⟩ KS=cU (sl t) t o ety es sl V KS:=rfl
theorem di {t:Nat}{sl:Nat->AV}{V:AJ}:E7 (.frzM t) ⟨sl,V⟩ KS=dt (sl t) t sl V KS:=by
 simp only[E7,dt]
 cases sl t with
 |mref k o g =>
  cases k with
  |out=>simp only;cases V.get o g with
   |none=>rfl
   |some x=>cases x<;>rfl
  |_=>rfl
 |_=>rfl
theorem dr {t o g:Nat}{sl:Nat->AV}{V:AJ}:dt (.mref .out o g) t sl V KS=E6 (V.get o g) fun _ _ nl ix rows=>KS ⟨CF sl t (.d (.list nl (KB ix rows))),V.drop o⟩:=rfl
theorem BF {z:Nat}{v v':AV}{t:Nat}{sl:Nat->AV}{V:AJ}(hz:JR=z) (h:v=v'):dt v t sl V KS=dt v' t sl V KS:=by rw[h]
theorem dl {t:Nat}{sl:Nat->AV}{V:AJ}:E7 (.frzA t) ⟨sl,V⟩ KS=dx (sl t) t sl V KS:=by
 simp only[E7,dx]
 cases sl t with
 |ptr o g f =>
  cases f with
  |zero=>rfl
  |succ n=>rfl
 |_=>rfl
theorem ib {t o g:Nat}{sl:Nat->AV}{V:AJ}:dx (.ptr o g 0) t sl V KS=dz (V.get o g) t o sl V KS:=rfl
theorem W_ {t o:Nat}{c:AV}{l:List AV}{sl:Nat->AV}{V:AJ}:dz (some (.cells (c::l))) t o sl V KS=KS ⟨CF sl t (.ablk false (c::l) 0),V.drop o⟩:=rfl
theorem BJ {z:Nat}{v v':AV}{t:Nat}{sl:Nat->AV}{V:AJ}(hz:JR=z) (h:v=v'):dx v t sl V KS=dx v' t sl V KS:=by rw[h]
theorem BK {z:Nat}{y y':Option Aa}{t o:Nat}{sl:Nat->AV}{V:AJ}(hz:JR=z) (h:y=y'):dz y t o sl V KS=dz y' t o sl V KS:=by rw[h]
theorem dk {t off:Nat}{sl:Nat->AV}{V:AJ}:E7 (.frzC t off) ⟨sl,V⟩ KS=Zk (sl t) off sl V KS:=by
 simp only[E7,Zk]
 cases sl t with
 |ptr b g f =>
  simp only
  cases V.get b g with
  |none=>rfl
  |some x =>
   cases x with
   |cells xs =>
    simp only[VC]
    cases xs[f+off]? with
    |none=>rfl
    |some y =>
     cases y with
     |own o p=>simp only;cases V.get o p with
      |none=>rfl
      |some z=>cases z<;>rfl
     |_=>rfl
   |_=>rfl
 |_=>rfl
theorem ia {b g f off:Nat}{sl:Nat->AV}{V:AJ}:Zk (.ptr b g f) off sl V KS=dw (V.get b g) b g (f+off) sl V KS:=by
 simp only[Zk,dw]
theorem W9 {b g k:Nat}{xs:List AV}{sl:Nat->AV}{V:AJ}:dw (some (.cells xs)) b g k sl V KS=VC xs[k]? b g k xs sl V KS:=rfl
theorem du {b g k o p:Nat}{xs:List AV}{sl:Nat->AV}{V:AJ}:VC (some (.own o p)) b g k xs sl V KS=Hz (V.get o p) fun _ _ nl l=>KS ⟨sl,(V.drop o).app (.keep b g (.cells (xs.set k (.d (.list nl l)))))⟩:=rfl
theorem lO {b g k:Nat}{x:D}{xs:List AV}{sl:Nat->AV}{V:AJ}:VC (some (.d x)) b g k xs sl V KS=KS ⟨sl,V⟩:=rfl
theorem BH {z:Nat}{v v':AV}{off:Nat}{sl:Nat->AV}{V:AJ}(hz:JR=z) (h:v=v'):Zk v off sl V KS=Zk v' off sl V KS:=by rw[h]
theorem BI {z:Nat}{y y':Option Aa}{b g k k':Nat}{sl:Nat->AV}{V:AJ}(hz:JR=z) (h:y=y') (hk:k=k'):dw y b g k sl V KS=dw y' b g k' sl V KS:=by rw[h,hk]
theorem BG {z:Nat}{y y':Option AV}{b g k:Nat}{xs:List AV}{sl:Nat->AV}{V:AJ}(hz:JR=z) (h:y=y'):VC y b g k xs sl V KS=VC y' b g k xs sl V KS:=by rw[h]
theorem df {t o e1 e2:Nat}{sl:Nat->AV}{V:AJ}:E7 (.ownM t o e1 e2) ⟨sl,V⟩ KS=cX (sl t) t o e1 e2 sl V KS:=rfl
theorem gf {t o e1 e2:Nat}{sl:Nat->AV}{V:AJ}:cX (.d (.list true [])) t o e1 e2 sl V KS=(o<EL/\KS ⟨CF sl t (.mref .out o (V.cn o)),V.app (.fresh o (.mat e1 e2 true [] []))⟩):=rfl
theorem cV {t o e1 e2:Nat} {k o' g} {sl:Nat->AV}{V:AJ}:cX (.mref k o' g) t o e1 e2 sl V KS=KS ⟨sl,V⟩:=rfl
theorem BC {z:Nat}{v v':AV}{t o e1 e2:Nat}{sl:Nat->AV}{V:AJ}(hz:JR=z) (h:v=v'):cX v t o e1 e2 sl V KS=cX v' t o e1 e2 sl V KS:=by rw[h]
theorem Ax {z:Nat}{x y:Option Aa} {A} (hz:JR=z) (h:x=y):E6 x A=E6 y A:=by rw[h]
theorem gd {t o ety es:Nat}{sl:Nat->AV}{V:AJ}:cU (.d (.list true [])) t o ety es sl V KS=(o<EL/\KS ⟨CF sl t (.own o (V.cn o)),V.app (.fresh o (.row ety es true []))⟩):=rfl
theorem gc {t o ety es o' g:Nat}{sl:Nat->AV}{V:AJ}:cU (.own o' g) t o ety es sl V KS=KS ⟨sl,V⟩:=rfl
end
theorem fc {α:Type}(f:Nat->α) (i:Nat) (x:α) (j:Nat):CF f i x j=if j=i then x else f j:=rfl
theorem a_ (f:Nat->Nat) (i x y:Nat):CF (CF f i x) i y=CF f i y:=by funext j;simp only[CF];split<;>rfl
theorem mP {x:D}:(AV.d x).one=x.one:=rfl
theorem gh {o g}:(AV.own o g).one=true:=rfl
theorem kj {f c}:(AV.fn f c).one=true:=rfl
theorem eZ {k n}:(D.int k n).one=true:=rfl
theorem aH {b}:(D.bool b).one=true:=rfl
theorem aG {n l}:(D.list n l).one=true:=rfl
theorem eY {l}:(D.ptr l).one=true:=rfl
theorem ln {c}:(AV.agg c).cells?=some c:=rfl
theorem jD {c}:(AV.d (.agg c)).cells?=some (c.map .d):=rfl
theorem ll {k n}:(AV.d (.int k n)).cells?=some [.d (.int k n)]:=rfl
theorem jE {b}:(AV.d (.bool b)).cells?=some [.d (.bool b)]:=rfl
theorem jB {n l}:(AV.d (.list n l)).cells?=some [.d (.list n l)]:=rfl
theorem jC {l}:(AV.d (.ptr l)).cells?=some [.d (.ptr l)]:=rfl
theorem lj {o g}:(AV.own o g).cells?=some [.own o g]:=rfl
theorem mu {l}:(AV.ex l).cells?=some [.ex l]:=rfl
theorem mt {f c}:(AV.fn f c).cells?=some [.fn f c]:=rfl
theorem j6 {k n}:AV.toD1 (.d (.int k n))=some (.int k n):=rfl
theorem fh {n l}:AV.toD1 (.d (.list n l))=some (.list n l):=rfl
theorem mC {l}:AV.toD1 (.ex l)=some (.list false l):=rfl
theorem ZZ {α β:Type}{f:α->Option β}:BM f []=some []:=rfl
theorem Wt {α β:Type}{f:α->Option β}{x:α}{xs:List α}:BM f (x::xs)=match f x with
 |none=>none
 |some y=>match BM f xs with|none=>none|some ys=>some (y::ys):=rfl
theorem j7 {cs}:AV.toD1 (.agg cs)=match BM AV.toD0 cs with|some l=>some (.agg l)|none=>none:=rfl
theorem jV {V:AJ} {n l}:(AV.d (.list n l)).asList V=some (n,l):=rfl
theorem nC {V:AJ} {l}:(AV.ex l).asList V=some (false,l):=rfl
theorem lq {V:AJ} {o g}:(AV.own o g).asList V=match V.get o g with|some (.row _ _ nil xs)=>some (nil,xs)|_=>none:=rfl
theorem nB {V:AJ} {o g}:(AV.mref .out o g).asList V=match V.get o g with|some (.mat _ _ nil ix rows)=>some (nil,KB ix rows)|_=>none:=rfl
theorem dE {ix rows}:(KB ix rows).length=ix.length:=by simp[KB]
theorem nx {V:AJ} {x}:D0 V none (.d x)=match (AV.d x).asList V with|some (_,ys)=>some ys|none=>none:=rfl
theorem mz {V:AJ} {x}:D0 V none (.ex x)=match (AV.ex x).asList V with|some (_,ys)=>some ys|none=>none:=rfl
theorem jQ {V:AJ} {z n}:D0 V (some z) (.d (.int .i64 n))=if 0<=n/\n<=(Cr:Int) then some (List.replicate n.toNat z) else none:=rfl
theorem Zp {es xs}:F5 es xs []=some xs:=rfl
theorem XF {es xs i v rest}:F5 es xs ((i,v)::rest)=match v.toD1 with
 |none=>none
 |some x=>if x.cells.length=es/\i<xs.length then F5 es (xs.set i x) rest else none:=rfl
theorem Zq {cs}:L1 cs []=some cs:=rfl
theorem XG {cs off size v rest}:L1 cs (((off,size),v)::rest)=match v.cells? with
 |none=>none
 |some vs=>if vs.length=size/\off+size<=cs.length then L1 (Bd cs off vs) rest else none:=rfl
theorem aR {k n}:(D.int k n).cells=[.int k n]:=rfl
theorem Xe {n l}:(D.list n l).cells=[.list n l]:=rfl
theorem aU {l}:(D.agg l).cells=l:=rfl
theorem j5 {k n}:up (.int k n)=.d (.int k n):=rfl
theorem fe {b}:up (.bool b)=.d (.bool b):=rfl
theorem j0 {l}:up (.tup l)=.tup (l.map .d):=rfl
theorem Yx:Bq.site .none=[]:=rfl
theorem bS {a b}:Bq.site (.seq a b)=a.site++b.site:=rfl
theorem WO {o x}:Bq.site (.fresh o x)=[o]:=rfl
theorem Yy {o g x}:Bq.site (.keep o g x)=[o]:=rfl
def Aj (xs:List Int):List D:=xs.map (D.int .i64)
@[simp] theorem mc:Aj []=[]:=rfl
theorem TD (xs:List Int):(Aj xs=[])=(xs=[]):=by cases xs<;>simp[Aj]
theorem B5 (xs:List Int):(Aj xs).length=xs.length:=by simp[Aj]
theorem Zd (xs:List Int) (n:Nat):(Aj xs).drop n=Aj (xs.drop n):=by simp[Aj]
theorem Zb (xs:List Int) (n:Nat):(Aj xs).take n=Aj (xs.take n):=by simp[Aj]
theorem dV (xs ys:List Int):Aj xs++Aj ys=Aj (xs++ys):=by simp[Aj]
theorem Zc (xs:List Int) (y:Int):Aj xs++[.int .i64 y]=Aj (xs++[y]):=by simp[Aj]
theorem dT (xs:List Int) (i:Nat) (y:Int):(Aj xs).set i (.int .i64 y)=Aj (xs.set i y):=by simp[Aj,List.map_set]
theorem dU (n:Nat) (y:Int):List.replicate n (D.int .i64 y)=Aj (List.replicate n y):=by simp[Aj]
theorem Wx (xs:List Int):(Aj xs).isEmpty=xs.isEmpty:=by cases xs<;>rfl
theorem Za (xs:List Int):Cq 1 (Aj xs)=True:=by
 simp only[Cq,Aj,eq_iff_iff,iff_true];intro x hx;simp at hx;obtain⟨n,_,rfl⟩:=hx;rfl
theorem bB {es:Nat}:Cq es []=True:=by simp[Cq]
theorem Ye {es:Nat}{x:D}{l:List D}:Cq es (x::l)=(x.cells.length=es/\Cq es l):=by simp[Cq]
theorem bC {α:Type}{es:Nat}{f:α->D}{l:List α}(h:∀x,(f x).cells.length=es):Cq es (l.map f)=True:=by
 simp only[Cq,eq_iff_iff,iff_true];intro x hx;simp at hx;obtain⟨y,_,rfl⟩:=hx;exact h y
theorem Ut {xs:List Int}{i:Nat}{A:D->Prop}:BP (Aj xs)[i]? A=(i<xs.length/\A (.int .i64 (xs[i]?.getD 0))):=by
 unfold Aj
 rw[List.getElem?_map]
 by_cases h:i<xs.length
 ·simp[h,BP]
 ·have:xs[i]?=none:=List.getElem?_eq_none (by omega)
  simp[this,h,BP]
theorem MN {α:Type} [Inhabited α] {f:α->D}{xs:List α}{i:Nat}{A:D->Prop}:BP (xs.map f)[i]? A=(i<xs.length/\A (f (xs[i]?.getD default))):=by
 rw[List.getElem?_map]
 by_cases h:i<xs.length
 ·simp[h,BP]
 ·have:xs[i]?=none:=List.getElem?_eq_none (by omega)
  simp[this,h,BP]
theorem Us {xs:List Nat}{i:Nat}{A:Nat->Prop}:BP xs[i]? A=(i<xs.length/\A (xs[i]?.getD 0)):=by
 by_cases h:i<xs.length
 ·simp[h,BP]
 ·have:xs[i]?=none:=List.getElem?_eq_none (by omega)
  simp[this,h,BP]
def oG {α:Type}(f:α->D) (M:List (List α)):List (Bool×List D):=M.map fun r=>(false,r.map f)
section
variable {E:Cl}{dst:Option Nat}{V:AJ}{K:AV->Bq->Prop}{f:FuncId}{xs:List AV}
theorem HV {ds:List D}{r:D}(h:CI E f ds r) (ha:Fk xs=some ds) (hk:K (up r) .none):Dz E dst V f xs K:=.inl ⟨ds,r,ha,h,hk⟩
theorem lp {ds:List D}{r:D}(h:CI E f ds r) (ha:Vn V xs=some ds) (hf:r.flat=true) (hk:K (up r) .none):Dz E dst V f xs K:=.inr (.inl ⟨ds,r,ha,h,hf,hk⟩)
end
section
variable {E:Cl}{Q:B2->BV->Prop}{s:BV}
def bc (l:List (Nat×AV)) (k:Nat) (v:AV):List (Nat×AV):=l.map fun p=>if p.1=k then (k,v) else p
def ba (l:List (Nat×(Nat×Aa))) (k:Nat) (x:Aa):List (Nat×(Nat×Aa)):=l.map fun p=>if p.1=k then (k,(0,x)) else p
def O0 (l:List (Nat×AV)):List (Nat×AV)->List (Nat×AV)
 |[]=>l
 |(k,v)::r=>bc (O0 l r) k v
def Oz (l:List (Nat×(Nat×Aa))):List (Nat×Aa)->List (Nat×(Nat×Aa))
 |[]=>l
 |(k,v)::r=>ba (Oz l r) k v
theorem bb {k:Nat}{v:AV}:bc [] k v=[]:=rfl
theorem Y5 {a k:Nat}{b v:AV} {l}:bc ((a,b)::l) k v=(if a=k then (k,v) else (a,b))::bc l k v:=rfl
theorem bZ {k:Nat}{v:Aa}:ba [] k v=[]:=rfl
theorem Y3 {a k:Nat}{b:Nat×Aa}{v:Aa} {l}:ba ((a,b)::l) k v=(if a=k then (k,(0,v)) else (a,b))::ba l k v:=rfl
theorem Y4 {l}:O0 l []=l:=rfl
theorem WS {l k v r}:O0 l ((k,v)::r)=bc (O0 l r) k v:=rfl
theorem Y1 {l}:Oz l []=l:=rfl
theorem WR {l k v r}:Oz l ((k,v)::r)=ba (Oz l r) k v:=rfl
theorem l_ {f:Nat->AV}{n:Nat}:J0.val f (.t n)=f n:=rfl
theorem mA {f:Nat->AV}{v:AV}:J0.val f (.k v)=v:=rfl
theorem Yp {α:Type}(cs:List α) (off:Nat) (vs:List α):Bd cs off vs=cs.take off++vs++cs.drop (off+vs.length):=rfl
theorem AY {α:Type}(up:α->List (Nat×AV)) (uo:α->List (Nat×Aa)) (Inv:α->Prop) (μ:α->Nat) (x0:α) {gs:List Ef}{ks os:List Nat}{a:PC}
  {l0:List (Nat×AV)}{m0:List (Nat×(Nat×Aa))}(h0:CS gs s fun s1=>s1.nrm ks os=⟨Et l0,⟨BW m0,fun _=>1⟩⟩)
  (he:O0 l0 (up x0)=l0) (he':Oz m0 (uo x0)=m0) (hI:Inv x0)
  (step:∀x,Inv x->pw E a (KK (fun s'=>CS gs s' fun s1=>∃y,s1.nrm ks os=⟨Et (O0 l0 (up y)),⟨BW (Oz m0 (uo y)),fun _=>1⟩⟩/\Inv y/\μ y<μ x) Q) ⟨Et (O0 l0 (up x)),⟨BW (Oz m0 (uo x)),fun _=>1⟩⟩) :
  pw E (.loop gs ks os a) Q s :=
 cN (fun x=>⟨Et (O0 l0 (up x)),⟨BW (Oz m0 (uo x)),fun _=>1⟩⟩) Inv μ x0 (by rw[he,he'];exact h0) hI step
end
theorem Ak (n:Int) (h:-9223372036854775808<=n/\n<=9223372036854775807):IntKind.i64.wrap n=n:=Go.IntWalk.i64_in n h
theorem bu {E:Cl} {rs r s}:mL E rs r .ret s=Hg E s rs (Oy s.V r):=rfl
theorem bw {E:Cl} {s K}:Hg E s [] K=K []:=rfl
theorem ZB {E:Cl} {s r l K}:Hg E s (r::l) K=WY E s r fun v=>Hg E s l fun vs=>K (v::vs):=rfl
theorem kX {E:Cl} {s n K}:WY E s (.t n) K=K (s.sl n):=rfl
theorem kY {E:Cl} {s a ty ag n K}:WY E s (.c a ty ag n) K=ev E none s.V (.load ag n) [s.sl a] fun v _=>K v:=rfl
theorem f7 {V r v}:Oy V r [v]=(v.snap V=some r):=rfl
theorem f6 {V r v u}:Oy V r [v,u]=((BM (AV.snap V) [v,u]).map .tup=some r):=rfl
theorem f5 {V r v u t}:Oy V r [v,u,t]=((BM (AV.snap V) [v,u,t]).map .tup=some r):=rfl
theorem kH {V k n}:AV.snap V (.d (.int k n))=some (.int k n):=rfl
theorem f_ {V b}:AV.snap V (.d (.bool b))=some (.bool b):=rfl
theorem f9 {V n l}:AV.snap V (.d (.list n l))=some (.list n l):=rfl
theorem Yw {V}:AV.snap V (.d .nilptr)=some .nilptr:=rfl
theorem kG {V o g}:AV.snap V (.own o g)=match V.get o g with|some (.row _ _ nil xs)=>some (.list nil xs)|_=>none:=rfl
theorem kI {V cs}:AV.snap V (.agg cs)=match BM (AV.snap0 V) cs with|some l=>some (.agg l)|none=>none:=rfl
theorem kO {V k n}:AV.snap0 V (.d (.int k n))=some (.int k n):=rfl
theorem gL {V n l}:AV.snap0 V (.d (.list n l))=some (.list n l):=rfl
theorem mJ {V l}:AV.snap0 V (.ex l)=some (.list false l):=rfl
theorem f4 {α:Type}{a b:α}:(some a=some b)=(a=b):=by simp
theorem ZQ {α β:Type}{f:α->β}{a:α}:Option.map f (some a)=some (f a):=rfl
section
variable {k k':IntKind}{a b:Int}{C:AV->Prop}
theorem jO:DD .eql k k' a b C=(k=k'/\(a=b->C (.d (.bool true)))/\(¬a=b->C (.d (.bool false)))):=by
 rw[aB];by_cases h:a=b<;>simp[h]
theorem jI:DD .neq k k' a b C=(k=k'/\(a=b->C (.d (.bool false)))/\(¬a=b->C (.d (.bool true)))):=by
 rw[Z7];by_cases h:a=b<;>simp[h]
theorem jJ:DD .lss k k' a b C=(k=k'/\(a<b->C (.d (.bool true)))/\(¬a<b->C (.d (.bool false)))):=by
 rw[Z9];by_cases h:a<b<;>simp[h]
theorem jL:DD .leq k k' a b C=(k=k'/\(a<=b->C (.d (.bool true)))/\(¬a<=b->C (.d (.bool false)))):=by
 rw[Z_];by_cases h:a<=b<;>simp[h]
theorem jM:DD .gtr k k' a b C=(k=k'/\(b<a->C (.d (.bool true)))/\(¬b<a->C (.d (.bool false)))):=by
 rw[Z'];by_cases h:b<a<;>simp[h]
theorem jN:DD .geq k k' a b C=(k=k'/\(b<=a->C (.d (.bool true)))/\(¬b<=a->C (.d (.bool false)))):=by
 rw[aA];by_cases h:b<=a<;>simp[h]
end
section
variable {E:Cl}{dst:Option Nat}{V:AJ}{K:AV->Bq->Prop}{f:FuncId}{xs:List AV}
theorem Xf {ds:List D}{b:Bool}(h:CI E f ds (.bool b)) (ha:Fk xs=some ds) (h1:b=true->K (.d (.bool true)) .none) (h2:b=false->K (.d (.bool false)) .none):Dz E dst V f xs K :=
 HV h ha (by cases b with|true=>exact h1 rfl|false=>exact h2 rfl)
theorem ZO {α:Type}{p:Prop} [Decidable p] {x:α}{A:α->Prop}:BP (if p then some x else none) A=(p/\A x):=by
 by_cases h:p<;>simp[h,BP]
end
section
variable {E:Cl}{K:BV->Prop}
def Kn (j:Nat):List (Nat×RL)->Option RL
 |[]=>none
 |(i,r)::l=>if j=i then some r else Kn j l
def Q_ (x:Option RL) (b:RL):Bool:=match x with|some r=>K_ r b|none=>false
def S6 (need:List Nat) (i:Nat) (r:RL) (rec:List (Nat×RL)):List (Nat×RL):=if need.contains i then (i,r)::rec else rec
def PJ (E:Cl):Nat->List Nat->List (Eo×List Nat)->List (Nat×RL)->BV->(BV->Prop)->Prop
 |_,_,[],_,s,K=>K s
 |i,need,(I,dy)::l,rec,s,K=>EQ E I s fun v ch =>
  (dy.all fun j=>Q_ (Kn j rec) (ch.site,DX I s))=true /\
  PJ E (i+1) need l (S6 need i (ch.site,DX I s) rec) (put s I.dst v ch) K
theorem X0 {need:List Nat}:∀{l:List (Eo×List Nat)}{rec:List RL}{recE:List (Nat×RL)}{s:BV},(∀j,j∈l.flatMap (·.2)->j∈need)->(∀j,j∈need->Kn j recE=rec[j]?)->RU E l rec s K=PJ E rec.length need l recE s K
 |[],_,_,_,_,_=>rfl
 |(I,dy)::l,rec,recE,s,hn,hr=>by
  simp only[RU,PJ]
  congr 1
  funext v ch
  have h1:(dy.all fun j=>match rec[j]? with|some r=>K_ r (ch.site,DX I s)|none=>false)=(dy.all fun j=>Q_ (Kn j recE) (ch.site,DX I s)):=by
   rw[Bool.eq_iff_iff,List.all_eq_true,List.all_eq_true]
   have:∀j,j∈dy->(match rec[j]? with|some r=>K_ r (ch.site,DX I s)|none=>false)=Q_ (Kn j recE) (ch.site,DX I s):=fun j hj=>by
    rw[hr j (hn j (by simp[hj]))];rfl
   exact⟨fun h j hj=>by rw[←this j hj];exact h j hj,fun h j hj=>by rw[this j hj];exact h j hj⟩
  refine congr (congrArg And (congrArg (fun b=>b=true) h1)) ?_
  have h2:=X0 (need:=need) (l:=l) (rec:=rec++[(ch.site,DX I s)]) (recE:=S6 need rec.length (ch.site,DX I s) recE) (s:=put s I.dst v ch) (fun j hj=>hn j (by simp at hj ⊢;exact .inr hj)) fun j hj=>by
   unfold S6
   by_cases h:need.contains rec.length=true
   ·rw[if_pos h]
    simp only[Kn]
    by_cases hjl:j=rec.length
    ·subst hjl;simp
    ·rw[if_neg hjl,hr j hj]
     by_cases hlt:j<rec.length
     ·rw[List.getElem?_append_left hlt]
     ·rw[List.getElem?_eq_none (by omega),List.getElem?_eq_none (by simp;omega)]
   ·rw[if_neg h,hr j hj]
    have hne:j≠rec.length:=by rintro rfl;exact h (by simpa using hj)
    by_cases hlt:j<rec.length
    ·rw[List.getElem?_append_left hlt]
    ·rw[List.getElem?_eq_none (by omega),List.getElem?_eq_none (by simp;omega)]
  rw[h2];simp
theorem cO {Q:B2->BV->Prop}{s:BV} {gs l ks}:pw E (.draw gs l ks) Q s=CS gs s fun s'=>PJ E 0 (l.flatMap (·.2)) l [] s' fun s'=>Q .normal (s'.keep ks):=by
 rw[gX]
 congr 1;funext s'
 exact X0 (rec:=[]) (recE:=[]) (fun j hj=>hj) fun j hj=>by simp[Kn]
theorem be {i need r} {s:BV}:PJ E i need [] r s K=K s:=rfl
theorem WU {i need I l r} {s:BV}:PJ E i need ((I,[])::l) r s K=EQ E I s fun v ch=>PJ E (i+1) need l (S6 need i (ch.site,DX I s) r) (put s I.dst v ch) K:=by
 simp[PJ]
theorem Y7 {i need I j dy l r} {s:BV}:PJ E i need ((I,j::dy)::l) r s K=EQ E I s fun v ch =>
 ((j::dy).all fun j=>Q_ (Kn j r) (ch.site,DX I s))=true/\PJ E (i+1) need l (S6 need i (ch.site,DX I s) r) (put s I.dst v ch) K:=rfl
theorem A8 {z:Nat} {i i' need need' l} {r r':List (Nat×RL)}{s s':BV}(hz:JR=z) (hi:i=i') (hn:need=need') (hr:r=r') (h:s=s'):PJ E i need l r s K=PJ E i' need' l r' s' K:=by rw[h,hr,hi,hn]
theorem kZ {need:List Nat}{i:Nat}{r:RL}{rec:List (Nat×RL)}(h:need.contains i=true):S6 need i r rec=(i,r)::rec:=by simp only[S6,h,if_true]
theorem ka {need:List Nat}{i:Nat}{r:RL}{rec:List (Nat×RL)}(h:need.contains i=false):S6 need i r rec=rec:=by simp only[S6,h,Bool.false_eq_true,if_false]
theorem ZX {j:Nat}:Kn j []=none:=rfl
theorem Wq {j i:Nat}{r:RL} {l}:Kn j ((i,r)::l)=if j=i then some r else Kn j l:=rfl
theorem ez {r b:RL}:Q_ (some r) b=K_ r b:=rfl
theorem m9 {a f b f'}:K_ (a,f) (b,f')=((a.all fun o=>!f'.contains o) && (b.all fun o=>!f.contains o)):=rfl
theorem d9 {d g op xs} {sl:Nat->AV}{V:AJ}:DX ⟨d,g,op,xs⟩ ⟨sl,V⟩=fp V d op (xs.map (J0.val sl)):=rfl
theorem nQ {x}:AV.sites (.d x)=[]:=by cases x<;>rfl
theorem mE {x}:AV.sites (.ex x)=[]:=rfl
theorem fq {x n}:AV.sites (.dptr x n)=[]:=rfl
theorem kC {o g}:AV.sites (.own o g)=[o]:=rfl
theorem kA {o g f}:AV.sites (.ptr o g f)=[o]:=rfl
theorem fk {o g e i f}:AV.sites (.rptr o g e i f)=[o]:=rfl
theorem fo {k o g}:AV.sites (.mref k o g)=[o]:=rfl
theorem ft {s l f}:AV.sites (.ablk s l f)=AV.sites.sitesL l:=rfl
theorem kD {l}:AV.sites (.agg l)=AV.sites.sitesL l:=rfl
theorem mD {f l}:AV.sites (.fn f l)=AV.sites.sitesL l:=rfl
theorem j_ {l}:AV.sites (.tup l)=AV.sites.sitesL l:=rfl
theorem fu:AV.sites.sitesL []=[]:=rfl
theorem bN {x l}:AV.sites.sitesL (x::l)=x.sites++AV.sites.sitesL l:=rfl
section
variable {d:Option Nat}{xs:List AV}{V:AJ}
theorem lP:fp V d .mov xs=[]:=rfl
theorem ic:fp V d .pick xs=[]:=rfl
theorem lR {b}:fp V d (.bin b) xs=[]:=rfl
theorem mj {b}:fp V d (.un b) xs=[]:=rfl
theorem ii {b}:fp V d (.conv b) xs=[]:=rfl
theorem d5:fp V d .nilck xs=[]:=rfl
theorem d7 {a}:fp V d (.faddr a) xs=[]:=rfl
theorem Zn {a b}:fp V d (.iaddrA a b) xs=[]:=rfl
theorem d6 {a b c e}:fp V d (.mkrow a b c e) xs=[]:=rfl
theorem Zl {a}:fp V d (.minmax a) xs=[]:=rfl
theorem XA {a}:fp V d (.extract a) xs=[]:=rfl
theorem ig {a b}:fp V d (.load a b) xs=AV.sites.sitesL xs:=rfl
theorem Zm {a}:fp V d (.iaddrS a) xs=AV.sites.sitesL xs:=rfl
theorem lQ {a}:fp V d (.len a) xs=AV.sites.sitesL xs:=rfl
theorem d0 {a}:fp V d (.store a) xs=d.toList++AV.sites.sitesL xs:=rfl
theorem ij {a}:fp V d (.call a) xs=B6 d V xs:=rfl
theorem d8:fp V d .callv xs=B6 d V xs:=rfl
theorem Xg {t}:B6 (some t) V xs=Dv t++V.reach 3 (AV.sites.sitesL xs):=rfl
theorem gu {t}:Dv t=[t,t+10000,t+20000,t+30000]:=rfl
theorem SA:∀{n:Nat},V.reach n []=[]
 |0=>rfl
 |n+1=>by simp only[AJ.reach,List.flatMap_nil,SA,List.append_nil]
theorem gS {o l}:V.reach 3 (o::l)=(o::l)++V.reach 2 ((o::l).flatMap V.osites):=rfl
def TB:Option (Nat×Aa)->List Nat
 |some (_,.cells xs)=>AV.sites.sitesL xs
 |some (_,.rowH _ _ _ q _)=>[q]
 |_=>[]
theorem ZH {ob cn o}:(AJ.mk ob cn).osites o=TB (ob o):=rfl
theorem ZR {g xs}:TB (some (g,.cells xs))=AV.sites.sitesL xs:=rfl
theorem gi {g a b c d e}:TB (some (g,.mat a b c d e))=[]:=rfl
theorem lS {a b c e}:fp V d (.app a b c e) xs=d.toList++AV.sites.sitesL xs:=rfl
theorem d4 {a b c e}:fp V d (.slice a b c e) xs=d.toList++AV.sites.sitesL xs:=rfl
end
theorem bE {a:Nat}:(some a).toList=[a]:=rfl
theorem bF:(none:Option Nat).toList=[]:=rfl
end
theorem Dx {k n}:(D.int k n).WF=Lq k n:=by rw[D.WF]
theorem DK {b}:(D.bool b).WF=True:=by rw[D.WF]
theorem C0 {nl xs}:(D.list nl xs).WF=(xs.length<=maxLen/\∀x,x∈xs->x.WF):=by rw[D.WF]
theorem EH {xs}:(D.agg xs).WF=(∀x,x∈xs->x.WF):=by rw[D.WF]
theorem EG {xs}:(D.ptr xs).WF=(∀x,x∈xs->x.WF):=by rw[D.WF]
theorem Fz {f xs}:(D.fn f xs).WF=(∀x,x∈xs->x.WF):=by rw[D.WF]
theorem EF {xs}:(D.tup xs).WF=(∀x,x∈xs->x.WF):=by rw[D.WF]
theorem DJ {nl} {xs:List Int}:(D.list nl (Aj xs)).WF=(xs.length<=maxLen/\∀x,x∈xs->Lq .i64 x):=by
 rw[C0,B5];simp[Aj,Dx]
theorem Bk {x:D}{l:List D}:(∀y,y∈x::l->y.WF)=(x.WF/\∀y,y∈l->y.WF):=by simp
theorem Bv:(∀y,y∈([]:List D)->y.WF)=True:=by simp
theorem Bw {α:Type}{f:α->D}{l:List α}:(∀y,y∈l.map f->y.WF)=(∀x,x∈l->(f x).WF):=by simp
theorem DM {n:Int}:Lq .i64 n=(-9223372036854775808<=n/\n<=9223372036854775807):=by
 simp[Lq,IntKind.min,IntKind.max,IntKind.signed,IntKind.bits]
theorem B9:maxLen=9223372036854775807:=rfl
theorem K9 {x:AV}{d:D}{xs:List AV}{ds:List D}(h:x.toD1=some d) (h':BM AV.toD1 xs=some ds):Fk (x::xs)=some (d::ds):=by
 simp only[Fk,BM,h,h']
theorem em:Cr=1073741824:=rfl
theorem k8:EL=900000:=rfl
theorem ED (V0:List (Nat×Nat×Aa)) (xs:List AV):BV.enterM V0 xs=⟨Et (xs.zipIdx.map fun(d,k)=>(k,d)),⟨BW V0,fun _=>1⟩⟩:=by
 have key:∀(xs:List AV) (n t:Nat),(match xs[t]? with|some d=>d|none=>.undef)=Et ((xs.zipIdx n).map fun(d,k)=>(k,d)) (n+t):=by
  intro xs
  induction xs with
  |nil=>intro n t;simp[Et]
  |cons x xs ih =>
   intro n t
   cases t with
   |zero=>simp[Et]
   |succ t =>
    have:=ih (n+1) t
    simp only[List.getElem?_cons_succ,List.zipIdx_cons,List.map_cons,Et]
    rw[if_neg (by omega),this]
    congr 1;omega
 unfold BV.enterM
 congr 1
 funext t
 have:=key xs 0 t
 simp only[Nat.zero_add] at this
 rw[←this]
 cases xs[t]?<;>rfl
theorem Ex {E:Cl}{dst:Option Nat}{V:AJ}{K:AV->Bq->Prop}{f:FuncId}{xs:List AV}{V0 V1:List (Nat×Nat×Aa)}{cxs:List AV}{r r':AV}{ch:Bq}(ρ ρ2:Df) (h:H9 E f V0 cxs V1 r) (h1:Ns ρ cxs xs)
  (h2:Handed V (B6 dst V xs) ρ V0) (h3:CL V.cn dst V0 V1 ρ ρ2=true) (h4:r.ren ρ2=some r') (h5:Dw ρ ρ2 V1=some ch) (hk:K r' ch):Dz E dst V f xs K :=
 .inr (.inr (.inr (.inl ⟨V0,cxs,V1,r,r',ch,ρ,ρ2,h1,h,h2,h3,h4,h5,hk⟩)))
theorem bv {E:Cl} {rs V1 r s}:kV E rs V1 r .ret s=(Hg E s rs (ji V1 s.V r)/\dX s.V V1):=rfl
theorem Ul {E:Cl} {rs V1 r s}:kV E rs V1 r .normal s=(Hg E s rs (ji V1 s.V r)/\dX s.V V1):=rfl
section
variable {V:AJ}{V1:List (Nat×Nat×Aa)}
theorem mV {r v}:ji V1 V r [v]=ST V1 V v r:=rfl
theorem mW {rs}:ji V1 V (.tup rs) []=SU V1 V [] rs:=rfl
theorem aN:SU V1 V [] []=True:=rfl
theorem jA {v d}:ST V1 V v (.d d)=(v.snap V=some d/\(v.sites.all fun o=>!W3 V1 o)=true):=rfl
theorem aM {v o g}:ST V1 V v (.own o g)=(v=.own o g):=rfl
theorem db {o}:W3 [] o=false:=rfl
theorem Zf {p l o}:W3 (p::l) o=(p.1 == o || W3 l o):=rfl
def Wz:Option (Nat×Aa)->Nat->Aa->Prop
 |some (g',.map t l),g,.map t' l'=>g'=g/\t=t'/\l=l'
 |some (g',.row a b c l),g,.row a' b' c' l'=>g'=g/\a=a'/\b=b'/\c=c'/\l=l'
 |some (g',.cells l),g,.cells l'=>g'=g/\l=l'
 |some (g',.hist a b c),g,.hist a' b' c'=>g'=g/\a=a'/\b=b'/\c=c'
 |some (g',.rowH a b c d e),g,.rowH a' b' c' d' e'=>g'=g/\a=a'/\b=b'/\c=c'/\d=d'/\e=e'
 |some (g',.mat a b c d e),g,.mat a' b' c' d' e'=>g'=g/\a=a'/\b=b'/\c=c'/\d=d'/\e=e'
 |_,_,_=>False
theorem iP {x:Option (Nat×Aa)}{g:Nat}{y:Aa}:Wz x g y=(x=some (g,y)):=by
 cases x with
 |none=>simp[Wz]
 |some p=>obtain⟨g',z⟩:=p;cases z<;>cases y<;>simp[Wz]
theorem dY {g' a b c l g a' b' c' l'}:Wz (some (g',.row a b c l)) g (.row a' b' c' l')=(g'=g/\a=a'/\b=b'/\c=c'/\l=l'):=rfl
theorem dZ {g' a b c d e g a' b' c' d' e'}:Wz (some (g',.mat a b c d e)) g (.mat a' b' c' d' e')=(g'=g/\a=a'/\b=b'/\c=c'/\d=d'/\e=e'):=rfl
theorem Wy {g' l g l'}:Wz (some (g',.cells l)) g (.cells l')=(g'=g/\l=l'):=rfl
theorem iO:dX V []=True:=rfl
theorem dW {o g x l}:dX V ((o,g,x)::l)=(Wz (V.ob o) g x/\dX V l):=by rw[iP];rfl
end
def kB (K:AV->Bq->Prop):D->Prop
 |.bool b=>(b=true->K (.d (.bool true)) .none)/\(b=false->K (.d (.bool false)) .none)
 |r=>K (up r) .none
theorem iJ {K:AV->Bq->Prop} {b}:kB K (.bool b)=((b=true->K (.d (.bool true)) .none)/\(b=false->K (.d (.bool false)) .none)):=rfl
theorem k_ {K:AV->Bq->Prop} {k n}:kB K (.int k n)=K (.d (.int k n)) .none:=rfl
theorem iI {K:AV->Bq->Prop} {n l}:kB K (.list n l)=K (.d (.list n l)) .none:=rfl
theorem lA {K:AV->Bq->Prop} {l}:kB K (.agg l)=K (.d (.agg l)) .none:=rfl
theorem k9 {K:AV->Bq->Prop} {l}:kB K (.tup l)=K (.tup (l.map .d)) .none:=rfl
theorem mb {K:AV->Bq->Prop} {f l}:kB K (.fn f l)=K (.d (.fn f l)) .none:=rfl
theorem AE {E:Cl}{dst:Option Nat}{V:AJ}{K:AV->Bq->Prop}{f:FuncId}{xs:List AV}{ds:List D}{r:D}(h:CI E f ds r) (hk:kB K r)
  (ha:Fk xs=some ds\/(Vn V xs=some ds/\r.flat=true):=by first|exact .inl rfl|exact .inr ⟨rfl,rfl⟩):Dz E dst V f xs K:=by
 have hu:K (up r) .none:=by
  cases r with
  |bool b=>cases b with
   |true=>exact hk.1 rfl
   |false=>exact hk.2 rfl
  |_=>exact hk
 exact ha.elim (fun h1=>HV h h1 hu) fun h1=>lp h h1.1 h1.2 hu
theorem aI {a b:Prop}(h:a) (k:b):a/\b:=⟨h,k⟩
theorem tI:True:=⟨⟩
theorem Bj {z:Nat}{K:AV->Bq->Prop}{r r':D}(hz:JR=z) (h:r=r'):kB K r=kB K r':=by rw[h]
theorem isCall {E:Cl}{dst:Option Nat}{V:AJ}{K:AV->Bq->Prop}{f:FuncId}{xs:List AV}(h:Dz E dst V f xs K):Dz E dst V f xs K:=h
theorem Ao {α:Type}{S:BV}{T:α->BV}{I M:α->Prop}(h:∃y,S=T y/\I y/\M y):∃y,S=T y/\I y/\M y:=h
theorem Am {α β:Type}{S:BV}{T:α×β->BV}{I M:α×β->Prop}(h:∃y,S=T y/\I y/\M y):∃y,S=T y/\I y/\M y:=h
theorem BZ {α β γ:Type}{S:BV}{T:α×β×γ->BV}{I M:α×β×γ->Prop}(h:∃y,S=T y/\I y/\M y):∃y,S=T y/\I y/\M y:=h
theorem CW {α β γ δ:Type}{S:BV}{T:α×β×γ×δ->BV}{I M:α×β×γ×δ->Prop}(h:∃y,S=T y/\I y/\M y):∃y,S=T y/\I y/\M y:=h
theorem ku {m k a}:Ff m k a []=some a:=rfl
theorem kx {k:IntKind}{a b:Int} {rest}:Ff true k a (.d (.int k b)::rest)=Ff true k (max a b) rest:=by
 simp only[Ff,if_true,g8];congr 1;omega
theorem kw {k:IntKind}{a b:Int} {rest}:Ff false k a (.d (.int k b)::rest)=Ff false k (min a b) rest:=by
 simp only[Ff,if_true,g7,Bool.false_eq_true,if_false];congr 1;omega
theorem Yj {α:Type}(xs:List α) (a:Nat):(xs.drop a).take (xs.length-a)=xs.drop a:=List.take_of_length_le (by simp)
theorem Yn (n:Nat):n-0=n:=rfl
def o6 (a b:List D):Prop:=E_ a b=true
section
variable {E:Cl}{dst:Option Nat}{V:AJ}{K:AV->Bq->Prop}
end
def pK (E:Cl) (p:PC) (Q:B2->BV->Prop) (s:BV):Prop:=∃e s',Q e s'/\∀Q':B2->BV->Prop,Q' e s'->pw E p Q' s
attribute [go_sem] ld gU gY kf cO kd gZ cP gW ke Sm WE Yi Rm Xi Vk W5 VA dg dh iZ mh di dr dl ib W_ dk ia W9 du lO df gf cV de iY mg Zi gd gc bd Y6 be WU Y7 kZ ka ZX Wq ez m9 d9 nQ mE fq kC kA fk fo ft kD mD j_ fu bN lP ic lR mj ii d5 d7 Zn d6 Zl XA ig Zm lQ d0 ij d8 lS d4 bE bF List.flatMap_cons List.flatMap_nil Yx WO Yy bS Xg gu SA gS ZH ZR gi UH fj iV iW iU cQ cR ew ey aY jS iH cm LY dH Wr ZY lM bA fc a_ i8 Ws U3 cf cg Wd mR ZS go gn ci co kn cq ZT h_ mP gh kj eZ aH aG eY ln jD ll jE jB jC lj mu mt j6 fh mC ZZ Wt j7 jV nC lq nB dE nx mz jQ Zp XF Zq XG aR Xe aU j5 fe j0 lX iq lc lW VO TM TN Zw TI PP TQ Rc XR iu XQ lZ iw XS iy TJ XJ TP Rb Qf VS XP eR TL XK VN TK XL XM XN VK VL VQ VP eS Wh Us Zu ir io VM eL eM Zt Zs VR Qe XI Ra lY kT kS kR XO Zy Zx Zz eP Zv XU XV Z0 XW VT XT kg kh jO jI jJ jL jM jN ZO aE Z2 Z8 Z6 Z5 Z4 Z3 aD eT Z1 Ur TA Wf Wg Yj Yn ku kx kw Xb Mg K6 TD B5 Zd Zb dV Zc dT dU Wx Za bB Ye Ut MN bu bv Ul mW mV aN jA aM db Zf dY dZ Wy iO dW bw ZB kX kY f7 f6 f5 kH f_ f9 Yw kG kI kO gL mJ f4 ZQ l_ mA List.map_cons List.map_nil List.zipIdx_cons List.zipIdx_nil List.zip_cons_cons List.zip_nil_left List.length_cons List.length_nil List.getElem?_cons_zero List.getElem?_cons_succ List.drop_zero List.drop_succ_cons List.take_succ_cons List.take_zero List.take_nil List.drop_nil List.contains_cons List.contains_nil List.filter_cons List.filter_nil List.all_cons List.all_nil List.cons_append List.nil_append List.append_nil List.set_cons_zero List.set_cons_succ Yp List.replicate_succ List.replicate_zero List.isEmpty_cons List.isEmpty_nil List.length_map id_eq Nat.lt_irrefl Nat.zero_add Nat.add_zero Nat.zero_mul Nat.one_mul Nat.mul_one if_true if_false Bool.false_eq_true Bool.not_true Bool.not_false Bool.true_or Bool.false_or Bool.or_true Bool.or_false Bool.true_and Bool.false_and Bool.and_true Bool.and_false beq_self_eq_true Bool.and_self Bool.or_self true_and and_true false_and and_false ite_self exists_prop_of_true exists_prop not_false_eq_true not_true_eq_false forall_const eq_self and_self true_implies false_implies implies_true ne_eq List.cons_ne_nil Nat.le_refl Nat.not_lt_zero bb Y5 bZ Y3 Y4 WS Y1 WR Int.toNat_natCast Int.toNat_zero em k8 kc an Uu aX V9 T1 aZ Vu fU kq gx Uy gv Ux ZW OK mT ZP nc kr ZK S9 Y0 WQ Uk Y' iJ k_ iI lA k9 mb
attribute [go_sem_proc] Nat.reduceAdd Nat.reduceSub Nat.reduceMul Nat.reduceEqDiff Nat.reduceBEq Nat.reduceLeDiff Nat.reduceLT Int.reduceToNat Int.reduceLE Int.reduceLT Int.reduceNeg reduceIte reduceCtorEq Int.reduceEq Int.reduceAdd Int.reduceSub Int.reduceMul
end Go.Pw
