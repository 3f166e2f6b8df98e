/- A part of the proof. -/
import Derived.Test.YtpcpcjbbdgmohaaDoorPkZa
import Derived.IntWalk
set_option linter.all false
namespace Go.Pw
def I6:Nat:=0
theorem eN:I6=0:=Eq.symm (Eq.symm rfl)
def JZ (v:AV) (b:Bool) (A B:Prop):Prop :=
 match v with
 |.d (.bool b')=>Gk (b == b') A B
 |.tup []=>B
 |_=>False
def Tz (v:AV) (t:Nat) (sl:Nat->AV) (V:AI) (KS:BO->Prop):Prop :=
 match v with
 |.own o g=>HA (V.get o g) fun _ _ nl l=>KS ⟨B8 sl t (.d (.list nl l)),V.drop o⟩
 |_=>KS ⟨sl,V⟩
def WD (v:AV) (t:Nat) (sl:Nat->AV) (V:AI) (KS:BO->Prop):Prop :=
 match v with
 |.ptr o g 0=>GM (V.get o g) fun xs=>Aq (A3 AV.toD1 xs) fun cs=>cs≠[]/\KS ⟨B8 sl t (.d (.ptr cs)),V.drop o⟩
 |_=>KS ⟨sl,V⟩
def f6 (y:Option AW) (o g:Nat) (sl:Nat->AV) (V:AI) (KS:BO->Prop):Prop :=
 match y with
 |some (.rowH ety l i q p)=>HA (V.get q p) fun _ _ nl xs=>KS ⟨sl,(V.drop q).app (.keep o g (.row ety 1 false (l.set i (.list nl xs))))⟩
 |_=>KS ⟨sl,V⟩
def gh (v:AV) (sl:Nat->AV) (V:AI) (KS:BO->Prop):Prop :=
 match v with
 |.own o g=>f6 (V.get o g) o g sl V KS
 |_=>KS ⟨sl,V⟩
def Yt (v:AV) (t:Nat) (sl:Nat->AV) (V:AI) (KS:BO->Prop):Prop :=
 match v with
 |.mref .out o g=>Ek (V.get o g) fun _ _ nl ix rows=>KS ⟨B8 sl t (.d (.list nl (I5 ix rows))),V.drop o⟩
 |_=>KS ⟨sl,V⟩
def Yx (x:Option AW) (t o:Nat) (sl:Nat->AV) (V:AI) (KS:BO->Prop):Prop :=
 match x with
 |some (.cells (c::l))=>KS ⟨B8 sl t (.ablk false (c::l) 0),V.drop o⟩
 |_=>False
def Yw (v:AV) (t:Nat) (sl:Nat->AV) (V:AI) (KS:BO->Prop):Prop :=
 match v with
 |.ptr o g 0=>Yx (V.get o g) t o sl V KS
 |_=>KS ⟨sl,V⟩
def SI (x:Option AV) (b g k:Nat) (xs:List AV) (sl:Nat->AV) (V:AI) (KS:BO->Prop):Prop :=
 match x with
 |some (.own o p)=>HA (V.get o p) fun _ _ nl l=>KS ⟨sl,(V.drop o).app (.keep b g (.cells (xs.set k (.d (.list nl l)))))⟩
 |_=>KS ⟨sl,V⟩
def WE (v:AV) (off:Nat) (sl:Nat->AV) (V:AI) (KS:BO->Prop):Prop :=
 match v with
 |.ptr b g f=>(match V.get b g with
  |some (.cells xs)=>SI xs[f+off]? b g (f+off) xs sl V KS
  |_=>KS ⟨sl,V⟩)
 |_=>KS ⟨sl,V⟩
def Yv (y:Option AW) (b g k:Nat) (sl:Nat->AV) (V:AI) (KS:BO->Prop):Prop :=
 match y with
 |some (.cells xs)=>SI xs[k]? b g k xs sl V KS
 |_=>KS ⟨sl,V⟩
def X1 (v:AV) (t o e1 e2:Nat) (sl:Nat->AV) (V:AI) (KS:BO->Prop):Prop :=
 match v with
 |.d (.list true [])=>o<Dv/\KS ⟨B8 sl t (.mref .out o (V.cn o)),V.app (.fresh o (.mat e1 e2 true [] []))⟩
 |_=>KS ⟨sl,V⟩
def Xz (v:AV) (t o ety es:Nat) (sl:Nat->AV) (V:AI) (KS:BO->Prop):Prop :=
 match v with
 |.d (.list true [])=>o<Dv/\KS ⟨B8 sl t (.own o (V.cn o)),V.app (.fresh o (.row ety es true []))⟩
 |_=>KS ⟨sl,V⟩
def fy (x:Option AV) (b g k o ety es:Nat) (xs:List AV) (sl:Nat->AV) (V:AI) (KS:BO->Prop):Prop :=
 match x with
 |some (.d (.list true []))=>o<Dv/\o≠b/\KS ⟨sl,(V.app (.fresh o (.row ety es true []))).app (.keep b g (.cells (xs.set k (.own o (V.cn o)))))⟩
 |_=>KS ⟨sl,V⟩
def fz (y:Option AW) (b g k o ety es:Nat) (sl:Nat->AV) (V:AI) (KS:BO->Prop):Prop :=
 match y with
 |some (.cells xs)=>fy xs[k]? b g k o ety es xs sl V KS
 |_=>KS ⟨sl,V⟩
def gY (v:AV) (off o ety es:Nat) (sl:Nat->AV) (V:AI) (KS:BO->Prop):Prop :=
 match v with
 |.ptr b g f=>fz (V.get b g) b g (f+off) o ety es sl V KS
 |_=>KS ⟨sl,V⟩
section
variable {E:Co}{Q:B7->BO->Prop}{s s':BO}{K:AV->Bh->Prop}{KS:BO->Prop}
theorem Bx {z:Nat}{p:PC}(hz:I6=z) (h:s=s'):pw E p Q s=pw E p Q s':=by rw[h]
theorem A9 {z:Nat}{l:List Ee}(hz:I6=z) (h:s=s'):Km E l s KS=Km E l s' KS:=by rw[h]
theorem Au {z:Nat}{I:Ee}(hz:I6=z) (h:s=s'):Dy E I s K=Dy E I s' K:=by rw[h]
theorem Bz {z:Nat}{dst:Option Nat}{op:Bw}{V V':AI}{xs xs':List AV}(hz:I6=z) (hV:V=V') (h:xs=xs'):ev E dst V op xs K=ev E dst V' op xs' K:=by rw[h,hV]
theorem A0 {z:Nat}{b:BinOp}{k k' k1 k2:IntKind}{x y x' y':Int}{C:AV->Prop}(hz:I6=z) (h1:k=k1) (h2:k'=k2) (hx:x=x') (hy:y=y'):DH b k k' x y C=DH b k1 k2 x' y' C:=by rw[h1,h2,hx,hy]
theorem A2 {z:Nat}{c c':Bool}{A B:Prop}(hz:I6=z) (h:c=c'):Gk c A B=Gk c' A B:=by rw[h]
theorem A1 {z:Nat}{v v':AV}{A B:Prop}(hz:I6=z) (h:v=v'):OT v A B=OT v' A B:=by rw[h]
theorem Ar {z:Nat}{e e':B7}{A:BO->Prop}(hz:I6=z) (he:e=e') (h:s=s'):JE A Q e s=JE A Q e' s':=by rw[he,h]
theorem An {z:Nat}{i:Nat}{e e':B7}(hz:I6=z) (he:e=e') (h:s=s'):IU i Q e s=IU i Q e' s':=by rw[he,h]
theorem Ai {α:Type}{z:Nat}{x y:Option α}{A:α->Prop}(hz:I6=z) (h:x=y):Aq x A=Aq y A:=by rw[h]
theorem Ab {z:Nat}{x y:Option AW} {A} (hz:I6=z) (h:x=y):GM x A=GM y A:=by rw[h]
theorem Av {z:Nat}{x y:Option AW} {A} (hz:I6=z) (h:x=y):HA x A=HA y A:=by rw[h]
theorem Ay {z:Nat}{x y:Option AW} {A} (hz:I6=z) (h:x=y):LS x A=LS y A:=by rw[h]
theorem Aw {α:Type}{z:Nat}{x y:Option α}{A:α->Prop}{B:Prop}(hz:I6=z) (h:x=y):Ph x A B=Ph y A B:=by rw[h]
theorem Al {z:Nat}{gs:List E8}(hz:I6=z) (h:s=s'):Cd gs s KS=Cd gs s' KS:=by rw[h]
theorem Az {z:Nat}{g:E8}(hz:I6=z) (h:s=s'):El g s KS=El g s' KS:=by rw[h]
theorem Am {z:Nat}{dst:Option Nat}{V V':AI}{f:FuncId}{xs xs':List AV}(hz:I6=z) (hV:V=V') (h:xs=xs'):Dl E dst V f xs K=Dl E dst V' f xs' K:=by rw[h,hV]
theorem BB {z:Nat}{α:Type}{ag:Bool}{n n':Nat}{cs cs':List α}{off off':Nat}{mk:List α->AV}{one:α->AV}{C:AV->Prop}(hz:I6=z) (hn:n=n') (h:cs=cs') (ho:off=off'):Bp ag n cs off mk one C=Bp ag n' cs' off' mk one C:=by rw[hn,h,ho]
theorem BT {z:Nat}{lo hi:Bool}{n n':Nat}{xs xs':List AV}{C:Nat->Nat->Prop}(hz:I6=z) (hn:n=n') (h:xs=xs'):LM lo hi n xs C=LM lo hi n' xs' C:=by rw[hn,h]
theorem Ak {z:Nat}{v v':AV}{b:Bool}{A B:Prop}(hz:I6=z) (h:v=v'):JZ v b A B=JZ v' b A B:=by rw[h]
theorem BE {z:Nat}{v v':AV}{t:Nat}{sl:Nat->AV}{V:AI}(hz:I6=z) (h:v=v'):Tz v t sl V KS=Tz v' t sl V KS:=by rw[h]
theorem BC {z:Nat}{v v':AV}{t o ety es:Nat}{sl:Nat->AV}{V:AI}(hz:I6=z) (h:v=v'):Xz v t o ety es sl V KS=Xz v' t o ety es sl V KS:=by rw[h]
theorem A' {z:Nat}{rs:List RT}{K:List AV->Prop}(hz:I6=z) (h:s=s'):I4 E s rs K=I4 E s' rs K:=by rw[h]
theorem BA {z:Nat}{r:RT}{K:AV->Prop}(hz:I6=z) (h:s=s'):TM E s r K=TM E s' r K:=by rw[h]
theorem AN {b:Bool}{A B:Prop}(h1:b=true->A) (h2:b=false->B):Gk b A B:=⟨h1,h2⟩
theorem Z1 {d t b op xs} {sl:Nat->AV}{V:AI}:Dy E ⟨d,some (t,b),op,xs⟩ ⟨sl,V⟩ K=JZ (sl t) b (ev E d V op (xs.map (JC.val sl)) K) (K (.tup []) .none):=rfl
theorem bP {b:Bool}{A B:Prop}:JZ (.d (.bool b)) true A B=Gk b A B:=by simp[JZ]
theorem bQ {b:Bool}{A B:Prop}:JZ (.d (.bool b)) false A B=Gk b B A:=by cases b<;>simp[JZ]
theorem bO {b:Bool}{A B:Prop}:JZ (.tup []) b A B=B:=rfl
theorem Yj {t:Nat}{sl:Nat->AV}{V:AI}:El (.freeze t) ⟨sl,V⟩ KS=Tz (sl t) t sl V KS:=by
 simp only[El,Tz]
 cases sl t with
 |own o g=>simp only;cases V.get o g with
  |none=>rfl
  |some x=>cases x<;>rfl
 |_=>rfl
theorem bS {t o g:Nat}{sl:Nat->AV}{V:AI}:Tz (.own o g) t sl V KS=HA (V.get o g) fun _ _ nl l=>KS ⟨B8 sl t (.d (.list nl l)),V.drop o⟩:=rfl
theorem fH {t:Nat}{x:D}{sl:Nat->AV}{V:AI}:Tz (.d x) t sl V KS=KS ⟨sl,V⟩:=rfl
theorem WC {t:Nat}{sl:Nat->AV}{V:AI}:Tz .undef t sl V KS=KS ⟨sl,V⟩:=rfl
theorem Yk {t:Nat}{sl:Nat->AV}{V:AI}:El (.frzP t) ⟨sl,V⟩ KS=WD (sl t) t sl V KS:=by
 simp only[El,WD]
 cases sl t with
 |ptr o g f =>
  cases f with
  |zero =>
   simp only;cases V.get o g with
   |none=>rfl
   |some x =>
    cases x with
    |cells xs =>
     simp only[GM]
     cases A3 AV.toD1 xs with
     |none=>rfl
     |some l=>cases l<;>simp[Aq]
    |_=>rfl
  |succ n=>rfl
 |_=>rfl
theorem bT {t o g:Nat}{sl:Nat->AV}{V:AI}:WD (.ptr o g 0) t sl V KS=GM (V.get o g) fun xs=>Aq (A3 AV.toD1 xs) fun cs=>cs≠[]/\KS ⟨B8 sl t (.d (.ptr cs)),V.drop o⟩:=rfl
theorem fI {t:Nat}{x:D}{sl:Nat->AV}{V:AI}:WD (.d x) t sl V KS=KS ⟨sl,V⟩:=rfl
theorem BF {z:Nat}{v v':AV}{t:Nat}{sl:Nat->AV}{V:AI}(hz:I6=z) (h:v=v'):WD v t sl V KS=WD v' t sl V KS:=by rw[h]
theorem Aj {z:Nat}{x y:Option AW} {A B} (hz:I6=z) (h:x=y):Kp x A B=Kp y A B:=by rw[h]
theorem Yh {t o ety es:Nat}{sl:Nat->AV}{V:AI}:El (.own t o ety es) ⟨sl,V⟩ KS=Xz (sl t) t o ety es sl V KS:=rfl
theorem Yl {t:Nat}{sl:Nat->AV}{V:AI}:El (.frzM t) ⟨sl,V⟩ KS=Yt (sl t) t sl V KS:=by
 simp only[El,Yt]
 cases sl t with
 |mref k o g =>
  cases k with
  |out=>simp only;cases V.get o g with
   |none=>rfl
   |some x=>cases x<;>rfl
  |_=>rfl
 |_=>rfl
theorem Ys {t o g:Nat}{sl:Nat->AV}{V:AI}:Yt (.mref .out o g) t sl V KS=Ek (V.get o g) fun _ _ nl ix rows=>KS ⟨B8 sl t (.d (.list nl (I5 ix rows))),V.drop o⟩:=rfl
theorem BG {z:Nat}{v v':AV}{t:Nat}{sl:Nat->AV}{V:AI}(hz:I6=z) (h:v=v'):Yt v t sl V KS=Yt v' t sl V KS:=by rw[h]
theorem Yn {t:Nat}{sl:Nat->AV}{V:AI}:El (.frzA t) ⟨sl,V⟩ KS=Yw (sl t) t sl V KS:=by
 simp only[El,Yw]
 cases sl t with
 |ptr o g f =>
  cases f with
  |zero=>rfl
  |succ n=>rfl
 |_=>rfl
theorem bV {t o g:Nat}{sl:Nat->AV}{V:AI}:Yw (.ptr o g 0) t sl V KS=Yx (V.get o g) t o sl V KS:=rfl
theorem T1 {t o:Nat}{c:AV}{l:List AV}{sl:Nat->AV}{V:AI}:Yx (some (.cells (c::l))) t o sl V KS=KS ⟨B8 sl t (.ablk false (c::l) 0),V.drop o⟩:=rfl
theorem BK {z:Nat}{v v':AV}{t:Nat}{sl:Nat->AV}{V:AI}(hz:I6=z) (h:v=v'):Yw v t sl V KS=Yw v' t sl V KS:=by rw[h]
theorem BL {z:Nat}{y y':Option AW}{t o:Nat}{sl:Nat->AV}{V:AI}(hz:I6=z) (h:y=y'):Yx y t o sl V KS=Yx y' t o sl V KS:=by rw[h]
theorem Ym {t off:Nat}{sl:Nat->AV}{V:AI}:El (.frzC t off) ⟨sl,V⟩ KS=WE (sl t) off sl V KS:=by
 simp only[El,WE]
 cases sl t with
 |ptr b g f =>
  simp only
  cases V.get b g with
  |none=>rfl
  |some x =>
   cases x with
   |cells xs =>
    simp only[SI]
    cases xs[f+off]? with
    |none=>rfl
    |some y =>
     cases y with
     |own o p=>simp only;cases V.get o p with
      |none=>rfl
      |some z=>cases z<;>rfl
     |_=>rfl
   |_=>rfl
 |_=>rfl
theorem bU {b g f off:Nat}{sl:Nat->AV}{V:AI}:WE (.ptr b g f) off sl V KS=Yv (V.get b g) b g (f+off) sl V KS:=by
 simp only[WE,Yv]
theorem T0 {b g k:Nat}{xs:List AV}{sl:Nat->AV}{V:AI}:Yv (some (.cells xs)) b g k sl V KS=SI xs[k]? b g k xs sl V KS:=rfl
theorem Yu {b g k o p:Nat}{xs:List AV}{sl:Nat->AV}{V:AI}:SI (some (.own o p)) b g k xs sl V KS=HA (V.get o p) fun _ _ nl l=>KS ⟨sl,(V.drop o).app (.keep b g (.cells (xs.set k (.d (.list nl l)))))⟩:=rfl
theorem d9 {b g k:Nat}{x:D}{xs:List AV}{sl:Nat->AV}{V:AI}:SI (some (.d x)) b g k xs sl V KS=KS ⟨sl,V⟩:=rfl
theorem BI {z:Nat}{v v':AV}{off:Nat}{sl:Nat->AV}{V:AI}(hz:I6=z) (h:v=v'):WE v off sl V KS=WE v' off sl V KS:=by rw[h]
theorem BJ {z:Nat}{y y':Option AW}{b g k k':Nat}{sl:Nat->AV}{V:AI}(hz:I6=z) (h:y=y') (hk:k=k'):Yv y b g k sl V KS=Yv y' b g k' sl V KS:=by rw[h,hk]
theorem BH {z:Nat}{y y':Option AV}{b g k:Nat}{xs:List AV}{sl:Nat->AV}{V:AI}(hz:I6=z) (h:y=y'):SI y b g k xs sl V KS=SI y' b g k xs sl V KS:=by rw[h]
theorem Yi {t o e1 e2:Nat}{sl:Nat->AV}{V:AI}:El (.ownM t o e1 e2) ⟨sl,V⟩ KS=X1 (sl t) t o e1 e2 sl V KS:=rfl
theorem ae {t o e1 e2:Nat}{sl:Nat->AV}{V:AI}:X1 (.d (.list true [])) t o e1 e2 sl V KS=(o<Dv/\KS ⟨B8 sl t (.mref .out o (V.cn o)),V.app (.fresh o (.mat e1 e2 true [] []))⟩):=rfl
theorem X0 {t o e1 e2:Nat} {k o' g} {sl:Nat->AV}{V:AI}:X1 (.mref k o' g) t o e1 e2 sl V KS=KS ⟨sl,V⟩:=rfl
theorem BD {z:Nat}{v v':AV}{t o e1 e2:Nat}{sl:Nat->AV}{V:AI}(hz:I6=z) (h:v=v'):X1 v t o e1 e2 sl V KS=X1 v' t o e1 e2 sl V KS:=by rw[h]
theorem Ax {z:Nat}{x y:Option AW} {A} (hz:I6=z) (h:x=y):Ek x A=Ek y A:=by rw[h]
theorem ab {t o ety es:Nat}{sl:Nat->AV}{V:AI}:Xz (.d (.list true [])) t o ety es sl V KS=(o<Dv/\KS ⟨B8 sl t (.own o (V.cn o)),V.app (.fresh o (.row ety es true []))⟩):=rfl
theorem aZ {t o ety es o' g:Nat}{sl:Nat->AV}{V:AI}:Xz (.own o' g) t o ety es sl V KS=KS ⟨sl,V⟩:=rfl
end
theorem Zt {α:Type}(f:Nat->α) (i:Nat) (x:α) (j:Nat):B8 f i x j=if j=i then x else f j:=rfl
theorem XA (f:Nat->Nat) (i x y:Nat):B8 (B8 f i x) i y=B8 f i y:=by funext j;simp only[B8];split<;>rfl
theorem eu {x:D}:(AV.d x).one=x.one:=rfl
theorem ah {o g}:(AV.own o g).one=true:=rfl
theorem dg {f c}:(AV.fn f c).one=true:=rfl
theorem ZJ {k n}:(D.int k n).one=true:=rfl
theorem Wk {b}:(D.bool b).one=true:=rfl
theorem Wj {n l}:(D.list n l).one=true:=rfl
theorem eT {c}:(AV.agg c).cells?=some c:=rfl
theorem bu {c}:(AV.d (.agg c)).cells?=some (c.map .d):=rfl
theorem eS {k n}:(AV.d (.int k n)).cells?=some [.d (.int k n)]:=rfl
theorem bv {b}:(AV.d (.bool b)).cells?=some [.d (.bool b)]:=rfl
theorem bt {n l}:(AV.d (.list n l)).cells?=some [.d (.list n l)]:=rfl
theorem eR {o g}:(AV.own o g).cells?=some [.own o g]:=rfl
theorem fP {l}:(AV.ex l).cells?=some [.ex l]:=rfl
theorem fO {f c}:(AV.fn f c).cells?=some [.fn f c]:=rfl
theorem c_ {k n}:AV.toD0 (.d (.int k n))=some (.int k n):=rfl
theorem c8 {k n}:AV.toD1 (.d (.int k n))=some (.int k n):=rfl
theorem Zz {n l}:AV.toD1 (.d (.list n l))=some (.list n l):=rfl
theorem Z0 {l}:AV.toD1 (.d (.agg l))=some (.agg l):=rfl
theorem eg {l}:AV.toD1 (.ex l)=some (.list false l):=rfl
theorem V4 {α β:Type}{f:α->Option β}:A3 f []=some []:=rfl
theorem Tk {α β:Type}{f:α->Option β}{x:α}{xs:List α}:A3 f (x::xs)=match f x with
 |none=>none
 |some y=>match A3 f xs with|none=>none|some ys=>some (y::ys):=rfl
theorem c9 {cs}:AV.toD1 (.agg cs)=match A3 AV.toD0 cs with|some l=>some (.agg l)|none=>none:=rfl
theorem cN {V:AI} {n l}:(AV.d (.list n l)).asList V=some (n,l):=rfl
theorem fU {V:AI} {l}:(AV.ex l).asList V=some (false,l):=rfl
theorem eV {V:AI} {o g}:(AV.own o g).asList V=match V.get o g with|some (.row _ _ nil xs)=>some (nil,xs)|_=>none:=rfl
theorem fT {V:AI} {o g}:(AV.mref .out o g).asList V=match V.get o g with|some (.mat _ _ nil ix rows)=>some (nil,I5 ix rows)|_=>none:=rfl
theorem YO {ix rows}:(I5 ix rows).length=ix.length:=by simp[I5]
theorem f8 {V:AI} {x}:Dw V none (.d x)=match (AV.d x).asList V with|some (_,ys)=>some ys|none=>none:=rfl
theorem fQ {V:AI} {x}:Dw V none (.ex x)=match (AV.ex x).asList V with|some (_,ys)=>some ys|none=>none:=rfl
theorem cI {V:AI} {z n}:Dw V (some z) (.d (.int .i64 n))=if 0<=n/\n<=(Ce:Int) then some (List.replicate n.toNat z) else none:=rfl
theorem WK {es xs}:E5 es xs []=some xs:=rfl
theorem T6 {es xs i v rest}:E5 es xs ((i,v)::rest)=match v.toD1 with
 |none=>none
 |some x=>if x.cells.length=es/\i<xs.length then E5 es (xs.set i x) rest else none:=rfl
theorem WL {cs}:KT cs []=some cs:=rfl
theorem T7 {cs off size v rest}:KT cs (((off,size),v)::rest)=match v.cells? with
 |none=>none
 |some vs=>if vs.length=size/\off+size<=cs.length then KT (BS cs off vs) rest else none:=rfl
theorem Wr {k n}:(D.int k n).cells=[.int k n]:=rfl
theorem US {n l}:(D.list n l).cells=[.list n l]:=rfl
theorem Ws {l}:(D.agg l).cells=l:=rfl
theorem cz {k n}:up (.int k n)=.d (.int k n):=rfl
theorem Zu {b}:up (.bool b)=.d (.bool b):=rfl
theorem cy {l}:up (.tup l)=.tup (l.map .d):=rfl
theorem VW:Bh.site .none=[]:=rfl
theorem XU {a b}:Bh.site (.seq a b)=a.site++b.site:=rfl
theorem TF {o x}:Bh.site (.fresh o x)=[o]:=rfl
theorem VX {o g x}:Bh.site (.keep o g x)=[o]:=rfl
def A4 (xs:List Int):List D:=xs.map (D.int .i64)
@[simp] theorem SC:A4 []=[]:=rfl
theorem Qa (xs:List Int):(A4 xs=[])=(xs=[]):=by cases xs<;>simp[A4]
theorem CK (xs:List Int):(A4 xs).length=xs.length:=by simp[A4]
theorem V9 (xs:List Int) (n:Nat):(A4 xs).drop n=A4 (xs.drop n):=by simp[A4]
theorem V7 (xs:List Int) (n:Nat):(A4 xs).take n=A4 (xs.take n):=by simp[A4]
theorem YY (xs ys:List Int):A4 xs++A4 ys=A4 (xs++ys):=by simp[A4]
theorem V8 (xs:List Int) (y:Int):A4 xs++[.int .i64 y]=A4 (xs++[y]):=by simp[A4]
theorem YW (xs:List Int) (i:Nat) (y:Int):(A4 xs).set i (.int .i64 y)=A4 (xs.set i y):=by simp[A4,List.map_set]
theorem YX (n:Nat) (y:Int):List.replicate n (D.int .i64 y)=A4 (List.replicate n y):=by simp[A4]
theorem Tp (xs:List Int):(A4 xs).isEmpty=xs.isEmpty:=by cases xs<;>rfl
theorem V6 (xs:List Int):Cn 1 (A4 xs)=True:=by
 simp only[Cn,A4,eq_iff_iff,iff_true];intro x hx;simp at hx;obtain⟨n,_,rfl⟩:=hx;rfl
theorem XC {es:Nat}:Cn es []=True:=by simp[Cn]
theorem VJ {es:Nat}{x:D}{l:List D}:Cn es (x::l)=(x.cells.length=es/\Cn es l):=by simp[Cn]
theorem RO {α:Type}{es:Nat}{f:α->D}{l:List α}(h:∀x,(f x).cells.length=es):Cn es (l.map f)=True:=by
 simp only[Cn,eq_iff_iff,iff_true];intro x hx;simp at hx;obtain⟨y,_,rfl⟩:=hx;exact h y
theorem R1 {xs:List Int}{i:Nat}{A:D->Prop}:Aq (A4 xs)[i]? A=(i<xs.length/\A (.int .i64 (xs[i]?.getD 0))):=by
 unfold A4
 rw[List.getElem?_map]
 by_cases h:i<xs.length
 ·simp[h,Aq]
 ·have:xs[i]?=none:=List.getElem?_eq_none (by omega)
  simp[this,h,Aq]
theorem IE {α:Type} [Inhabited α] {f:α->D}{xs:List α}{i:Nat}{A:D->Prop}:Aq (xs.map f)[i]? A=(i<xs.length/\A (f (xs[i]?.getD default))):=by
 rw[List.getElem?_map]
 by_cases h:i<xs.length
 ·simp[h,Aq]
 ·have:xs[i]?=none:=List.getElem?_eq_none (by omega)
  simp[this,h,Aq]
theorem Rz {xs:List Nat}{i:Nat}{A:Nat->Prop}:Aq xs[i]? A=(i<xs.length/\A (xs[i]?.getD 0)):=by
 by_cases h:i<xs.length
 ·simp[h,Aq]
 ·have:xs[i]?=none:=List.getElem?_eq_none (by omega)
  simp[this,h,Aq]
def gG {α:Type}(f:α->D) (M:List (List α)):List (Bool×List D):=M.map fun r=>(false,r.map f)
section
variable {E:Co}{dst:Option Nat}{V:AI}{K:AV->Bh->Prop}{f:FuncId}{xs:List AV}
theorem Ew {ds:List D}{r:D}(h:DE E f ds r) (ha:Gn xs=some ds) (hk:K (up r) .none):Dl E dst V f xs K:=.inl ⟨ds,r,ha,h,hk⟩
theorem Mb {ds:List D}{r:D}(h:DE E f ds r) (ha:P6 V xs=some ds) (hf:r.flat=true) (hk:K (up r) .none):Dl E dst V f xs K:=.inr (.inl ⟨ds,r,ha,h,hf,hk⟩)
end
section
variable {E:Co}{Q:B7->BO->Prop}{s:BO}
def Xe (l:List (Nat×AV)) (k:Nat) (v:AV):List (Nat×AV):=l.map fun p=>if p.1=k then (k,v) else p
def Xc (l:List (Nat×(Nat×AW))) (k:Nat) (x:AW):List (Nat×(Nat×AW)):=l.map fun p=>if p.1=k then (k,(0,x)) else p
def Ml (l:List (Nat×AV)):List (Nat×AV)->List (Nat×AV)
 |[]=>l
 |(k,v)::r=>Xe (Ml l r) k v
def Mk (l:List (Nat×(Nat×AW))):List (Nat×AW)->List (Nat×(Nat×AW))
 |[]=>l
 |(k,v)::r=>Xc (Mk l r) k v
theorem Xd {k:Nat}{v:AV}:Xe [] k v=[]:=rfl
theorem Ve {a k:Nat}{b v:AV} {l}:Xe ((a,b)::l) k v=(if a=k then (k,v) else (a,b))::Xe l k v:=rfl
theorem Xb {k:Nat}{v:AW}:Xc [] k v=[]:=rfl
theorem Vc {a k:Nat}{b:Nat×AW}{v:AW} {l}:Xc ((a,b)::l) k v=(if a=k then (k,(0,v)) else (a,b))::Xc l k v:=rfl
theorem Vd {l}:Ml l []=l:=rfl
theorem TI {l k v r}:Ml l ((k,v)::r)=Xe (Ml l r) k v:=rfl
theorem Va {l}:Mk l []=l:=rfl
theorem TH {l k v r}:Mk l ((k,v)::r)=Xc (Mk l r) k v:=rfl
theorem ed {f:Nat->AV}{n:Nat}:JC.val f (.t n)=f n:=rfl
theorem ef {f:Nat->AV}{v:AV}:JC.val f (.k v)=v:=rfl
theorem VQ {α:Type}(cs:List α) (off:Nat) (vs:List α):BS cs off vs=cs.take off++vs++cs.drop (off+vs.length):=rfl
theorem AX {α:Type}(up:α->List (Nat×AV)) (uo:α->List (Nat×AW)) (Inv:α->Prop) (μ:α->Nat) (x0:α) {gs:List E8}{ks os:List Nat}{a:PC}
  {l0:List (Nat×AV)}{m0:List (Nat×(Nat×AW))}(h0:Cd gs s fun s1=>s1.nrm ks os=⟨F5 l0,⟨Bl m0,fun _=>1⟩⟩)
  (he:Ml l0 (up x0)=l0) (he':Mk m0 (uo x0)=m0) (hI:Inv x0)
  (step:∀x,Inv x->pw E a (JE (fun s'=>Cd gs s' fun s1=>∃y,s1.nrm ks os=⟨F5 (Ml l0 (up y)),⟨Bl (Mk m0 (uo y)),fun _=>1⟩⟩/\Inv y/\μ y<μ x) Q) ⟨F5 (Ml l0 (up x)),⟨Bl (Mk m0 (uo x)),fun _=>1⟩⟩) :
  pw E (.loop gs ks os a) Q s :=
 Xt (fun x=>⟨F5 (Ml l0 (up x)),⟨Bl (Mk m0 (uo x)),fun _=>1⟩⟩) Inv μ x0 (by rw[he,he'];exact h0) hI step
end
theorem Af (n:Int) (h:-9223372036854775808<=n/\n<=9223372036854775807):IntKind.i64.wrap n=n:=Go.IntWalk.i64_in n h
theorem Xl {E:Co} {rs r s}:ep E rs r .ret s=I4 E s rs (Mj s.V r):=rfl
theorem Xn {E:Co} {s K}:I4 E s [] K=K []:=rfl
theorem Vj {E:Co} {s r l K}:I4 E s (r::l) K=TM E s r fun v=>I4 E s l fun vs=>K (v::vs):=rfl
theorem dT {E:Co} {s n K}:TM E s (.t n) K=K (s.sl n):=rfl
theorem dU {E:Co} {s a ty ag n K}:TM E s (.c a ty ag n) K=ev E none s.V (.load ag n) [s.sl a] fun v _=>K v:=rfl
theorem aA {V r v}:Mj V r [v]=(v.snap V=some r):=rfl
theorem Z' {V r v u}:Mj V r [v,u]=((A3 (AV.snap V) [v,u]).map .tup=some r):=rfl
theorem Z_ {V r v u t}:Mj V r [v,u,t]=((A3 (AV.snap V) [v,u,t]).map .tup=some r):=rfl
theorem dI {V k n}:AV.snap V (.d (.int k n))=some (.int k n):=rfl
theorem aD {V b}:AV.snap V (.d (.bool b))=some (.bool b):=rfl
theorem aB {V n l}:AV.snap V (.d (.list n l))=some (.list n l):=rfl
theorem ej {V l}:AV.snap V (.ex l)=some (.list false l):=rfl
theorem dH {V o g}:AV.snap V (.own o g)=match V.get o g with|some (.row _ _ nil xs)=>some (.list nil xs)|_=>none:=rfl
theorem dJ {V cs}:AV.snap V (.agg cs)=match A3 (AV.snap0 V) cs with|some l=>some (.agg l)|none=>none:=rfl
theorem dM {V k n}:AV.snap0 V (.d (.int k n))=some (.int k n):=rfl
theorem aL {V n l}:AV.snap0 V (.d (.list n l))=some (.list n l):=rfl
theorem en {V l}:AV.snap0 V (.ex l)=some (.list false l):=rfl
theorem Z9 {α:Type}{a b:α}:(some a=some b)=(a=b):=by simp
theorem Vr {α β:Type}{f:α->β}{a:α}:Option.map f (some a)=some (f a):=rfl
section
variable {k k':IntKind}{a b:Int}{C:AV->Prop}
theorem cB:DH .eql k k' a b C=(k=k'/\(a=b->C (.d (.bool true)))/\(¬a=b->C (.d (.bool false)))):=by
 rw[We];by_cases h:a=b<;>simp[h]
theorem bw:DH .neq k k' a b C=(k=k'/\(a=b->C (.d (.bool false)))/\(¬a=b->C (.d (.bool true)))):=by
 rw[WY];by_cases h:a=b<;>simp[h]
theorem bx:DH .lss k k' a b C=(k=k'/\(a<b->C (.d (.bool true)))/\(¬a<b->C (.d (.bool false)))):=by
 rw[Wa];by_cases h:a<b<;>simp[h]
theorem b8:DH .leq k k' a b C=(k=k'/\(a<=b->C (.d (.bool true)))/\(¬a<=b->C (.d (.bool false)))):=by
 rw[Wb];by_cases h:a<=b<;>simp[h]
theorem b9:DH .gtr k k' a b C=(k=k'/\(b<a->C (.d (.bool true)))/\(¬b<a->C (.d (.bool false)))):=by
 rw[Wc];by_cases h:b<a<;>simp[h]
theorem b_:DH .geq k k' a b C=(k=k'/\(b<=a->C (.d (.bool true)))/\(¬b<=a->C (.d (.bool false)))):=by
 rw[Wd];by_cases h:b<=a<;>simp[h]
end
section
variable {E:Co}{dst:Option Nat}{V:AI}{K:AV->Bh->Prop}{f:FuncId}{xs:List AV}
theorem Mc {ds:List D}{b:Bool}(h:DE E f ds (.bool b)) (ha:Gn xs=some ds) (h1:b=true->K (.d (.bool true)) .none) (h2:b=false->K (.d (.bool false)) .none):Dl E dst V f xs K :=
 Ew h ha (by cases b with|true=>exact h1 rfl|false=>exact h2 rfl)
theorem NX {ds:List D}{b:Bool}(h:DE E f ds (.bool b)) (ha:P6 V xs=some ds) (h1:b=true->K (.d (.bool true)) .none) (h2:b=false->K (.d (.bool false)) .none):Dl E dst V f xs K :=
 Mb h ha rfl (by cases b with|true=>exact h1 rfl|false=>exact h2 rfl)
theorem Vq {α:Type}{p:Prop} [Decidable p] {x:α}{A:α->Prop}:Aq (if p then some x else none) A=(p/\A x):=by
 by_cases h:p<;>simp[h,Aq]
end
section
variable {E:Co}{K:BO->Prop}
def JW (j:Nat):List (Nat×Oy)->Option Oy
 |[]=>none
 |(i,r)::l=>if j=i then some r else JW j l
def Oh (x:Option Oy) (b:Oy):Bool:=match x with|some r=>Jm r b|none=>false
def QR (need:List Nat) (i:Nat) (r:Oy) (rec:List (Nat×Oy)):List (Nat×Oy):=if need.contains i then (i,r)::rec else rec
def M6 (E:Co):Nat->List Nat->List (Ee×List Nat)->List (Nat×Oy)->BO->(BO->Prop)->Prop
 |_,_,[],_,s,K=>K s
 |i,need,(I,dy)::l,rec,s,K=>Dy E I s fun v ch =>
  (dy.all fun j=>Oh (JW j rec) (ch.site,DT I s))=true /\
  M6 E (i+1) need l (QR need i (ch.site,DT I s) rec) (put s I.dst v ch) K
theorem Uj {need:List Nat}:∀{l:List (Ee×List Nat)}{rec:List Oy}{recE:List (Nat×Oy)}{s:BO},(∀j,j∈l.flatMap (·.2)->j∈need)->(∀j,j∈need->JW j recE=rec[j]?)->O4 E l rec s K=M6 E rec.length need l recE s K
 |[],_,_,_,_,_=>rfl
 |(I,dy)::l,rec,recE,s,hn,hr=>by
  simp only[O4,M6]
  congr 1
  funext v ch
  have h1:(dy.all fun j=>match rec[j]? with|some r=>Jm r (ch.site,DT I s)|none=>false)=(dy.all fun j=>Oh (JW j recE) (ch.site,DT I s)):=by
   rw[Bool.eq_iff_iff,List.all_eq_true,List.all_eq_true]
   have:∀j,j∈dy->(match rec[j]? with|some r=>Jm r (ch.site,DT I s)|none=>false)=Oh (JW j recE) (ch.site,DT I s):=fun j hj=>by
    rw[hr j (hn j (by simp[hj]))];rfl
   exact⟨fun h j hj=>by rw[←this j hj];exact h j hj,fun h j hj=>by rw[this j hj];exact h j hj⟩
  refine congr (congrArg And (congrArg (fun b=>b=true) h1)) ?_
  have h2:=Uj (need:=need) (l:=l) (rec:=rec++[(ch.site,DT I s)]) (recE:=QR need rec.length (ch.site,DT I s) recE) (s:=put s I.dst v ch) (fun j hj=>hn j (by simp at hj ⊢;exact .inr hj)) fun j hj=>by
   unfold QR
   by_cases h:need.contains rec.length=true
   ·rw[if_pos h]
    simp only[JW]
    by_cases hjl:j=rec.length
    ·subst hjl;simp
    ·rw[if_neg hjl,hr j hj]
     by_cases hlt:j<rec.length
     ·rw[List.getElem?_append_left hlt]
     ·rw[List.getElem?_eq_none (by omega),List.getElem?_eq_none (by simp;omega)]
   ·rw[if_neg h,hr j hj]
    have hne:j≠rec.length:=by rintro rfl;exact h (by simpa using hj)
    by_cases hlt:j<rec.length
    ·rw[List.getElem?_append_left hlt]
    ·rw[List.getElem?_eq_none (by omega),List.getElem?_eq_none (by simp;omega)]
  rw[h2];simp
theorem Xu {Q:B7->BO->Prop}{s:BO} {gs l ks}:pw E (.draw gs l ks) Q s=Cd gs s fun s'=>M6 E 0 (l.flatMap (·.2)) l [] s' fun s'=>Q .normal (s'.keep ks):=by
 rw[aV]
 congr 1;funext s'
 exact Uj (rec:=[]) (recE:=[]) (fun j hj=>hj) fun j hj=>by simp[JW]
theorem Xg {i need r} {s:BO}:M6 E i need [] r s K=K s:=rfl
theorem TJ {i need I l r} {s:BO}:M6 E i need ((I,[])::l) r s K=Dy E I s fun v ch=>M6 E (i+1) need l (QR need i (ch.site,DT I s) r) (put s I.dst v ch) K:=by
 simp[M6]
theorem Vg {i need I j dy l r} {s:BO}:M6 E i need ((I,j::dy)::l) r s K=Dy E I s fun v ch =>
 ((j::dy).all fun j=>Oh (JW j r) (ch.site,DT I s))=true/\M6 E (i+1) need l (QR need i (ch.site,DT I s) r) (put s I.dst v ch) K:=rfl
theorem A_ {z:Nat} {i i' need need' l} {r r':List (Nat×Oy)}{s s':BO}(hz:I6=z) (hi:i=i') (hn:need=need') (hr:r=r') (h:s=s'):M6 E i need l r s K=M6 E i' need' l r' s' K:=by rw[h,hr,hi,hn]
theorem dV {need:List Nat}{i:Nat}{r:Oy}{rec:List (Nat×Oy)}(h:need.contains i=true):QR need i r rec=(i,r)::rec:=by simp only[QR,h,if_true]
theorem dW {need:List Nat}{i:Nat}{r:Oy}{rec:List (Nat×Oy)}(h:need.contains i=false):QR need i r rec=rec:=by simp only[QR,h,Bool.false_eq_true,if_false]
theorem Vy {j:Nat}:JW j []=none:=rfl
theorem Tg {j i:Nat}{r:Oy} {l}:JW j ((i,r)::l)=if j=i then some r else JW j l:=rfl
theorem Zb {r b:Oy}:Oh (some r) b=Jm r b:=rfl
theorem fS {a f b f'}:Jm (a,f) (b,f')=((a.all fun o=>!f'.contains o) && (b.all fun o=>!f.contains o)):=rfl
theorem Y4 {d g op xs} {sl:Nat->AV}{V:AI}:DT ⟨d,g,op,xs⟩ ⟨sl,V⟩=fp V d op (xs.map (JC.val sl)):=rfl
theorem fq {x}:AV.sites (.d x)=[]:=by cases x<;>rfl
theorem ei {x}:AV.sites (.ex x)=[]:=rfl
theorem Z4 {x n}:AV.sites (.dptr x n)=[]:=rfl
theorem dD {o g}:AV.sites (.own o g)=[o]:=rfl
theorem dE {o g}:AV.sites (.map o g)=[o]:=rfl
theorem dC {o g f}:AV.sites (.ptr o g f)=[o]:=rfl
theorem Z2 {o g e i f}:AV.sites (.rptr o g e i f)=[o]:=rfl
theorem Z3 {k o g}:AV.sites (.mref k o g)=[o]:=rfl
theorem Z5 {s l f}:AV.sites (.ablk s l f)=AV.sites.sitesL l:=rfl
theorem dF {l}:AV.sites (.agg l)=AV.sites.sitesL l:=rfl
theorem eh {f l}:AV.sites (.fn f l)=AV.sites.sitesL l:=rfl
theorem dB {l}:AV.sites (.tup l)=AV.sites.sitesL l:=rfl
theorem Z6:AV.sites.sitesL []=[]:=rfl
theorem XP {x l}:AV.sites.sitesL (x::l)=x.sites++AV.sites.sitesL l:=rfl
section
variable {d:Option Nat}{xs:List AV}{V:AI}
theorem d_:fp V d .mov xs=[]:=rfl
theorem bX:fp V d .pick xs=[]:=rfl
theorem eC {b}:fp V d (.bin b) xs=[]:=rfl
theorem eB {b t}:fp V d (.eqv b t) xs=[]:=rfl
theorem fJ {b}:fp V d (.un b) xs=[]:=rfl
theorem ba {b}:fp V d (.conv b) xs=[]:=rfl
theorem Y1 {a}:fp V d (.faddr a) xs=[]:=rfl
theorem WH {a b}:fp V d (.iaddrA a b) xs=[]:=rfl
theorem Y3 {a b}:fp V d (.build a b) xs=[]:=rfl
theorem Y0 {a b c e}:fp V d (.mkrow a b c e) xs=[]:=rfl
theorem T2 {a}:fp V d (.extract a) xs=[]:=rfl
theorem bZ {a b}:fp V d (.load a b) xs=AV.sites.sitesL xs:=rfl
theorem WG {a}:fp V d (.iaddrS a) xs=AV.sites.sitesL xs:=rfl
theorem eA {a}:fp V d (.len a) xs=AV.sites.sitesL xs:=rfl
theorem Yy {a}:fp V d (.store a) xs=d.toList++AV.sites.sitesL xs:=rfl
theorem bb {a}:fp V d (.call a) xs=Bu d V xs:=rfl
theorem Y2:fp V d .callv xs=Bu d V xs:=rfl
theorem UT {t}:Bu (some t) V xs=DR t++V.reach 3 (AV.sites.sitesL xs):=rfl
theorem au {t}:DR t=[t,t+10000,t+20000,t+30000]:=rfl
theorem Pb:∀{n:Nat},V.reach n []=[]
 |0=>rfl
 |n+1=>by simp only[AI.reach,List.flatMap_nil,Pb,List.append_nil]
theorem aQ {o l}:V.reach 3 (o::l)=(o::l)++V.reach 2 ((o::l).flatMap V.osites):=rfl
def LT:Option (Nat×AW)->List Nat
 |some (_,.cells xs)=>AV.sites.sitesL xs
 |some (_,.rowH _ _ _ q _)=>[q]
 |_=>[]
theorem Vn {ob cn o}:(AI.mk ob cn).osites o=LT (ob o):=rfl
theorem Vs {g xs}:LT (some (g,.cells xs))=AV.sites.sitesL xs:=rfl
theorem ai {g a b c l}:LT (some (g,.row a b c l))=[]:=rfl
theorem aj {g a b c d e}:LT (some (g,.mat a b c d e))=[]:=rfl
theorem ak {g a l}:LT (some (g,.map a l))=[]:=rfl
theorem eD {a b c e}:fp V d (.app a b c e) xs=d.toList++AV.sites.sitesL xs:=rfl
theorem Yz {a b c e}:fp V d (.slice a b c e) xs=d.toList++AV.sites.sitesL xs:=rfl
theorem bW {a}:fp V d (.zero a) xs=d.toList++AV.sites.sitesL xs:=rfl
end
theorem XH {a:Nat}:(some a).toList=[a]:=rfl
theorem XI:(none:Option Nat).toList=[]:=rfl
end
theorem Dt {k n}:(D.int k n).WF=J7 k n:=by rw[D.WF]
theorem DM {b}:(D.bool b).WF=True:=by rw[D.WF]
theorem DC {nl xs}:(D.list nl xs).WF=(xs.length<=maxLen/\∀x,x∈xs->x.WF):=by rw[D.WF]
theorem EK {xs}:(D.agg xs).WF=(∀x,x∈xs->x.WF):=by rw[D.WF]
theorem EJ {xs}:(D.ptr xs).WF=(∀x,x∈xs->x.WF):=by rw[D.WF]
theorem Fk {f xs}:(D.fn f xs).WF=(∀x,x∈xs->x.WF):=by rw[D.WF]
theorem EI {xs}:(D.tup xs).WF=(∀x,x∈xs->x.WF):=by rw[D.WF]
theorem DL {nl} {xs:List Int}:(D.list nl (A4 xs)).WF=(xs.length<=maxLen/\∀x,x∈xs->J7 .i64 x):=by
 rw[DC,CK];simp[A4,Dt]
theorem Be {x:D}{l:List D}:(∀y,y∈x::l->y.WF)=(x.WF/\∀y,y∈l->y.WF):=by simp
theorem Br:(∀y,y∈([]:List D)->y.WF)=True:=by simp
theorem Bs {α:Type}{f:α->D}{l:List α}:(∀y,y∈l.map f->y.WF)=(∀x,x∈l->(f x).WF):=by simp
theorem DD {n:Int}:J7 .i64 n=(-9223372036854775808<=n/\n<=9223372036854775807):=by
 simp[J7,IntKind.min,IntKind.max,IntKind.signed,IntKind.bits]
theorem CC:maxLen=9223372036854775807:=rfl
theorem Mz {x:AV}{d:D}{xs:List AV}{ds:List D}(h:x.toD1=some d) (h':A3 AV.toD1 xs=some ds):Gn (x::xs)=some (d::ds):=by
 simp only[Gn,A3,h,h']
theorem ZR:Ce=1073741824:=rfl
theorem dp:Dv=900000:=rfl
theorem D8 (V0:List (Nat×Nat×AW)) (xs:List AV):BO.enterM V0 xs=⟨F5 (xs.zipIdx.map fun(d,k)=>(k,d)),⟨Bl V0,fun _=>1⟩⟩:=by
 have key:∀(xs:List AV) (n t:Nat),(match xs[t]? with|some d=>d|none=>.undef)=F5 ((xs.zipIdx n).map fun(d,k)=>(k,d)) (n+t):=by
  intro xs
  induction xs with
  |nil=>intro n t;simp[F5]
  |cons x xs ih =>
   intro n t
   cases t with
   |zero=>simp[F5]
   |succ t =>
    have:=ih (n+1) t
    simp only[List.getElem?_cons_succ,List.zipIdx_cons,List.map_cons,F5]
    rw[if_neg (by omega),this]
    congr 1;omega
 unfold BO.enterM
 congr 1
 funext t
 have:=key xs 0 t
 simp only[Nat.zero_add] at this
 rw[←this]
 cases xs[t]?<;>rfl
theorem D_ {E:Co}{dst:Option Nat}{V:AI}{K:AV->Bh->Prop}{f:FuncId}{xs:List AV}{V0 V1:List (Nat×Nat×AW)}{cxs:List AV}{r r':AV}{ch:Bh}(ρ ρ2:DG) (h:HI E f V0 cxs V1 r) (h1:L7 ρ cxs xs)
  (h2:Handed V (Bu dst V xs) ρ V0) (h3:B0 V.cn dst V0 V1 ρ ρ2=true) (h4:r.ren ρ2=some r') (h5:Db ρ ρ2 V1=some ch) (hk:K r' ch):Dl E dst V f xs K :=
 .inr (.inr (.inr (.inl ⟨V0,cxs,V1,r,r',ch,ρ,ρ2,h1,h,h2,h3,h4,h5,hk⟩)))
theorem Xm {E:Co} {rs V1 r s}:dR E rs V1 r .ret s=(I4 E s rs (a5 V1 s.V r)/\Ya s.V V1):=rfl
theorem Rt {E:Co} {rs V1 r s}:dR E rs V1 r .normal s=(I4 E s rs (a5 V1 s.V r)/\Ya s.V V1):=rfl
section
variable {V:AI}{V1:List (Nat×Nat×AW)}
theorem fA {r v}:a5 V1 V r [v]=OU V1 V v r:=rfl
theorem fB {rs}:a5 V1 V (.tup rs) []=L2 V1 V [] rs:=rfl
theorem e_ {rs v u l}:a5 V1 V (.tup rs) (v::u::l)=L2 V1 V (v::u::l) rs:=rfl
theorem Wp:L2 V1 V [] []=True:=rfl
theorem UR {v r vs rs}:L2 V1 V (v::vs) (r::rs)=(OU V1 V v r/\L2 V1 V vs rs):=rfl
theorem br {v d}:OU V1 V v (.d d)=(v.snap V=some d/\(v.sites.all fun o=>!Tt V1 o)=true):=rfl
theorem Wo {v o g}:OU V1 V v (.own o g)=(v=.own o g):=rfl
theorem Yf {o}:Tt [] o=false:=rfl
theorem WA {p l o}:Tt (p::l) o=(p.1 == o || Tt l o):=rfl
def SD:Option (Nat×AW)->Nat->AW->Prop
 |some (g',.map t l),g,.map t' l'=>g'=g/\t=t'/\l=l'
 |some (g',.row a b c l),g,.row a' b' c' l'=>g'=g/\a=a'/\b=b'/\c=c'/\l=l'
 |some (g',.cells l),g,.cells l'=>g'=g/\l=l'
 |some (g',.hist a b c),g,.hist a' b' c'=>g'=g/\a=a'/\b=b'/\c=c'
 |some (g',.rowH a b c d e),g,.rowH a' b' c' d' e'=>g'=g/\a=a'/\b=b'/\c=c'/\d=d'/\e=e'
 |some (g',.mat a b c d e),g,.mat a' b' c' d' e'=>g'=g/\a=a'/\b=b'/\c=c'/\d=d'/\e=e'
 |_,_,_=>False
theorem bL {x:Option (Nat×AW)}{g:Nat}{y:AW}:SD x g y=(x=some (g,y)):=by
 cases x with
 |none=>simp[SD]
 |some p=>obtain⟨g',z⟩:=p;cases z<;>cases y<;>simp[SD]
theorem Yd {g' t l g t' l'}:SD (some (g',.map t l)) g (.map t' l')=(g'=g/\t=t'/\l=l'):=rfl
theorem Yb {g' a b c l g a' b' c' l'}:SD (some (g',.row a b c l)) g (.row a' b' c' l')=(g'=g/\a=a'/\b=b'/\c=c'/\l=l'):=rfl
theorem Yc {g' a b c d e g a' b' c' d' e'}:SD (some (g',.mat a b c d e)) g (.mat a' b' c' d' e')=(g'=g/\a=a'/\b=b'/\c=c'/\d=d'/\e=e'):=rfl
theorem Tq {g' l g l'}:SD (some (g',.cells l)) g (.cells l')=(g'=g/\l=l'):=rfl
theorem bK:Ya V []=True:=rfl
theorem YZ {o g x l}:Ya V ((o,g,x)::l)=(SD (V.ob o) g x/\Ya V l):=by rw[bL];rfl
end
def kB (K:AV->Bh->Prop):D->Prop
 |.bool b=>(b=true->K (.d (.bool true)) .none)/\(b=false->K (.d (.bool false)) .none)
 |r=>K (up r) .none
theorem bF {K:AV->Bh->Prop} {b}:kB K (.bool b)=((b=true->K (.d (.bool true)) .none)/\(b=false->K (.d (.bool false)) .none)):=rfl
theorem dr {K:AV->Bh->Prop} {k n}:kB K (.int k n)=K (.d (.int k n)) .none:=rfl
theorem bE {K:AV->Bh->Prop} {n l}:kB K (.list n l)=K (.d (.list n l)) .none:=rfl
theorem dt {K:AV->Bh->Prop} {l}:kB K (.agg l)=K (.d (.agg l)) .none:=rfl
theorem dq {K:AV->Bh->Prop} {l}:kB K (.tup l)=K (.tup (l.map .d)) .none:=rfl
theorem AG {E:Co}{dst:Option Nat}{V:AI}{K:AV->Bh->Prop}{f:FuncId}{xs:List AV}{ds:List D}{r:D}(h:DE E f ds r) (hk:kB K r)
  (ha:Gn xs=some ds\/(P6 V xs=some ds/\r.flat=true):=by first|exact .inl rfl|exact .inr ⟨rfl,rfl⟩):Dl E dst V f xs K:=by
 have hu:K (up r) .none:=by
  cases r with
  |bool b=>cases b with
   |true=>exact hk.1 rfl
   |false=>exact hk.2 rfl
  |_=>exact hk
 exact ha.elim (fun h1=>Ew h h1 hu) fun h1=>Mb h h1.1 h1.2 hu
theorem aI {a b:Prop}(h:a) (k:b):a/\b:=⟨h,k⟩
theorem tI:True:=⟨⟩
theorem B1 {z:Nat}{K:AV->Bh->Prop}{r r':D}(hz:I6=z) (h:r=r'):kB K r=kB K r':=by rw[h]
theorem isCall {E:Co}{dst:Option Nat}{V:AI}{K:AV->Bh->Prop}{f:FuncId}{xs:List AV}(h:Dl E dst V f xs K):Dl E dst V f xs K:=h
theorem Ae {α:Type}{S:BO}{T:α->BO}{I M:α->Prop}(h:∃y,S=T y/\I y/\M y):∃y,S=T y/\I y/\M y:=h
theorem AZ {α β:Type}{S:BO}{T:α×β->BO}{I M:α×β->Prop}(h:∃y,S=T y/\I y/\M y):∃y,S=T y/\I y/\M y:=h
theorem Ad {α β γ:Type}{S:BO}{T:α×β×γ->BO}{I M:α×β×γ->Prop}(h:∃y,S=T y/\I y/\M y):∃y,S=T y/\I y/\M y:=h
theorem Dq {α β γ δ:Type}{S:BO}{T:α×β×γ×δ->BO}{I M:α×β×γ×δ->Prop}(h:∃y,S=T y/\I y/\M y):∃y,S=T y/\I y/\M y:=h
theorem VN {α:Type}(xs:List α) (a:Nat):(xs.drop a).take (xs.length-a)=xs.drop a:=List.take_of_length_le (by simp)
theorem XM {α:Type}(xs:List α):xs.take xs.length=xs:=List.take_length
theorem VP (n:Nat):n-0=n:=rfl
def Sn (a b:List D):Prop:=EE a b=true
theorem bB {a b:List D}:(Cp (.agg a) (.agg b)=true)=Sn a b:=rfl
theorem bC {a b:List D}:(Cp (.agg a) (.agg b)=false)=¬Sn a b:=by simp[Cp,Sn,D.cells]
theorem Ze:Sn [] []=True:=by simp[Sn,EE]
theorem Zf {k k':IntKind}{a b:Int}{asq bs:List D}:Sn (.int k a::asq) (.int k' b::bs)=((k=k'/\a=b)/\Sn asq bs):=by
 simp[Sn,EE,FD]
theorem Zw {ts:List (Option IntKind)}{cs:List D}:IX (true,ts) (.agg cs)=Dc ts cs:=by simp[IX,D.isAgg,D.cells]
theorem XE:Dc [] []=true:=rfl
theorem XF {k:IntKind}{n:Int} {ts cs}:Dc (some k::ts) (.int k n::cs)=Dc ts cs:=by simp[Dc]
section
variable {E:Co}{dst:Option Nat}{V:AI}{K:AV->Bh->Prop}
theorem bj {n tys x y}:ev E dst V (.eqv n tys) [x,y] K=Aq x.toD1 fun a=>Aq y.toD1 fun b=>IX tys a=true/\IX tys b=true/\(Cp a b=true->K (.d (.bool (!n))) .none)/\(Cp a b=false->K (.d (.bool n)) .none):=by
 rw[eH];congr 1;funext a;congr 1;funext b;cases Cp a b<;>cases n<;>simp
end
def g0 (E:Co) (p:PC) (Q:B7->BO->Prop) (s:BO):Prop:=∃e s',Q e s'/\∀Q':B7->BO->Prop,Q' e s'->pw E p Q' s
attribute [go_sem] eN aR aW dZ Xu da X3 X2 X4 dX aX Xv aU dY QC S8 VM PI UV Sf Tv SG Yj Yk bT fI Yl Ys Yn bV T1 Ym bU T0 Yu d9 Yi ae X0 Yh bS fH WC ab aZ Xf Vf Xg TJ Vg dV dW Vy Tg Zb fS Y4 fq ei Z4 dD dE dC Z2 Z3 Z5 dF eh dB Z6 XP d_ bX eC eB fJ ba Y1 WH Y3 Y0 T2 bZ WG eA Yy bb Y2 eD Yz bW XH XI List.flatMap_cons List.flatMap_nil VW TF VX XU UT au Pb aQ Vn Vs ai aj ak RU Z1 bP bQ bO Xw Xx ZZ Za Ww cK bD dk J1 YQ Th Vz d7 XB Zt XA bn Ti R8 X8 X9 X_ TR ew Vt aq YA ap X' YC di YD Vu a_ eu ah dg ZJ Wk Wj eT bu eS bv bt eR fP fO c_ c8 Zz Z0 eg V4 Tk c9 cN fU eV fT YO f8 fQ cI WK T6 WL T7 Wr US Ws cz Zu cy eG bg eK eF SP Qj Qk WO Qf M8 Qm O_ UG bi UF eJ bk UH bl Ql O9 SS ZD Qh T_ Qi SO Qg UB UC UD SL SM SR SQ ZE TX Rz WM bh be Y_ SN T9 O8 eI dQ dP UE WQ WP ZA bj bB bC Ze Zf Zw XE XF UA WN ZB UJ UK WR UL ST UI db dc cB bw bx b8 b9 b_ Vq Wg WT WZ WX WW WV WU Wf WS Ry QX TT TU TY TV TW VN XM VP UQ K6 Ji Qa CK V9 V7 YY V8 YW YX Tp V6 XC VJ R1 IE Xl Xm Rt fB fA e_ Wp UR br Wo Yf WA Yd Yb Yc Tq bK YZ Xn Vj dT dU aA Z' Z_ dI aD aB ej dH dJ dM aL en Z9 Vr ed ef List.map_cons List.map_nil List.zipIdx_cons List.zipIdx_nil List.zip_cons_cons List.zip_nil_left List.length_cons List.length_nil List.getElem?_cons_zero List.getElem?_cons_succ List.drop_zero List.drop_succ_cons List.take_succ_cons List.take_zero List.take_nil List.drop_nil List.contains_cons List.contains_nil List.filter_cons List.filter_nil List.all_cons List.all_nil List.cons_append List.nil_append List.append_nil List.set_cons_zero List.set_cons_succ VQ List.replicate_succ List.replicate_zero List.isEmpty_cons List.isEmpty_nil List.length_map id_eq Nat.lt_irrefl Nat.zero_add Nat.add_zero Nat.zero_mul Nat.one_mul Nat.mul_one if_true if_false Bool.false_eq_true Bool.not_true Bool.not_false Bool.true_or Bool.false_or Bool.or_true Bool.or_false Bool.true_and Bool.false_and Bool.and_true Bool.and_false beq_self_eq_true Bool.and_self Bool.or_self true_and and_true false_and and_false ite_self exists_prop_of_true exists_prop not_false_eq_true not_true_eq_false forall_const eq_self and_self true_implies false_implies implies_true ne_eq List.cons_ne_nil Nat.le_refl Nat.not_lt_zero Xd Ve Xb Vc Vd TI Va TH Int.toNat_natCast Int.toNat_zero ZR dp bF dr bE dt dq
attribute [go_sem_proc] Nat.reduceAdd Nat.reduceSub Nat.reduceMul Nat.reduceEqDiff Nat.reduceBEq Nat.reduceLeDiff Nat.reduceLT Int.reduceToNat Int.reduceLE Int.reduceLT Int.reduceNeg reduceIte reduceCtorEq Int.reduceEq Int.reduceAdd Int.reduceSub Int.reduceMul
end Go.Pw
