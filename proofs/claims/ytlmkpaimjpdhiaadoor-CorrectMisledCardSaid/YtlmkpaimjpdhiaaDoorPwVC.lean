/- A part of the proof. -/
import Derived.Test.YtlmkpaimjpdhiaaDoorPkZa
import Derived.IntWalk
set_option linter.all false
namespace Go.Pw
set_option linter.unusedSimpArgs false
set_option linter.unusedVariables false
def Ji:Nat:=0
theorem dR:Ji=0:=Eq.symm (Eq.symm rfl)
def JC (v:AV) (b:Bool) (A B:Prop):Prop :=
 match v with
 |.d (.bool b')=>GT (b == b') A B
 |.tup []=>B
 |_=>False
def Ru (v:AV) (t:Nat) (sl:Nat→AV) (V:AN) (KS:Aw→Prop):Prop :=
 match v with
 |.own o g=>HT (V.get o g) fun _ _ nl l=>KS ⟨Bz sl t (.d (.list nl l)),V.drop o⟩
 |_=>KS ⟨sl,V⟩
def YR (v:AV) (t:Nat) (sl:Nat→AV) (V:AN) (KS:Aw→Prop):Prop :=
 match v with
 |.ptr o g 0=>Fv (V.get o g) fun xs=>Ag (Ah AV.toD1 xs) fun cs=>cs≠[]∧KS ⟨Bz sl t (.d (.ptr cs)),V.drop o⟩
 |_=>KS ⟨sl,V⟩
def fA (y:Option AX) (o g:Nat) (sl:Nat→AV) (V:AN) (KS:Aw→Prop):Prop :=
 match y with
 |some (.rowH ety l i q p)=>HT (V.get q p) fun _ _ nl xs=>KS ⟨sl,(V.drop q).app (.keep o g (.row ety 1 false (l.set i (.list nl xs))))⟩
 |_=>KS ⟨sl,V⟩
def fe (v:AV) (sl:Nat→AV) (V:AN) (KS:Aw→Prop):Prop :=
 match v with
 |.own o g=>fA (V.get o g) o g sl V KS
 |_=>KS ⟨sl,V⟩
def YT (v:AV) (t:Nat) (sl:Nat→AV) (V:AN) (KS:Aw→Prop):Prop :=
 match v with
 |.mref .out o g=>Fa (V.get o g) fun _ _ nl ix rows=>KS ⟨Bz sl t (.d (.list nl (HU ix rows))),V.drop o⟩
 |_=>KS ⟨sl,V⟩
def YX (x:Option AX) (t o:Nat) (sl:Nat→AV) (V:AN) (KS:Aw→Prop):Prop :=
 match x with
 |some (.cells (c :: l))=>KS ⟨Bz sl t (.ablk false (c :: l) 0),V.drop o⟩
 |_=>False
def YW (v:AV) (t:Nat) (sl:Nat→AV) (V:AN) (KS:Aw→Prop):Prop :=
 match v with
 |.ptr o g 0=>YX (V.get o g) t o sl V KS
 |_=>KS ⟨sl,V⟩
def Rv (x:Option AV) (b g k:Nat) (xs:List AV) (sl:Nat→AV) (V:AN) (KS:Aw→Prop):Prop :=
 match x with
 |some (.own o p)=>HT (V.get o p) fun _ _ nl l=>KS ⟨sl,(V.drop o).app (.keep b g (.cells (xs.set k (.d (.list nl l)))))⟩
 |_=>KS ⟨sl,V⟩
def Vx (v:AV) (off:Nat) (sl:Nat→AV) (V:AN) (KS:Aw→Prop):Prop :=
 match v with
 |.ptr b g f=>(match V.get b g with
  |some (.cells xs)=>Rv xs[f+off]? b g (f+off) xs sl V KS
  |_=>KS ⟨sl,V⟩)
 |_=>KS ⟨sl,V⟩
def YV (y:Option AX) (b g k:Nat) (sl:Nat→AV) (V:AN) (KS:Aw→Prop):Prop :=
 match y with
 |some (.cells xs)=>Rv xs[k]? b g k xs sl V KS
 |_=>KS ⟨sl,V⟩
def Xg (v:AV) (t o e1 e2:Nat) (sl:Nat→AV) (V:AN) (KS:Aw→Prop):Prop :=
 match v with
 |.d (.list true [])=>o < D3∧KS ⟨Bz sl t (.mref .out o (V.cn o)),V.app (.fresh o (.mat e1 e2 true [] []))⟩
 |_=>KS ⟨sl,V⟩
def Xe (v:AV) (t o ety es:Nat) (sl:Nat→AV) (V:AN) (KS:Aw→Prop):Prop :=
 match v with
 |.d (.list true [])=>o < D3∧KS ⟨Bz sl t (.own o (V.cn o)),V.app (.fresh o (.row ety es true []))⟩
 |_=>KS ⟨sl,V⟩
def ey (x:Option AV) (b g k o ety es:Nat) (xs:List AV) (sl:Nat→AV) (V:AN) (KS:Aw→Prop):Prop :=
 match x with
 |some (.d (.list true []))=>o < D3∧o≠b∧KS ⟨sl,(V.app (.fresh o (.row ety es true []))).app (.keep b g (.cells (xs.set k (.own o (V.cn o)))))⟩
 |_=>KS ⟨sl,V⟩
def ez (y:Option AX) (b g k o ety es:Nat) (sl:Nat→AV) (V:AN) (KS:Aw→Prop):Prop :=
 match y with
 |some (.cells xs)=>ey xs[k]? b g k o ety es xs sl V KS
 |_=>KS ⟨sl,V⟩
def fW (v:AV) (off o ety es:Nat) (sl:Nat→AV) (V:AN) (KS:Aw→Prop):Prop :=
 match v with
 |.ptr b g f=>ez (V.get b g) b g (f+off) o ety es sl V KS
 |_=>KS ⟨sl,V⟩
section
variable {E:CX} {Q:Bl→Aw→Prop} {s s':Aw} {K:AV→Bb→Prop} {KS:Aw→Prop}
theorem Cf {z:Nat} {p:PC} (hz:Ji=z) (h:s=s'):pw E p Q s=pw E p Q s':=by rw [h]
theorem BG {z:Nat} {l:List Fh} (hz:Ji=z) (h:s=s'):KR E l s KS=KR E l s' KS:=by rw [h]
theorem A0 {z:Nat} {I:Fh} (hz:Ji=z) (h:s=s'):Dm E I s K=Dm E I s' K:=by rw [h]
theorem Cg {z:Nat} {dst:Option Nat} {op:Bh} {V V':AN} {xs xs':List AV} (hz:Ji=z) (hV:V=V') (h:xs=xs'):ev E dst V op xs K=ev E dst V' op xs' K:=by rw [h,hV]
theorem A5 {z:Nat} {b:BinOp} {k k' k1 k2:IntKind} {x y x' y':Int} {C:AV→Prop} (hz:Ji=z) (h1:k=k1) (h2:k'=k2) (hx:x=x') (hy:y=y'):Co b k k' x y C=Co b k1 k2 x' y' C:=by rw [h1,h2,hx,hy]
theorem A7 {z:Nat} {c c':Bool} {A B:Prop} (hz:Ji=z) (h:c=c'):GT c A B=GT c' A B:=by rw [h]
theorem A6 {z:Nat} {v v':AV} {A B:Prop} (hz:Ji=z) (h:v=v'):N1 v A B=N1 v' A B:=by rw [h]
theorem Az {z:Nat} {e e':Bl} {A:Aw→Prop} (hz:Ji=z) (he:e=e') (h:s=s'):Io A Q e s=Io A Q e' s':=by rw [he,h]
theorem Ar {z:Nat} {i:Nat} {e e':Bl} (hz:Ji=z) (he:e=e') (h:s=s'):H_ i Q e s=H_ i Q e' s':=by rw [he,h]
theorem Am {α:Type} {z:Nat} {x y:Option α} {A:α→Prop} (hz:Ji=z) (h:x=y):Ag x A=Ag y A:=by rw [h]
theorem Ai {z:Nat} {x y:Option AX} {A} (hz:Ji=z) (h:x=y):Fv x A=Fv y A:=by rw [h]
theorem A2 {z:Nat} {x y:Option AX} {A} (hz:Ji=z) (h:x=y):HT x A=HT y A:=by rw [h]
theorem Ap {z:Nat} {gs:List Ee} (hz:Ji=z) (h:s=s'):CR gs s KS=CR gs s' KS:=by rw [h]
theorem A4 {z:Nat} {g:Ee} (hz:Ji=z) (h:s=s'):EM g s KS=EM g s' KS:=by rw [h]
theorem Aq {z:Nat} {dst:Option Nat} {V V':AN} {f:FuncId} {xs xs':List AV} (hz:Ji=z) (hV:V=V') (h:xs=xs'):DR E dst V f xs K=DR E dst V' f xs' K:=by rw [h,hV]
theorem BK {z:Nat} {α:Type} {ag:Bool} {n n':Nat} {cs cs':List α} {off off':Nat} {mk:List α→AV} {one:α→AV} {C:AV→Prop} (hz:Ji=z) (hn:n=n') (h:cs=cs') (ho:off=off'):Ba ag n cs off mk one C=Ba ag n' cs' off' mk one C:=by rw [hn,h,ho]
theorem Bk {z:Nat} {lo hi:Bool} {n n':Nat} {xs xs':List AV} {C:Nat→Nat→Prop} (hz:Ji=z) (hn:n=n') (h:xs=xs'):K8 lo hi n xs C=K8 lo hi n' xs' C:=by rw [hn,h]
theorem Ao {z:Nat} {v v':AV} {b:Bool} {A B:Prop} (hz:Ji=z) (h:v=v'):JC v b A B=JC v' b A B:=by rw [h]
theorem BN {z:Nat} {v v':AV} {t:Nat} {sl:Nat→AV} {V:AN} (hz:Ji=z) (h:v=v'):Ru v t sl V KS=Ru v' t sl V KS:=by rw [h]
theorem BL {z:Nat} {v v':AV} {t o ety es:Nat} {sl:Nat→AV} {V:AN} (hz:Ji=z) (h:v=v'):Xe v t o ety es sl V KS=Xe v' t o ety es sl V KS:=by rw [h]
theorem BI {z:Nat} {rs:List RT} {K:List AV→Prop} (hz:Ji=z) (h:s=s'):IW E s rs K=IW E s' rs K:=by rw [h]
theorem BJ {z:Nat} {r:RT} {K:AV→Prop} (hz:Ji=z) (h:s=s'):S4 E s r K=S4 E s' r K:=by rw [h]
theorem AM {b:Bool} {A B:Prop} (h1:b=true→A) (h2:b=false→B):GT b A B:=⟨h1,h2⟩
theorem Zb {d t b op xs} {sl:Nat→AV} {V:AN}:Dm E ⟨d,some (t,b),op,xs⟩ ⟨sl,V⟩ K=JC (sl t) b (ev E d V op (xs.map (J2.val sl)) K) (K (.tup []) .none):=rfl
theorem aQ {b:Bool} {A B:Prop}:JC (.d (.bool b)) true A B=GT b A B:=by simp [JC]
theorem aR {b:Bool} {A B:Prop}:JC (.d (.bool b)) false A B=GT b B A:=by cases b<;>simp [JC]
theorem aP {b:Bool} {A B:Prop}:JC (.tup []) b A B=B:=rfl
theorem YH {t:Nat} {sl:Nat→AV} {V:AN}:EM (.freeze t) ⟨sl,V⟩ KS=Ru (sl t) t sl V KS:=by
 simp only [EM,Ru]
 cases sl t with
 |own o g=>simp only;cases V.get o g with
  |none=>rfl
  |some x=>cases x<;>rfl
 |_=>rfl
theorem aV {t o g:Nat} {sl:Nat→AV} {V:AN}:Ru (.own o g) t sl V KS=HT (V.get o g) fun _ _ nl l=>KS ⟨Bz sl t (.d (.list nl l)),V.drop o⟩:=rfl
theorem d8 {t:Nat} {x:D} {sl:Nat→AV} {V:AN}:Ru (.d x) t sl V KS=KS ⟨sl,V⟩:=rfl
theorem dB {t:Nat} {x:List D} {sl:Nat→AV} {V:AN}:Ru (.ex x) t sl V KS=KS ⟨sl,V⟩:=rfl
theorem Vw {t:Nat} {sl:Nat→AV} {V:AN}:Ru .undef t sl V KS=KS ⟨sl,V⟩:=rfl
theorem YI {t:Nat} {sl:Nat→AV} {V:AN}:EM (.frzP t) ⟨sl,V⟩ KS=YR (sl t) t sl V KS:=by
 simp only [EM,YR]
 cases sl t with
 |ptr o g f =>
  cases f with
  |zero =>
   simp only;cases V.get o g with
   |none=>rfl
   |some x =>
    cases x with
    |cells xs =>
     simp only [Fv]
     cases Ah AV.toD1 xs with
     |none=>rfl
     |some l=>cases l<;>simp [Ag]
    |_=>rfl
  |succ n=>rfl
 |_=>rfl
theorem aW {t o g:Nat} {sl:Nat→AV} {V:AN}:YR (.ptr o g 0) t sl V KS=Fv (V.get o g) fun xs=>Ag (Ah AV.toD1 xs) fun cs=>cs≠[]∧KS ⟨Bz sl t (.d (.ptr cs)),V.drop o⟩:=rfl
theorem BO {z:Nat} {v v':AV} {t:Nat} {sl:Nat→AV} {V:AN} (hz:Ji=z) (h:v=v'):YR v t sl V KS=YR v' t sl V KS:=by rw [h]
theorem An {z:Nat} {x y:Option AX} {A B} (hz:Ji=z) (h:x=y):KW x A B=KW y A B:=by rw [h]
theorem YF {t o ety es:Nat} {sl:Nat→AV} {V:AN}:EM (.own t o ety es) ⟨sl,V⟩ KS=Xe (sl t) t o ety es sl V KS:=rfl
theorem YJ {t:Nat} {sl:Nat→AV} {V:AN}:EM (.frzM t) ⟨sl,V⟩ KS=YT (sl t) t sl V KS:=by
 simp only [EM,YT]
 cases sl t with
 |mref k o g =>
  cases k with
  |out=>simp only;cases V.get o g with
   |none=>rfl
   |some x=>cases x<;>rfl
  |_=>rfl
 |_=>rfl
theorem YS {t o g:Nat} {sl:Nat→AV} {V:AN}:YT (.mref .out o g) t sl V KS=Fa (V.get o g) fun _ _ nl ix rows=>KS ⟨Bz sl t (.d (.list nl (HU ix rows))),V.drop o⟩:=rfl
theorem BP {z:Nat} {v v':AV} {t:Nat} {sl:Nat→AV} {V:AN} (hz:Ji=z) (h:v=v'):YT v t sl V KS=YT v' t sl V KS:=by rw [h]
theorem YL {t:Nat} {sl:Nat→AV} {V:AN}:EM (.frzA t) ⟨sl,V⟩ KS=YW (sl t) t sl V KS:=by
 simp only [EM,YW]
 cases sl t with
 |ptr o g f =>
  cases f with
  |zero=>rfl
  |succ n=>rfl
 |_=>rfl
theorem aY {t o g:Nat} {sl:Nat→AV} {V:AN}:YW (.ptr o g 0) t sl V KS=YX (V.get o g) t o sl V KS:=rfl
theorem Ti {t o:Nat} {c:AV} {l:List AV} {sl:Nat→AV} {V:AN}:YX (some (.cells (c :: l))) t o sl V KS=KS ⟨Bz sl t (.ablk false (c :: l) 0),V.drop o⟩:=rfl
theorem BT {z:Nat} {v v':AV} {t:Nat} {sl:Nat→AV} {V:AN} (hz:Ji=z) (h:v=v'):YW v t sl V KS=YW v' t sl V KS:=by rw [h]
theorem BU {z:Nat} {y y':Option AX} {t o:Nat} {sl:Nat→AV} {V:AN} (hz:Ji=z) (h:y=y'):YX y t o sl V KS=YX y' t o sl V KS:=by rw [h]
theorem YK {t off:Nat} {sl:Nat→AV} {V:AN}:EM (.frzC t off) ⟨sl,V⟩ KS=Vx (sl t) off sl V KS:=by
 simp only [EM,Vx]
 cases sl t with
 |ptr b g f =>
  simp only
  cases V.get b g with
  |none=>rfl
  |some x =>
   cases x with
   |cells xs =>
    simp only [Rv]
    cases xs[f+off]? with
    |none=>rfl
    |some y =>
     cases y with
     |own o p=>simp only;cases V.get o p with
      |none=>rfl
      |some z=>cases z<;>rfl
     |_=>rfl
   |_=>rfl
 |_=>rfl
theorem aX {b g f off:Nat} {sl:Nat→AV} {V:AN}:Vx (.ptr b g f) off sl V KS=YV (V.get b g) b g (f+off) sl V KS:=by
 simp only [Vx,YV]
theorem Th {b g k:Nat} {xs:List AV} {sl:Nat→AV} {V:AN}:YV (some (.cells xs)) b g k sl V KS=Rv xs[k]? b g k xs sl V KS:=rfl
theorem YU {b g k o p:Nat} {xs:List AV} {sl:Nat→AV} {V:AN}:Rv (some (.own o p)) b g k xs sl V KS=HT (V.get o p) fun _ _ nl l=>KS ⟨sl,(V.drop o).app (.keep b g (.cells (xs.set k (.d (.list nl l)))))⟩:=rfl
theorem dC {b g k:Nat} {x:D} {xs:List AV} {sl:Nat→AV} {V:AN}:Rv (some (.d x)) b g k xs sl V KS=KS ⟨sl,V⟩:=rfl
theorem BR {z:Nat} {v v':AV} {off:Nat} {sl:Nat→AV} {V:AN} (hz:Ji=z) (h:v=v'):Vx v off sl V KS=Vx v' off sl V KS:=by rw [h]
theorem BS {z:Nat} {y y':Option AX} {b g k k':Nat} {sl:Nat→AV} {V:AN} (hz:Ji=z) (h:y=y') (hk:k=k'):YV y b g k sl V KS=YV y' b g k' sl V KS:=by rw [h,hk]
theorem BQ {z:Nat} {y y':Option AV} {b g k:Nat} {xs:List AV} {sl:Nat→AV} {V:AN} (hz:Ji=z) (h:y=y'):Rv y b g k xs sl V KS=Rv y' b g k xs sl V KS:=by rw [h]
theorem YG {t o e1 e2:Nat} {sl:Nat→AV} {V:AN}:EM (.ownM t o e1 e2) ⟨sl,V⟩ KS=Xg (sl t) t o e1 e2 sl V KS:=rfl
theorem Z3 {t o e1 e2:Nat} {sl:Nat→AV} {V:AN}:Xg (.d (.list true [])) t o e1 e2 sl V KS=(o < D3∧KS ⟨Bz sl t (.mref .out o (V.cn o)),V.app (.fresh o (.mat e1 e2 true [] []))⟩):=rfl
theorem Xf {t o e1 e2:Nat} {k o' g} {sl:Nat→AV} {V:AN}:Xg (.mref k o' g) t o e1 e2 sl V KS=KS ⟨sl,V⟩:=rfl
theorem BM {z:Nat} {v v':AV} {t o e1 e2:Nat} {sl:Nat→AV} {V:AN} (hz:Ji=z) (h:v=v'):Xg v t o e1 e2 sl V KS=Xg v' t o e1 e2 sl V KS:=by rw [h]
theorem A3 {z:Nat} {x y:Option AX} {A} (hz:Ji=z) (h:x=y):Fa x A=Fa y A:=by rw [h]
theorem Z2 {t o ety es:Nat} {sl:Nat→AV} {V:AN}:Xe (.d (.list true [])) t o ety es sl V KS=(o < D3∧KS ⟨Bz sl t (.own o (V.cn o)),V.app (.fresh o (.row ety es true []))⟩):=rfl
theorem Z1 {t o ety es o' g:Nat} {sl:Nat→AV} {V:AN}:Xe (.own o' g) t o ety es sl V KS=KS ⟨sl,V⟩:=rfl
end
theorem ZW {α:Type} (f:Nat→α) (i:Nat) (x:α) (j:Nat):Bz f i x j=if j=i then x else f j:=rfl
theorem Wt (f:Nat→Nat) (i x y:Nat):Bz (Bz f i x) i y=Bz f i y:=by funext j;simp only [Bz];split<;>rfl
theorem dx {x:D}:(AV.d x).one=x.one:=rfl
theorem Z5 {o g}:(AV.own o g).one=true:=rfl
theorem ci {f c}:(AV.fn f c).one=true:=rfl
theorem Ys {k n}:(D.int k n).one=true:=rfl
theorem WS {b}:(D.bool b).one=true:=rfl
theorem WR {n l}:(D.list n l).one=true:=rfl
theorem dX {c}:(AV.agg c).cells?=some c:=rfl
theorem a8 {c}:(AV.d (.agg c)).cells?=some (c.map .d):=rfl
theorem dW {k n}:(AV.d (.int k n)).cells?=some [.d (.int k n)]:=rfl
theorem a9 {b}:(AV.d (.bool b)).cells?=some [.d (.bool b)]:=rfl
theorem a7 {n l}:(AV.d (.list n l)).cells?=some [.d (.list n l)]:=rfl
theorem dV {o g}:(AV.own o g).cells?=some [.own o g]:=rfl
theorem eM {f c}:(AV.fn f c).cells?=some [.fn f c]:=rfl
theorem b9 {k n}:AV.toD1 (.d (.int k n))=some (.int k n):=rfl
theorem Za {n l}:AV.toD1 (.d (.list n l))=some (.list n l):=rfl
theorem Vo {α β:Type} {f:α→Option β}:Ah f []=some []:=rfl
theorem TQ {α β:Type} {f:α→Option β} {x:α} {xs:List α}:Ah f (x :: xs)=match f x with
 |none=>none
 |some y=>match Ah f xs with|none=>none|some ys=>some (y :: ys):=rfl
theorem b_ {cs}:AV.toD1 (.agg cs)=match Ah AV.toD0 cs with|some l=>some (.agg l)|none=>none:=rfl
theorem bN {V:AN} {n l}:(AV.d (.list n l)).asList V=some (n,l):=rfl
theorem eV {V:AN} {l}:(AV.ex l).asList V=some (false,l):=rfl
theorem db {V:AN} {o g}:(AV.own o g).asList V=match V.get o g with|some (.row _ _ nil xs)=>some (nil,xs)|_=>none:=rfl
theorem eU {V:AN} {o g}:(AV.mref .out o g).asList V=match V.get o g with|some (.mat _ _ nil ix rows)=>some (nil,HU ix rows)|_=>none:=rfl
theorem eT {V:AN} {j o g}:(AV.mref (.row j) o g).asList V=match V.get o g with|some (.mat _ _ _ _ rows)=>rows[j]?|_=>none:=rfl
theorem Xu {ix rows}:(HU ix rows).length=ix.length:=by simp [HU]
theorem fF {V:AN} {x}:DS V none (.d x)=match (AV.d x).asList V with|some (_,ys)=>some ys|none=>none:=rfl
theorem eQ {V:AN} {x}:DS V none (.ex x)=match (AV.ex x).asList V with|some (_,ys)=>some ys|none=>none:=rfl
theorem bI {V:AN} {z n}:DS V (some z) (.d (.int .i64 n))=if 0≤n∧n≤(CE:Int) then some (List.replicate n.toNat z) else none:=rfl
theorem V3 {es xs}:Fr es xs []=some xs:=rfl
theorem Tn {es xs i v rest}:Fr es xs ((i,v) :: rest)=match v.toD1 with
 |none=>none
 |some x=>if x.cells.length=es∧i < xs.length then Fr es (xs.set i x) rest else none:=rfl
theorem V4 {cs}:J' cs []=some cs:=rfl
theorem To {cs off size v rest}:J' cs (((off,size),v) :: rest)=match v.cells? with
 |none=>none
 |some vs=>if vs.length=size∧off+size≤cs.length then J' (A9 cs off vs) rest else none:=rfl
theorem WY {k n}:(D.int k n).cells=[.int k n]:=rfl
theorem T7 {n l}:(D.list n l).cells=[.list n l]:=rfl
theorem bv {k n}:up (.int k n)=.d (.int k n):=rfl
theorem ZX {n l}:up (.list n l)=.d (.list n l):=rfl
theorem bw {l}:up (.agg l)=.d (.agg l):=rfl
theorem bu {l}:up (.tup l)=.tup (l.map .d):=rfl
theorem VH:Bb.site .none=[]:=rfl
theorem W8 {a b}:Bb.site (.seq a b)=a.site++b.site:=rfl
theorem Sy {o x}:Bb.site (.fresh o x)=[o]:=rfl
theorem VI {o g x}:Bb.site (.keep o g x)=[o]:=rfl
def AY (xs:List Int):List D:=xs.map (D.int .i64)
@[simp] theorem d7:AY []=[]:=rfl
theorem QD (xs:List Int):(AY xs=[])=(xs=[]):=by cases xs<;>simp [AY]
theorem DW (xs:List Int):(AY xs).length=xs.length:=by simp [AY]
theorem X6 (xs ys:List Int):AY xs++AY ys=AY (xs++ys):=by simp [AY]
theorem Vs (xs:List Int) (y:Int):AY xs++[.int .i64 y]=AY (xs++[y]):=by simp [AY]
theorem X4 (xs:List Int) (i:Nat) (y:Int):(AY xs).set i (.int .i64 y)=AY (xs.set i y):=by simp [AY,List.map_set]
theorem X5 (n:Nat) (y:Int):List.replicate n (D.int .i64 y)=AY (List.replicate n y):=by simp [AY]
theorem TW (xs:List Int):(AY xs).isEmpty=xs.isEmpty:=by cases xs<;>rfl
theorem Vr (xs:List Int):Ca 1 (AY xs)=True:=by
 simp only [Ca,AY,eq_iff_iff,iff_true];intro x hx;simp at hx;obtain⟨n,_,rfl⟩:=hx;rfl
theorem Ww {es:Nat}:Ca es []=True:=by simp [Ca]
theorem U6 {es:Nat} {x:D} {l:List D}:Ca es (x :: l)=(x.cells.length=es∧Ca es l):=by simp [Ca]
theorem Wx {α:Type} {es:Nat} {f:α→D} {l:List α} (h:∀x,(f x).cells.length=es):Ca es (l.map f)=True:=by
 simp only [Ca,eq_iff_iff,iff_true];intro x hx;simp at hx;obtain⟨y,_,rfl⟩:=hx;exact h y
theorem Re {xs:List Int} {i:Nat} {A:D→Prop}:Ag (AY xs)[i]? A=(i < xs.length∧A (.int .i64 (xs[i]?.getD 0))):=by
 unfold AY
 rw [List.getElem?_map]
 by_cases h:i < xs.length
 ·simp [h,Ag]
 ·have:xs[i]?=none:=List.getElem?_eq_none (by omega)
  simp [this,h,Ag]
theorem H0 {α:Type} [Inhabited α] {f:α→D} {xs:List α} {i:Nat} {A:D→Prop}:Ag (xs.map f)[i]? A=(i < xs.length∧A (f (xs[i]?.getD default))):=by
 rw [List.getElem?_map]
 by_cases h:i < xs.length
 ·simp [h,Ag]
 ·have:xs[i]?=none:=List.getElem?_eq_none (by omega)
  simp [this,h,Ag]
theorem Rd {xs:List Nat} {i:Nat} {A:Nat→Prop}:Ag xs[i]? A=(i < xs.length∧A (xs[i]?.getD 0)):=by
 by_cases h:i < xs.length
 ·simp [h,Ag]
 ·have:xs[i]?=none:=List.getElem?_eq_none (by omega)
  simp [this,h,Ag]
def fO {α:Type} (f:α→D) (M:List (List α)):List (Bool×List D):=M.map fun r=>(false,r.map f)
section
variable {E:CX} {dst:Option Nat} {V:AN} {K:AV→Bb→Prop} {f:FuncId} {xs:List AV}
theorem AE {ds:List D} {r:D} (h:B5 E f ds r) (ha:HD xs=some ds) (hk:K (up r) .none):DR E dst V f xs K:=.inl ⟨ds,r,ha,h,hk⟩
theorem AF {ds:List D} {r:D} (h:B5 E f ds r) (ha:SM V xs=some ds) (hf:r.flat=true) (hk:K (up r) .none):DR E dst V f xs K:=.inr (.inl ⟨ds,r,ha,h,hf,hk⟩)
end
section
variable {E:CX} {Q:Bl→Aw→Prop} {s:Aw}
def XG (l:List (Nat×AV)) (k:Nat) (v:AV):List (Nat×AV):=l.map fun p=>if p.1=k then (k,v) else p
def XE (l:List (Nat×(Nat×AX))) (k:Nat) (x:AX):List (Nat×(Nat×AX)):=l.map fun p=>if p.1=k then (k,(0,x)) else p
def MN (l:List (Nat×AV)):List (Nat×AV)→List (Nat×AV)
 |[]=>l
 |(k,v) :: r=>XG (MN l r) k v
def MM (l:List (Nat×(Nat×AX))):List (Nat×AX)→List (Nat×(Nat×AX))
 |[]=>l
 |(k,v) :: r=>XE (MM l r) k v
theorem XF {k:Nat} {v:AV}:XG [] k v=[]:=rfl
theorem VP {a k:Nat} {b v:AV} {l}:XG ((a,b) :: l) k v=(if a=k then (k,v) else (a,b)) :: XG l k v:=rfl
theorem XD {k:Nat} {v:AX}:XE [] k v=[]:=rfl
theorem VN {a k:Nat} {b:Nat×AX} {v:AX} {l}:XE ((a,b) :: l) k v=(if a=k then (k,(0,v)) else (a,b)) :: XE l k v:=rfl
theorem VO {l}:MN l []=l:=rfl
theorem S0 {l k v r}:MN l ((k,v) :: r)=XG (MN l r) k v:=rfl
theorem VL {l}:MM l []=l:=rfl
theorem Sz {l k v r}:MM l ((k,v) :: r)=XE (MM l r) k v:=rfl
theorem dn {f:Nat→AV} {n:Nat}:J2.val f (.t n)=f n:=rfl
theorem dp {f:Nat→AV} {v:AV}:J2.val f (.k v)=v:=rfl
theorem VB {α:Type} (cs:List α) (off:Nat) (vs:List α):A9 cs off vs=cs.take off++vs++cs.drop (off+vs.length):=rfl
theorem AS {α:Type} (up:α→List (Nat×AV)) (uo:α→List (Nat×AX)) (Inv:α→Prop) (μ:α→Nat) (x0:α) {gs:List Ee} {ks os:List Nat} {a:PC}
  {l0:List (Nat×AV)} {m0:List (Nat×(Nat×AX))} (h0:CR gs s fun s1=>s1.nrm ks os=⟨Fk l0,⟨Be m0,fun _=>1⟩⟩)
  (he:MN l0 (up x0)=l0) (he':MM m0 (uo x0)=m0) (hI:Inv x0)
  (step:∀x,Inv x→pw E a (Io (fun s'=>CR gs s' fun s1=>∃y,s1.nrm ks os=⟨Fk (MN l0 (up y)),⟨Be (MM m0 (uo y)),fun _=>1⟩⟩∧Inv y∧μ y < μ x) Q) ⟨Fk (MN l0 (up x)),⟨Be (MM m0 (uo x)),fun _=>1⟩⟩) :
  pw E (.loop gs ks os a) Q s :=
 XW (fun x=>⟨Fk (MN l0 (up x)),⟨Be (MM m0 (uo x)),fun _=>1⟩⟩) Inv μ x0 (by rw [he,he'];exact h0) hI step
end
theorem AC (n:Int) (h:-9223372036854775808≤n∧n≤9223372036854775807):IntKind.i64.wrap n=n:=Go.IntWalk.i64_in n h
theorem XR {E:CX} {rs r s}:du E rs r .ret s=IW E s rs (ML s.V r):=rfl
theorem XT {E:CX} {s K}:IW E s [] K=K []:=rfl
theorem VT {E:CX} {s r l K}:IW E s (r :: l) K=S4 E s r fun v=>IW E s l fun vs=>K (v :: vs):=rfl
theorem cR {E:CX} {s n K}:S4 E s (.t n) K=K (s.sl n):=rfl
theorem cT {E:CX} {s a ty ag n K}:S4 E s (.c a ty ag n) K=ev E none s.V (.load ag n) [s.sl a] fun v _=>K v:=rfl
theorem Zl {V r v}:ML V r [v]=(v.snap V=some r):=rfl
theorem Zk {V r v u}:ML V r [v,u]=((Ah (AV.snap V) [v,u]).map .tup=some r):=rfl
theorem Zj {V r v u t}:ML V r [v,u,t]=((Ah (AV.snap V) [v,u,t]).map .tup=some r):=rfl
theorem cI {V k n}:AV.snap V (.d (.int k n))=some (.int k n):=rfl
theorem Zn {V b}:AV.snap V (.d (.bool b))=some (.bool b):=rfl
theorem Zm {V n l}:AV.snap V (.d (.list n l))=some (.list n l):=rfl
theorem cH {V o g}:AV.snap V (.own o g)=match V.get o g with|some (.row _ _ nil xs)=>some (.list nil xs)|_=>none:=rfl
theorem cJ {V cs}:AV.snap V (.agg cs)=match Ah (AV.snap0 V) cs with|some l=>some (.agg l)|none=>none:=rfl
theorem cM {V k n}:AV.snap0 V (.d (.int k n))=some (.int k n):=rfl
theorem Zi {α:Type} {a b:α}:(some a=some b)=(a=b):=by simp
theorem Ve {α β:Type} {f:α→β} {a:α}:Option.map f (some a)=some (f a):=rfl
section
variable {k k':IntKind} {a b:Int} {C:AV→Prop}
theorem bG:Co .eql k k' a b C=(k=k'∧(a=b→C (.d (.bool true)))∧(¬a=b→C (.d (.bool false)))):=by
 rw [WM];by_cases h:a=b<;>simp [h]
theorem bA:Co .neq k k' a b C=(k=k'∧(a=b→C (.d (.bool false)))∧(¬a=b→C (.d (.bool true)))):=by
 rw [WG];by_cases h:a=b<;>simp [h]
theorem bB:Co .lss k k' a b C=(k=k'∧(a < b→C (.d (.bool true)))∧(¬a < b→C (.d (.bool false)))):=by
 rw [WI];by_cases h:a < b<;>simp [h]
theorem bD:Co .leq k k' a b C=(k=k'∧(a≤b→C (.d (.bool true)))∧(¬a≤b→C (.d (.bool false)))):=by
 rw [WJ];by_cases h:a≤b<;>simp [h]
theorem bE:Co .gtr k k' a b C=(k=k'∧(b < a→C (.d (.bool true)))∧(¬b < a→C (.d (.bool false)))):=by
 rw [WK];by_cases h:b < a<;>simp [h]
theorem bF:Co .geq k k' a b C=(k=k'∧(b≤a→C (.d (.bool true)))∧(¬b≤a→C (.d (.bool false)))):=by
 rw [WL];by_cases h:b≤a<;>simp [h]
end
section
variable {E:CX} {dst:Option Nat} {V:AN} {K:AV→Bb→Prop} {f:FuncId} {xs:List AV}
theorem AG {ds:List D} {b:Bool} (h:B5 E f ds (.bool b)) (ha:HD xs=some ds) (h1:b=true→K (.d (.bool true)) .none) (h2:b=false→K (.d (.bool false)) .none):DR E dst V f xs K :=
 AE h ha (by cases b with|true=>exact h1 rfl|false=>exact h2 rfl)
theorem AB {ds:List D} {b:Bool} (h:B5 E f ds (.bool b)) (ha:SM V xs=some ds) (h1:b=true→K (.d (.bool true)) .none) (h2:b=false→K (.d (.bool false)) .none):DR E dst V f xs K :=
 AF h ha rfl (by cases b with|true=>exact h1 rfl|false=>exact h2 rfl)
theorem Vd {α:Type} {p:Prop} [Decidable p] {x:α} {A:α→Prop}:Ag (if p then some x else none) A=(p∧A x):=by
 by_cases h:p<;>simp [h,Ag]
end
section
variable {E:CX} {K:Aw→Prop}
def I' (j:Nat):List (Nat×OP)→Option OP
 |[]=>none
 |(i,r) :: l=>if j=i then some r else I' j l
def OA (x:Option OP) (b:OP):Bool:=match x with|some r=>JM r b|none=>false
def P2 (need:List Nat) (i:Nat) (r:OP) (rec:List (Nat×OP)):List (Nat×OP):=if need.contains i then (i,r) :: rec else rec
def Mh (E:CX):Nat→List Nat→List (Fh×List Nat)→List (Nat×OP)→Aw→(Aw→Prop)→Prop
 |_,_,[],_,s,K=>K s
 |i,need,(I,dy) :: l,rec,s,K=>Dm E I s fun v ch =>
  (dy.all fun j=>OA (I' j rec) (ch.site,Cv I s))=true ∧
  Mh E (i+1) need l (P2 need i (ch.site,Cv I s) rec) (put s I.dst v ch) K
theorem UQ {need:List Nat}:∀{l:List (Fh×List Nat)} {rec:List OP} {recE:List (Nat×OP)} {s:Aw},(∀j,j∈l.flatMap (·.2)→j∈need)→(∀j,j∈need→I' j recE=rec[j]?)→OV E l rec s K=Mh E rec.length need l recE s K
 |[],_,_,_,_,_=>rfl
 |(I,dy) :: l,rec,recE,s,hn,hr=>by
  simp only [OV,Mh]
  congr 1
  funext v ch
  have h1:(dy.all fun j=>match rec[j]? with|some r=>JM r (ch.site,Cv I s)|none=>false)=(dy.all fun j=>OA (I' j recE) (ch.site,Cv I s)):=by
   rw [Bool.eq_iff_iff,List.all_eq_true,List.all_eq_true]
   have:∀j,j∈dy→(match rec[j]? with|some r=>JM r (ch.site,Cv I s)|none=>false)=OA (I' j recE) (ch.site,Cv I s):=fun j hj=>by
    rw [hr j (hn j (by simp [hj]))];rfl
   exact⟨fun h j hj=>by rw [←this j hj];exact h j hj,fun h j hj=>by rw [this j hj];exact h j hj⟩
  refine congr (congrArg And (congrArg (fun b=>b=true) h1)) ?_
  have h2:=UQ (need:=need) (l:=l) (rec:=rec++[(ch.site,Cv I s)]) (recE:=P2 need rec.length (ch.site,Cv I s) recE) (s:=put s I.dst v ch) (fun j hj=>hn j (by simp at hj ⊢;exact .inr hj)) fun j hj=>by
   unfold P2
   by_cases h:need.contains rec.length=true
   ·rw [if_pos h]
    simp only [I']
    by_cases hjl:j=rec.length
    ·subst hjl;simp
    ·rw [if_neg hjl,hr j hj]
     by_cases hlt:j < rec.length
     ·rw [List.getElem?_append_left hlt]
     ·rw [List.getElem?_eq_none (by omega),List.getElem?_eq_none (by simp;omega)]
   ·rw [if_neg h,hr j hj]
    have hne:j≠rec.length:=by rintro rfl;exact h (by simpa using hj)
    by_cases hlt:j < rec.length
    ·rw [List.getElem?_append_left hlt]
    ·rw [List.getElem?_eq_none (by omega),List.getElem?_eq_none (by simp;omega)]
  rw [h2];simp
theorem XX {Q:Bl→Aw→Prop} {s:Aw} {gs l ks}:pw E (.draw gs l ks) Q s=CR gs s fun s'=>Mh E 0 (l.flatMap (·.2)) l [] s' fun s'=>Q .normal (s'.keep ks):=by
 rw [Zx]
 congr 1;funext s'
 exact UQ (rec:=[]) (recE:=[]) (fun j hj=>hj) fun j hj=>by simp [I']
theorem XJ {i need r} {s:Aw}:Mh E i need [] r s K=K s:=rfl
theorem S1 {i need I l r} {s:Aw}:Mh E i need ((I,[]) :: l) r s K=Dm E I s fun v ch=>Mh E (i+1) need l (P2 need i (ch.site,Cv I s) r) (put s I.dst v ch) K:=by
 simp [Mh]
theorem VR {i need I j dy l r} {s:Aw}:Mh E i need ((I,j :: dy) :: l) r s K=Dm E I s fun v ch =>
 ((j :: dy).all fun j=>OA (I' j r) (ch.site,Cv I s))=true∧Mh E (i+1) need l (P2 need i (ch.site,Cv I s) r) (put s I.dst v ch) K:=rfl
theorem BH {z:Nat} {i i' need need' l} {r r':List (Nat×OP)} {s s':Aw} (hz:Ji=z) (hi:i=i') (hn:need=need') (hr:r=r') (h:s=s'):Mh E i need l r s K=Mh E i' need' l r' s' K:=by rw [h,hr,hi,hn]
theorem cU {need:List Nat} {i:Nat} {r:OP} {rec:List (Nat×OP)} (h:need.contains i=true):P2 need i r rec=(i,r) :: rec:=by simp only [P2,h,if_true]
theorem cV {need:List Nat} {i:Nat} {r:OP} {rec:List (Nat×OP)} (h:need.contains i=false):P2 need i r rec=rec:=by simp only [P2,h,Bool.false_eq_true,if_false]
theorem Vm {j:Nat}:I' j []=none:=rfl
theorem TN {j i:Nat} {r:OP} {l}:I' j ((i,r) :: l)=if j=i then some r else I' j l:=rfl
theorem ZA {r b:OP}:OA (some r) b=JM r b:=rfl
theorem eR {a f b f'}:JM (a,f) (b,f')=((a.all fun o=>!f'.contains o) && (b.all fun o=>!f.contains o)):=rfl
theorem Yd {d g op xs} {sl:Nat→AV} {V:AN}:Cv ⟨d,g,op,xs⟩ ⟨sl,V⟩=fp V d op (xs.map (J2.val sl)):=rfl
theorem ep {x}:AV.sites (.d x)=[]:=by cases x<;>rfl
theorem dr {x}:AV.sites (.ex x)=[]:=rfl
theorem Ze {x n}:AV.sites (.dptr x n)=[]:=rfl
theorem cC {o g}:AV.sites (.own o g)=[o]:=rfl
theorem cB {o g f}:AV.sites (.ptr o g f)=[o]:=rfl
theorem Zc {o g e i f}:AV.sites (.rptr o g e i f)=[o]:=rfl
theorem Zd {k o g}:AV.sites (.mref k o g)=[o]:=rfl
theorem Zf {s l f}:AV.sites (.ablk s l f)=AV.sites.sitesL l:=rfl
theorem cE {l}:AV.sites (.agg l)=AV.sites.sitesL l:=rfl
theorem dq {f l}:AV.sites (.fn f l)=AV.sites.sitesL l:=rfl
theorem cA {l}:AV.sites (.tup l)=AV.sites.sitesL l:=rfl
theorem Zg:AV.sites.sitesL []=[]:=rfl
theorem W5 {x l}:AV.sites.sitesL (x :: l)=x.sites++AV.sites.sitesL l:=rfl
section
variable {d:Option Nat} {xs:List AV} {V:AN}
theorem dD:fp V d .mov xs=[]:=rfl
theorem aZ:fp V d .pick xs=[]:=rfl
theorem dF {b}:fp V d (.bin b) xs=[]:=rfl
theorem d9 {b}:fp V d (.un b) xs=[]:=rfl
theorem Ya {a}:fp V d (.faddr a) xs=[]:=rfl
theorem Vz {a b}:fp V d (.iaddrA a b) xs=[]:=rfl
theorem Yc {a b}:fp V d (.build a b) xs=[]:=rfl
theorem YZ {a b c e}:fp V d (.mkrow a b c e) xs=[]:=rfl
theorem Tj {a}:fp V d (.extract a) xs=[]:=rfl
theorem aa {a b}:fp V d (.load a b) xs=AV.sites.sitesL xs:=rfl
theorem Vy {a}:fp V d (.iaddrS a) xs=AV.sites.sitesL xs:=rfl
theorem dE {a}:fp V d (.len a) xs=AV.sites.sitesL xs:=rfl
theorem YY {a}:fp V d (.store a) xs=d.toList++AV.sites.sitesL xs:=rfl
theorem ab {a}:fp V d (.call a) xs=B0 d V xs:=rfl
theorem Yb:fp V d .callv xs=B0 d V xs:=rfl
theorem T8 {t}:B0 (some t) V xs=Du t++V.reach 3 (AV.sites.sitesL xs):=rfl
theorem aA {t}:Du t=[t,t+10000,t+20000,t+30000]:=rfl
theorem O3:∀{n:Nat},V.reach n []=[]
 |0=>rfl
 |n+1=>by simp only [AN.reach,List.flatMap_nil,O3,List.append_nil]
theorem Zu {o l}:V.reach 3 (o :: l)=(o :: l)++V.reach 2 ((o :: l).flatMap V.osites):=rfl
def P':Option (Nat×AX)→List Nat
 |some (_,.cells xs)=>AV.sites.sitesL xs
 |some (_,.rowH _ _ _ q _)=>[q]
 |_=>[]
theorem VY {ob cn o}:(AN.mk ob cn).osites o=P' (ob o):=rfl
theorem Vf {g xs}:P' (some (g,.cells xs))=AV.sites.sitesL xs:=rfl
theorem Z7 {g a b c d e}:P' (some (g,.mat a b c d e))=[]:=rfl
theorem dG {a b c e}:fp V d (.app a b c e) xs=d.toList++AV.sites.sitesL xs:=rfl
end
theorem Wz {a:Nat}:(some a).toList=[a]:=rfl
theorem W2:(none:Option Nat).toList=[]:=rfl
end
theorem F2 {k n}:(D.int k n).WF=J3 k n:=by rw [D.WF]
theorem FO {b}:(D.bool b).WF=True:=by rw [D.WF]
theorem El {nl xs}:(D.list nl xs).WF=(xs.length≤maxLen∧∀x,x∈xs→x.WF):=by rw [D.WF]
theorem G6 {xs}:(D.agg xs).WF=(∀x,x∈xs→x.WF):=by rw [D.WF]
theorem G5 {xs}:(D.ptr xs).WF=(∀x,x∈xs→x.WF):=by rw [D.WF]
theorem J4 {f xs}:(D.fn f xs).WF=(∀x,x∈xs→x.WF):=by rw [D.WF]
theorem G4 {xs}:(D.tup xs).WF=(∀x,x∈xs→x.WF):=by rw [D.WF]
theorem FN {nl} {xs:List Int}:(D.list nl (AY xs)).WF=(xs.length≤maxLen∧∀x,x∈xs→J3 .i64 x):=by
 rw [El,DW];simp [AY,F2]
theorem Ce {x:D} {l:List D}:(∀y,y∈x :: l→y.WF)=(x.WF∧∀y,y∈l→y.WF):=by simp
theorem C1:(∀y,y∈([]:List D)→y.WF)=True:=by simp
theorem C2 {α:Type} {f:α→D} {l:List α}:(∀y,y∈l.map f→y.WF)=(∀x,x∈l→(f x).WF):=by simp
theorem FQ {n:Int}:J3 .i64 n=(-9223372036854775808≤n∧n≤9223372036854775807):=by
 simp [J3,IntKind.min,IntKind.max,IntKind.signed,IntKind.bits]
theorem Dd:maxLen=9223372036854775807:=rfl
theorem SL {x:AV} {d:D} {xs:List AV} {ds:List D} (h:x.toD1=some d) (h':Ah AV.toD1 xs=some ds):HD (x :: xs)=some (d :: ds):=by
 simp only [HD,Ah,h,h']
theorem Y3:CE=1073741824:=rfl
theorem cu:D3=900000:=rfl
theorem Ec (V0:List (Nat×Nat×AX)) (xs:List AV):Aw.enterM V0 xs=⟨Fk (xs.zipIdx.map fun(d,k)=>(k,d)),⟨Be V0,fun _=>1⟩⟩:=by
 have key:∀(xs:List AV) (n t:Nat),(match xs[t]? with|some d=>d|none=>.undef)=Fk ((xs.zipIdx n).map fun(d,k)=>(k,d)) (n+t):=by
  intro xs
  induction xs with
  |nil=>intro n t;simp [Fk]
  |cons x xs ih =>
   intro n t
   cases t with
   |zero=>simp [Fk]
   |succ t =>
    have:=ih (n+1) t
    simp only [List.getElem?_cons_succ,List.zipIdx_cons,List.map_cons,Fk]
    rw [if_neg (by omega),this]
    congr 1;omega
 unfold Aw.enterM
 congr 1
 funext t
 have:=key xs 0 t
 simp only [Nat.zero_add] at this
 rw [←this]
 cases xs[t]?<;>rfl
theorem E3 {E:CX} {dst:Option Nat} {V:AN} {K:AV→Bb→Prop} {f:FuncId} {xs:List AV} {V0 V1:List (Nat×Nat×AX)} {cxs:List AV} {r r':AV} {ch:Bb} (ρ ρ2:DK) (h:Hq E f V0 cxs V1 r) (h1:Lb ρ cxs xs)
  (h2:Handed V (B0 dst V xs) ρ V0) (h3:B7 V.cn dst V0 V1 ρ ρ2=true) (h4:r.ren ρ2=some r') (h5:Dr ρ ρ2 V1=some ch) (hk:K r' ch):DR E dst V f xs K :=
 .inr (.inr (.inr ⟨V0,cxs,V1,r,r',ch,ρ,ρ2,h1,h,h2,h3,h4,h5,hk⟩))
theorem XS {E:CX} {rs V1 r s}:cP E rs V1 r .ret s=(IW E s rs (bb V1 s.V r)∧X8 s.V V1):=rfl
theorem RY {E:CX} {rs V1 r s}:cP E rs V1 r .normal s=(IW E s rs (bb V1 s.V r)∧X8 s.V V1):=rfl
section
variable {V:AN} {V1:List (Nat×Nat×AX)}
theorem d5 {r v}:bb V1 V r [v]=PO V1 V v r:=rfl
theorem d6 {rs}:bb V1 V (.tup rs) []=PP V1 V [] rs:=rfl
theorem WX:PP V1 V [] []=True:=rfl
theorem a6 {v d}:PO V1 V v (.d d)=(v.snap V=some d∧(v.sites.all fun o=>!Tb V1 o)=true):=rfl
theorem WW {v o g}:PO V1 V v (.own o g)=(v=.own o g):=rfl
theorem YC {o}:Tb [] o=false:=rfl
theorem Vt {p l o}:Tb (p :: l) o=(p.1 == o || Tb l o):=rfl
def TY:Option (Nat×AX)→Nat→AX→Prop
 |some (g',.map t l),g,.map t' l'=>g'=g∧t=t'∧l=l'
 |some (g',.row a b c l),g,.row a' b' c' l'=>g'=g∧a=a'∧b=b'∧c=c'∧l=l'
 |some (g',.cells l),g,.cells l'=>g'=g∧l=l'
 |some (g',.hist a b c),g,.hist a' b' c'=>g'=g∧a=a'∧b=b'∧c=c'
 |some (g',.rowH a b c d e),g,.rowH a' b' c' d' e'=>g'=g∧a=a'∧b=b'∧c=c'∧d=d'∧e=e'
 |some (g',.mat a b c d e),g,.mat a' b' c' d' e'=>g'=g∧a=a'∧b=b'∧c=c'∧d=d'∧e=e'
 |_,_,_=>False
theorem aN {x:Option (Nat×AX)} {g:Nat} {y:AX}:TY x g y=(x=some (g,y)):=by
 cases x with
 |none=>simp [TY]
 |some p=>obtain⟨g',z⟩:=p;cases z<;>cases y<;>simp [TY]
theorem X9 {g' a b c l g a' b' c' l'}:TY (some (g',.row a b c l)) g (.row a' b' c' l')=(g'=g∧a=a'∧b=b'∧c=c'∧l=l'):=rfl
theorem X_ {g' a b c d e g a' b' c' d' e'}:TY (some (g',.mat a b c d e)) g (.mat a' b' c' d' e')=(g'=g∧a=a'∧b=b'∧c=c'∧d=d'∧e=e'):=rfl
theorem TX {g' l g l'}:TY (some (g',.cells l)) g (.cells l')=(g'=g∧l=l'):=rfl
theorem aM:X8 V []=True:=rfl
theorem X7 {o g x l}:X8 V ((o,g,x) :: l)=(TY (V.ob o) g x∧X8 V l):=by rw [aN];rfl
end
theorem isCall {E:CX} {dst:Option Nat} {V:AN} {K:AV→Bb→Prop} {f:FuncId} {xs:List AV} (h:DR E dst V f xs K):DR E dst V f xs K:=h
theorem AW {α:Type} {S:Aw} {T:α→Aw} {I M:α→Prop} (h:∃y,S=T y∧I y∧M y):∃y,S=T y∧I y∧M y:=h
theorem Aa {α β:Type} {S:Aw} {T:α×β→Aw} {I M:α×β→Prop} (h:∃y,S=T y∧I y∧M y):∃y,S=T y∧I y∧M y:=h
theorem AU {α β γ:Type} {S:Aw} {T:α×β×γ→Aw} {I M:α×β×γ→Prop} (h:∃y,S=T y∧I y∧M y):∃y,S=T y∧I y∧M y:=h
theorem A8 {α β γ δ:Type} {S:Aw} {T:α×β×γ×δ→Aw} {I M:α×β×γ×δ→Prop} (h:∃y,S=T y∧I y∧M y):∃y,S=T y∧I y∧M y:=h
theorem cq {m k a}:GF m k a []=some a:=rfl
theorem cr {k:IntKind} {a b:Int} {rest}:GF true k a (.d (.int k b) :: rest)=GF true k (max a b) rest:=by
 simp only [GF,if_true,aC];congr 1;omega
theorem U_ {α:Type} (xs:List α) (a:Nat):(xs.drop a).take (xs.length - a)=xs.drop a:=List.take_of_length_le (by simp)
theorem W4 {α:Type} (xs:List α):xs.take xs.length=xs:=List.take_length
theorem VA (n:Nat):n - 0=n:=rfl
def fg (a b:List D):Prop:=EO a b=true
section
variable {E:CX} {dst:Option Nat} {V:AN} {K:AV→Bb→Prop}
end
def fk (E:CX) (p:PC) (Q:Bl→Aw→Prop) (s:Aw):Prop:=∃e s',Q e s'∧∀Q':Bl→Aw→Prop,Q' e s'→pw E p Q' s
attribute [go_sem] dR Zv Zy cY XX cW Zz XY Zw cX Pl So U9 Oh T_ SI Tc Rr YH YI aW YJ YS YL aY Ti YK aX Th YU dC YG Z3 Xf YF aV d8 dB Vw Z2 Z1 XI VQ XJ S1 VR cU cV Vm TN ZA eR Yd ep dr Ze cC cB Zc Zd Zf cE dq cA Zg W5 dD aZ dF d9 Ya Vz Yc YZ Tj aa Vy dE YY ab Yb dG Wz W2 List.flatMap_cons List.flatMap_nil VH Sy VI W8 T8 aA O3 Zu VY Vf Z7 Q9 Zb aQ aR aP XZ Xa Y_ Y' Wb bK aJ co Jf Xw TO Vn dA Wu ZW Wt au TP Rj Xj Xk S_ d0 Vg Z_ Z9 Xl Xn cm Xo Vh aH dx Z5 ci Ys WS WR dX a8 dW a9 a7 dV eM b9 Za Vo TQ b_ bN eV db eU eT Xu fF eQ bI V3 Tn V4 To WY T7 bv ZX bw bu dL al dQ dK R1 QO QP V8 QL Mm QR Ob Tw Tv dP an Tx ao QQ R5 Yo QN Tq QM Tr Tt Tu Ry Rz R4 R3 Yp TC Rd V6 am aj R0 V5 Tp Oa dN cO cN dM Ym V7 T0 T1 V9 T2 R6 Tz cZ ce bG bA bB bD bE bF Vd WO WA WH WE WD WC WB WN V_ Rc P_ TA TB U_ W4 VA cq cr T6 Km JK QD DW X6 Vs X4 X5 TW Vr Ww U6 Re H0 XR XS RY d6 d5 WX a6 WW YC Vt X9 X_ TX aM X7 XT VT cR cT Zl Zk Zj cI Zn Zm cH cJ cM Zi Ve dn dp List.map_cons List.map_nil List.zipIdx_cons List.zipIdx_nil List.zip_cons_cons List.zip_nil_left List.length_cons List.length_nil List.getElem?_cons_zero List.getElem?_cons_succ List.drop_zero List.drop_succ_cons List.take_succ_cons List.take_zero List.take_nil List.drop_nil List.contains_cons List.contains_nil List.filter_cons List.filter_nil List.all_cons List.all_nil List.cons_append List.nil_append List.append_nil List.set_cons_zero List.set_cons_succ VB List.replicate_succ List.replicate_zero List.isEmpty_cons List.isEmpty_nil List.length_map id_eq Nat.lt_irrefl Nat.zero_add Nat.add_zero Nat.zero_mul Nat.one_mul Nat.mul_one if_true if_false Bool.false_eq_true Bool.not_true Bool.not_false Bool.true_or Bool.false_or Bool.or_true Bool.or_false Bool.true_and Bool.false_and Bool.and_true Bool.and_false beq_self_eq_true Bool.and_self Bool.or_self true_and and_true false_and and_false ite_self exists_prop_of_true exists_prop not_false_eq_true not_true_eq_false forall_const eq_self and_self true_implies false_implies implies_true ne_eq List.cons_ne_nil Nat.le_refl Nat.not_lt_zero XF VP XD VN VO S0 VL Sz Int.toNat_natCast Int.toNat_zero Y3 cu
attribute [go_sem_proc] Nat.reduceAdd Nat.reduceSub Nat.reduceMul Nat.reduceEqDiff Nat.reduceBEq Nat.reduceLeDiff Nat.reduceLT Int.reduceToNat Int.reduceLE Int.reduceLT Int.reduceNeg reduceIte reduceCtorEq Int.reduceEq Int.reduceAdd Int.reduceSub Int.reduceMul
end Go.Pw
