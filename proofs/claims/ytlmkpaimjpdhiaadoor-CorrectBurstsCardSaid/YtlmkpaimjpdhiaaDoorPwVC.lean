/- A part of the proof. -/
import Derived.Test.YtlmkpaimjpdhiaaDoorPkZa
import Derived.IntWalk
set_option linter.all false
namespace Go.Pw
set_option linter.unusedSimpArgs false
set_option linter.unusedVariables false
def Jt:Nat:=0
theorem dg:Jt=0:=Eq.symm (Eq.symm rfl)
def JO (v:AV) (b:Bool) (A B:Prop):Prop :=
 match v with
 |.d (.bool b')=>GZ (b == b') A B
 |.tup []=>B
 |_=>False
def R_ (v:AV) (t:Nat) (sl:Nat→AV) (V:AN) (KS:Aw→Prop):Prop :=
 match v with
 |.own o g=>Hb (V.get o g) fun _ _ nl l=>KS ⟨B2 sl t (.d (.list nl l)),V.drop o⟩
 |_=>KS ⟨sl,V⟩
def Yf (v:AV) (t:Nat) (sl:Nat→AV) (V:AN) (KS:Aw→Prop):Prop :=
 match v with
 |.ptr o g 0=>F1 (V.get o g) fun xs=>Ag (Ah AV.toD1 xs) fun cs=>cs≠[]∧KS ⟨B2 sl t (.d (.ptr cs)),V.drop o⟩
 |_=>KS ⟨sl,V⟩
def fO (y:Option AX) (o g:Nat) (sl:Nat→AV) (V:AN) (KS:Aw→Prop):Prop :=
 match y with
 |some (.rowH ety l i q p)=>Hb (V.get q p) fun _ _ nl xs=>KS ⟨sl,(V.drop q).app (.keep o g (.row ety 1 false (l.set i (.list nl xs))))⟩
 |_=>KS ⟨sl,V⟩
def fz (v:AV) (sl:Nat→AV) (V:AN) (KS:Aw→Prop):Prop :=
 match v with
 |.own o g=>fO (V.get o g) o g sl V KS
 |_=>KS ⟨sl,V⟩
def Yh (v:AV) (t:Nat) (sl:Nat→AV) (V:AN) (KS:Aw→Prop):Prop :=
 match v with
 |.mref .out o g=>Fd (V.get o g) fun _ _ nl ix rows=>KS ⟨B2 sl t (.d (.list nl (Hc ix rows))),V.drop o⟩
 |_=>KS ⟨sl,V⟩
def Yl (x:Option AX) (t o:Nat) (sl:Nat→AV) (V:AN) (KS:Aw→Prop):Prop :=
 match x with
 |some (.cells (c :: l))=>KS ⟨B2 sl t (.ablk false (c :: l) 0),V.drop o⟩
 |_=>False
def Yk (v:AV) (t:Nat) (sl:Nat→AV) (V:AN) (KS:Aw→Prop):Prop :=
 match v with
 |.ptr o g 0=>Yl (V.get o g) t o sl V KS
 |_=>KS ⟨sl,V⟩
def SA (x:Option AV) (b g k:Nat) (xs:List AV) (sl:Nat→AV) (V:AN) (KS:Aw→Prop):Prop :=
 match x with
 |some (.own o p)=>Hb (V.get o p) fun _ _ nl l=>KS ⟨sl,(V.drop o).app (.keep b g (.cells (xs.set k (.d (.list nl l)))))⟩
 |_=>KS ⟨sl,V⟩
def WD (v:AV) (off:Nat) (sl:Nat→AV) (V:AN) (KS:Aw→Prop):Prop :=
 match v with
 |.ptr b g f=>(match V.get b g with
  |some (.cells xs)=>SA xs[f+off]? b g (f+off) xs sl V KS
  |_=>KS ⟨sl,V⟩)
 |_=>KS ⟨sl,V⟩
def Yj (y:Option AX) (b g k:Nat) (sl:Nat→AV) (V:AN) (KS:Aw→Prop):Prop :=
 match y with
 |some (.cells xs)=>SA xs[k]? b g k xs sl V KS
 |_=>KS ⟨sl,V⟩
def Xu (v:AV) (t o e1 e2:Nat) (sl:Nat→AV) (V:AN) (KS:Aw→Prop):Prop :=
 match v with
 |.d (.list true [])=>o < D5∧KS ⟨B2 sl t (.mref .out o (V.cn o)),V.app (.fresh o (.mat e1 e2 true [] []))⟩
 |_=>KS ⟨sl,V⟩
def Xs (v:AV) (t o ety es:Nat) (sl:Nat→AV) (V:AN) (KS:Aw→Prop):Prop :=
 match v with
 |.d (.list true [])=>o < D5∧KS ⟨B2 sl t (.own o (V.cn o)),V.app (.fresh o (.row ety es true []))⟩
 |_=>KS ⟨sl,V⟩
def fK (x:Option AV) (b g k o ety es:Nat) (xs:List AV) (sl:Nat→AV) (V:AN) (KS:Aw→Prop):Prop :=
 match x with
 |some (.d (.list true []))=>o < D5∧o≠b∧KS ⟨sl,(V.app (.fresh o (.row ety es true []))).app (.keep b g (.cells (xs.set k (.own o (V.cn o)))))⟩
 |_=>KS ⟨sl,V⟩
def fL (y:Option AX) (b g k o ety es:Nat) (sl:Nat→AV) (V:AN) (KS:Aw→Prop):Prop :=
 match y with
 |some (.cells xs)=>fK xs[k]? b g k o ety es xs sl V KS
 |_=>KS ⟨sl,V⟩
def fu (v:AV) (off o ety es:Nat) (sl:Nat→AV) (V:AN) (KS:Aw→Prop):Prop :=
 match v with
 |.ptr b g f=>fL (V.get b g) b g (f+off) o ety es sl V KS
 |_=>KS ⟨sl,V⟩
section
variable {E:CZ} {Q:Bn→Aw→Prop} {s s':Aw} {K:AV→Bd→Prop} {KS:Aw→Prop}
theorem Ch {z:Nat} {p:PC} (hz:Jt=z) (h:s=s'):pw E p Q s=pw E p Q s':=by rw [h]
theorem BI {z:Nat} {l:List Fm} (hz:Jt=z) (h:s=s'):Kg E l s KS=Kg E l s' KS:=by rw [h]
theorem A0 {z:Nat} {I:Fm} (hz:Jt=z) (h:s=s'):Dr E I s K=Dr E I s' K:=by rw [h]
theorem Ci {z:Nat} {dst:Option Nat} {op:Bj} {V V':AN} {xs xs':List AV} (hz:Jt=z) (hV:V=V') (h:xs=xs'):ev E dst V op xs K=ev E dst V' op xs' K:=by rw [h,hV]
theorem A5 {z:Nat} {b:BinOp} {k k' k1 k2:IntKind} {x y x' y':Int} {C:AV→Prop} (hz:Jt=z) (h1:k=k1) (h2:k'=k2) (hx:x=x') (hy:y=y'):Cr b k k' x y C=Cr b k1 k2 x' y' C:=by rw [h1,h2,hx,hy]
theorem A7 {z:Nat} {c c':Bool} {A B:Prop} (hz:Jt=z) (h:c=c'):GZ c A B=GZ c' A B:=by rw [h]
theorem A6 {z:Nat} {v v':AV} {A B:Prop} (hz:Jt=z) (h:v=v'):OH v A B=OH v' A B:=by rw [h]
theorem Az {z:Nat} {e e':Bn} {A:Aw→Prop} (hz:Jt=z) (he:e=e') (h:s=s'):Iy A Q e s=Iy A Q e' s':=by rw [he,h]
theorem Ar {z:Nat} {i:Nat} {e e':Bn} (hz:Jt=z) (he:e=e') (h:s=s'):II i Q e s=II i Q e' s':=by rw [he,h]
theorem Am {α:Type} {z:Nat} {x y:Option α} {A:α→Prop} (hz:Jt=z) (h:x=y):Ag x A=Ag y A:=by rw [h]
theorem Ai {z:Nat} {x y:Option AX} {A} (hz:Jt=z) (h:x=y):F1 x A=F1 y A:=by rw [h]
theorem A2 {z:Nat} {x y:Option AX} {A} (hz:Jt=z) (h:x=y):Hb x A=Hb y A:=by rw [h]
theorem Ap {z:Nat} {gs:List Eg} (hz:Jt=z) (h:s=s'):CT gs s KS=CT gs s' KS:=by rw [h]
theorem A4 {z:Nat} {g:Eg} (hz:Jt=z) (h:s=s'):EO g s KS=EO g s' KS:=by rw [h]
theorem Aq {z:Nat} {dst:Option Nat} {V V':AN} {f:FuncId} {xs xs':List AV} (hz:Jt=z) (hV:V=V') (h:xs=xs'):DV E dst V f xs K=DV E dst V' f xs' K:=by rw [h,hV]
theorem BM {z:Nat} {α:Type} {ag:Bool} {n n':Nat} {cs cs':List α} {off off':Nat} {mk:List α→AV} {one:α→AV} {C:AV→Prop} (hz:Jt=z) (hn:n=n') (h:cs=cs') (ho:off=off'):Bc ag n cs off mk one C=Bc ag n' cs' off' mk one C:=by rw [hn,h,ho]
theorem Bm {z:Nat} {lo hi:Bool} {n n':Nat} {xs xs':List AV} {C:Nat→Nat→Prop} (hz:Jt=z) (hn:n=n') (h:xs=xs'):LK lo hi n xs C=LK lo hi n' xs' C:=by rw [hn,h]
theorem Ao {z:Nat} {v v':AV} {b:Bool} {A B:Prop} (hz:Jt=z) (h:v=v'):JO v b A B=JO v' b A B:=by rw [h]
theorem BP {z:Nat} {v v':AV} {t:Nat} {sl:Nat→AV} {V:AN} (hz:Jt=z) (h:v=v'):R_ v t sl V KS=R_ v' t sl V KS:=by rw [h]
theorem BN {z:Nat} {v v':AV} {t o ety es:Nat} {sl:Nat→AV} {V:AN} (hz:Jt=z) (h:v=v'):Xs v t o ety es sl V KS=Xs v' t o ety es sl V KS:=by rw [h]
theorem BK {z:Nat} {rs:List RT} {K:List AV→Prop} (hz:Jt=z) (h:s=s'):Ih E s rs K=Ih E s' rs K:=by rw [h]
theorem BL {z:Nat} {r:RT} {K:AV→Prop} (hz:Jt=z) (h:s=s'):TG E s r K=TG E s' r K:=by rw [h]
theorem AM {b:Bool} {A B:Prop} (h1:b=true→A) (h2:b=false→B):GZ b A B:=⟨h1,h2⟩
theorem Zp {d t b op xs} {sl:Nat→AV} {V:AN}:Dr E ⟨d,some (t,b),op,xs⟩ ⟨sl,V⟩ K=JO (sl t) b (ev E d V op (xs.map (KB.val sl)) K) (K (.tup []) .none):=rfl
theorem ah {b:Bool} {A B:Prop}:JO (.d (.bool b)) true A B=GZ b A B:=by simp [JO]
theorem ai {b:Bool} {A B:Prop}:JO (.d (.bool b)) false A B=GZ b B A:=by cases b<;>simp [JO]
theorem af {b:Bool} {A B:Prop}:JO (.tup []) b A B=B:=rfl
theorem YV {t:Nat} {sl:Nat→AV} {V:AN}:EO (.freeze t) ⟨sl,V⟩ KS=R_ (sl t) t sl V KS:=by
 simp only [EO,R_]
 cases sl t with
 |own o g=>simp only;cases V.get o g with
  |none=>rfl
  |some x=>cases x<;>rfl
 |_=>rfl
theorem al {t o g:Nat} {sl:Nat→AV} {V:AN}:R_ (.own o g) t sl V KS=Hb (V.get o g) fun _ _ nl l=>KS ⟨B2 sl t (.d (.list nl l)),V.drop o⟩:=rfl
theorem eL {t:Nat} {x:D} {sl:Nat→AV} {V:AN}:R_ (.d x) t sl V KS=KS ⟨sl,V⟩:=rfl
theorem dQ {t:Nat} {x:List D} {sl:Nat→AV} {V:AN}:R_ (.ex x) t sl V KS=KS ⟨sl,V⟩:=rfl
theorem WC {t:Nat} {sl:Nat→AV} {V:AN}:R_ .undef t sl V KS=KS ⟨sl,V⟩:=rfl
theorem YW {t:Nat} {sl:Nat→AV} {V:AN}:EO (.frzP t) ⟨sl,V⟩ KS=Yf (sl t) t sl V KS:=by
 simp only [EO,Yf]
 cases sl t with
 |ptr o g f =>
  cases f with
  |zero =>
   simp only;cases V.get o g with
   |none=>rfl
   |some x =>
    cases x with
    |cells xs =>
     simp only [F1]
     cases Ah AV.toD1 xs with
     |none=>rfl
     |some l=>cases l<;>simp [Ag]
    |_=>rfl
  |succ n=>rfl
 |_=>rfl
theorem am {t o g:Nat} {sl:Nat→AV} {V:AN}:Yf (.ptr o g 0) t sl V KS=F1 (V.get o g) fun xs=>Ag (Ah AV.toD1 xs) fun cs=>cs≠[]∧KS ⟨B2 sl t (.d (.ptr cs)),V.drop o⟩:=rfl
theorem BQ {z:Nat} {v v':AV} {t:Nat} {sl:Nat→AV} {V:AN} (hz:Jt=z) (h:v=v'):Yf v t sl V KS=Yf v' t sl V KS:=by rw [h]
theorem An {z:Nat} {x y:Option AX} {A B} (hz:Jt=z) (h:x=y):Kk x A B=Kk y A B:=by rw [h]
theorem YT {t o ety es:Nat} {sl:Nat→AV} {V:AN}:EO (.own t o ety es) ⟨sl,V⟩ KS=Xs (sl t) t o ety es sl V KS:=rfl
theorem YX {t:Nat} {sl:Nat→AV} {V:AN}:EO (.frzM t) ⟨sl,V⟩ KS=Yh (sl t) t sl V KS:=by
 simp only [EO,Yh]
 cases sl t with
 |mref k o g =>
  cases k with
  |out=>simp only;cases V.get o g with
   |none=>rfl
   |some x=>cases x<;>rfl
  |_=>rfl
 |_=>rfl
theorem Yg {t o g:Nat} {sl:Nat→AV} {V:AN}:Yh (.mref .out o g) t sl V KS=Fd (V.get o g) fun _ _ nl ix rows=>KS ⟨B2 sl t (.d (.list nl (Hc ix rows))),V.drop o⟩:=rfl
theorem BR {z:Nat} {v v':AV} {t:Nat} {sl:Nat→AV} {V:AN} (hz:Jt=z) (h:v=v'):Yh v t sl V KS=Yh v' t sl V KS:=by rw [h]
theorem YZ {t:Nat} {sl:Nat→AV} {V:AN}:EO (.frzA t) ⟨sl,V⟩ KS=Yk (sl t) t sl V KS:=by
 simp only [EO,Yk]
 cases sl t with
 |ptr o g f =>
  cases f with
  |zero=>rfl
  |succ n=>rfl
 |_=>rfl
theorem ao {t o g:Nat} {sl:Nat→AV} {V:AN}:Yk (.ptr o g 0) t sl V KS=Yl (V.get o g) t o sl V KS:=rfl
theorem Tx {t o:Nat} {c:AV} {l:List AV} {sl:Nat→AV} {V:AN}:Yl (some (.cells (c :: l))) t o sl V KS=KS ⟨B2 sl t (.ablk false (c :: l) 0),V.drop o⟩:=rfl
theorem BV {z:Nat} {v v':AV} {t:Nat} {sl:Nat→AV} {V:AN} (hz:Jt=z) (h:v=v'):Yk v t sl V KS=Yk v' t sl V KS:=by rw [h]
theorem BW {z:Nat} {y y':Option AX} {t o:Nat} {sl:Nat→AV} {V:AN} (hz:Jt=z) (h:y=y'):Yl y t o sl V KS=Yl y' t o sl V KS:=by rw [h]
theorem YY {t off:Nat} {sl:Nat→AV} {V:AN}:EO (.frzC t off) ⟨sl,V⟩ KS=WD (sl t) off sl V KS:=by
 simp only [EO,WD]
 cases sl t with
 |ptr b g f =>
  simp only
  cases V.get b g with
  |none=>rfl
  |some x =>
   cases x with
   |cells xs =>
    simp only [SA]
    cases xs[f+off]? with
    |none=>rfl
    |some y =>
     cases y with
     |own o p=>simp only;cases V.get o p with
      |none=>rfl
      |some z=>cases z<;>rfl
     |_=>rfl
   |_=>rfl
 |_=>rfl
theorem an {b g f off:Nat} {sl:Nat→AV} {V:AN}:WD (.ptr b g f) off sl V KS=Yj (V.get b g) b g (f+off) sl V KS:=by
 simp only [WD,Yj]
theorem Tw {b g k:Nat} {xs:List AV} {sl:Nat→AV} {V:AN}:Yj (some (.cells xs)) b g k sl V KS=SA xs[k]? b g k xs sl V KS:=rfl
theorem Yi {b g k o p:Nat} {xs:List AV} {sl:Nat→AV} {V:AN}:SA (some (.own o p)) b g k xs sl V KS=Hb (V.get o p) fun _ _ nl l=>KS ⟨sl,(V.drop o).app (.keep b g (.cells (xs.set k (.d (.list nl l)))))⟩:=rfl
theorem dR {b g k:Nat} {x:D} {xs:List AV} {sl:Nat→AV} {V:AN}:SA (some (.d x)) b g k xs sl V KS=KS ⟨sl,V⟩:=rfl
theorem BT {z:Nat} {v v':AV} {off:Nat} {sl:Nat→AV} {V:AN} (hz:Jt=z) (h:v=v'):WD v off sl V KS=WD v' off sl V KS:=by rw [h]
theorem BU {z:Nat} {y y':Option AX} {b g k k':Nat} {sl:Nat→AV} {V:AN} (hz:Jt=z) (h:y=y') (hk:k=k'):Yj y b g k sl V KS=Yj y' b g k' sl V KS:=by rw [h,hk]
theorem BS {z:Nat} {y y':Option AV} {b g k:Nat} {xs:List AV} {sl:Nat→AV} {V:AN} (hz:Jt=z) (h:y=y'):SA y b g k xs sl V KS=SA y' b g k xs sl V KS:=by rw [h]
theorem YU {t o e1 e2:Nat} {sl:Nat→AV} {V:AN}:EO (.ownM t o e1 e2) ⟨sl,V⟩ KS=Xu (sl t) t o e1 e2 sl V KS:=rfl
theorem aF {t o e1 e2:Nat} {sl:Nat→AV} {V:AN}:Xu (.d (.list true [])) t o e1 e2 sl V KS=(o < D5∧KS ⟨B2 sl t (.mref .out o (V.cn o)),V.app (.fresh o (.mat e1 e2 true [] []))⟩):=rfl
theorem Xt {t o e1 e2:Nat} {k o' g} {sl:Nat→AV} {V:AN}:Xu (.mref k o' g) t o e1 e2 sl V KS=KS ⟨sl,V⟩:=rfl
theorem BO {z:Nat} {v v':AV} {t o e1 e2:Nat} {sl:Nat→AV} {V:AN} (hz:Jt=z) (h:v=v'):Xu v t o e1 e2 sl V KS=Xu v' t o e1 e2 sl V KS:=by rw [h]
theorem A3 {z:Nat} {x y:Option AX} {A} (hz:Jt=z) (h:x=y):Fd x A=Fd y A:=by rw [h]
theorem aE {t o ety es:Nat} {sl:Nat→AV} {V:AN}:Xs (.d (.list true [])) t o ety es sl V KS=(o < D5∧KS ⟨B2 sl t (.own o (V.cn o)),V.app (.fresh o (.row ety es true []))⟩):=rfl
theorem aD {t o ety es o' g:Nat} {sl:Nat→AV} {V:AN}:Xs (.own o' g) t o ety es sl V KS=KS ⟨sl,V⟩:=rfl
end
theorem Zk {α:Type} (f:Nat→α) (i:Nat) (x:α) (j:Nat):B2 f i x j=if j=i then x else f j:=rfl
theorem W9 (f:Nat→Nat) (i x y:Nat):B2 (B2 f i x) i y=B2 f i y:=by funext j;simp only [B2];split<;>rfl
theorem eE {x:D}:(AV.d x).one=x.one:=rfl
theorem aH {o g}:(AV.own o g).one=true:=rfl
theorem c9 {f c}:(AV.fn f c).one=true:=rfl
theorem Y8 {k n}:(D.int k n).one=true:=rfl
theorem Wg {b}:(D.bool b).one=true:=rfl
theorem Wf {n l}:(D.list n l).one=true:=rfl
theorem dn {c}:(AV.agg c).cells?=some c:=rfl
theorem bL {c}:(AV.d (.agg c)).cells?=some (c.map .d):=rfl
theorem dm {k n}:(AV.d (.int k n)).cells?=some [.d (.int k n)]:=rfl
theorem bM {b}:(AV.d (.bool b)).cells?=some [.d (.bool b)]:=rfl
theorem bK {n l}:(AV.d (.list n l)).cells?=some [.d (.list n l)]:=rfl
theorem dl {o g}:(AV.own o g).cells?=some [.own o g]:=rfl
theorem ec {f c}:(AV.fn f c).cells?=some [.fn f c]:=rfl
theorem cN {k n}:AV.toD1 (.d (.int k n))=some (.int k n):=rfl
theorem Zo {n l}:AV.toD1 (.d (.list n l))=some (.list n l):=rfl
theorem V5 {α β:Type} {f:α→Option β}:Ah f []=some []:=rfl
theorem Tf {α β:Type} {f:α→Option β} {x:α} {xs:List α}:Ah f (x :: xs)=match f x with
 |none=>none
 |some y=>match Ah f xs with|none=>none|some ys=>some (y :: ys):=rfl
theorem cO {cs}:AV.toD1 (.agg cs)=match Ah AV.toD0 cs with|some l=>some (.agg l)|none=>none:=rfl
theorem bc {V:AN} {n l}:(AV.d (.list n l)).asList V=some (n,l):=rfl
theorem eo {V:AN} {l}:(AV.ex l).asList V=some (false,l):=rfl
theorem dt {V:AN} {o g}:(AV.own o g).asList V=match V.get o g with|some (.row _ _ nil xs)=>some (nil,xs)|_=>none:=rfl
theorem en {V:AN} {o g}:(AV.mref .out o g).asList V=match V.get o g with|some (.mat _ _ nil ix rows)=>some (nil,Hc ix rows)|_=>none:=rfl
theorem em {V:AN} {j o g}:(AV.mref (.row j) o g).asList V=match V.get o g with|some (.mat _ _ _ _ rows)=>rows[j]?|_=>none:=rfl
theorem X_ {ix rows}:(Hc ix rows).length=ix.length:=by simp [Hc]
theorem fT {V:AN} {x}:DW V none (.d x)=match (AV.d x).asList V with|some (_,ys)=>some ys|none=>none:=rfl
theorem eh {V:AN} {x}:DW V none (.ex x)=match (AV.ex x).asList V with|some (_,ys)=>some ys|none=>none:=rfl
theorem bW {V:AN} {z n}:DW V (some z) (.d (.int .i64 n))=if 0≤n∧n≤(CG:Int) then some (List.replicate n.toNat z) else none:=rfl
theorem WH {es xs}:Fx es xs []=some xs:=rfl
theorem T3 {es xs i v rest}:Fx es xs ((i,v) :: rest)=match v.toD1 with
 |none=>none
 |some x=>if x.cells.length=es∧i < xs.length then Fx es (xs.set i x) rest else none:=rfl
theorem WI {cs}:KL cs []=some cs:=rfl
theorem T4 {cs off size v rest}:KL cs (((off,size),v) :: rest)=match v.cells? with
 |none=>none
 |some vs=>if vs.length=size∧off+size≤cs.length then KL (A9 cs off vs) rest else none:=rfl
theorem Wm {k n}:(D.int k n).cells=[.int k n]:=rfl
theorem UK {n l}:(D.list n l).cells=[.list n l]:=rfl
theorem cI {k n}:up (.int k n)=.d (.int k n):=rfl
theorem Zl {n l}:up (.list n l)=.d (.list n l):=rfl
theorem cJ {l}:up (.agg l)=.d (.agg l):=rfl
theorem cH {l}:up (.tup l)=.tup (l.map .d):=rfl
theorem VV:Bd.site .none=[]:=rfl
theorem XL {a b}:Bd.site (.seq a b)=a.site++b.site:=rfl
theorem TA {o x}:Bd.site (.fresh o x)=[o]:=rfl
theorem VW {o g x}:Bd.site (.keep o g x)=[o]:=rfl
def AY (xs:List Int):List D:=xs.map (D.int .i64)
@[simp] theorem eK:AY []=[]:=rfl
theorem QS (xs:List Int):(AY xs=[])=(xs=[]):=by cases xs<;>simp [AY]
theorem Da (xs:List Int):(AY xs).length=xs.length:=by simp [AY]
theorem YI (xs ys:List Int):AY xs++AY ys=AY (xs++ys):=by simp [AY]
theorem V9 (xs:List Int) (y:Int):AY xs++[.int .i64 y]=AY (xs++[y]):=by simp [AY]
theorem YG (xs:List Int) (i:Nat) (y:Int):(AY xs).set i (.int .i64 y)=AY (xs.set i y):=by simp [AY,List.map_set]
theorem YH (n:Nat) (y:Int):List.replicate n (D.int .i64 y)=AY (List.replicate n y):=by simp [AY]
theorem Tl (xs:List Int):(AY xs).isEmpty=xs.isEmpty:=by cases xs<;>rfl
theorem V8 (xs:List Int):Cc 1 (AY xs)=True:=by
 simp only [Cc,AY,eq_iff_iff,iff_true];intro x hx;simp at hx;obtain⟨n,_,rfl⟩:=hx;rfl
theorem XB {es:Nat}:Cc es []=True:=by simp [Cc]
theorem VI {es:Nat} {x:D} {l:List D}:Cc es (x :: l)=(x.cells.length=es∧Cc es l):=by simp [Cc]
theorem XC {α:Type} {es:Nat} {f:α→D} {l:List α} (h:∀x,(f x).cells.length=es):Cc es (l.map f)=True:=by
 simp only [Cc,eq_iff_iff,iff_true];intro x hx;simp at hx;obtain⟨y,_,rfl⟩:=hx;exact h y
theorem Rt {xs:List Int} {i:Nat} {A:D→Prop}:Ag (AY xs)[i]? A=(i < xs.length∧A (.int .i64 (xs[i]?.getD 0))):=by
 unfold AY
 rw [List.getElem?_map]
 by_cases h:i < xs.length
 ·simp [h,Ag]
 ·have:xs[i]?=none:=List.getElem?_eq_none (by omega)
  simp [this,h,Ag]
theorem H6 {α:Type} [Inhabited α] {f:α→D} {xs:List α} {i:Nat} {A:D→Prop}:Ag (xs.map f)[i]? A=(i < xs.length∧A (f (xs[i]?.getD default))):=by
 rw [List.getElem?_map]
 by_cases h:i < xs.length
 ·simp [h,Ag]
 ·have:xs[i]?=none:=List.getElem?_eq_none (by omega)
  simp [this,h,Ag]
theorem Rr {xs:List Nat} {i:Nat} {A:Nat→Prop}:Ag xs[i]? A=(i < xs.length∧A (xs[i]?.getD 0)):=by
 by_cases h:i < xs.length
 ·simp [h,Ag]
 ·have:xs[i]?=none:=List.getElem?_eq_none (by omega)
  simp [this,h,Ag]
def ff {α:Type} (f:α→D) (M:List (List α)):List (Bool×List D):=M.map fun r=>(false,r.map f)
section
variable {E:CZ} {dst:Option Nat} {V:AN} {K:AV→Bd→Prop} {f:FuncId} {xs:List AV}
theorem AE {ds:List D} {r:D} (h:B7 E f ds r) (ha:HL xs=some ds) (hk:K (up r) .none):DV E dst V f xs K:=.inl ⟨ds,r,ha,h,hk⟩
theorem AF {ds:List D} {r:D} (h:B7 E f ds r) (ha:Sa V xs=some ds) (hf:r.flat=true) (hk:K (up r) .none):DV E dst V f xs K:=.inr (.inl ⟨ds,r,ha,h,hf,hk⟩)
end
section
variable {E:CZ} {Q:Bn→Aw→Prop} {s:Aw}
def XU (l:List (Nat×AV)) (k:Nat) (v:AV):List (Nat×AV):=l.map fun p=>if p.1=k then (k,v) else p
def XS (l:List (Nat×(Nat×AX))) (k:Nat) (x:AX):List (Nat×(Nat×AX)):=l.map fun p=>if p.1=k then (k,(0,x)) else p
def Mc (l:List (Nat×AV)):List (Nat×AV)→List (Nat×AV)
 |[]=>l
 |(k,v) :: r=>XU (Mc l r) k v
def Mb (l:List (Nat×(Nat×AX))):List (Nat×AX)→List (Nat×(Nat×AX))
 |[]=>l
 |(k,v) :: r=>XS (Mb l r) k v
theorem XT {k:Nat} {v:AV}:XU [] k v=[]:=rfl
theorem Vd {a k:Nat} {b v:AV} {l}:XU ((a,b) :: l) k v=(if a=k then (k,v) else (a,b)) :: XU l k v:=rfl
theorem XR {k:Nat} {v:AX}:XS [] k v=[]:=rfl
theorem Vb {a k:Nat} {b:Nat×AX} {v:AX} {l}:XS ((a,b) :: l) k v=(if a=k then (k,(0,v)) else (a,b)) :: XS l k v:=rfl
theorem Vc {l}:Mc l []=l:=rfl
theorem TC {l k v r}:Mc l ((k,v) :: r)=XU (Mc l r) k v:=rfl
theorem VZ {l}:Mb l []=l:=rfl
theorem TB {l k v r}:Mb l ((k,v) :: r)=XS (Mb l r) k v:=rfl
theorem d7 {f:Nat→AV} {n:Nat}:KB.val f (.t n)=f n:=rfl
theorem d8 {f:Nat→AV} {v:AV}:KB.val f (.k v)=v:=rfl
theorem VP {α:Type} (cs:List α) (off:Nat) (vs:List α):A9 cs off vs=cs.take off++vs++cs.drop (off+vs.length):=rfl
theorem AS {α:Type} (up:α→List (Nat×AV)) (uo:α→List (Nat×AX)) (Inv:α→Prop) (μ:α→Nat) (x0:α) {gs:List Eg} {ks os:List Nat} {a:PC}
  {l0:List (Nat×AV)} {m0:List (Nat×(Nat×AX))} (h0:CT gs s fun s1=>s1.nrm ks os=⟨Fp l0,⟨Bg m0,fun _=>1⟩⟩)
  (he:Mc l0 (up x0)=l0) (he':Mb m0 (uo x0)=m0) (hI:Inv x0)
  (step:∀x,Inv x→pw E a (Iy (fun s'=>CT gs s' fun s1=>∃y,s1.nrm ks os=⟨Fp (Mc l0 (up y)),⟨Bg (Mb m0 (uo y)),fun _=>1⟩⟩∧Inv y∧μ y < μ x) Q) ⟨Fp (Mc l0 (up x)),⟨Bg (Mb m0 (uo x)),fun _=>1⟩⟩) :
  pw E (.loop gs ks os a) Q s :=
 Xk (fun x=>⟨Fp (Mc l0 (up x)),⟨Bg (Mb m0 (uo x)),fun _=>1⟩⟩) Inv μ x0 (by rw [he,he'];exact h0) hI step
end
theorem AC (n:Int) (h:-9223372036854775808≤n∧n≤9223372036854775807):IntKind.i64.wrap n=n:=Go.IntWalk.i64_in n h
theorem Xf {E:CZ} {rs r s}:eB E rs r .ret s=Ih E s rs (Ma s.V r):=rfl
theorem Xh {E:CZ} {s K}:Ih E s [] K=K []:=rfl
theorem Vh {E:CZ} {s r l K}:Ih E s (r :: l) K=TG E s r fun v=>Ih E s l fun vs=>K (v :: vs):=rfl
theorem co {E:CZ} {s n K}:TG E s (.t n) K=K (s.sl n):=rfl
theorem cq {E:CZ} {s a ty ag n K}:TG E s (.c a ty ag n) K=ev E none s.V (.load ag n) [s.sl a] fun v _=>K v:=rfl
theorem Zz {V r v}:Ma V r [v]=(v.snap V=some r):=rfl
theorem Zy {V r v u}:Ma V r [v,u]=((Ah (AV.snap V) [v,u]).map .tup=some r):=rfl
theorem Zx {V r v u t}:Ma V r [v,u,t]=((Ah (AV.snap V) [v,u,t]).map .tup=some r):=rfl
theorem cX {V k n}:AV.snap V (.d (.int k n))=some (.int k n):=rfl
theorem Z1 {V b}:AV.snap V (.d (.bool b))=some (.bool b):=rfl
theorem Z0 {V n l}:AV.snap V (.d (.list n l))=some (.list n l):=rfl
theorem cW {V o g}:AV.snap V (.own o g)=match V.get o g with|some (.row _ _ nil xs)=>some (.list nil xs)|_=>none:=rfl
theorem cY {V cs}:AV.snap V (.agg cs)=match Ah (AV.snap0 V) cs with|some l=>some (.agg l)|none=>none:=rfl
theorem cg {V k n}:AV.snap0 V (.d (.int k n))=some (.int k n):=rfl
theorem Zw {α:Type} {a b:α}:(some a=some b)=(a=b):=by simp
theorem Vs {α β:Type} {f:α→β} {a:α}:Option.map f (some a)=some (f a):=rfl
section
variable {k k':IntKind} {a b:Int} {C:AV→Prop}
theorem bU:Cr .eql k k' a b C=(k=k'∧(a=b→C (.d (.bool true)))∧(¬a=b→C (.d (.bool false)))):=by
 rw [Wa];by_cases h:a=b<;>simp [h]
theorem bO:Cr .neq k k' a b C=(k=k'∧(a=b→C (.d (.bool false)))∧(¬a=b→C (.d (.bool true)))):=by
 rw [WU];by_cases h:a=b<;>simp [h]
theorem bP:Cr .lss k k' a b C=(k=k'∧(a < b→C (.d (.bool true)))∧(¬a < b→C (.d (.bool false)))):=by
 rw [WW];by_cases h:a < b<;>simp [h]
theorem bR:Cr .leq k k' a b C=(k=k'∧(a≤b→C (.d (.bool true)))∧(¬a≤b→C (.d (.bool false)))):=by
 rw [WX];by_cases h:a≤b<;>simp [h]
theorem bS:Cr .gtr k k' a b C=(k=k'∧(b < a→C (.d (.bool true)))∧(¬b < a→C (.d (.bool false)))):=by
 rw [WY];by_cases h:b < a<;>simp [h]
theorem bT:Cr .geq k k' a b C=(k=k'∧(b≤a→C (.d (.bool true)))∧(¬b≤a→C (.d (.bool false)))):=by
 rw [WZ];by_cases h:b≤a<;>simp [h]
end
section
variable {E:CZ} {dst:Option Nat} {V:AN} {K:AV→Bd→Prop} {f:FuncId} {xs:List AV}
theorem AG {ds:List D} {b:Bool} (h:B7 E f ds (.bool b)) (ha:HL xs=some ds) (h1:b=true→K (.d (.bool true)) .none) (h2:b=false→K (.d (.bool false)) .none):DV E dst V f xs K :=
 AE h ha (by cases b with|true=>exact h1 rfl|false=>exact h2 rfl)
theorem AB {ds:List D} {b:Bool} (h:B7 E f ds (.bool b)) (ha:Sa V xs=some ds) (h1:b=true→K (.d (.bool true)) .none) (h2:b=false→K (.d (.bool false)) .none):DV E dst V f xs K :=
 AF h ha rfl (by cases b with|true=>exact h1 rfl|false=>exact h2 rfl)
theorem Vr {α:Type} {p:Prop} [Decidable p] {x:α} {A:α→Prop}:Ag (if p then some x else none) A=(p∧A x):=by
 by_cases h:p<;>simp [h,Ag]
end
section
variable {E:CZ} {K:Aw→Prop}
def JL (j:Nat):List (Nat×Oh)→Option Oh
 |[]=>none
 |(i,r) :: l=>if j=i then some r else JL j l
def OT (x:Option Oh) (b:Oh):Bool:=match x with|some r=>JY r b|none=>false
def QF (need:List Nat) (i:Nat) (r:Oh) (rec:List (Nat×Oh)):List (Nat×Oh):=if need.contains i then (i,r) :: rec else rec
def Mw (E:CZ):Nat→List Nat→List (Fm×List Nat)→List (Nat×Oh)→Aw→(Aw→Prop)→Prop
 |_,_,[],_,s,K=>K s
 |i,need,(I,dy) :: l,rec,s,K=>Dr E I s fun v ch =>
  (dy.all fun j=>OT (JL j rec) (ch.site,Cy I s))=true ∧
  Mw E (i+1) need l (QF need i (ch.site,Cy I s) rec) (put s I.dst v ch) K
theorem Ue {need:List Nat}:∀{l:List (Fm×List Nat)} {rec:List Oh} {recE:List (Nat×Oh)} {s:Aw},(∀j,j∈l.flatMap (·.2)→j∈need)→(∀j,j∈need→JL j recE=rec[j]?)→Om E l rec s K=Mw E rec.length need l recE s K
 |[],_,_,_,_,_=>rfl
 |(I,dy) :: l,rec,recE,s,hn,hr=>by
  simp only [Om,Mw]
  congr 1
  funext v ch
  have h1:(dy.all fun j=>match rec[j]? with|some r=>JY r (ch.site,Cy I s)|none=>false)=(dy.all fun j=>OT (JL j recE) (ch.site,Cy I s)):=by
   rw [Bool.eq_iff_iff,List.all_eq_true,List.all_eq_true]
   have:∀j,j∈dy→(match rec[j]? with|some r=>JY r (ch.site,Cy I s)|none=>false)=OT (JL j recE) (ch.site,Cy I s):=fun j hj=>by
    rw [hr j (hn j (by simp [hj]))];rfl
   exact⟨fun h j hj=>by rw [←this j hj];exact h j hj,fun h j hj=>by rw [this j hj];exact h j hj⟩
  refine congr (congrArg And (congrArg (fun b=>b=true) h1)) ?_
  have h2:=Ue (need:=need) (l:=l) (rec:=rec++[(ch.site,Cy I s)]) (recE:=QF need rec.length (ch.site,Cy I s) recE) (s:=put s I.dst v ch) (fun j hj=>hn j (by simp at hj ⊢;exact .inr hj)) fun j hj=>by
   unfold QF
   by_cases h:need.contains rec.length=true
   ·rw [if_pos h]
    simp only [JL]
    by_cases hjl:j=rec.length
    ·subst hjl;simp
    ·rw [if_neg hjl,hr j hj]
     by_cases hlt:j < rec.length
     ·rw [List.getElem?_append_left hlt]
     ·rw [List.getElem?_eq_none (by omega),List.getElem?_eq_none (by simp;omega)]
   ·rw [if_neg h,hr j hj]
    have hne:j≠rec.length:=by rintro rfl;exact h (by simpa using hj)
    by_cases hlt:j < rec.length
    ·rw [List.getElem?_append_left hlt]
    ·rw [List.getElem?_eq_none (by omega),List.getElem?_eq_none (by simp;omega)]
  rw [h2];simp
theorem Xl {Q:Bn→Aw→Prop} {s:Aw} {gs l ks}:pw E (.draw gs l ks) Q s=CT gs s fun s'=>Mw E 0 (l.flatMap (·.2)) l [] s' fun s'=>Q .normal (s'.keep ks):=by
 rw [Z']
 congr 1;funext s'
 exact Ue (rec:=[]) (recE:=[]) (fun j hj=>hj) fun j hj=>by simp [JL]
theorem XX {i need r} {s:Aw}:Mw E i need [] r s K=K s:=rfl
theorem TD {i need I l r} {s:Aw}:Mw E i need ((I,[]) :: l) r s K=Dr E I s fun v ch=>Mw E (i+1) need l (QF need i (ch.site,Cy I s) r) (put s I.dst v ch) K:=by
 simp [Mw]
theorem Vf {i need I j dy l r} {s:Aw}:Mw E i need ((I,j :: dy) :: l) r s K=Dr E I s fun v ch =>
 ((j :: dy).all fun j=>OT (JL j r) (ch.site,Cy I s))=true∧Mw E (i+1) need l (QF need i (ch.site,Cy I s) r) (put s I.dst v ch) K:=rfl
theorem BJ {z:Nat} {i i' need need' l} {r r':List (Nat×Oh)} {s s':Aw} (hz:Jt=z) (hi:i=i') (hn:need=need') (hr:r=r') (h:s=s'):Mw E i need l r s K=Mw E i' need' l r' s' K:=by rw [h,hr,hi,hn]
theorem cr {need:List Nat} {i:Nat} {r:Oh} {rec:List (Nat×Oh)} (h:need.contains i=true):QF need i r rec=(i,r) :: rec:=by simp only [QF,h,if_true]
theorem ct {need:List Nat} {i:Nat} {r:Oh} {rec:List (Nat×Oh)} (h:need.contains i=false):QF need i r rec=rec:=by simp only [QF,h,Bool.false_eq_true,if_false]
theorem V3 {j:Nat}:JL j []=none:=rfl
theorem Tb {j i:Nat} {r:Oh} {l}:JL j ((i,r) :: l)=if j=i then some r else JL j l:=rfl
theorem ZO {r b:Oh}:OT (some r) b=JY r b:=rfl
theorem ei {a f b f'}:JY (a,f) (b,f')=((a.all fun o=>!f'.contains o) && (b.all fun o=>!f.contains o)):=rfl
theorem Yr {d g op xs} {sl:Nat→AV} {V:AN}:Cy ⟨d,g,op,xs⟩ ⟨sl,V⟩=fp V d op (xs.map (KB.val sl)):=rfl
theorem fF {x}:AV.sites (.d x)=[]:=by cases x<;>rfl
theorem d_ {x}:AV.sites (.ex x)=[]:=rfl
theorem Zs {x n}:AV.sites (.dptr x n)=[]:=rfl
theorem cR {o g}:AV.sites (.own o g)=[o]:=rfl
theorem cQ {o g f}:AV.sites (.ptr o g f)=[o]:=rfl
theorem Zq {o g e i f}:AV.sites (.rptr o g e i f)=[o]:=rfl
theorem Zr {k o g}:AV.sites (.mref k o g)=[o]:=rfl
theorem Zt {s l f}:AV.sites (.ablk s l f)=AV.sites.sitesL l:=rfl
theorem cT {l}:AV.sites (.agg l)=AV.sites.sitesL l:=rfl
theorem d9 {f l}:AV.sites (.fn f l)=AV.sites.sitesL l:=rfl
theorem cP {l}:AV.sites (.tup l)=AV.sites.sitesL l:=rfl
theorem Zu:AV.sites.sitesL []=[]:=rfl
theorem XI {x l}:AV.sites.sitesL (x :: l)=x.sites++AV.sites.sitesL l:=rfl
section
variable {d:Option Nat} {xs:List AV} {V:AN}
theorem dS:fp V d .mov xs=[]:=rfl
theorem ap:fp V d .pick xs=[]:=rfl
theorem dU {b}:fp V d (.bin b) xs=[]:=rfl
theorem eM {b}:fp V d (.un b) xs=[]:=rfl
theorem Yo {a}:fp V d (.faddr a) xs=[]:=rfl
theorem WG {a b}:fp V d (.iaddrA a b) xs=[]:=rfl
theorem Yq {a b}:fp V d (.build a b) xs=[]:=rfl
theorem Yn {a b c e}:fp V d (.mkrow a b c e) xs=[]:=rfl
theorem Tz {a}:fp V d (.extract a) xs=[]:=rfl
theorem aq {a b}:fp V d (.load a b) xs=AV.sites.sitesL xs:=rfl
theorem WE {a}:fp V d (.iaddrS a) xs=AV.sites.sitesL xs:=rfl
theorem dT {a}:fp V d (.len a) xs=AV.sites.sitesL xs:=rfl
theorem Ym {a}:fp V d (.store a) xs=d.toList++AV.sites.sitesL xs:=rfl
theorem au {a}:fp V d (.call a) xs=B3 d V xs:=rfl
theorem Yp:fp V d .callv xs=B3 d V xs:=rfl
theorem UL {t}:B3 (some t) V xs=Dx t++V.reach 3 (AV.sites.sitesL xs):=rfl
theorem aO {t}:Dx t=[t,t+10000,t+20000,t+30000]:=rfl
theorem PH:∀{n:Nat},V.reach n []=[]
 |0=>rfl
 |n+1=>by simp only [AN.reach,List.flatMap_nil,PH,List.append_nil]
theorem Z8 {o l}:V.reach 3 (o :: l)=(o :: l)++V.reach 2 ((o :: l).flatMap V.osites):=rfl
def QO:Option (Nat×AX)→List Nat
 |some (_,.cells xs)=>AV.sites.sitesL xs
 |some (_,.rowH _ _ _ q _)=>[q]
 |_=>[]
theorem Vm {ob cn o}:(AN.mk ob cn).osites o=QO (ob o):=rfl
theorem Vt {g xs}:QO (some (g,.cells xs))=AV.sites.sitesL xs:=rfl
theorem aJ {g a b c d e}:QO (some (g,.mat a b c d e))=[]:=rfl
theorem dV {a b c e}:fp V d (.app a b c e) xs=d.toList++AV.sites.sitesL xs:=rfl
end
theorem XE {a:Nat}:(some a).toList=[a]:=rfl
theorem XF:(none:Option Nat).toList=[]:=rfl
end
theorem F8 {k n}:(D.int k n).WF=KC k n:=by rw [D.WF]
theorem FR {b}:(D.bool b).WF=True:=by rw [D.WF]
theorem En {nl xs}:(D.list nl xs).WF=(xs.length≤maxLen∧∀x,x∈xs→x.WF):=by rw [D.WF]
theorem HD {xs}:(D.agg xs).WF=(∀x,x∈xs→x.WF):=by rw [D.WF]
theorem HC {xs}:(D.ptr xs).WF=(∀x,x∈xs→x.WF):=by rw [D.WF]
theorem KD {f xs}:(D.fn f xs).WF=(∀x,x∈xs→x.WF):=by rw [D.WF]
theorem HB {xs}:(D.tup xs).WF=(∀x,x∈xs→x.WF):=by rw [D.WF]
theorem FQ {nl} {xs:List Int}:(D.list nl (AY xs)).WF=(xs.length≤maxLen∧∀x,x∈xs→KC .i64 x):=by
 rw [En,Da];simp [AY,F8]
theorem Cg {x:D} {l:List D}:(∀y,y∈x :: l→y.WF)=(x.WF∧∀y,y∈l→y.WF):=by simp
theorem C4:(∀y,y∈([]:List D)→y.WF)=True:=by simp
theorem C5 {α:Type} {f:α→D} {l:List α}:(∀y,y∈l.map f→y.WF)=(∀x,x∈l→(f x).WF):=by simp
theorem FT {n:Int}:KC .i64 n=(-9223372036854775808≤n∧n≤9223372036854775807):=by
 simp [KC,IntKind.min,IntKind.max,IntKind.signed,IntKind.bits]
theorem Dh:maxLen=9223372036854775807:=rfl
theorem SZ {x:AV} {d:D} {xs:List AV} {ds:List D} (h:x.toD1=some d) (h':Ah AV.toD1 xs=some ds):HL (x :: xs)=some (d :: ds):=by
 simp only [HL,Ah,h,h']
theorem ZF:CG=1073741824:=rfl
theorem dG:D5=900000:=rfl
theorem Ee (V0:List (Nat×Nat×AX)) (xs:List AV):Aw.enterM V0 xs=⟨Fp (xs.zipIdx.map fun(d,k)=>(k,d)),⟨Bg V0,fun _=>1⟩⟩:=by
 have key:∀(xs:List AV) (n t:Nat),(match xs[t]? with|some d=>d|none=>.undef)=Fp ((xs.zipIdx n).map fun(d,k)=>(k,d)) (n+t):=by
  intro xs
  induction xs with
  |nil=>intro n t;simp [Fp]
  |cons x xs ih =>
   intro n t
   cases t with
   |zero=>simp [Fp]
   |succ t =>
    have:=ih (n+1) t
    simp only [List.getElem?_cons_succ,List.zipIdx_cons,List.map_cons,Fp]
    rw [if_neg (by omega),this]
    congr 1;omega
 unfold Aw.enterM
 congr 1
 funext t
 have:=key xs 0 t
 simp only [Nat.zero_add] at this
 rw [←this]
 cases xs[t]?<;>rfl
theorem E4 {E:CZ} {dst:Option Nat} {V:AN} {K:AV→Bd→Prop} {f:FuncId} {xs:List AV} {V0 V1:List (Nat×Nat×AX)} {cxs:List AV} {r r':AV} {ch:Bd} (ρ ρ2:DN) (h:Hw E f V0 cxs V1 r) (h1:Lo ρ cxs xs)
  (h2:Handed V (B3 dst V xs) ρ V0) (h3:B9 V.cn dst V0 V1 ρ ρ2=true) (h4:r.ren ρ2=some r') (h5:Dv ρ ρ2 V1=some ch) (hk:K r' ch):DV E dst V f xs K :=
 .inr (.inr (.inr ⟨V0,cxs,V1,r,r',ch,ρ,ρ2,h1,h,h2,h3,h4,h5,hk⟩))
theorem Xg {E:CZ} {rs V1 r s}:ck E rs V1 r .ret s=(Ih E s rs (bp V1 s.V r)∧YK s.V V1):=rfl
theorem Rm {E:CZ} {rs V1 r s}:ck E rs V1 r .normal s=(Ih E s rs (bp V1 s.V r)∧YK s.V V1):=rfl
section
variable {V:AN} {V1:List (Nat×Nat×AX)}
theorem eI {r v}:bp V1 V r [v]=Pf V1 V v r:=rfl
theorem eJ {rs}:bp V1 V (.tup rs) []=Pg V1 V [] rs:=rfl
theorem Wl:Pg V1 V [] []=True:=rfl
theorem bJ {v d}:Pf V1 V v (.d d)=(v.snap V=some d∧(v.sites.all fun o=>!Tq V1 o)=true):=rfl
theorem Wk {v o g}:Pf V1 V v (.own o g)=(v=.own o g):=rfl
theorem YQ {o}:Tq [] o=false:=rfl
theorem V_ {p l o}:Tq (p :: l) o=(p.1 == o || Tq l o):=rfl
def Tn:Option (Nat×AX)→Nat→AX→Prop
 |some (g',.map t l),g,.map t' l'=>g'=g∧t=t'∧l=l'
 |some (g',.row a b c l),g,.row a' b' c' l'=>g'=g∧a=a'∧b=b'∧c=c'∧l=l'
 |some (g',.cells l),g,.cells l'=>g'=g∧l=l'
 |some (g',.hist a b c),g,.hist a' b' c'=>g'=g∧a=a'∧b=b'∧c=c'
 |some (g',.rowH a b c d e),g,.rowH a' b' c' d' e'=>g'=g∧a=a'∧b=b'∧c=c'∧d=d'∧e=e'
 |some (g',.mat a b c d e),g,.mat a' b' c' d' e'=>g'=g∧a=a'∧b=b'∧c=c'∧d=d'∧e=e'
 |_,_,_=>False
theorem ac {x:Option (Nat×AX)} {g:Nat} {y:AX}:Tn x g y=(x=some (g,y)):=by
 cases x with
 |none=>simp [Tn]
 |some p=>obtain⟨g',z⟩:=p;cases z<;>cases y<;>simp [Tn]
theorem YL {g' a b c l g a' b' c' l'}:Tn (some (g',.row a b c l)) g (.row a' b' c' l')=(g'=g∧a=a'∧b=b'∧c=c'∧l=l'):=rfl
theorem YM {g' a b c d e g a' b' c' d' e'}:Tn (some (g',.mat a b c d e)) g (.mat a' b' c' d' e')=(g'=g∧a=a'∧b=b'∧c=c'∧d=d'∧e=e'):=rfl
theorem Tm {g' l g l'}:Tn (some (g',.cells l)) g (.cells l')=(g'=g∧l=l'):=rfl
theorem ab:YK V []=True:=rfl
theorem YJ {o g x l}:YK V ((o,g,x) :: l)=(Tn (V.ob o) g x∧YK V l):=by rw [ac];rfl
end
theorem isCall {E:CZ} {dst:Option Nat} {V:AN} {K:AV→Bd→Prop} {f:FuncId} {xs:List AV} (h:DV E dst V f xs K):DV E dst V f xs K:=h
theorem AW {α:Type} {S:Aw} {T:α→Aw} {I M:α→Prop} (h:∃y,S=T y∧I y∧M y):∃y,S=T y∧I y∧M y:=h
theorem Aa {α β:Type} {S:Aw} {T:α×β→Aw} {I M:α×β→Prop} (h:∃y,S=T y∧I y∧M y):∃y,S=T y∧I y∧M y:=h
theorem AU {α β γ:Type} {S:Aw} {T:α×β×γ→Aw} {I M:α×β×γ→Prop} (h:∃y,S=T y∧I y∧M y):∃y,S=T y∧I y∧M y:=h
theorem A8 {α β γ δ:Type} {S:Aw} {T:α×β×γ×δ→Aw} {I M:α×β×γ×δ→Prop} (h:∃y,S=T y∧I y∧M y):∃y,S=T y∧I y∧M y:=h
theorem dD {m k a}:GL m k a []=some a:=rfl
theorem dE {k:IntKind} {a b:Int} {rest}:GL true k a (.d (.int k b) :: rest)=GL true k (max a b) rest:=by
 simp only [GL,if_true,aQ];congr 1;omega
theorem VM {α:Type} (xs:List α) (a:Nat):(xs.drop a).take (xs.length - a)=xs.drop a:=List.take_of_length_le (by simp)
theorem XH {α:Type} (xs:List α):xs.take xs.length=xs:=List.take_length
theorem VO (n:Nat):n - 0=n:=rfl
def f7 (a b:List D):Prop:=EQ a b=true
section
variable {E:CZ} {dst:Option Nat} {V:AN} {K:AV→Bd→Prop}
end
def gA (E:CZ) (p:PC) (Q:Bn→Aw→Prop) (s:Aw):Prop:=∃e s',Q e s'∧∀Q':Bn→Aw→Prop,Q' e s'→pw E p Q' s
attribute [go_sem] dg Z9 aA cw Xl cu aB Xm Z_ cv P1 S3 VL O0 UN SW Tr R8 YV YW am YX Yg YZ ao Tx YY an Tw Yi dR YU aF Xt YT al eL dQ WC aE aD XW Ve XX TD Vf cr ct V3 Tb ZO ei Yr fF d_ Zs cR cQ Zq Zr Zt cT d9 cP Zu XI dS ap dU eM Yo WG Yq Yn Tz aq WE dT Ym au Yp dV XE XF List.flatMap_cons List.flatMap_nil VV TA VW XL UL aO PH Z8 Vm Vt aJ RM Zp ah ai af Xn Xo ZM ZN Wp bZ aY dC Jq YA Tc V4 dP W_ Zk W9 bF Td Rz Xx Xy TM eG Vu aM aL Xz X3 dB X4 Vv aW eE aH c9 Y8 Wg Wf dn bL dm bM bK dl ec cN Zo V5 Tf cO bc eo dt en em X_ fT eh bW WH T3 WI T4 Wm UK cI Zl cJ cH da a_ df dZ SF Qd Qe WM Qa M1 Qg Ov UA T_ de bB UB bC Qf SI Y4 Qc T6 Qb T7 T8 T9 SC SD SH SG Y5 TQ Rr WK bA a8 SE WJ T5 Ou dc cj ci db Y0 WL UD UE WN UF SJ UC cx cy bU bO bP bR bS bT Vr Wc WP WV WT WS WR WQ Wb WO Rq QN TO TP VM XH VO dD dE UJ K0 JW QS Da YI V9 YG YH Tl V8 XB VI Rt H6 Xf Xg Rm eJ eI Wl bJ Wk YQ V_ YL YM Tm ab YJ Xh Vh co cq Zz Zy Zx cX Z1 Z0 cW cY cg Zw Vs d7 d8 List.map_cons List.map_nil List.zipIdx_cons List.zipIdx_nil List.zip_cons_cons List.zip_nil_left List.length_cons List.length_nil List.getElem?_cons_zero List.getElem?_cons_succ List.drop_zero List.drop_succ_cons List.take_succ_cons List.take_zero List.take_nil List.drop_nil List.contains_cons List.contains_nil List.filter_cons List.filter_nil List.all_cons List.all_nil List.cons_append List.nil_append List.append_nil List.set_cons_zero List.set_cons_succ VP List.replicate_succ List.replicate_zero List.isEmpty_cons List.isEmpty_nil List.length_map id_eq Nat.lt_irrefl Nat.zero_add Nat.add_zero Nat.zero_mul Nat.one_mul Nat.mul_one if_true if_false Bool.false_eq_true Bool.not_true Bool.not_false Bool.true_or Bool.false_or Bool.or_true Bool.or_false Bool.true_and Bool.false_and Bool.and_true Bool.and_false beq_self_eq_true Bool.and_self Bool.or_self true_and and_true false_and and_false ite_self exists_prop_of_true exists_prop not_false_eq_true not_true_eq_false forall_const eq_self and_self true_implies false_implies implies_true ne_eq List.cons_ne_nil Nat.le_refl Nat.not_lt_zero XT Vd XR Vb Vc TC VZ TB Int.toNat_natCast Int.toNat_zero ZF dG
attribute [go_sem_proc] Nat.reduceAdd Nat.reduceSub Nat.reduceMul Nat.reduceEqDiff Nat.reduceBEq Nat.reduceLeDiff Nat.reduceLT Int.reduceToNat Int.reduceLE Int.reduceLT Int.reduceNeg reduceIte reduceCtorEq Int.reduceEq Int.reduceAdd Int.reduceSub Int.reduceMul
end Go.Pw
