/- A part of the proof. -/
import Derived.Test.YtlmkpaimjpdhiaaDoorPkZa
import Derived.IntWalk
set_option linter.all false
namespace Go.Pw
set_option linter.unusedSimpArgs false
set_option linter.unusedVariables false
def Js:Nat:=0
theorem db:Js=0:=Eq.symm (Eq.symm rfl)
def JM (v:AV) (b:Bool) (A B:Prop):Prop :=
 match v with
 |.d (.bool b')=>GZ (b == b') A B
 |.tup []=>B
 |_=>False
def R6 (v:AV) (t:Nat) (sl:Nat→AV) (V:AN) (KS:Aw→Prop):Prop :=
 match v with
 |.own o g=>Hb (V.get o g) fun _ _ nl l=>KS ⟨B2 sl t (.d (.list nl l)),V.drop o⟩
 |_=>KS ⟨sl,V⟩
def Yb (v:AV) (t:Nat) (sl:Nat→AV) (V:AN) (KS:Aw→Prop):Prop :=
 match v with
 |.ptr o g 0=>F1 (V.get o g) fun xs=>Ag (Ah AV.toD1 xs) fun cs=>cs≠[]∧KS ⟨B2 sl t (.d (.ptr cs)),V.drop o⟩
 |_=>KS ⟨sl,V⟩
def fK (y:Option AX) (o g:Nat) (sl:Nat→AV) (V:AN) (KS:Aw→Prop):Prop :=
 match y with
 |some (.rowH ety l i q p)=>Hb (V.get q p) fun _ _ nl xs=>KS ⟨sl,(V.drop q).app (.keep o g (.row ety 1 false (l.set i (.list nl xs))))⟩
 |_=>KS ⟨sl,V⟩
def fv (v:AV) (sl:Nat→AV) (V:AN) (KS:Aw→Prop):Prop :=
 match v with
 |.own o g=>fK (V.get o g) o g sl V KS
 |_=>KS ⟨sl,V⟩
def Yd (v:AV) (t:Nat) (sl:Nat→AV) (V:AN) (KS:Aw→Prop):Prop :=
 match v with
 |.mref .out o g=>Fe (V.get o g) fun _ _ nl ix rows=>KS ⟨B2 sl t (.d (.list nl (Hc ix rows))),V.drop o⟩
 |_=>KS ⟨sl,V⟩
def Yh (x:Option AX) (t o:Nat) (sl:Nat→AV) (V:AN) (KS:Aw→Prop):Prop :=
 match x with
 |some (.cells (c :: l))=>KS ⟨B2 sl t (.ablk false (c :: l) 0),V.drop o⟩
 |_=>False
def Yg (v:AV) (t:Nat) (sl:Nat→AV) (V:AN) (KS:Aw→Prop):Prop :=
 match v with
 |.ptr o g 0=>Yh (V.get o g) t o sl V KS
 |_=>KS ⟨sl,V⟩
def R7 (x:Option AV) (b g k:Nat) (xs:List AV) (sl:Nat→AV) (V:AN) (KS:Aw→Prop):Prop :=
 match x with
 |some (.own o p)=>Hb (V.get o p) fun _ _ nl l=>KS ⟨sl,(V.drop o).app (.keep b g (.cells (xs.set k (.d (.list nl l)))))⟩
 |_=>KS ⟨sl,V⟩
def V_ (v:AV) (off:Nat) (sl:Nat→AV) (V:AN) (KS:Aw→Prop):Prop :=
 match v with
 |.ptr b g f=>(match V.get b g with
  |some (.cells xs)=>R7 xs[f+off]? b g (f+off) xs sl V KS
  |_=>KS ⟨sl,V⟩)
 |_=>KS ⟨sl,V⟩
def Yf (y:Option AX) (b g k:Nat) (sl:Nat→AV) (V:AN) (KS:Aw→Prop):Prop :=
 match y with
 |some (.cells xs)=>R7 xs[k]? b g k xs sl V KS
 |_=>KS ⟨sl,V⟩
def Xq (v:AV) (t o e1 e2:Nat) (sl:Nat→AV) (V:AN) (KS:Aw→Prop):Prop :=
 match v with
 |.d (.list true [])=>o < D5∧KS ⟨B2 sl t (.mref .out o (V.cn o)),V.app (.fresh o (.mat e1 e2 true [] []))⟩
 |_=>KS ⟨sl,V⟩
def Xo (v:AV) (t o ety es:Nat) (sl:Nat→AV) (V:AN) (KS:Aw→Prop):Prop :=
 match v with
 |.d (.list true [])=>o < D5∧KS ⟨B2 sl t (.own o (V.cn o)),V.app (.fresh o (.row ety es true []))⟩
 |_=>KS ⟨sl,V⟩
def fG (x:Option AV) (b g k o ety es:Nat) (xs:List AV) (sl:Nat→AV) (V:AN) (KS:Aw→Prop):Prop :=
 match x with
 |some (.d (.list true []))=>o < D5∧o≠b∧KS ⟨sl,(V.app (.fresh o (.row ety es true []))).app (.keep b g (.cells (xs.set k (.own o (V.cn o)))))⟩
 |_=>KS ⟨sl,V⟩
def fH (y:Option AX) (b g k o ety es:Nat) (sl:Nat→AV) (V:AN) (KS:Aw→Prop):Prop :=
 match y with
 |some (.cells xs)=>fG xs[k]? b g k o ety es xs sl V KS
 |_=>KS ⟨sl,V⟩
def fk (v:AV) (off o ety es:Nat) (sl:Nat→AV) (V:AN) (KS:Aw→Prop):Prop :=
 match v with
 |.ptr b g f=>fH (V.get b g) b g (f+off) o ety es sl V KS
 |_=>KS ⟨sl,V⟩
section
variable {E:CZ} {Q:Bl→Aw→Prop} {s s':Aw} {K:AV→Bb→Prop} {KS:Aw→Prop}
theorem Ch {z:Nat} {p:PC} (hz:Js=z) (h:s=s'):pw E p Q s=pw E p Q s':=by rw [h]
theorem BG {z:Nat} {l:List Fm} (hz:Js=z) (h:s=s'):Kd E l s KS=Kd E l s' KS:=by rw [h]
theorem A0 {z:Nat} {I:Fm} (hz:Js=z) (h:s=s'):Dr E I s K=Dr E I s' K:=by rw [h]
theorem Ci {z:Nat} {dst:Option Nat} {op:Bh} {V V':AN} {xs xs':List AV} (hz:Js=z) (hV:V=V') (h:xs=xs'):ev E dst V op xs K=ev E dst V' op xs' K:=by rw [h,hV]
theorem A5 {z:Nat} {b:BinOp} {k k' k1 k2:IntKind} {x y x' y':Int} {C:AV→Prop} (hz:Js=z) (h1:k=k1) (h2:k'=k2) (hx:x=x') (hy:y=y'):Cq b k k' x y C=Cq b k1 k2 x' y' C:=by rw [h1,h2,hx,hy]
theorem A7 {z:Nat} {c c':Bool} {A B:Prop} (hz:Js=z) (h:c=c'):GZ c A B=GZ c' A B:=by rw [h]
theorem A6 {z:Nat} {v v':AV} {A B:Prop} (hz:Js=z) (h:v=v'):OA v A B=OA v' A B:=by rw [h]
theorem Az {z:Nat} {e e':Bl} {A:Aw→Prop} (hz:Js=z) (he:e=e') (h:s=s'):Ix A Q e s=Ix A Q e' s':=by rw [he,h]
theorem Ar {z:Nat} {i:Nat} {e e':Bl} (hz:Js=z) (he:e=e') (h:s=s'):II i Q e s=II i Q e' s':=by rw [he,h]
theorem Am {α:Type} {z:Nat} {x y:Option α} {A:α→Prop} (hz:Js=z) (h:x=y):Ag x A=Ag y A:=by rw [h]
theorem Ai {z:Nat} {x y:Option AX} {A} (hz:Js=z) (h:x=y):F1 x A=F1 y A:=by rw [h]
theorem A2 {z:Nat} {x y:Option AX} {A} (hz:Js=z) (h:x=y):Hb x A=Hb y A:=by rw [h]
theorem Ap {z:Nat} {gs:List Eg} (hz:Js=z) (h:s=s'):CT gs s KS=CT gs s' KS:=by rw [h]
theorem A4 {z:Nat} {g:Eg} (hz:Js=z) (h:s=s'):EO g s KS=EO g s' KS:=by rw [h]
theorem Aq {z:Nat} {dst:Option Nat} {V V':AN} {f:FuncId} {xs xs':List AV} (hz:Js=z) (hV:V=V') (h:xs=xs'):DT E dst V f xs K=DT E dst V' f xs' K:=by rw [h,hV]
theorem BK {z:Nat} {α:Type} {ag:Bool} {n n':Nat} {cs cs':List α} {off off':Nat} {mk:List α→AV} {one:α→AV} {C:AV→Prop} (hz:Js=z) (hn:n=n') (h:cs=cs') (ho:off=off'):Ba ag n cs off mk one C=Ba ag n' cs' off' mk one C:=by rw [hn,h,ho]
theorem Bk {z:Nat} {lo hi:Bool} {n n':Nat} {xs xs':List AV} {C:Nat→Nat→Prop} (hz:Js=z) (hn:n=n') (h:xs=xs'):LH lo hi n xs C=LH lo hi n' xs' C:=by rw [hn,h]
theorem Ao {z:Nat} {v v':AV} {b:Bool} {A B:Prop} (hz:Js=z) (h:v=v'):JM v b A B=JM v' b A B:=by rw [h]
theorem BN {z:Nat} {v v':AV} {t:Nat} {sl:Nat→AV} {V:AN} (hz:Js=z) (h:v=v'):R6 v t sl V KS=R6 v' t sl V KS:=by rw [h]
theorem BL {z:Nat} {v v':AV} {t o ety es:Nat} {sl:Nat→AV} {V:AN} (hz:Js=z) (h:v=v'):Xo v t o ety es sl V KS=Xo v' t o ety es sl V KS:=by rw [h]
theorem BI {z:Nat} {rs:List RT} {K:List AV→Prop} (hz:Js=z) (h:s=s'):Ih E s rs K=Ih E s' rs K:=by rw [h]
theorem BJ {z:Nat} {r:RT} {K:AV→Prop} (hz:Js=z) (h:s=s'):TC E s r K=TC E s' r K:=by rw [h]
theorem AM {b:Bool} {A B:Prop} (h1:b=true→A) (h2:b=false→B):GZ b A B:=⟨h1,h2⟩
theorem Zl {d t b op xs} {sl:Nat→AV} {V:AN}:Dr E ⟨d,some (t,b),op,xs⟩ ⟨sl,V⟩ K=JM (sl t) b (ev E d V op (xs.map (KA.val sl)) K) (K (.tup []) .none):=rfl
theorem ab {b:Bool} {A B:Prop}:JM (.d (.bool b)) true A B=GZ b A B:=by simp [JM]
theorem ac {b:Bool} {A B:Prop}:JM (.d (.bool b)) false A B=GZ b B A:=by cases b<;>simp [JM]
theorem aa {b:Bool} {A B:Prop}:JM (.tup []) b A B=B:=rfl
theorem YR {t:Nat} {sl:Nat→AV} {V:AN}:EO (.freeze t) ⟨sl,V⟩ KS=R6 (sl t) t sl V KS:=by
 simp only [EO,R6]
 cases sl t with
 |own o g=>simp only;cases V.get o g with
  |none=>rfl
  |some x=>cases x<;>rfl
 |_=>rfl
theorem ah {t o g:Nat} {sl:Nat→AV} {V:AN}:R6 (.own o g) t sl V KS=Hb (V.get o g) fun _ _ nl l=>KS ⟨B2 sl t (.d (.list nl l)),V.drop o⟩:=rfl
theorem eH {t:Nat} {x:D} {sl:Nat→AV} {V:AN}:R6 (.d x) t sl V KS=KS ⟨sl,V⟩:=rfl
theorem dL {t:Nat} {x:List D} {sl:Nat→AV} {V:AN}:R6 (.ex x) t sl V KS=KS ⟨sl,V⟩:=rfl
theorem V9 {t:Nat} {sl:Nat→AV} {V:AN}:R6 .undef t sl V KS=KS ⟨sl,V⟩:=rfl
theorem YS {t:Nat} {sl:Nat→AV} {V:AN}:EO (.frzP t) ⟨sl,V⟩ KS=Yb (sl t) t sl V KS:=by
 simp only [EO,Yb]
 cases sl t with
 |ptr o g f =>
  cases f with
  |zero =>
   simp only;cases V.get o g with
   |none=>rfl
   |some x =>
    cases x with
    |cells xs =>
     simp only [F1]
     cases Ah AV.toD1 xs with
     |none=>rfl
     |some l=>cases l<;>simp [Ag]
    |_=>rfl
  |succ n=>rfl
 |_=>rfl
theorem ai {t o g:Nat} {sl:Nat→AV} {V:AN}:Yb (.ptr o g 0) t sl V KS=F1 (V.get o g) fun xs=>Ag (Ah AV.toD1 xs) fun cs=>cs≠[]∧KS ⟨B2 sl t (.d (.ptr cs)),V.drop o⟩:=rfl
theorem BO {z:Nat} {v v':AV} {t:Nat} {sl:Nat→AV} {V:AN} (hz:Js=z) (h:v=v'):Yb v t sl V KS=Yb v' t sl V KS:=by rw [h]
theorem An {z:Nat} {x y:Option AX} {A B} (hz:Js=z) (h:x=y):Kh x A B=Kh y A B:=by rw [h]
theorem YP {t o ety es:Nat} {sl:Nat→AV} {V:AN}:EO (.own t o ety es) ⟨sl,V⟩ KS=Xo (sl t) t o ety es sl V KS:=rfl
theorem YT {t:Nat} {sl:Nat→AV} {V:AN}:EO (.frzM t) ⟨sl,V⟩ KS=Yd (sl t) t sl V KS:=by
 simp only [EO,Yd]
 cases sl t with
 |mref k o g =>
  cases k with
  |out=>simp only;cases V.get o g with
   |none=>rfl
   |some x=>cases x<;>rfl
  |_=>rfl
 |_=>rfl
theorem Yc {t o g:Nat} {sl:Nat→AV} {V:AN}:Yd (.mref .out o g) t sl V KS=Fe (V.get o g) fun _ _ nl ix rows=>KS ⟨B2 sl t (.d (.list nl (Hc ix rows))),V.drop o⟩:=rfl
theorem BP {z:Nat} {v v':AV} {t:Nat} {sl:Nat→AV} {V:AN} (hz:Js=z) (h:v=v'):Yd v t sl V KS=Yd v' t sl V KS:=by rw [h]
theorem YV {t:Nat} {sl:Nat→AV} {V:AN}:EO (.frzA t) ⟨sl,V⟩ KS=Yg (sl t) t sl V KS:=by
 simp only [EO,Yg]
 cases sl t with
 |ptr o g f =>
  cases f with
  |zero=>rfl
  |succ n=>rfl
 |_=>rfl
theorem ak {t o g:Nat} {sl:Nat→AV} {V:AN}:Yg (.ptr o g 0) t sl V KS=Yh (V.get o g) t o sl V KS:=rfl
theorem Tt {t o:Nat} {c:AV} {l:List AV} {sl:Nat→AV} {V:AN}:Yh (some (.cells (c :: l))) t o sl V KS=KS ⟨B2 sl t (.ablk false (c :: l) 0),V.drop o⟩:=rfl
theorem BT {z:Nat} {v v':AV} {t:Nat} {sl:Nat→AV} {V:AN} (hz:Js=z) (h:v=v'):Yg v t sl V KS=Yg v' t sl V KS:=by rw [h]
theorem BU {z:Nat} {y y':Option AX} {t o:Nat} {sl:Nat→AV} {V:AN} (hz:Js=z) (h:y=y'):Yh y t o sl V KS=Yh y' t o sl V KS:=by rw [h]
theorem YU {t off:Nat} {sl:Nat→AV} {V:AN}:EO (.frzC t off) ⟨sl,V⟩ KS=V_ (sl t) off sl V KS:=by
 simp only [EO,V_]
 cases sl t with
 |ptr b g f =>
  simp only
  cases V.get b g with
  |none=>rfl
  |some x =>
   cases x with
   |cells xs =>
    simp only [R7]
    cases xs[f+off]? with
    |none=>rfl
    |some y =>
     cases y with
     |own o p=>simp only;cases V.get o p with
      |none=>rfl
      |some z=>cases z<;>rfl
     |_=>rfl
   |_=>rfl
 |_=>rfl
theorem aj {b g f off:Nat} {sl:Nat→AV} {V:AN}:V_ (.ptr b g f) off sl V KS=Yf (V.get b g) b g (f+off) sl V KS:=by
 simp only [V_,Yf]
theorem Tr {b g k:Nat} {xs:List AV} {sl:Nat→AV} {V:AN}:Yf (some (.cells xs)) b g k sl V KS=R7 xs[k]? b g k xs sl V KS:=rfl
theorem Ye {b g k o p:Nat} {xs:List AV} {sl:Nat→AV} {V:AN}:R7 (some (.own o p)) b g k xs sl V KS=Hb (V.get o p) fun _ _ nl l=>KS ⟨sl,(V.drop o).app (.keep b g (.cells (xs.set k (.d (.list nl l)))))⟩:=rfl
theorem dM {b g k:Nat} {x:D} {xs:List AV} {sl:Nat→AV} {V:AN}:R7 (some (.d x)) b g k xs sl V KS=KS ⟨sl,V⟩:=rfl
theorem BR {z:Nat} {v v':AV} {off:Nat} {sl:Nat→AV} {V:AN} (hz:Js=z) (h:v=v'):V_ v off sl V KS=V_ v' off sl V KS:=by rw [h]
theorem BS {z:Nat} {y y':Option AX} {b g k k':Nat} {sl:Nat→AV} {V:AN} (hz:Js=z) (h:y=y') (hk:k=k'):Yf y b g k sl V KS=Yf y' b g k' sl V KS:=by rw [h,hk]
theorem BQ {z:Nat} {y y':Option AV} {b g k:Nat} {xs:List AV} {sl:Nat→AV} {V:AN} (hz:Js=z) (h:y=y'):R7 y b g k xs sl V KS=R7 y' b g k xs sl V KS:=by rw [h]
theorem YQ {t o e1 e2:Nat} {sl:Nat→AV} {V:AN}:EO (.ownM t o e1 e2) ⟨sl,V⟩ KS=Xq (sl t) t o e1 e2 sl V KS:=rfl
theorem aB {t o e1 e2:Nat} {sl:Nat→AV} {V:AN}:Xq (.d (.list true [])) t o e1 e2 sl V KS=(o < D5∧KS ⟨B2 sl t (.mref .out o (V.cn o)),V.app (.fresh o (.mat e1 e2 true [] []))⟩):=rfl
theorem Xp {t o e1 e2:Nat} {k o' g} {sl:Nat→AV} {V:AN}:Xq (.mref k o' g) t o e1 e2 sl V KS=KS ⟨sl,V⟩:=rfl
theorem BM {z:Nat} {v v':AV} {t o e1 e2:Nat} {sl:Nat→AV} {V:AN} (hz:Js=z) (h:v=v'):Xq v t o e1 e2 sl V KS=Xq v' t o e1 e2 sl V KS:=by rw [h]
theorem A3 {z:Nat} {x y:Option AX} {A} (hz:Js=z) (h:x=y):Fe x A=Fe y A:=by rw [h]
theorem aA {t o ety es:Nat} {sl:Nat→AV} {V:AN}:Xo (.d (.list true [])) t o ety es sl V KS=(o < D5∧KS ⟨B2 sl t (.own o (V.cn o)),V.app (.fresh o (.row ety es true []))⟩):=rfl
theorem Z' {t o ety es o' g:Nat} {sl:Nat→AV} {V:AN}:Xo (.own o' g) t o ety es sl V KS=KS ⟨sl,V⟩:=rfl
end
theorem Zg {α:Type} (f:Nat→α) (i:Nat) (x:α) (j:Nat):B2 f i x j=if j=i then x else f j:=rfl
theorem W5 (f:Nat→Nat) (i x y:Nat):B2 (B2 f i x) i y=B2 f i y:=by funext j;simp only [B2];split<;>rfl
theorem eA {x:D}:(AV.d x).one=x.one:=rfl
theorem aD {o g}:(AV.own o g).one=true:=rfl
theorem cw {f c}:(AV.fn f c).one=true:=rfl
theorem Y4 {k n}:(D.int k n).one=true:=rfl
theorem Wc {b}:(D.bool b).one=true:=rfl
theorem Wb {n l}:(D.list n l).one=true:=rfl
theorem di {c}:(AV.agg c).cells?=some c:=rfl
theorem bH {c}:(AV.d (.agg c)).cells?=some (c.map .d):=rfl
theorem dh {k n}:(AV.d (.int k n)).cells?=some [.d (.int k n)]:=rfl
theorem bI {b}:(AV.d (.bool b)).cells?=some [.d (.bool b)]:=rfl
theorem bG {n l}:(AV.d (.list n l)).cells?=some [.d (.list n l)]:=rfl
theorem dg {o g}:(AV.own o g).cells?=some [.own o g]:=rfl
theorem eW {f c}:(AV.fn f c).cells?=some [.fn f c]:=rfl
theorem cJ {k n}:AV.toD1 (.d (.int k n))=some (.int k n):=rfl
theorem Zk {n l}:AV.toD1 (.d (.list n l))=some (.list n l):=rfl
theorem Vy {α β:Type} {f:α→Option β}:Ah f []=some []:=rfl
theorem Ta {α β:Type} {f:α→Option β} {x:α} {xs:List α}:Ah f (x :: xs)=match f x with
 |none=>none
 |some y=>match Ah f xs with|none=>none|some ys=>some (y :: ys):=rfl
theorem cK {cs}:AV.toD1 (.agg cs)=match Ah AV.toD0 cs with|some l=>some (.agg l)|none=>none:=rfl
theorem bX {V:AN} {n l}:(AV.d (.list n l)).asList V=some (n,l):=rfl
theorem ei {V:AN} {l}:(AV.ex l).asList V=some (false,l):=rfl
theorem dn {V:AN} {o g}:(AV.own o g).asList V=match V.get o g with|some (.row _ _ nil xs)=>some (nil,xs)|_=>none:=rfl
theorem eh {V:AN} {o g}:(AV.mref .out o g).asList V=match V.get o g with|some (.mat _ _ nil ix rows)=>some (nil,Hc ix rows)|_=>none:=rfl
theorem eg {V:AN} {j o g}:(AV.mref (.row j) o g).asList V=match V.get o g with|some (.mat _ _ _ _ rows)=>rows[j]?|_=>none:=rfl
theorem X6 {ix rows}:(Hc ix rows).length=ix.length:=by simp [Hc]
theorem fP {V:AN} {x}:DU V none (.d x)=match (AV.d x).asList V with|some (_,ys)=>some ys|none=>none:=rfl
theorem ec {V:AN} {x}:DU V none (.ex x)=match (AV.ex x).asList V with|some (_,ys)=>some ys|none=>none:=rfl
theorem bS {V:AN} {z n}:DU V (some z) (.d (.int .i64 n))=if 0≤n∧n≤(CG:Int) then some (List.replicate n.toNat z) else none:=rfl
theorem WC {es xs}:Fx es xs []=some xs:=rfl
theorem Tz {es xs i v rest}:Fx es xs ((i,v) :: rest)=match v.toD1 with
 |none=>none
 |some x=>if x.cells.length=es∧i < xs.length then Fx es (xs.set i x) rest else none:=rfl
theorem WD {cs}:KJ cs []=some cs:=rfl
theorem T0 {cs off size v rest}:KJ cs (((off,size),v) :: rest)=match v.cells? with
 |none=>none
 |some vs=>if vs.length=size∧off+size≤cs.length then KJ (A9 cs off vs) rest else none:=rfl
theorem Wi {k n}:(D.int k n).cells=[.int k n]:=rfl
theorem UG {n l}:(D.list n l).cells=[.list n l]:=rfl
theorem cE {k n}:up (.int k n)=.d (.int k n):=rfl
theorem Zh {n l}:up (.list n l)=.d (.list n l):=rfl
theorem cF {l}:up (.agg l)=.d (.agg l):=rfl
theorem cC {l}:up (.tup l)=.tup (l.map .d):=rfl
theorem VR:Bb.site .none=[]:=rfl
theorem XH {a b}:Bb.site (.seq a b)=a.site++b.site:=rfl
theorem S8 {o x}:Bb.site (.fresh o x)=[o]:=rfl
theorem VS {o g x}:Bb.site (.keep o g x)=[o]:=rfl
def AY (xs:List Int):List D:=xs.map (D.int .i64)
@[simp] theorem eG:AY []=[]:=rfl
theorem QN (xs:List Int):(AY xs=[])=(xs=[]):=by cases xs<;>simp [AY]
theorem DZ (xs:List Int):(AY xs).length=xs.length:=by simp [AY]
theorem YE (xs ys:List Int):AY xs++AY ys=AY (xs++ys):=by simp [AY]
theorem V5 (xs:List Int) (y:Int):AY xs++[.int .i64 y]=AY (xs++[y]):=by simp [AY]
theorem YC (xs:List Int) (i:Nat) (y:Int):(AY xs).set i (.int .i64 y)=AY (xs.set i y):=by simp [AY,List.map_set]
theorem YD (n:Nat) (y:Int):List.replicate n (D.int .i64 y)=AY (List.replicate n y):=by simp [AY]
theorem Th (xs:List Int):(AY xs).isEmpty=xs.isEmpty:=by cases xs<;>rfl
theorem V4 (xs:List Int):Cc 1 (AY xs)=True:=by
 simp only [Cc,AY,eq_iff_iff,iff_true];intro x hx;simp at hx;obtain⟨n,_,rfl⟩:=hx;rfl
theorem W8 {es:Nat}:Cc es []=True:=by simp [Cc]
theorem VE {es:Nat} {x:D} {l:List D}:Cc es (x :: l)=(x.cells.length=es∧Cc es l):=by simp [Cc]
theorem W9 {α:Type} {es:Nat} {f:α→D} {l:List α} (h:∀x,(f x).cells.length=es):Cc es (l.map f)=True:=by
 simp only [Cc,eq_iff_iff,iff_true];intro x hx;simp at hx;obtain⟨y,_,rfl⟩:=hx;exact h y
theorem Ro {xs:List Int} {i:Nat} {A:D→Prop}:Ag (AY xs)[i]? A=(i < xs.length∧A (.int .i64 (xs[i]?.getD 0))):=by
 unfold AY
 rw [List.getElem?_map]
 by_cases h:i < xs.length
 ·simp [h,Ag]
 ·have:xs[i]?=none:=List.getElem?_eq_none (by omega)
  simp [this,h,Ag]
theorem H7 {α:Type} [Inhabited α] {f:α→D} {xs:List α} {i:Nat} {A:D→Prop}:Ag (xs.map f)[i]? A=(i < xs.length∧A (f (xs[i]?.getD default))):=by
 rw [List.getElem?_map]
 by_cases h:i < xs.length
 ·simp [h,Ag]
 ·have:xs[i]?=none:=List.getElem?_eq_none (by omega)
  simp [this,h,Ag]
theorem Rn {xs:List Nat} {i:Nat} {A:Nat→Prop}:Ag xs[i]? A=(i < xs.length∧A (xs[i]?.getD 0)):=by
 by_cases h:i < xs.length
 ·simp [h,Ag]
 ·have:xs[i]?=none:=List.getElem?_eq_none (by omega)
  simp [this,h,Ag]
def fY {α:Type} (f:α→D) (M:List (List α)):List (Bool×List D):=M.map fun r=>(false,r.map f)
section
variable {E:CZ} {dst:Option Nat} {V:AN} {K:AV→Bb→Prop} {f:FuncId} {xs:List AV}
theorem AE {ds:List D} {r:D} (h:B7 E f ds r) (ha:HL xs=some ds) (hk:K (up r) .none):DT E dst V f xs K:=.inl ⟨ds,r,ha,h,hk⟩
theorem AF {ds:List D} {r:D} (h:B7 E f ds r) (ha:SW V xs=some ds) (hf:r.flat=true) (hk:K (up r) .none):DT E dst V f xs K:=.inr (.inl ⟨ds,r,ha,h,hf,hk⟩)
end
section
variable {E:CZ} {Q:Bl→Aw→Prop} {s:Aw}
def XQ (l:List (Nat×AV)) (k:Nat) (v:AV):List (Nat×AV):=l.map fun p=>if p.1=k then (k,v) else p
def XO (l:List (Nat×(Nat×AX))) (k:Nat) (x:AX):List (Nat×(Nat×AX)):=l.map fun p=>if p.1=k then (k,(0,x)) else p
def MY (l:List (Nat×AV)):List (Nat×AV)→List (Nat×AV)
 |[]=>l
 |(k,v) :: r=>XQ (MY l r) k v
def MX (l:List (Nat×(Nat×AX))):List (Nat×AX)→List (Nat×(Nat×AX))
 |[]=>l
 |(k,v) :: r=>XO (MX l r) k v
theorem XP {k:Nat} {v:AV}:XQ [] k v=[]:=rfl
theorem VZ {a k:Nat} {b v:AV} {l}:XQ ((a,b) :: l) k v=(if a=k then (k,v) else (a,b)) :: XQ l k v:=rfl
theorem XN {k:Nat} {v:AX}:XO [] k v=[]:=rfl
theorem VX {a k:Nat} {b:Nat×AX} {v:AX} {l}:XO ((a,b) :: l) k v=(if a=k then (k,(0,v)) else (a,b)) :: XO l k v:=rfl
theorem VY {l}:MY l []=l:=rfl
theorem S_ {l k v r}:MY l ((k,v) :: r)=XQ (MY l r) k v:=rfl
theorem VV {l}:MX l []=l:=rfl
theorem S9 {l k v r}:MX l ((k,v) :: r)=XO (MX l r) k v:=rfl
theorem d0 {f:Nat→AV} {n:Nat}:KA.val f (.t n)=f n:=rfl
theorem d4 {f:Nat→AV} {v:AV}:KA.val f (.k v)=v:=rfl
theorem VL {α:Type} (cs:List α) (off:Nat) (vs:List α):A9 cs off vs=cs.take off++vs++cs.drop (off+vs.length):=rfl
theorem AS {α:Type} (up:α→List (Nat×AV)) (uo:α→List (Nat×AX)) (Inv:α→Prop) (μ:α→Nat) (x0:α) {gs:List Eg} {ks os:List Nat} {a:PC}
  {l0:List (Nat×AV)} {m0:List (Nat×(Nat×AX))} (h0:CT gs s fun s1=>s1.nrm ks os=⟨Fp l0,⟨Be m0,fun _=>1⟩⟩)
  (he:MY l0 (up x0)=l0) (he':MX m0 (uo x0)=m0) (hI:Inv x0)
  (step:∀x,Inv x→pw E a (Ix (fun s'=>CT gs s' fun s1=>∃y,s1.nrm ks os=⟨Fp (MY l0 (up y)),⟨Be (MX m0 (uo y)),fun _=>1⟩⟩∧Inv y∧μ y < μ x) Q) ⟨Fp (MY l0 (up x)),⟨Be (MX m0 (uo x)),fun _=>1⟩⟩) :
  pw E (.loop gs ks os a) Q s :=
 Xg (fun x=>⟨Fp (MY l0 (up x)),⟨Be (MX m0 (uo x)),fun _=>1⟩⟩) Inv μ x0 (by rw [he,he'];exact h0) hI step
end
theorem AC (n:Int) (h:-9223372036854775808≤n∧n≤9223372036854775807):IntKind.i64.wrap n=n:=Go.IntWalk.i64_in n h
theorem Xb {E:CZ} {rs r s}:d8 E rs r .ret s=Ih E s rs (MW s.V r):=rfl
theorem Xd {E:CZ} {s K}:Ih E s [] K=K []:=rfl
theorem Vd {E:CZ} {s r l K}:Ih E s (r :: l) K=TC E s r fun v=>Ih E s l fun vs=>K (v :: vs):=rfl
theorem ci {E:CZ} {s n K}:TC E s (.t n) K=K (s.sl n):=rfl
theorem cj {E:CZ} {s a ty ag n K}:TC E s (.c a ty ag n) K=ev E none s.V (.load ag n) [s.sl a] fun v _=>K v:=rfl
theorem Zv {V r v}:MW V r [v]=(v.snap V=some r):=rfl
theorem Zu {V r v u}:MW V r [v,u]=((Ah (AV.snap V) [v,u]).map .tup=some r):=rfl
theorem Zt {V r v u t}:MW V r [v,u,t]=((Ah (AV.snap V) [v,u,t]).map .tup=some r):=rfl
theorem cT {V k n}:AV.snap V (.d (.int k n))=some (.int k n):=rfl
theorem Zx {V b}:AV.snap V (.d (.bool b))=some (.bool b):=rfl
theorem Zw {V n l}:AV.snap V (.d (.list n l))=some (.list n l):=rfl
theorem cR {V o g}:AV.snap V (.own o g)=match V.get o g with|some (.row _ _ nil xs)=>some (.list nil xs)|_=>none:=rfl
theorem cU {V cs}:AV.snap V (.agg cs)=match Ah (AV.snap0 V) cs with|some l=>some (.agg l)|none=>none:=rfl
theorem cX {V k n}:AV.snap0 V (.d (.int k n))=some (.int k n):=rfl
theorem Zs {α:Type} {a b:α}:(some a=some b)=(a=b):=by simp
theorem Vo {α β:Type} {f:α→β} {a:α}:Option.map f (some a)=some (f a):=rfl
section
variable {k k':IntKind} {a b:Int} {C:AV→Prop}
theorem bQ:Cq .eql k k' a b C=(k=k'∧(a=b→C (.d (.bool true)))∧(¬a=b→C (.d (.bool false)))):=by
 rw [WW];by_cases h:a=b<;>simp [h]
theorem bK:Cq .neq k k' a b C=(k=k'∧(a=b→C (.d (.bool false)))∧(¬a=b→C (.d (.bool true)))):=by
 rw [WQ];by_cases h:a=b<;>simp [h]
theorem bL:Cq .lss k k' a b C=(k=k'∧(a < b→C (.d (.bool true)))∧(¬a < b→C (.d (.bool false)))):=by
 rw [WS];by_cases h:a < b<;>simp [h]
theorem bN:Cq .leq k k' a b C=(k=k'∧(a≤b→C (.d (.bool true)))∧(¬a≤b→C (.d (.bool false)))):=by
 rw [WT];by_cases h:a≤b<;>simp [h]
theorem bO:Cq .gtr k k' a b C=(k=k'∧(b < a→C (.d (.bool true)))∧(¬b < a→C (.d (.bool false)))):=by
 rw [WU];by_cases h:b < a<;>simp [h]
theorem bP:Cq .geq k k' a b C=(k=k'∧(b≤a→C (.d (.bool true)))∧(¬b≤a→C (.d (.bool false)))):=by
 rw [WV];by_cases h:b≤a<;>simp [h]
end
section
variable {E:CZ} {dst:Option Nat} {V:AN} {K:AV→Bb→Prop} {f:FuncId} {xs:List AV}
theorem AG {ds:List D} {b:Bool} (h:B7 E f ds (.bool b)) (ha:HL xs=some ds) (h1:b=true→K (.d (.bool true)) .none) (h2:b=false→K (.d (.bool false)) .none):DT E dst V f xs K :=
 AE h ha (by cases b with|true=>exact h1 rfl|false=>exact h2 rfl)
theorem AB {ds:List D} {b:Bool} (h:B7 E f ds (.bool b)) (ha:SW V xs=some ds) (h1:b=true→K (.d (.bool true)) .none) (h2:b=false→K (.d (.bool false)) .none):DT E dst V f xs K :=
 AF h ha rfl (by cases b with|true=>exact h1 rfl|false=>exact h2 rfl)
theorem Vn {α:Type} {p:Prop} [Decidable p] {x:α} {A:α→Prop}:Ag (if p then some x else none) A=(p∧A x):=by
 by_cases h:p<;>simp [h,Ag]
end
section
variable {E:CZ} {K:Aw→Prop}
def JI (j:Nat):List (Nat×Oa)→Option Oa
 |[]=>none
 |(i,r) :: l=>if j=i then some r else JI j l
def OM (x:Option Oa) (b:Oa):Bool:=match x with|some r=>JW r b|none=>false
def QA (need:List Nat) (i:Nat) (r:Oa) (rec:List (Nat×Oa)):List (Nat×Oa):=if need.contains i then (i,r) :: rec else rec
def Ms (E:CZ):Nat→List Nat→List (Fm×List Nat)→List (Nat×Oa)→Aw→(Aw→Prop)→Prop
 |_,_,[],_,s,K=>K s
 |i,need,(I,dy) :: l,rec,s,K=>Dr E I s fun v ch =>
  (dy.all fun j=>OM (JI j rec) (ch.site,Cx I s))=true ∧
  Ms E (i+1) need l (QA need i (ch.site,Cx I s) rec) (put s I.dst v ch) K
theorem Ua {need:List Nat}:∀{l:List (Fm×List Nat)} {rec:List Oa} {recE:List (Nat×Oa)} {s:Aw},(∀j,j∈l.flatMap (·.2)→j∈need)→(∀j,j∈need→JI j recE=rec[j]?)→Og E l rec s K=Ms E rec.length need l recE s K
 |[],_,_,_,_,_=>rfl
 |(I,dy) :: l,rec,recE,s,hn,hr=>by
  simp only [Og,Ms]
  congr 1
  funext v ch
  have h1:(dy.all fun j=>match rec[j]? with|some r=>JW r (ch.site,Cx I s)|none=>false)=(dy.all fun j=>OM (JI j recE) (ch.site,Cx I s)):=by
   rw [Bool.eq_iff_iff,List.all_eq_true,List.all_eq_true]
   have:∀j,j∈dy→(match rec[j]? with|some r=>JW r (ch.site,Cx I s)|none=>false)=OM (JI j recE) (ch.site,Cx I s):=fun j hj=>by
    rw [hr j (hn j (by simp [hj]))];rfl
   exact⟨fun h j hj=>by rw [←this j hj];exact h j hj,fun h j hj=>by rw [this j hj];exact h j hj⟩
  refine congr (congrArg And (congrArg (fun b=>b=true) h1)) ?_
  have h2:=Ua (need:=need) (l:=l) (rec:=rec++[(ch.site,Cx I s)]) (recE:=QA need rec.length (ch.site,Cx I s) recE) (s:=put s I.dst v ch) (fun j hj=>hn j (by simp at hj ⊢;exact .inr hj)) fun j hj=>by
   unfold QA
   by_cases h:need.contains rec.length=true
   ·rw [if_pos h]
    simp only [JI]
    by_cases hjl:j=rec.length
    ·subst hjl;simp
    ·rw [if_neg hjl,hr j hj]
     by_cases hlt:j < rec.length
     ·rw [List.getElem?_append_left hlt]
     ·rw [List.getElem?_eq_none (by omega),List.getElem?_eq_none (by simp;omega)]
   ·rw [if_neg h,hr j hj]
    have hne:j≠rec.length:=by rintro rfl;exact h (by simpa using hj)
    by_cases hlt:j < rec.length
    ·rw [List.getElem?_append_left hlt]
    ·rw [List.getElem?_eq_none (by omega),List.getElem?_eq_none (by simp;omega)]
  rw [h2];simp
theorem Xh {Q:Bl→Aw→Prop} {s:Aw} {gs l ks}:pw E (.draw gs l ks) Q s=CT gs s fun s'=>Ms E 0 (l.flatMap (·.2)) l [] s' fun s'=>Q .normal (s'.keep ks):=by
 rw [Z7]
 congr 1;funext s'
 exact Ua (rec:=[]) (recE:=[]) (fun j hj=>hj) fun j hj=>by simp [JI]
theorem XT {i need r} {s:Aw}:Ms E i need [] r s K=K s:=rfl
theorem S' {i need I l r} {s:Aw}:Ms E i need ((I,[]) :: l) r s K=Dr E I s fun v ch=>Ms E (i+1) need l (QA need i (ch.site,Cx I s) r) (put s I.dst v ch) K:=by
 simp [Ms]
theorem Vb {i need I j dy l r} {s:Aw}:Ms E i need ((I,j :: dy) :: l) r s K=Dr E I s fun v ch =>
 ((j :: dy).all fun j=>OM (JI j r) (ch.site,Cx I s))=true∧Ms E (i+1) need l (QA need i (ch.site,Cx I s) r) (put s I.dst v ch) K:=rfl
theorem BH {z:Nat} {i i' need need' l} {r r':List (Nat×Oa)} {s s':Aw} (hz:Js=z) (hi:i=i') (hn:need=need') (hr:r=r') (h:s=s'):Ms E i need l r s K=Ms E i' need' l r' s' K:=by rw [h,hr,hi,hn]
theorem ck {need:List Nat} {i:Nat} {r:Oa} {rec:List (Nat×Oa)} (h:need.contains i=true):QA need i r rec=(i,r) :: rec:=by simp only [QA,h,if_true]
theorem cm {need:List Nat} {i:Nat} {r:Oa} {rec:List (Nat×Oa)} (h:need.contains i=false):QA need i r rec=rec:=by simp only [QA,h,Bool.false_eq_true,if_false]
theorem Vw {j:Nat}:JI j []=none:=rfl
theorem TX {j i:Nat} {r:Oa} {l}:JI j ((i,r) :: l)=if j=i then some r else JI j l:=rfl
theorem ZK {r b:Oa}:OM (some r) b=JW r b:=rfl
theorem ed {a f b f'}:JW (a,f) (b,f')=((a.all fun o=>!f'.contains o) && (b.all fun o=>!f.contains o)):=rfl
theorem Yn {d g op xs} {sl:Nat→AV} {V:AN}:Cx ⟨d,g,op,xs⟩ ⟨sl,V⟩=fp V d op (xs.map (KA.val sl)):=rfl
theorem fB {x}:AV.sites (.d x)=[]:=by cases x<;>rfl
theorem d6 {x}:AV.sites (.ex x)=[]:=rfl
theorem Zo {x n}:AV.sites (.dptr x n)=[]:=rfl
theorem cN {o g}:AV.sites (.own o g)=[o]:=rfl
theorem cM {o g f}:AV.sites (.ptr o g f)=[o]:=rfl
theorem Zm {o g e i f}:AV.sites (.rptr o g e i f)=[o]:=rfl
theorem Zn {k o g}:AV.sites (.mref k o g)=[o]:=rfl
theorem Zp {s l f}:AV.sites (.ablk s l f)=AV.sites.sitesL l:=rfl
theorem cO {l}:AV.sites (.agg l)=AV.sites.sitesL l:=rfl
theorem d5 {f l}:AV.sites (.fn f l)=AV.sites.sitesL l:=rfl
theorem cL {l}:AV.sites (.tup l)=AV.sites.sitesL l:=rfl
theorem Zq:AV.sites.sitesL []=[]:=rfl
theorem XE {x l}:AV.sites.sitesL (x :: l)=x.sites++AV.sites.sitesL l:=rfl
section
variable {d:Option Nat} {xs:List AV} {V:AN}
theorem dN:fp V d .mov xs=[]:=rfl
theorem al:fp V d .pick xs=[]:=rfl
theorem dQ {b}:fp V d (.bin b) xs=[]:=rfl
theorem eI {b}:fp V d (.un b) xs=[]:=rfl
theorem Yk {a}:fp V d (.faddr a) xs=[]:=rfl
theorem WB {a b}:fp V d (.iaddrA a b) xs=[]:=rfl
theorem Ym {a b}:fp V d (.build a b) xs=[]:=rfl
theorem Yj {a b c e}:fp V d (.mkrow a b c e) xs=[]:=rfl
theorem Tu {a}:fp V d (.extract a) xs=[]:=rfl
theorem am {a b}:fp V d (.load a b) xs=AV.sites.sitesL xs:=rfl
theorem WA {a}:fp V d (.iaddrS a) xs=AV.sites.sitesL xs:=rfl
theorem dP {a}:fp V d (.len a) xs=AV.sites.sitesL xs:=rfl
theorem Yi {a}:fp V d (.store a) xs=d.toList++AV.sites.sitesL xs:=rfl
theorem an {a}:fp V d (.call a) xs=B3 d V xs:=rfl
theorem Yl:fp V d .callv xs=B3 d V xs:=rfl
theorem UH {t}:B3 (some t) V xs=Dx t++V.reach 3 (AV.sites.sitesL xs):=rfl
theorem aK {t}:Dx t=[t,t+10000,t+20000,t+30000]:=rfl
theorem PB:∀{n:Nat},V.reach n []=[]
 |0=>rfl
 |n+1=>by simp only [AN.reach,List.flatMap_nil,PB,List.append_nil]
theorem Z4 {o l}:V.reach 3 (o :: l)=(o :: l)++V.reach 2 ((o :: l).flatMap V.osites):=rfl
def QJ:Option (Nat×AX)→List Nat
 |some (_,.cells xs)=>AV.sites.sitesL xs
 |some (_,.rowH _ _ _ q _)=>[q]
 |_=>[]
theorem Vi {ob cn o}:(AN.mk ob cn).osites o=QJ (ob o):=rfl
theorem Vp {g xs}:QJ (some (g,.cells xs))=AV.sites.sitesL xs:=rfl
theorem aF {g a b c d e}:QJ (some (g,.mat a b c d e))=[]:=rfl
theorem dR {a b c e}:fp V d (.app a b c e) xs=d.toList++AV.sites.sitesL xs:=rfl
end
theorem XA {a:Nat}:(some a).toList=[a]:=rfl
theorem XB:(none:Option Nat).toList=[]:=rfl
end
theorem F8 {k n}:(D.int k n).WF=KB k n:=by rw [D.WF]
theorem FS {b}:(D.bool b).WF=True:=by rw [D.WF]
theorem En {nl xs}:(D.list nl xs).WF=(xs.length≤maxLen∧∀x,x∈xs→x.WF):=by rw [D.WF]
theorem HD {xs}:(D.agg xs).WF=(∀x,x∈xs→x.WF):=by rw [D.WF]
theorem HC {xs}:(D.ptr xs).WF=(∀x,x∈xs→x.WF):=by rw [D.WF]
theorem KC {f xs}:(D.fn f xs).WF=(∀x,x∈xs→x.WF):=by rw [D.WF]
theorem HB {xs}:(D.tup xs).WF=(∀x,x∈xs→x.WF):=by rw [D.WF]
theorem FR {nl} {xs:List Int}:(D.list nl (AY xs)).WF=(xs.length≤maxLen∧∀x,x∈xs→KB .i64 x):=by
 rw [En,DZ];simp [AY,F8]
theorem Cg {x:D} {l:List D}:(∀y,y∈x :: l→y.WF)=(x.WF∧∀y,y∈l→y.WF):=by simp
theorem C3:(∀y,y∈([]:List D)→y.WF)=True:=by simp
theorem C4 {α:Type} {f:α→D} {l:List α}:(∀y,y∈l.map f→y.WF)=(∀x,x∈l→(f x).WF):=by simp
theorem FU {n:Int}:KB .i64 n=(-9223372036854775808≤n∧n≤9223372036854775807):=by
 simp [KB,IntKind.min,IntKind.max,IntKind.signed,IntKind.bits]
theorem Dg:maxLen=9223372036854775807:=rfl
theorem SV {x:AV} {d:D} {xs:List AV} {ds:List D} (h:x.toD1=some d) (h':Ah AV.toD1 xs=some ds):HL (x :: xs)=some (d :: ds):=by
 simp only [HL,Ah,h,h']
theorem ZB:CG=1073741824:=rfl
theorem dC:D5=900000:=rfl
theorem Ee (V0:List (Nat×Nat×AX)) (xs:List AV):Aw.enterM V0 xs=⟨Fp (xs.zipIdx.map fun(d,k)=>(k,d)),⟨Be V0,fun _=>1⟩⟩:=by
 have key:∀(xs:List AV) (n t:Nat),(match xs[t]? with|some d=>d|none=>.undef)=Fp ((xs.zipIdx n).map fun(d,k)=>(k,d)) (n+t):=by
  intro xs
  induction xs with
  |nil=>intro n t;simp [Fp]
  |cons x xs ih =>
   intro n t
   cases t with
   |zero=>simp [Fp]
   |succ t =>
    have:=ih (n+1) t
    simp only [List.getElem?_cons_succ,List.zipIdx_cons,List.map_cons,Fp]
    rw [if_neg (by omega),this]
    congr 1;omega
 unfold Aw.enterM
 congr 1
 funext t
 have:=key xs 0 t
 simp only [Nat.zero_add] at this
 rw [←this]
 cases xs[t]?<;>rfl
theorem E5 {E:CZ} {dst:Option Nat} {V:AN} {K:AV→Bb→Prop} {f:FuncId} {xs:List AV} {V0 V1:List (Nat×Nat×AX)} {cxs:List AV} {r r':AV} {ch:Bb} (ρ ρ2:DM) (h:Hx E f V0 cxs V1 r) (h1:Ll ρ cxs xs)
  (h2:Handed V (B3 dst V xs) ρ V0) (h3:B9 V.cn dst V0 V1 ρ ρ2=true) (h4:r.ren ρ2=some r') (h5:Dv ρ ρ2 V1=some ch) (hk:K r' ch):DT E dst V f xs K :=
 .inr (.inr (.inr ⟨V0,cxs,V1,r,r',ch,ρ,ρ2,h1,h,h2,h3,h4,h5,hk⟩))
theorem Xc {E:CZ} {rs V1 r s}:ce E rs V1 r .ret s=(Ih E s rs (bl V1 s.V r)∧YG s.V V1):=rfl
theorem Ri {E:CZ} {rs V1 r s}:ce E rs V1 r .normal s=(Ih E s rs (bl V1 s.V r)∧YG s.V V1):=rfl
section
variable {V:AN} {V1:List (Nat×Nat×AX)}
theorem eE {r v}:bl V1 V r [v]=PZ V1 V v r:=rfl
theorem eF {rs}:bl V1 V (.tup rs) []=Pa V1 V [] rs:=rfl
theorem Wh:Pa V1 V [] []=True:=rfl
theorem bF {v d}:PZ V1 V v (.d d)=(v.snap V=some d∧(v.sites.all fun o=>!Tm V1 o)=true):=rfl
theorem Wg {v o g}:PZ V1 V v (.own o g)=(v=.own o g):=rfl
theorem YM {o}:Tm [] o=false:=rfl
theorem V6 {p l o}:Tm (p :: l) o=(p.1 == o || Tm l o):=rfl
def Tj:Option (Nat×AX)→Nat→AX→Prop
 |some (g',.map t l),g,.map t' l'=>g'=g∧t=t'∧l=l'
 |some (g',.row a b c l),g,.row a' b' c' l'=>g'=g∧a=a'∧b=b'∧c=c'∧l=l'
 |some (g',.cells l),g,.cells l'=>g'=g∧l=l'
 |some (g',.hist a b c),g,.hist a' b' c'=>g'=g∧a=a'∧b=b'∧c=c'
 |some (g',.rowH a b c d e),g,.rowH a' b' c' d' e'=>g'=g∧a=a'∧b=b'∧c=c'∧d=d'∧e=e'
 |some (g',.mat a b c d e),g,.mat a' b' c' d' e'=>g'=g∧a=a'∧b=b'∧c=c'∧d=d'∧e=e'
 |_,_,_=>False
theorem aY {x:Option (Nat×AX)} {g:Nat} {y:AX}:Tj x g y=(x=some (g,y)):=by
 cases x with
 |none=>simp [Tj]
 |some p=>obtain⟨g',z⟩:=p;cases z<;>cases y<;>simp [Tj]
theorem YH {g' a b c l g a' b' c' l'}:Tj (some (g',.row a b c l)) g (.row a' b' c' l')=(g'=g∧a=a'∧b=b'∧c=c'∧l=l'):=rfl
theorem YI {g' a b c d e g a' b' c' d' e'}:Tj (some (g',.mat a b c d e)) g (.mat a' b' c' d' e')=(g'=g∧a=a'∧b=b'∧c=c'∧d=d'∧e=e'):=rfl
theorem Ti {g' l g l'}:Tj (some (g',.cells l)) g (.cells l')=(g'=g∧l=l'):=rfl
theorem aX:YG V []=True:=rfl
theorem YF {o g x l}:YG V ((o,g,x) :: l)=(Tj (V.ob o) g x∧YG V l):=by rw [aY];rfl
end
theorem isCall {E:CZ} {dst:Option Nat} {V:AN} {K:AV→Bb→Prop} {f:FuncId} {xs:List AV} (h:DT E dst V f xs K):DT E dst V f xs K:=h
theorem AW {α:Type} {S:Aw} {T:α→Aw} {I M:α→Prop} (h:∃y,S=T y∧I y∧M y):∃y,S=T y∧I y∧M y:=h
theorem Aa {α β:Type} {S:Aw} {T:α×β→Aw} {I M:α×β→Prop} (h:∃y,S=T y∧I y∧M y):∃y,S=T y∧I y∧M y:=h
theorem AU {α β γ:Type} {S:Aw} {T:α×β×γ→Aw} {I M:α×β×γ→Prop} (h:∃y,S=T y∧I y∧M y):∃y,S=T y∧I y∧M y:=h
theorem A8 {α β γ δ:Type} {S:Aw} {T:α×β×γ×δ→Aw} {I M:α×β×γ×δ→Prop} (h:∃y,S=T y∧I y∧M y):∃y,S=T y∧I y∧M y:=h
theorem c_ {m k a}:GL m k a []=some a:=rfl
theorem dA {k:IntKind} {a b:Int} {rest}:GL true k a (.d (.int k b) :: rest)=GL true k (max a b) rest:=by
 simp only [GL,if_true,aM];congr 1;omega
theorem VI {α:Type} (xs:List α) (a:Nat):(xs.drop a).take (xs.length - a)=xs.drop a:=List.take_of_length_le (by simp)
theorem XD {α:Type} (xs:List α):xs.take xs.length=xs:=List.take_length
theorem VK (n:Nat):n - 0=n:=rfl
def fx (a b:List D):Prop:=EQ a b=true
section
variable {E:CZ} {dst:Option Nat} {V:AN} {K:AV→Bb→Prop}
end
def f6 (E:CZ) (p:PC) (Q:Bl→Aw→Prop) (s:Aw):Prop:=∃e s',Q e s'∧∀Q':Bl→Aw→Prop,Q' e s'→pw E p Q' s
attribute [go_sem] db Z5 Z8 cr Xh co Z9 Xi Z6 cq Pv Sz VH Ou UJ SS Tn R4 YR YS ai YT Yc YV ak Tt YU aj Tr Ye dM YQ aB Xp YP ah eH dL V9 aA Z' XS Va XT S' Vb ck cm Vw TX ZK ed Yn fB d6 Zo cN cM Zm Zn Zp cO d5 cL Zq XE dN al dQ eI Yk WB Ym Yj Tu am WA dP Yi an Yl dR XA XB List.flatMap_cons List.flatMap_nil VR S8 VS XH UH aK PB Z4 Vi Vp aF RI Zl ab ac aa Xj Xk ZI ZJ Wl bU aU c9 Jp X8 TY Vx dK W6 Zg W5 bB TZ Ru Xt Xu TI eC Vq aI aH Xv Xx cz Xy Vr aR eA aD cw Y4 Wc Wb di bH dh bI bG dg eW cJ Zk Vy Ta cK bX ei dn eh eg X6 fP ec bS WC Tz WD T0 Wi UG cE Zh cF cC dW a6 da dV SB QY QZ WI QV Mx Qb Om T7 T6 dZ a8 T8 a9 Qa SE Yy QX T2 QW T3 T4 T5 R9 R_ SD SC Yz TM Rn WG a7 aw SA WE T1 Ol dY cZ cY dX Yw WH T_ UA WJ UB SF T9 ct cu bQ bK bL bN bO bP Vn WY WL WR WP WO WN WM WX WK Rm QI TK TL VI XD VK c_ dA UF Kx JU QN DZ YE V5 YC YD Th V4 W8 VE Ro H7 Xb Xc Ri eF eE Wh bF Wg YM V6 YH YI Ti aX YF Xd Vd ci cj Zv Zu Zt cT Zx Zw cR cU cX Zs Vo d0 d4 List.map_cons List.map_nil List.zipIdx_cons List.zipIdx_nil List.zip_cons_cons List.zip_nil_left List.length_cons List.length_nil List.getElem?_cons_zero List.getElem?_cons_succ List.drop_zero List.drop_succ_cons List.take_succ_cons List.take_zero List.take_nil List.drop_nil List.contains_cons List.contains_nil List.filter_cons List.filter_nil List.all_cons List.all_nil List.cons_append List.nil_append List.append_nil List.set_cons_zero List.set_cons_succ VL List.replicate_succ List.replicate_zero List.isEmpty_cons List.isEmpty_nil List.length_map id_eq Nat.lt_irrefl Nat.zero_add Nat.add_zero Nat.zero_mul Nat.one_mul Nat.mul_one if_true if_false Bool.false_eq_true Bool.not_true Bool.not_false Bool.true_or Bool.false_or Bool.or_true Bool.or_false Bool.true_and Bool.false_and Bool.and_true Bool.and_false beq_self_eq_true Bool.and_self Bool.or_self true_and and_true false_and and_false ite_self exists_prop_of_true exists_prop not_false_eq_true not_true_eq_false forall_const eq_self and_self true_implies false_implies implies_true ne_eq List.cons_ne_nil Nat.le_refl Nat.not_lt_zero XP VZ XN VX VY S_ VV S9 Int.toNat_natCast Int.toNat_zero ZB dC
attribute [go_sem_proc] Nat.reduceAdd Nat.reduceSub Nat.reduceMul Nat.reduceEqDiff Nat.reduceBEq Nat.reduceLeDiff Nat.reduceLT Int.reduceToNat Int.reduceLE Int.reduceLT Int.reduceNeg reduceIte reduceCtorEq Int.reduceEq Int.reduceAdd Int.reduceSub Int.reduceMul
end Go.Pw
