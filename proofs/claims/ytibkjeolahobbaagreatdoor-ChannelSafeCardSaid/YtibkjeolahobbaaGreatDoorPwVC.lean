/- A part of the proof. -/
import Derived.Test.YtibkjeolahobbaaGreatDoorPkZa
import Derived.IntWalk
set_option linter.all false
namespace Go.Pw
set_option linter.unusedSimpArgs false
set_option linter.unusedVariables false
def Jd:Nat:=0
theorem kj:Jd=0:=Eq.symm (Eq.symm rfl)
def KV (v:AV) (b:Bool) (A B:Prop):Prop :=
 match v with
 |.d (.bool b')=>HA (b == b') A B
 |.tup []=>B
 |_=>False
def Wf (v:AV) (t:Nat) (sl:Nat→AV) (V:AN) (KS:BR→Prop):Prop :=
 match v with
 |.own o g=>Hg (V.get o g) fun _ _ nl l=>KS ⟨B9 sl t (.d (.list nl l)),V.drop o⟩
 |_=>KS ⟨sl,V⟩
def ZF (v:AV) (t:Nat) (sl:Nat→AV) (V:AN) (KS:BR→Prop):Prop :=
 match v with
 |.ptr o g 0=>Ge (V.get o g) fun xs=>BO (A7 AV.toD1 xs) fun cs=>cs≠[]∧KS ⟨B9 sl t (.d (.ptr cs)),V.drop o⟩
 |_=>KS ⟨sl,V⟩
def mX (y:Option Aa) (o g:Nat) (sl:Nat→AV) (V:AN) (KS:BR→Prop):Prop :=
 match y with
 |some (.rowH ety l i q p)=>Hg (V.get q p) fun _ _ nl xs=>KS ⟨sl,(V.drop q).app (.keep o g (.row ety 1 false (l.set i (.list nl xs))))⟩
 |_=>KS ⟨sl,V⟩
def nU (v:AV) (sl:Nat→AV) (V:AN) (KS:BR→Prop):Prop :=
 match v with
 |.own o g=>mX (V.get o g) o g sl V KS
 |_=>KS ⟨sl,V⟩
def cx (v:AV) (t:Nat) (sl:Nat→AV) (V:AN) (KS:BR→Prop):Prop :=
 match v with
 |.mref .out o g=>Et (V.get o g) fun _ _ nl ix rows=>KS ⟨B9 sl t (.d (.list nl (Jt ix rows))),V.drop o⟩
 |_=>KS ⟨sl,V⟩
def dA (x:Option Aa) (t o:Nat) (sl:Nat→AV) (V:AN) (KS:BR→Prop):Prop :=
 match x with
 |some (.cells (c :: l))=>KS ⟨B9 sl t (.ablk false (c :: l) 0),V.drop o⟩
 |_=>False
def c_ (v:AV) (t:Nat) (sl:Nat→AV) (V:AN) (KS:BR→Prop):Prop :=
 match v with
 |.ptr o g 0=>dA (V.get o g) t o sl V KS
 |_=>KS ⟨sl,V⟩
def Uk (x:Option AV) (b g k:Nat) (xs:List AV) (sl:Nat→AV) (V:AN) (KS:BR→Prop):Prop :=
 match x with
 |some (.own o p)=>Hg (V.get o p) fun _ _ nl l=>KS ⟨sl,(V.drop o).app (.keep b g (.cells (xs.set k (.d (.list nl l)))))⟩
 |_=>KS ⟨sl,V⟩
def ZG (v:AV) (off:Nat) (sl:Nat→AV) (V:AN) (KS:BR→Prop):Prop :=
 match v with
 |.ptr b g f=>(match V.get b g with
  |some (.cells xs)=>Uk xs[f+off]? b g (f+off) xs sl V KS
  |_=>KS ⟨sl,V⟩)
 |_=>KS ⟨sl,V⟩
def cz (y:Option Aa) (b g k:Nat) (sl:Nat→AV) (V:AN) (KS:BR→Prop):Prop :=
 match y with
 |some (.cells xs)=>Uk xs[k]? b g k xs sl V KS
 |_=>KS ⟨sl,V⟩
def be (v:AV) (t o e1 e2:Nat) (sl:Nat→AV) (V:AN) (KS:BR→Prop):Prop :=
 match v with
 |.d (.list true [])=>o < EF∧KS ⟨B9 sl t (.mref .out o (V.cn o)),V.app (.fresh o (.mat e1 e2 true [] []))⟩
 |_=>KS ⟨sl,V⟩
def bc (v:AV) (t o ety es:Nat) (sl:Nat→AV) (V:AN) (KS:BR→Prop):Prop :=
 match v with
 |.d (.list true [])=>o < EF∧KS ⟨B9 sl t (.own o (V.cn o)),V.app (.fresh o (.row ety es true []))⟩
 |_=>KS ⟨sl,V⟩
def mU (x:Option AV) (b g k o ety es:Nat) (xs:List AV) (sl:Nat→AV) (V:AN) (KS:BR→Prop):Prop :=
 match x with
 |some (.d (.list true []))=>o < EF∧o≠b∧KS ⟨sl,(V.app (.fresh o (.row ety es true []))).app (.keep b g (.cells (xs.set k (.own o (V.cn o)))))⟩
 |_=>KS ⟨sl,V⟩
def mV (y:Option Aa) (b g k o ety es:Nat) (sl:Nat→AV) (V:AN) (KS:BR→Prop):Prop :=
 match y with
 |some (.cells xs)=>mU xs[k]? b g k o ety es xs sl V KS
 |_=>KS ⟨sl,V⟩
def nM (v:AV) (off o ety es:Nat) (sl:Nat→AV) (V:AN) (KS:BR→Prop):Prop :=
 match v with
 |.ptr b g f=>mV (V.get b g) b g (f+off) o ety es sl V KS
 |_=>KS ⟨sl,V⟩
section
variable {E:Ci} {Q:Bv→BR→Prop} {s s':BR} {K:AV→Bt→Prop} {KS:BR→Prop}
theorem Bh {z:Nat} {p:PC} (hz:Jd=z) (h:s=s'):pw E p Q s=pw E p Q s':=by rw [h]
theorem A_ {z:Nat} {l:List GM} (hz:Jd=z) (h:s=s'):J8 E l s KS=J8 E l s' KS:=by rw [h]
theorem Ap {z:Nat} {I:GM} (hz:Jd=z) (h:s=s'):EC E I s K=EC E I s' K:=by rw [h]
theorem Bi {z:Nat} {dst:Option Nat} {op:B0} {V V':AN} {xs xs':List AV} (hz:Jd=z) (hV:V=V') (h:xs=xs'):ev E dst V op xs K=ev E dst V' op xs' K:=by rw [h,hV]
theorem Av {z:Nat} {b:BinOp} {k k' k1 k2:IntKind} {x y x' y':Int} {C:AV→Prop} (hz:Jd=z) (h1:k=k1) (h2:k'=k2) (hx:x=x') (hy:y=y'):C6 b k k' x y C=C6 b k1 k2 x' y' C:=by rw [h1,h2,hx,hy]
theorem Ax {z:Nat} {c c':Bool} {A B:Prop} (hz:Jd=z) (h:c=c'):HA c A B=HA c' A B:=by rw [h]
theorem Aw {z:Nat} {v v':AV} {A B:Prop} (hz:Jd=z) (h:v=v'):QK v A B=QK v' A B:=by rw [h]
theorem Ao {z:Nat} {e e':Bv} {A:BR→Prop} (hz:Jd=z) (he:e=e') (h:s=s'):J2 A Q e s=J2 A Q e' s':=by rw [he,h]
theorem Ah {z:Nat} {i:Nat} {e e':Bv} (hz:Jd=z) (he:e=e') (h:s=s'):JH i Q e s=JH i Q e' s':=by rw [he,h]
theorem Ab {α:Type} {z:Nat} {x y:Option α} {A:α→Prop} (hz:Jd=z) (h:x=y):BO x A=BO y A:=by rw [h]
theorem AZ {z:Nat} {x y:Option Aa} {A} (hz:Jd=z) (h:x=y):Ge x A=Ge y A:=by rw [h]
theorem Ar {z:Nat} {x y:Option Aa} {A} (hz:Jd=z) (h:x=y):Hg x A=Hg y A:=by rw [h]
theorem Af {z:Nat} {gs:List EU} (hz:Jd=z) (h:s=s'):CK gs s KS=CK gs s' KS:=by rw [h]
theorem Au {z:Nat} {g:EU} (hz:Jd=z) (h:s=s'):Eu g s KS=Eu g s' KS:=by rw [h]
theorem Ag {z:Nat} {dst:Option Nat} {V V':AN} {f:FuncId} {xs xs':List AV} (hz:Jd=z) (hV:V=V') (h:xs=xs'):Dn E dst V f xs K=Dn E dst V' f xs' K:=by rw [h,hV]
theorem BD {z:Nat} {α:Type} {ag:Bool} {n n':Nat} {cs cs':List α} {off off':Nat} {mk:List α→AV} {one:α→AV} {C:AV→Prop} (hz:Jd=z) (hn:n=n') (h:cs=cs') (ho:off=off'):Br ag n cs off mk one C=Br ag n' cs' off' mk one C:=by rw [hn,h,ho]
theorem BQ {z:Nat} {lo hi:Bool} {n n':Nat} {xs xs':List AV} {C:Nat→Nat→Prop} (hz:Jd=z) (hn:n=n') (h:xs=xs'):Lv lo hi n xs C=Lv lo hi n' xs' C:=by rw [hn,h]
theorem Ae {z:Nat} {v v':AV} {b:Bool} {A B:Prop} (hz:Jd=z) (h:v=v'):KV v b A B=KV v' b A B:=by rw [h]
theorem BG {z:Nat} {v v':AV} {t:Nat} {sl:Nat→AV} {V:AN} (hz:Jd=z) (h:v=v'):Wf v t sl V KS=Wf v' t sl V KS:=by rw [h]
theorem BE {z:Nat} {v v':AV} {t o ety es:Nat} {sl:Nat→AV} {V:AN} (hz:Jd=z) (h:v=v'):bc v t o ety es sl V KS=bc v' t o ety es sl V KS:=by rw [h]
theorem BB {z:Nat} {rs:List RT} {K:List AV→Prop} (hz:Jd=z) (h:s=s'):HN E s rs K=HN E s' rs K:=by rw [h]
theorem BC {z:Nat} {r:RT} {K:AV→Prop} (hz:Jd=z) (h:s=s'):V7 E s r K=V7 E s' r K:=by rw [h]
theorem A9 {z:Nat} {y y':AV} {xs xs':List AV} {V V':AN} (hz:Jd=z) (h1:y=y') (h2:xs=xs') (h3:V=V'):Qp y xs V K=Qp y' xs' V' K:=by rw [h1,h2,h3]
theorem BA {z:Nat} {α:Type} {T:α→AN} {Inv PInv m gs ks os sl e e'} (hz:Jd=z) (he:e=e') (h:s=s'):Yj T Inv PInv m gs ks os sl e s=Yj T Inv PInv m gs ks os sl e' s':=by rw [he,h]
theorem Aq {z:Nat} {A:BR→Prop} {e e'} (hz:Jd=z) (he:e=e') (h:s=s'):OS A e s=OS A e' s':=by rw [he,h]
theorem Ad {z:Nat} {x y:Option Aa} {A} (hz:Jd=z) (h:x=y):Pq x A=Pq y A:=by rw [h]
theorem AS {b:Bool} {A B:Prop} (h1:b=true→A) (h2:b=false→B):HA b A B:=⟨h1,h2⟩
theorem et {d t b op xs} {sl:Nat→AV} {V:AN}:EC E ⟨d,some (t,b),op,xs⟩ ⟨sl,V⟩ K=KV (sl t) b (ev E d V op (xs.map (Kq.val sl)) K) (K (.tup []) .none):=rfl
theorem gh {b:Bool} {A B:Prop}:KV (.d (.bool b)) true A B=HA b A B:=by simp [KV]
theorem gi {b:Bool} {A B:Prop}:KV (.d (.bool b)) false A B=HA b B A:=by cases b<;>simp [KV]
theorem gf {b:Bool} {A B:Prop}:KV (.tup []) b A B=B:=rfl
theorem co {t:Nat} {sl:Nat→AV} {V:AN}:Eu (.freeze t) ⟨sl,V⟩ KS=Wf (sl t) t sl V KS:=by
 simp only [Eu,Wf]
 cases sl t with
 |own o g=>simp only;cases V.get o g with
  |none=>rfl
  |some x=>cases x<;>rfl
 |_=>rfl
theorem gl {t o g:Nat} {sl:Nat→AV} {V:AN}:Wf (.own o g) t sl V KS=Hg (V.get o g) fun _ _ nl l=>KS ⟨B9 sl t (.d (.list nl l)),V.drop o⟩:=rfl
theorem ld {t:Nat} {x:D} {sl:Nat→AV} {V:AN}:Wf (.d x) t sl V KS=KS ⟨sl,V⟩:=rfl
theorem ZE {t:Nat} {sl:Nat→AV} {V:AN}:Wf .undef t sl V KS=KS ⟨sl,V⟩:=rfl
theorem cq {t:Nat} {sl:Nat→AV} {V:AN}:Eu (.frzP t) ⟨sl,V⟩ KS=ZF (sl t) t sl V KS:=by
 simp only [Eu,ZF]
 cases sl t with
 |ptr o g f =>
  cases f with
  |zero =>
   simp only;cases V.get o g with
   |none=>rfl
   |some x =>
    cases x with
    |cells xs =>
     simp only [Ge]
     cases A7 AV.toD1 xs with
     |none=>rfl
     |some l=>cases l<;>simp [BO]
    |_=>rfl
  |succ n=>rfl
 |_=>rfl
theorem gm {t o g:Nat} {sl:Nat→AV} {V:AN}:ZF (.ptr o g 0) t sl V KS=Ge (V.get o g) fun xs=>BO (A7 AV.toD1 xs) fun cs=>cs≠[]∧KS ⟨B9 sl t (.d (.ptr cs)),V.drop o⟩:=rfl
theorem le {t:Nat} {x:D} {sl:Nat→AV} {V:AN}:ZF (.d x) t sl V KS=KS ⟨sl,V⟩:=rfl
theorem BH {z:Nat} {v v':AV} {t:Nat} {sl:Nat→AV} {V:AN} (hz:Jd=z) (h:v=v'):ZF v t sl V KS=ZF v' t sl V KS:=by rw [h]
theorem Ac {z:Nat} {x y:Option Aa} {A B} (hz:Jd=z) (h:x=y):Ly x A B=Ly y A B:=by rw [h]
theorem cj {t o ety es:Nat} {sl:Nat→AV} {V:AN}:Eu (.own t o ety es) ⟨sl,V⟩ KS=bc (sl t) t o ety es sl V KS:=rfl
theorem cr {t:Nat} {sl:Nat→AV} {V:AN}:Eu (.frzM t) ⟨sl,V⟩ KS=cx (sl t) t sl V KS:=by
 simp only [Eu,cx]
 cases sl t with
 |mref k o g =>
  cases k with
  |out=>simp only;cases V.get o g with
   |none=>rfl
   |some x=>cases x<;>rfl
  |_=>rfl
 |_=>rfl
theorem cw {t o g:Nat} {sl:Nat→AV} {V:AN}:cx (.mref .out o g) t sl V KS=Et (V.get o g) fun _ _ nl ix rows=>KS ⟨B9 sl t (.d (.list nl (Jt ix rows))),V.drop o⟩:=rfl
theorem BI {z:Nat} {v v':AV} {t:Nat} {sl:Nat→AV} {V:AN} (hz:Jd=z) (h:v=v'):cx v t sl V KS=cx v' t sl V KS:=by rw [h]
theorem cu {t:Nat} {sl:Nat→AV} {V:AN}:Eu (.frzA t) ⟨sl,V⟩ KS=c_ (sl t) t sl V KS:=by
 simp only [Eu,c_]
 cases sl t with
 |ptr o g f =>
  cases f with
  |zero=>rfl
  |succ n=>rfl
 |_=>rfl
theorem go {t o g:Nat} {sl:Nat→AV} {V:AN}:c_ (.ptr o g 0) t sl V KS=dA (V.get o g) t o sl V KS:=rfl
theorem Wh {t o:Nat} {c:AV} {l:List AV} {sl:Nat→AV} {V:AN}:dA (some (.cells (c :: l))) t o sl V KS=KS ⟨B9 sl t (.ablk false (c :: l) 0),V.drop o⟩:=rfl
theorem BM {z:Nat} {v v':AV} {t:Nat} {sl:Nat→AV} {V:AN} (hz:Jd=z) (h:v=v'):c_ v t sl V KS=c_ v' t sl V KS:=by rw [h]
theorem BN {z:Nat} {y y':Option Aa} {t o:Nat} {sl:Nat→AV} {V:AN} (hz:Jd=z) (h:y=y'):dA y t o sl V KS=dA y' t o sl V KS:=by rw [h]
theorem ct {t off:Nat} {sl:Nat→AV} {V:AN}:Eu (.frzC t off) ⟨sl,V⟩ KS=ZG (sl t) off sl V KS:=by
 simp only [Eu,ZG]
 cases sl t with
 |ptr b g f =>
  simp only
  cases V.get b g with
  |none=>rfl
  |some x =>
   cases x with
   |cells xs =>
    simp only [Uk]
    cases xs[f+off]? with
    |none=>rfl
    |some y =>
     cases y with
     |own o p=>simp only;cases V.get o p with
      |none=>rfl
      |some z=>cases z<;>rfl
     |_=>rfl
   |_=>rfl
 |_=>rfl
theorem gn {b g f off:Nat} {sl:Nat→AV} {V:AN}:ZG (.ptr b g f) off sl V KS=cz (V.get b g) b g (f+off) sl V KS:=by
 simp only [ZG,cz]
theorem Wg {b g k:Nat} {xs:List AV} {sl:Nat→AV} {V:AN}:cz (some (.cells xs)) b g k sl V KS=Uk xs[k]? b g k xs sl V KS:=rfl
theorem cy {b g k o p:Nat} {xs:List AV} {sl:Nat→AV} {V:AN}:Uk (some (.own o p)) b g k xs sl V KS=Hg (V.get o p) fun _ _ nl l=>KS ⟨sl,(V.drop o).app (.keep b g (.cells (xs.set k (.d (.list nl l)))))⟩:=rfl
theorem kV {b g k:Nat} {x:D} {xs:List AV} {sl:Nat→AV} {V:AN}:Uk (some (.d x)) b g k xs sl V KS=KS ⟨sl,V⟩:=rfl
theorem BK {z:Nat} {v v':AV} {off:Nat} {sl:Nat→AV} {V:AN} (hz:Jd=z) (h:v=v'):ZG v off sl V KS=ZG v' off sl V KS:=by rw [h]
theorem BL {z:Nat} {y y':Option Aa} {b g k k':Nat} {sl:Nat→AV} {V:AN} (hz:Jd=z) (h:y=y') (hk:k=k'):cz y b g k sl V KS=cz y' b g k' sl V KS:=by rw [h,hk]
theorem BJ {z:Nat} {y y':Option AV} {b g k:Nat} {xs:List AV} {sl:Nat→AV} {V:AN} (hz:Jd=z) (h:y=y'):Uk y b g k xs sl V KS=Uk y' b g k xs sl V KS:=by rw [h]
theorem cm {t o e1 e2:Nat} {sl:Nat→AV} {V:AN}:Eu (.ownM t o e1 e2) ⟨sl,V⟩ KS=be (sl t) t o e1 e2 sl V KS:=rfl
theorem fv {t o e1 e2:Nat} {sl:Nat→AV} {V:AN}:be (.d (.list true [])) t o e1 e2 sl V KS=(o < EF∧KS ⟨B9 sl t (.mref .out o (V.cn o)),V.app (.fresh o (.mat e1 e2 true [] []))⟩):=rfl
theorem bd {t o e1 e2:Nat} {k o' g} {sl:Nat→AV} {V:AN}:be (.mref k o' g) t o e1 e2 sl V KS=KS ⟨sl,V⟩:=rfl
theorem BF {z:Nat} {v v':AV} {t o e1 e2:Nat} {sl:Nat→AV} {V:AN} (hz:Jd=z) (h:v=v'):be v t o e1 e2 sl V KS=be v' t o e1 e2 sl V KS:=by rw [h]
theorem As {z:Nat} {x y:Option Aa} {A} (hz:Jd=z) (h:x=y):Et x A=Et y A:=by rw [h]
theorem fu {t o ety es:Nat} {sl:Nat→AV} {V:AN}:bc (.d (.list true [])) t o ety es sl V KS=(o < EF∧KS ⟨B9 sl t (.own o (V.cn o)),V.app (.fresh o (.row ety es true []))⟩):=rfl
theorem ft {t o ety es o' g:Nat} {sl:Nat→AV} {V:AN}:bc (.own o' g) t o ety es sl V KS=KS ⟨sl,V⟩:=rfl
end
theorem ej {α:Type} (f:Nat→α) (i:Nat) (x:α) (j:Nat):B9 f i x j=if j=i then x else f j:=rfl
theorem aR (f:Nat→Nat) (i x y:Nat):B9 (B9 f i x) i y=B9 f i y:=by funext j;simp only [B9];split<;>rfl
theorem lN {x:D}:(AV.d x).one=x.one:=rfl
theorem fx {o g}:(AV.own o g).one=true:=rfl
theorem j8 {f c}:(AV.fn f c).one=true:=rfl
theorem df {k n}:(D.int k n).one=true:=rfl
theorem Zq {b}:(D.bool b).one=true:=rfl
theorem Zp {n l}:(D.list n l).one=true:=rfl
theorem de {l}:(D.ptr l).one=true:=rfl
theorem kq {c}:(AV.agg c).cells?=some c:=rfl
theorem iH {c}:(AV.d (.agg c)).cells?=some (c.map .d):=rfl
theorem kp {k n}:(AV.d (.int k n)).cells?=some [.d (.int k n)]:=rfl
theorem iI {b}:(AV.d (.bool b)).cells?=some [.d (.bool b)]:=rfl
theorem iE {n l}:(AV.d (.list n l)).cells?=some [.d (.list n l)]:=rfl
theorem iG {l}:(AV.d (.ptr l)).cells?=some [.d (.ptr l)]:=rfl
theorem ko {o g}:(AV.own o g).cells?=some [.own o g]:=rfl
theorem lu {l}:(AV.ex l).cells?=some [.ex l]:=rfl
theorem lq {f c}:(AV.fn f c).cells?=some [.fn f c]:=rfl
theorem jU {k n}:AV.toD1 (.d (.int k n))=some (.int k n):=rfl
theorem eq {n l}:AV.toD1 (.d (.list n l))=some (.list n l):=rfl
theorem lE {l}:AV.toD1 (.ex l)=some (.list false l):=rfl
theorem Y9 {α β:Type} {f:α→Option β}:A7 f []=some []:=rfl
theorem WR {α β:Type} {f:α→Option β} {x:α} {xs:List α}:A7 f (x :: xs)=match f x with
 |none=>none
 |some y=>match A7 f xs with|none=>none|some ys=>some (y :: ys):=rfl
theorem jV {cs}:AV.toD1 (.agg cs)=match A7 AV.toD0 cs with|some l=>some (.agg l)|none=>none:=rfl
theorem ib {V:AN} {n l}:(AV.d (.list n l)).asList V=some (n,l):=rfl
theorem mA {V:AN} {l}:(AV.ex l).asList V=some (false,l):=rfl
theorem ku {V:AN} {o g}:(AV.own o g).asList V=match V.get o g with|some (.row _ _ nil xs)=>some (nil,xs)|_=>none:=rfl
theorem l_ {V:AN} {o g}:(AV.mref .out o g).asList V=match V.get o g with|some (.mat _ _ nil ix rows)=>some (nil,Jt ix rows)|_=>none:=rfl
theorem b9 {ix rows}:(Jt ix rows).length=ix.length:=by simp [Jt]
theorem mf {V:AN} {x}:Dp V none (.d x)=match (AV.d x).asList V with|some (_,ys)=>some ys|none=>none:=rfl
theorem ly {V:AN} {x}:Dp V none (.ex x)=match (AV.ex x).asList V with|some (_,ys)=>some ys|none=>none:=rfl
theorem iW {V:AN} {z n}:Dp V (some z) (.d (.int .i64 n))=if 0≤n∧n≤(Cm:Int) then some (List.replicate n.toNat z) else none:=rfl
theorem ZM {es xs}:Fm es xs []=some xs:=rfl
theorem Wn {es xs i v rest}:Fm es xs ((i,v) :: rest)=match v.toD1 with
 |none=>none
 |some x=>if x.cells.length=es∧i < xs.length then Fm es (xs.set i x) rest else none:=rfl
theorem ZN {cs}:Le cs []=some cs:=rfl
theorem Wo {cs off size v rest}:Le cs (((off,size),v) :: rest)=match v.cells? with
 |none=>none
 |some vs=>if vs.length=size∧off+size≤cs.length then Le (BX cs off vs) rest else none:=rfl
theorem Z1 {k n}:(D.int k n).cells=[.int k n]:=rfl
theorem XD {n l}:(D.list n l).cells=[.list n l]:=rfl
theorem jS {k n}:up (.int k n)=.d (.int k n):=rfl
theorem en {b}:up (.bool b)=.d (.bool b):=rfl
theorem em {n l}:up (.list n l)=.d (.list n l):=rfl
theorem jT {l}:up (.agg l)=.d (.agg l):=rfl
theorem jR {l}:up (.tup l)=.tup (l.map .d):=rfl
theorem lD {f l}:up (.fn f l)=.d (.fn f l):=rfl
theorem YS:Bt.site .none=[]:=rfl
theorem ao {a b}:Bt.site (.seq a b)=a.site++b.site:=rfl
theorem Vu {o x}:Bt.site (.fresh o x)=[o]:=rfl
theorem YT {o g x}:Bt.site (.keep o g x)=[o]:=rfl
def Ai (xs:List Int):List D:=xs.map (D.int .i64)
@[simp] theorem lY:Ai []=[]:=rfl
theorem Sl (xs:List Int):(Ai xs=[])=(xs=[]):=by cases xs<;>simp [Ai]
theorem Bx (xs:List Int):(Ai xs).length=xs.length:=by simp [Ai]
theorem ZB (xs:List Int) (n:Nat):(Ai xs).drop n=Ai (xs.drop n):=by simp [Ai]
theorem Y' (xs:List Int) (n:Nat):(Ai xs).take n=Ai (xs.take n):=by simp [Ai]
theorem cV (xs ys:List Int):Ai xs++Ai ys=Ai (xs++ys):=by simp [Ai]
theorem ZA (xs:List Int) (y:Int):Ai xs++[.int .i64 y]=Ai (xs++[y]):=by simp [Ai]
theorem cT (xs:List Int) (i:Nat) (y:Int):(Ai xs).set i (.int .i64 y)=Ai (xs.set i y):=by simp [Ai,List.map_set]
theorem cU (n:Nat) (y:Int):List.replicate n (D.int .i64 y)=Ai (List.replicate n y):=by simp [Ai]
theorem WV (xs:List Int):(Ai xs).isEmpty=xs.isEmpty:=by cases xs<;>rfl
theorem Y_ (xs:List Int):Cl 1 (Ai xs)=True:=by
 simp only [Cl,Ai,eq_iff_iff,iff_true];intro x hx;simp at hx;obtain⟨n,_,rfl⟩:=hx;rfl
theorem aV {es:Nat}:Cl es []=True:=by simp [Cl]
theorem YA {es:Nat} {x:D} {l:List D}:Cl es (x :: l)=(x.cells.length=es∧Cl es l):=by simp [Cl]
theorem aW {α:Type} {es:Nat} {f:α→D} {l:List α} (h:∀x,(f x).cells.length=es):Cl es (l.map f)=True:=by
 simp only [Cl,eq_iff_iff,iff_true];intro x hx;simp at hx;obtain⟨y,_,rfl⟩:=hx;exact h y
theorem UO {xs:List Int} {i:Nat} {A:D→Prop}:BO (Ai xs)[i]? A=(i < xs.length∧A (.int .i64 (xs[i]?.getD 0))):=by
 unfold Ai
 rw [List.getElem?_map]
 by_cases h:i < xs.length
 ·simp [h,BO]
 ·have:xs[i]?=none:=List.getElem?_eq_none (by omega)
  simp [this,h,BO]
theorem I6 {α:Type} [Inhabited α] {f:α→D} {xs:List α} {i:Nat} {A:D→Prop}:BO (xs.map f)[i]? A=(i < xs.length∧A (f (xs[i]?.getD default))):=by
 rw [List.getElem?_map]
 by_cases h:i < xs.length
 ·simp [h,BO]
 ·have:xs[i]?=none:=List.getElem?_eq_none (by omega)
  simp [this,h,BO]
theorem UN {xs:List Nat} {i:Nat} {A:Nat→Prop}:BO xs[i]? A=(i < xs.length∧A (xs[i]?.getD 0)):=by
 by_cases h:i < xs.length
 ·simp [h,BO]
 ·have:xs[i]?=none:=List.getElem?_eq_none (by omega)
  simp [this,h,BO]
def mw {α:Type} (f:α→D) (M:List (List α)):List (Bool×List D):=M.map fun r=>(false,r.map f)
section
variable {E:Ci} {dst:Option Nat} {V:AN} {K:AV→Bt→Prop} {f:FuncId} {xs:List AV}
theorem AE {ds:List D} {r:D} (h:CF E f ds r) (ha:Fx xs=some ds) (hk:K (up r) .none):Dn E dst V f xs K:=.inl ⟨ds,r,ha,h,hk⟩
theorem AG {ds:List D} {r:D} (h:CF E f ds r) (ha:VJ V xs=some ds) (hf:r.flat=true) (hk:K (up r) .none):Dn E dst V f xs K:=.inr (.inl ⟨ds,r,ha,h,hf,hk⟩)
end
section
variable {E:Ci} {Q:Bv→BR→Prop} {s:BR}
def a9 (l:List (Nat×AV)) (k:Nat) (v:AV):List (Nat×AV):=l.map fun p=>if p.1=k then (k,v) else p
def a7 (l:List (Nat×(Nat×Aa))) (k:Nat) (x:Aa):List (Nat×(Nat×Aa)):=l.map fun p=>if p.1=k then (k,(0,x)) else p
def OM (l:List (Nat×AV)):List (Nat×AV)→List (Nat×AV)
 |[]=>l
 |(k,v) :: r=>a9 (OM l r) k v
def OL (l:List (Nat×(Nat×Aa))):List (Nat×Aa)→List (Nat×(Nat×Aa))
 |[]=>l
 |(k,v) :: r=>a7 (OL l r) k v
theorem a8 {k:Nat} {v:AV}:a9 [] k v=[]:=rfl
theorem Yb {a k:Nat} {b v:AV} {l}:a9 ((a,b) :: l) k v=(if a=k then (k,v) else (a,b)) :: a9 l k v:=rfl
theorem a6 {k:Nat} {v:Aa}:a7 [] k v=[]:=rfl
theorem YZ {a k:Nat} {b:Nat×Aa} {v:Aa} {l}:a7 ((a,b) :: l) k v=(if a=k then (k,(0,v)) else (a,b)) :: a7 l k v:=rfl
theorem Ya {l}:OM l []=l:=rfl
theorem Vy {l k v r}:OM l ((k,v) :: r)=a9 (OM l r) k v:=rfl
theorem YX {l}:OL l []=l:=rfl
theorem Vx {l k v r}:OL l ((k,v) :: r)=a7 (OL l r) k v:=rfl
theorem lB {f:Nat→AV} {n:Nat}:Kq.val f (.t n)=f n:=rfl
theorem lC {f:Nat→AV} {v:AV}:Kq.val f (.k v)=v:=rfl
theorem YL {α:Type} (cs:List α) (off:Nat) (vs:List α):BX cs off vs=cs.take off++vs++cs.drop (off+vs.length):=rfl
theorem AY {α:Type} (up:α→List (Nat×AV)) (uo:α→List (Nat×Aa)) (Inv:α→Prop) (μ:α→Nat) (x0:α) {gs:List EU} {ks os:List Nat} {a:PC}
  {l0:List (Nat×AV)} {m0:List (Nat×(Nat×Aa))} (h0:CK gs s fun s1=>s1.nrm ks os=⟨Eg l0,⟨BS m0,fun _=>1⟩⟩)
  (he:OM l0 (up x0)=l0) (he':OL m0 (uo x0)=m0) (hI:Inv x0)
  (step:∀x,Inv x→pw E a (J2 (fun s'=>CK gs s' fun s1=>∃y,s1.nrm ks os=⟨Eg (OM l0 (up y)),⟨BS (OL m0 (uo y)),fun _=>1⟩⟩∧Inv y∧μ y < μ x) Q) ⟨Eg (OM l0 (up x)),⟨BS (OL m0 (uo x)),fun _=>1⟩⟩) :
  pw E (.loop gs ks os a) Q s :=
 bV (fun x=>⟨Eg (OM l0 (up x)),⟨BS (OL m0 (uo x)),fun _=>1⟩⟩) Inv μ x0 (by rw [he,he'];exact h0) hI step
end
theorem AC (n:Int) (h:-9223372036854775808≤n∧n≤9223372036854775807):IntKind.i64.wrap n=n:=Go.IntWalk.i64_in n h
theorem bM {E:Ci} {rs r s}:lJ E rs r .ret s=HN E s rs (OK s.V r):=rfl
theorem bO {E:Ci} {s K}:HN E s [] K=K []:=rfl
theorem Yk {E:Ci} {s r l K}:HN E s (r :: l) K=V7 E s r fun v=>HN E s l fun vs=>K (v :: vs):=rfl
theorem jr {E:Ci} {s n K}:V7 E s (.t n) K=K (s.sl n):=rfl
theorem jt {E:Ci} {s a ty ag n K}:V7 E s (.c a ty ag n) K=ev E none s.V (.load ag n) [s.sl a] fun v _=>K v:=rfl
theorem fH {V r v}:OK V r [v]=(v.snap V=some r):=rfl
theorem fG {V r v u}:OK V r [v,u]=((A7 (AV.snap V) [v,u]).map .tup=some r):=rfl
theorem fF {V r v u t}:OK V r [v,u,t]=((A7 (AV.snap V) [v,u,t]).map .tup=some r):=rfl
theorem jf {V k n}:AV.snap V (.d (.int k n))=some (.int k n):=rfl
theorem fJ {V b}:AV.snap V (.d (.bool b))=some (.bool b):=rfl
theorem fI {V n l}:AV.snap V (.d (.list n l))=some (.list n l):=rfl
theorem YR {V}:AV.snap V (.d .nilptr)=some .nilptr:=rfl
theorem je {V o g}:AV.snap V (.own o g)=match V.get o g with|some (.row _ _ nil xs)=>some (.list nil xs)|_=>none:=rfl
theorem jg {V cs}:AV.snap V (.agg cs)=match A7 (AV.snap0 V) cs with|some l=>some (.agg l)|none=>none:=rfl
theorem jj {V k n}:AV.snap0 V (.d (.int k n))=some (.int k n):=rfl
theorem fR {V n l}:AV.snap0 V (.d (.list n l))=some (.list n l):=rfl
theorem lI {V l}:AV.snap0 V (.ex l)=some (.list false l):=rfl
theorem fE {α:Type} {a b:α}:(some a=some b)=(a=b):=by simp
theorem Yz {α β:Type} {f:α→β} {a:α}:Option.map f (some a)=some (f a):=rfl
section
variable {k k':IntKind} {a b:Int} {C:AV→Prop}
theorem iU:C6 .eql k k' a b C=(k=k'∧(a=b→C (.d (.bool true)))∧(¬a=b→C (.d (.bool false)))):=by
 rw [Zl];by_cases h:a=b<;>simp [h]
theorem iO:C6 .neq k k' a b C=(k=k'∧(a=b→C (.d (.bool false)))∧(¬a=b→C (.d (.bool true)))):=by
 rw [Zf];by_cases h:a=b<;>simp [h]
theorem iP:C6 .lss k k' a b C=(k=k'∧(a < b→C (.d (.bool true)))∧(¬a < b→C (.d (.bool false)))):=by
 rw [Zh];by_cases h:a < b<;>simp [h]
theorem iR:C6 .leq k k' a b C=(k=k'∧(a≤b→C (.d (.bool true)))∧(¬a≤b→C (.d (.bool false)))):=by
 rw [Zi];by_cases h:a≤b<;>simp [h]
theorem iS:C6 .gtr k k' a b C=(k=k'∧(b < a→C (.d (.bool true)))∧(¬b < a→C (.d (.bool false)))):=by
 rw [Zj];by_cases h:b < a<;>simp [h]
theorem iT:C6 .geq k k' a b C=(k=k'∧(b≤a→C (.d (.bool true)))∧(¬b≤a→C (.d (.bool false)))):=by
 rw [Zk];by_cases h:b≤a<;>simp [h]
end
section
variable {E:Ci} {dst:Option Nat} {V:AN} {K:AV→Bt→Prop} {f:FuncId} {xs:List AV}
theorem AF {ds:List D} {b:Bool} (h:CF E f ds (.bool b)) (ha:Fx xs=some ds) (h1:b=true→K (.d (.bool true)) .none) (h2:b=false→K (.d (.bool false)) .none):Dn E dst V f xs K :=
 AE h ha (by cases b with|true=>exact h1 rfl|false=>exact h2 rfl)
theorem AB {ds:List D} {b:Bool} (h:CF E f ds (.bool b)) (ha:VJ V xs=some ds) (h1:b=true→K (.d (.bool true)) .none) (h2:b=false→K (.d (.bool false)) .none):Dn E dst V f xs K :=
 AG h ha rfl (by cases b with|true=>exact h1 rfl|false=>exact h2 rfl)
theorem Yx {α:Type} {p:Prop} [Decidable p] {x:α} {A:α→Prop}:BO (if p then some x else none) A=(p∧A x):=by
 by_cases h:p<;>simp [h,BO]
end
section
variable {E:Ci} {K:BR→Prop}
def KR (j:Nat):List (Nat×Qn)→Option Qn
 |[]=>none
 |(i,r) :: l=>if j=i then some r else KR j l
def Qa (x:Option Qn) (b:Qn):Bool:=match x with|some r=>Ko r b|none=>false
def Sa (need:List Nat) (i:Nat) (r:Qn) (rec:List (Nat×Qn)):List (Nat×Qn):=if need.contains i then (i,r) :: rec else rec
def Oh (E:Ci):Nat→List Nat→List (GM×List Nat)→List (Nat×Qn)→BR→(BR→Prop)→Prop
 |_,_,[],_,s,K=>K s
 |i,need,(I,dy) :: l,rec,s,K=>EC E I s fun v ch =>
  (dy.all fun j=>Qa (KR j rec) (ch.site,DL I s))=true ∧
  Oh E (i+1) need l (Sa need i (ch.site,DL I s) rec) (put s I.dst v ch) K
theorem XX {need:List Nat}:∀{l:List (GM×List Nat)} {rec:List Qn} {recE:List (Nat×Qn)} {s:BR},(∀j,j∈l.flatMap (·.2)→j∈need)→(∀j,j∈need→KR j recE=rec[j]?)→Qt E l rec s K=Oh E rec.length need l recE s K
 |[],_,_,_,_,_=>rfl
 |(I,dy) :: l,rec,recE,s,hn,hr=>by
  simp only [Qt,Oh]
  congr 1
  funext v ch
  have h1:(dy.all fun j=>match rec[j]? with|some r=>Ko r (ch.site,DL I s)|none=>false)=(dy.all fun j=>Qa (KR j recE) (ch.site,DL I s)):=by
   rw [Bool.eq_iff_iff,List.all_eq_true,List.all_eq_true]
   have:∀j,j∈dy→(match rec[j]? with|some r=>Ko r (ch.site,DL I s)|none=>false)=Qa (KR j recE) (ch.site,DL I s):=fun j hj=>by
    rw [hr j (hn j (by simp [hj]))];rfl
   exact⟨fun h j hj=>by rw [←this j hj];exact h j hj,fun h j hj=>by rw [this j hj];exact h j hj⟩
  refine congr (congrArg And (congrArg (fun b=>b=true) h1)) ?_
  have h2:=XX (need:=need) (l:=l) (rec:=rec++[(ch.site,DL I s)]) (recE:=Sa need rec.length (ch.site,DL I s) recE) (s:=put s I.dst v ch) (fun j hj=>hn j (by simp at hj ⊢;exact .inr hj)) fun j hj=>by
   unfold Sa
   by_cases h:need.contains rec.length=true
   ·rw [if_pos h]
    simp only [KR]
    by_cases hjl:j=rec.length
    ·subst hjl;simp
    ·rw [if_neg hjl,hr j hj]
     by_cases hlt:j < rec.length
     ·rw [List.getElem?_append_left hlt]
     ·rw [List.getElem?_eq_none (by omega),List.getElem?_eq_none (by simp;omega)]
   ·rw [if_neg h,hr j hj]
    have hne:j≠rec.length:=by rintro rfl;exact h (by simpa using hj)
    by_cases hlt:j < rec.length
    ·rw [List.getElem?_append_left hlt]
    ·rw [List.getElem?_eq_none (by omega),List.getElem?_eq_none (by simp;omega)]
  rw [h2];simp
theorem bW {Q:Bv→BR→Prop} {s:BR} {gs l ks}:pw E (.draw gs l ks) Q s=CK gs s fun s'=>Oh E 0 (l.flatMap (·.2)) l [] s' fun s'=>Q .normal (s'.keep ks):=by
 rw [fh]
 congr 1;funext s'
 exact XX (rec:=[]) (recE:=[]) (fun j hj=>hj) fun j hj=>by simp [KR]
theorem bA {i need r} {s:BR}:Oh E i need [] r s K=K s:=rfl
theorem V3 {i need I l r} {s:BR}:Oh E i need ((I,[]) :: l) r s K=EC E I s fun v ch=>Oh E (i+1) need l (Sa need i (ch.site,DL I s) r) (put s I.dst v ch) K:=by
 simp [Oh]
theorem Ye {i need I j dy l r} {s:BR}:Oh E i need ((I,j :: dy) :: l) r s K=EC E I s fun v ch =>
 ((j :: dy).all fun j=>Qa (KR j r) (ch.site,DL I s))=true∧Oh E (i+1) need l (Sa need i (ch.site,DL I s) r) (put s I.dst v ch) K:=rfl
theorem A' {z:Nat} {i i' need need' l} {r r':List (Nat×Qn)} {s s':BR} (hz:Jd=z) (hi:i=i') (hn:need=need') (hr:r=r') (h:s=s'):Oh E i need l r s K=Oh E i' need' l r' s' K:=by rw [h,hr,hi,hn]
theorem ju {need:List Nat} {i:Nat} {r:Qn} {rec:List (Nat×Qn)} (h:need.contains i=true):Sa need i r rec=(i,r) :: rec:=by simp only [Sa,h,if_true]
theorem jv {need:List Nat} {i:Nat} {r:Qn} {rec:List (Nat×Qn)} (h:need.contains i=false):Sa need i r rec=rec:=by simp only [Sa,h,Bool.false_eq_true,if_false]
theorem Y7 {j:Nat}:KR j []=none:=rfl
theorem WO {j i:Nat} {r:Qn} {l}:KR j ((i,r) :: l)=if j=i then some r else KR j l:=rfl
theorem d5 {r b:Qn}:Qa (some r) b=Ko r b:=rfl
theorem lz {a f b f'}:Ko (a,f) (b,f')=((a.all fun o=>!f'.contains o) && (b.all fun o=>!f.contains o)):=rfl
theorem dH {d g op xs} {sl:Nat→AV} {V:AN}:DL ⟨d,g,op,xs⟩ ⟨sl,V⟩=fp V d op (xs.map (Kq.val sl)):=rfl
theorem mN {x}:AV.sites (.d x)=[]:=by cases x<;>rfl
theorem lG {x}:AV.sites (.ex x)=[]:=rfl
theorem ey {x n}:AV.sites (.dptr x n)=[]:=rfl
theorem ja {o g}:AV.sites (.own o g)=[o]:=rfl
theorem jZ {o g f}:AV.sites (.ptr o g f)=[o]:=rfl
theorem eu {o g e i f}:AV.sites (.rptr o g e i f)=[o]:=rfl
theorem ew {k o g}:AV.sites (.mref k o g)=[o]:=rfl
theorem ez {s l f}:AV.sites (.ablk s l f)=AV.sites.sitesL l:=rfl
theorem jb {l}:AV.sites (.agg l)=AV.sites.sitesL l:=rfl
theorem lF {f l}:AV.sites (.fn f l)=AV.sites.sitesL l:=rfl
theorem jY {l}:AV.sites (.tup l)=AV.sites.sitesL l:=rfl
theorem e9:AV.sites.sitesL []=[]:=rfl
theorem aj {x l}:AV.sites.sitesL (x :: l)=x.sites++AV.sites.sitesL l:=rfl
section
variable {d:Option Nat} {xs:List AV} {V:AN}
theorem kW:fp V d .mov xs=[]:=rfl
theorem gq:fp V d .pick xs=[]:=rfl
theorem kY {b}:fp V d (.bin b) xs=[]:=rfl
theorem lf {b}:fp V d (.un b) xs=[]:=rfl
theorem gt {b}:fp V d (.conv b) xs=[]:=rfl
theorem dD:fp V d .nilck xs=[]:=rfl
theorem dF {a}:fp V d (.faddr a) xs=[]:=rfl
theorem ZJ {a b}:fp V d (.iaddrA a b) xs=[]:=rfl
theorem dE {a b c e}:fp V d (.mkrow a b c e) xs=[]:=rfl
theorem ZH {a}:fp V d (.minmax a) xs=[]:=rfl
theorem Wi {a}:fp V d (.extract a) xs=[]:=rfl
theorem gr {a b}:fp V d (.load a b) xs=AV.sites.sitesL xs:=rfl
theorem ZI {a}:fp V d (.iaddrS a) xs=AV.sites.sitesL xs:=rfl
theorem kX {a}:fp V d (.len a) xs=AV.sites.sitesL xs:=rfl
theorem dB {a}:fp V d (.store a) xs=d.toList++AV.sites.sitesL xs:=rfl
theorem gu {a}:fp V d (.call a) xs=B6 d V xs:=rfl
theorem dG:fp V d .callv xs=B6 d V xs:=rfl
theorem XE {t}:B6 (some t) V xs=Dj t++V.reach 3 (AV.sites.sitesL xs):=rfl
theorem gB {t}:Dj t=[t,t+10000,t+20000,t+30000]:=rfl
theorem Rb:∀{n:Nat},V.reach n []=[]
 |0=>rfl
 |n+1=>by simp only [AN.reach,List.flatMap_nil,Rb,List.append_nil]
theorem fY {o l}:V.reach 3 (o :: l)=(o :: l)++V.reach 2 ((o :: l).flatMap V.osites):=rfl
def Sh:Option (Nat×Aa)→List Nat
 |some (_,.cells xs)=>AV.sites.sitesL xs
 |some (_,.rowH _ _ _ q _)=>[q]
 |_=>[]
theorem Yq {ob cn o}:(AN.mk ob cn).osites o=Sh (ob o):=rfl
theorem Y0 {g xs}:Sh (some (g,.cells xs))=AV.sites.sitesL xs:=rfl
theorem fy {g a b c d e}:Sh (some (g,.mat a b c d e))=[]:=rfl
theorem kZ {a b c e}:fp V d (.app a b c e) xs=d.toList++AV.sites.sitesL xs:=rfl
theorem dC {a b c e}:fp V d (.slice a b c e) xs=d.toList++AV.sites.sitesL xs:=rfl
end
theorem aY {a:Nat}:(some a).toList=[a]:=rfl
theorem aZ:(none:Option Nat).toList=[]:=rfl
end
theorem Dl {k n}:(D.int k n).WF=LT k n:=by rw [D.WF]
theorem DB {b}:(D.bool b).WF=True:=by rw [D.WF]
theorem Cw {nl xs}:(D.list nl xs).WF=(xs.length≤maxLen∧∀x,x∈xs→x.WF):=by rw [D.WF]
theorem D7 {xs}:(D.agg xs).WF=(∀x,x∈xs→x.WF):=by rw [D.WF]
theorem D6 {xs}:(D.ptr xs).WF=(∀x,x∈xs→x.WF):=by rw [D.WF]
theorem Fi {f xs}:(D.fn f xs).WF=(∀x,x∈xs→x.WF):=by rw [D.WF]
theorem D5 {xs}:(D.tup xs).WF=(∀x,x∈xs→x.WF):=by rw [D.WF]
theorem DA {nl} {xs:List Int}:(D.list nl (Ai xs)).WF=(xs.length≤maxLen∧∀x,x∈xs→LT .i64 x):=by
 rw [Cw,Bx];simp [Ai,Dl]
theorem Bd {x:D} {l:List D}:(∀y,y∈x :: l→y.WF)=(x.WF∧∀y,y∈l→y.WF):=by simp
theorem Bo:(∀y,y∈([]:List D)→y.WF)=True:=by simp
theorem Bp {α:Type} {f:α→D} {l:List α}:(∀y,y∈l.map f→y.WF)=(∀x,x∈l→(f x).WF):=by simp
theorem DC {n:Int}:LT .i64 n=(-9223372036854775808≤n∧n≤9223372036854775807):=by
 simp [LT,IntKind.min,IntKind.max,IntKind.signed,IntKind.bits]
theorem B1:maxLen=9223372036854775807:=rfl
theorem Kn {x:AV} {d:D} {xs:List AV} {ds:List D} (h:x.toD1=some d) (h':A7 AV.toD1 xs=some ds):Fx (x :: xs)=some (d :: ds):=by
 simp only [Fx,A7,h,h']
theorem dr:Cm=1073741824:=rfl
theorem kK:EF=900000:=rfl
theorem D2 (V0:List (Nat×Nat×Aa)) (xs:List AV):BR.enterM V0 xs=⟨Eg (xs.zipIdx.map fun(d,k)=>(k,d)),⟨BS V0,fun _=>1⟩⟩:=by
 have key:∀(xs:List AV) (n t:Nat),(match xs[t]? with|some d=>d|none=>.undef)=Eg ((xs.zipIdx n).map fun(d,k)=>(k,d)) (n+t):=by
  intro xs
  induction xs with
  |nil=>intro n t;simp [Eg]
  |cons x xs ih =>
   intro n t
   cases t with
   |zero=>simp [Eg]
   |succ t =>
    have:=ih (n+1) t
    simp only [List.getElem?_cons_succ,List.zipIdx_cons,List.map_cons,Eg]
    rw [if_neg (by omega),this]
    congr 1;omega
 unfold BR.enterM
 congr 1
 funext t
 have:=key xs 0 t
 simp only [Nat.zero_add] at this
 rw [←this]
 cases xs[t]?<;>rfl
theorem Ei {E:Ci} {dst:Option Nat} {V:AN} {K:AV→Bt→Prop} {f:FuncId} {xs:List AV} {V0 V1:List (Nat×Nat×Aa)} {cxs:List AV} {r r':AV} {ch:Bt} (ρ ρ2:DU) (h:Hq E f V0 cxs V1 r) (h1:NU ρ cxs xs)
  (h2:Handed V (B6 dst V xs) ρ V0) (h3:CD V.cn dst V0 V1 ρ ρ2=true) (h4:r.ren ρ2=some r') (h5:Dk ρ ρ2 V1=some ch) (hk:K r' ch):Dn E dst V f xs K :=
 .inr (.inr (.inr ⟨V0,cxs,V1,r,r',ch,ρ,ρ2,h1,h,h2,h3,h4,h5,hk⟩))
theorem bN {E:Ci} {rs V1 r s}:jp E rs V1 r .ret s=(HN E s rs (jC V1 s.V r)∧cX s.V V1):=rfl
theorem UE {E:Ci} {rs V1 r s}:jp E rs V1 r .normal s=(HN E s rs (jC V1 s.V r)∧cX s.V V1):=rfl
section
variable {V:AN} {V1:List (Nat×Nat×Aa)}
theorem lT {r v}:jC V1 V r [v]=Rv V1 V v r:=rfl
theorem lU {rs}:jC V1 V (.tup rs) []=Rx V1 V [] rs:=rfl
theorem Zv:Rx V1 V [] []=True:=rfl
theorem iC {v d}:Rv V1 V v (.d d)=(v.snap V=some d∧(v.sites.all fun o=>!WZ V1 o)=true):=rfl
theorem Zu {v o g}:Rv V1 V v (.own o g)=(v=.own o g):=rfl
theorem cf {o}:WZ [] o=false:=rfl
theorem ZC {p l o}:WZ (p :: l) o=(p.1 == o || WZ l o):=rfl
def WX:Option (Nat×Aa)→Nat→Aa→Prop
 |some (g',.map t l),g,.map t' l'=>g'=g∧t=t'∧l=l'
 |some (g',.row a b c l),g,.row a' b' c' l'=>g'=g∧a=a'∧b=b'∧c=c'∧l=l'
 |some (g',.cells l),g,.cells l'=>g'=g∧l=l'
 |some (g',.hist a b c),g,.hist a' b' c'=>g'=g∧a=a'∧b=b'∧c=c'
 |some (g',.rowH a b c d e),g,.rowH a' b' c' d' e'=>g'=g∧a=a'∧b=b'∧c=c'∧d=d'∧e=e'
 |some (g',.mat a b c d e),g,.mat a' b' c' d' e'=>g'=g∧a=a'∧b=b'∧c=c'∧d=d'∧e=e'
 |_,_,_=>False
theorem ga {x:Option (Nat×Aa)} {g:Nat} {y:Aa}:WX x g y=(x=some (g,y)):=by
 cases x with
 |none=>simp [WX]
 |some p=>obtain⟨g',z⟩:=p;cases z<;>cases y<;>simp [WX]
theorem cY {g' a b c l g a' b' c' l'}:WX (some (g',.row a b c l)) g (.row a' b' c' l')=(g'=g∧a=a'∧b=b'∧c=c'∧l=l'):=rfl
theorem cZ {g' a b c d e g a' b' c' d' e'}:WX (some (g',.mat a b c d e)) g (.mat a' b' c' d' e')=(g'=g∧a=a'∧b=b'∧c=c'∧d=d'∧e=e'):=rfl
theorem WW {g' l g l'}:WX (some (g',.cells l)) g (.cells l')=(g'=g∧l=l'):=rfl
theorem gZ:cX V []=True:=rfl
theorem cW {o g x l}:cX V ((o,g,x) :: l)=(WX (V.ob o) g x∧cX V l):=by rw [ga];rfl
end
theorem isCall {E:Ci} {dst:Option Nat} {V:AN} {K:AV→Bt→Prop} {f:FuncId} {xs:List AV} (h:Dn E dst V f xs K):Dn E dst V f xs K:=h
theorem A4 {α:Type} {S:BR} {T:α→BR} {I M:α→Prop} (h:∃y,S=T y∧I y∧M y):∃y,S=T y∧I y∧M y:=h
theorem An {α β:Type} {S:BR} {T:α×β→BR} {I M:α×β→Prop} (h:∃y,S=T y∧I y∧M y):∃y,S=T y∧I y∧M y:=h
theorem BW {α β γ:Type} {S:BR} {T:α×β×γ→BR} {I M:α×β×γ→Prop} (h:∃y,S=T y∧I y∧M y):∃y,S=T y∧I y∧M y:=h
theorem CP {α β γ δ:Type} {S:BR} {T:α×β×γ×δ→BR} {I M:α×β×γ×δ→Prop} (h:∃y,S=T y∧I y∧M y):∃y,S=T y∧I y∧M y:=h
theorem kF {m k a}:FP m k a []=some a:=rfl
theorem kH {k:IntKind} {a b:Int} {rest}:FP true k a (.d (.int k b) :: rest)=FP true k (max a b) rest:=by
 simp only [FP,if_true,gK];congr 1;omega
theorem kG {k:IntKind} {a b:Int} {rest}:FP false k a (.d (.int k b) :: rest)=FP false k (min a b) rest:=by
 simp only [FP,if_true,gJ,Bool.false_eq_true,if_false];congr 1;omega
theorem YF {α:Type} (xs:List α) (a:Nat):(xs.drop a).take (xs.length - a)=xs.drop a:=List.take_of_length_le (by simp)
theorem YJ (n:Nat):n - 0=n:=rfl
def nZ (a b:List D):Prop:=Ew a b=true
section
variable {E:Ci} {dst:Option Nat} {V:AN} {K:AV→Bt→Prop}
end
def n_ (E:Ci) (p:PC) (Q:Bv→BR→Prop) (s:BR):Prop:=∃e s',Q e s'∧∀Q':Bv→BR→Prop,Q' e s'→pw E p Q' s
attribute [go_sem] kj fe fj j0 bW jy fk bX fg jz SG Vk YE Q_ XG VF Wb Ui co cq gm le cr cw cu go Wh ct gn Wg cy kV cm fv bd cj gl ld ZE fu ft a_ Yd bA V3 Ye ju jv Y7 WO d5 lz dH mN lG ey ja jZ eu ew ez jb lF jY e9 aj kW gq kY lf gt dD dF ZJ dE ZH Wi gr ZI kX dB gu dG kZ dC aY aZ List.flatMap_cons List.flatMap_nil YS Vu YT ao XE gB Rb fY Yq Y0 fy Tl et gh gi gf bZ ba d0 d4 Z5 iY gV bl LC cF WP Y8 kT aS ej aR iA WQ UZ bh bi WB lP Y1 f8 f7 bj bm kA bn Y2 gP lN fx j8 df Zq Zp de kq iH kp iI iE iG ko lu lq jU eq lE Y9 WR jV ib mA ku l_ b9 mf ly iW ZM Wn ZN Wo Z1 XD jS en em jT jR lD kf g6 ki ke Uv Sw Sx ZU Sr Oo Sz Q0 W2 g8 Wz kh g9 W3 g_ Ss Ws Sy Qz P5 Uz Wy dX Sv Wt Uu Su Wu Wv Ww Ur Us Ux Uw dY WG UN ZS g7 gz Ut dS ZR ZQ Uy Wr Qy kg jn jm jl Wx ZW ZV ZX dV ZT W5 W6 ZY W7 U0 W4 j5 j6 iU iO iP iR iS iT Yx Zn Za Zg Ze Zd Zc Zb Zm dZ ZZ UM Sg WD WE YF YJ kF kH kG XA MH Kl Sl Bx ZB Y' cV ZA cT cU WV Y_ aV YA UO I6 bM bN UE lU lT Zv iC Zu cf ZC cY cZ WW gZ cW bO Yk jr jt fH fG fF jf fJ fI YR je jg jj fR lI fE Yz lB lC List.map_cons List.map_nil List.zipIdx_cons List.zipIdx_nil List.zip_cons_cons List.zip_nil_left List.length_cons List.length_nil List.getElem?_cons_zero List.getElem?_cons_succ List.drop_zero List.drop_succ_cons List.take_succ_cons List.take_zero List.take_nil List.drop_nil List.contains_cons List.contains_nil List.filter_cons List.filter_nil List.all_cons List.all_nil List.cons_append List.nil_append List.append_nil List.set_cons_zero List.set_cons_succ YL List.replicate_succ List.replicate_zero List.isEmpty_cons List.isEmpty_nil List.length_map id_eq Nat.lt_irrefl Nat.zero_add Nat.add_zero Nat.zero_mul Nat.one_mul Nat.mul_one if_true if_false Bool.false_eq_true Bool.not_true Bool.not_false Bool.true_or Bool.false_or Bool.or_true Bool.or_false Bool.true_and Bool.false_and Bool.and_true Bool.and_false beq_self_eq_true Bool.and_self Bool.or_self true_and and_true false_and and_false ite_self exists_prop_of_true exists_prop not_false_eq_true not_true_eq_false forall_const eq_self and_self true_implies false_implies implies_true ne_eq List.cons_ne_nil Nat.le_refl Nat.not_lt_zero a8 Yb a6 YZ Ya Vy YX Vx Int.toNat_natCast Int.toNat_zero dr kK jx aK UP Z4 Vf TU Z6 VQ ed kD gE UU gC UT Y5 Nu lR Yy mW kE Yt Sd YW Vw UD Yi
attribute [go_sem_proc] Nat.reduceAdd Nat.reduceSub Nat.reduceMul Nat.reduceEqDiff Nat.reduceBEq Nat.reduceLeDiff Nat.reduceLT Int.reduceToNat Int.reduceLE Int.reduceLT Int.reduceNeg reduceIte reduceCtorEq Int.reduceEq Int.reduceAdd Int.reduceSub Int.reduceMul
end Go.Pw
