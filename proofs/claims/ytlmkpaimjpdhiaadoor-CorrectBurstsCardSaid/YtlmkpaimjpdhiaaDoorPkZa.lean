/- A part of the proof. -/
import Derived.Test.YtlmkpaimjpdhiaaDoorPwZ
set_option linter.all false
section
namespace Go.Pw
set_option linter.unusedSimpArgs false
set_option linter.unusedVariables false
def F1 (x:Option AX) (A:List AV→Prop):Prop:=match x with|some (.cells cs)=>A cs|_=>False
def Hb (x:Option AX) (A:Nat→Nat→Bool→List D→Prop):Prop:=match x with|some (.row a b c l)=>A a b c l|_=>False
def Kk (x:Option AX) (A:Nat→Nat→Bool→List D→Prop) (B:Nat→List D→Nat→Nat→Nat→Prop):Prop:=match x with|some (.row a b c l)=>A a b c l|some (.rowH a l i q p)=>B a l i q p|_=>False
def fe (x:Option AX) (A:Lq→List (D×D)→Prop):Prop:=match x with|some (.map t l)=>A t l|_=>False
def Fd (x:Option AX) (A:Nat→Nat→Bool→List Nat→List (Bool×List D)→Prop):Prop:=match x with|some (.mat a b c d e)=>A a b c d e|_=>False
def Ag {α:Type} (x:Option α) (A:α→Prop):Prop:=match x with|some v=>A v|none=>False
def fc {α:Type} (x:Option α) (A:α→Prop) (B:Prop):Prop:=match x with|some v=>A v|none=>B
theorem QN (cs A):F1 (some (.cells cs)) A=A cs:=rfl
theorem TO (a b c l A):Hb (some (.row a b c l)) A=A a b c l:=rfl
theorem TP (a b c l A B):Kk (some (.row a b c l)) A B=A a b c l:=rfl
theorem Rq {α:Type} (v:α) (A:α→Prop):Ag (some v) A=A v:=rfl
section
variable {E:CZ} {dst:Option Nat} {V:AN} {K:AV→Bd→Prop}
theorem cx {α:Type} {n:Nat} {cs:List α} {off:Nat} {mk:List α→AV} {one:α→AV} {C:AV→Prop}:Bc true n cs off mk one C=(off+n≤cs.length∧C (mk ((cs.drop off).take n))):=by simp [Bc]
theorem cy {α:Type} {n:Nat} {cs:List α} {off:Nat} {mk:List α→AV} {one:α→AV} {C:AV→Prop}:Bc false n cs off mk one C=Ag cs[off]? fun v=>C (one v):=by
 simp only [Bc,Bool.false_eq_true,if_false];cases cs[off]?<;>rfl
theorem SF {ag n o g off}:ev E dst V (.load ag n) [.ptr o g off] K=F1 (V.get o g) fun cs=>Bc ag n cs off .agg id (K · .none):=by
 simp only [ev];cases V.get o g with
 |none=>rfl
 |some x=>cases x<;>rfl
theorem Qd {ag n o g es i off}:ev E dst V (.load ag n) [.rptr o g es i off] K=Kk (V.get o g) (fun _ es' _ l=>es=es'∧Ag l[i]? fun x=>Bc ag n x.cells off (fun cs=>.d (.agg cs)) .d (K · .none))
  fun _ l k q p=>es=1∧(i=k→Bc ag n [.own q p] off .agg id (K · .none))∧(i≠k→Ag l[i]? fun x=>Bc ag n x.cells off (fun cs=>.d (.agg cs)) .d (K · .none)):=by
 simp only [ev];cases V.get o g with
 |none=>rfl
 |some x =>
  cases x with
  |row a b c l=>simp only [Kk];cases l[i]?<;>rfl
  |rowH a l k q p=>simp only [Kk];cases l[i]?<;>rfl
  |_=>rfl
theorem Qe {ag n cs off}:ev E dst V (.load ag n) [.dptr cs off] K=Bc ag n cs off (fun cs=>.d (.agg cs)) .d (K · .none):=rfl
theorem WM {ag n cs}:ev E dst V (.load ag n) [.d (.ptr cs)] K=Bc ag n cs 0 (fun cs=>.d (.agg cs)) .d (K · .none):=rfl
theorem Qa {n o g off v}:ev E dst V (.store n) [.ptr o g off,v] K=F1 (V.get o g) fun cs=>Ag v.cells? fun vs=>vs.length=n∧off+n≤cs.length∧K .undef (.keep o g (.cells (A9 cs off vs))):=by
 unfold ev F1 Ag;simp only
 cases V.get o g with
 |none=>rfl
 |some x=>cases x<;>cases v.cells?<;>rfl
theorem Qg {off o g a}:ev E dst V (.faddr off) [.ptr o g a] K=K (.ptr o g (a+off)) .none:=rfl
theorem Ov {off cs a}:ev E dst V (.faddr off) [.dptr cs a] K=K (.dptr cs (a+off)) .none:=rfl
theorem UA {off cs}:ev E dst V (.faddr off) [.d (.ptr cs)] K=K (.dptr cs off) .none:=rfl
theorem T_ {es nl l k i}:ev E dst V (.iaddrS es) [.d (.list nl l),.d (.int k i)] K=(0≤i∧i < l.length∧Ag l[i.toNat]? fun x=>x.cells.length=es∧K (.dptr x.cells 0) .none):=by
 simp only [ev];cases l[i.toNat]?<;>rfl
theorem de {t v}:ev E (some t) V .box [v] K=Ag v.cells? fun cs=>t < D5∧K (.ptr t (V.cn t) 0) (.fresh t (.cells cs)):=by
 simp only [ev];cases v.cells?<;>rfl
theorem bB {k k' n}:ev E dst V (.conv k) [.d (.int k' n)] K=K (.d (.int k (k.wrap n))) .none:=rfl
theorem UB {i vs}:ev E dst V (.extract i) [.tup vs] K=Ag vs[i]? fun v=>K v .none:=by
 simp only [ev];cases vs[i]?<;>rfl
theorem bC {f xs}:ev E dst V (.call f) xs K=DV E dst V f xs K:=rfl
theorem M1 {n o g es0 i off x}:ev E dst V (.store n) [.rptr o g es0 i off,.d x] K=Hb (V.get o g) fun ety es nl l=>Ag (AV.d x).toD1 fun y=>es0=es∧Ag l[i]? fun x=>y.cells.length=n∧off+n≤x.cells.length∧(n=es∨1 < x.cells.length) ∧
  K .undef (.keep o g (.row ety es nl (l.set i (if n=es then y else .agg (A9 x.cells off y.cells))))):=by
 simp only [ev];cases V.get o g with
 |none=>rfl
 |some x =>
  cases x with
  |row a b c l=>simp only [Hb];cases (AV.d x).toD1 with
   |none=>rfl
   |some y=>simp only [Ag];cases l[i]?<;>rfl
  |_=>rfl
theorem Qf {es o g k i}:ev E dst V (.iaddrS es) [.own o g,.d (.int k i)] K=Kk (V.get o g) (fun _ es' _ l=>es=es'∧0≤i∧i < l.length∧K (.rptr o g es i.toNat 0) .none) fun _ l _ _ _=>es=1∧0≤i∧i < l.length∧K (.rptr o g es i.toNat 0) .none:=by
 simp only [ev];cases V.get o g with
 |none=>rfl
 |some x=>cases x<;>rfl
theorem SI {len es cs k i}:ev E dst V (.iaddrA len es) [.d (.ptr cs),.d (.int k i)] K=(0≤i∧i < len∧K (.dptr cs (i.toNat * es)) .none):=rfl
theorem Y4 {z pl xs}:ev E dst V (.build z pl) xs K=Ag (KL (z.map .d) (pl.zip xs)) fun cs=>pl.length=xs.length∧K (.agg cs) .none:=by
 simp only [ev];cases KL (z.map .d) (pl.zip xs)<;>rfl
theorem Qc {es z n ix}:ev E dst V (.mkrow es z n ix) [] K=Ag (Fx es (List.replicate n z) (ix.zip [])) fun l=>ix.length=0∧K (.ex l) .none:=by
 simp only [ev];cases Fx es (List.replicate n z) (ix.zip [])<;>rfl
theorem T6 {es z n ix x xs}:ev E dst V (.mkrow es z n ix) (.d x :: xs) K=Ag (Fx es (List.replicate n z) (ix.zip (.d x :: xs))) fun l=>ix.length=(.d x :: xs).length∧K (.ex l) .none:=by
 simp only [ev];cases Fx es (List.replicate n z) (ix.zip (.d x :: xs))<;>rfl
theorem Qb {es z n ix q p}:ev E dst V (.mkrow es z n ix) [.own q p] K=(es=1∧n=1∧ix=[0]∧K (.ablk true [.own q p] 0) .none):=rfl
theorem TQ (a b c d e A):Fd (some (.mat a b c d e)) A=A a b c d e:=rfl
theorem T7 {ag n o g i}:ev E dst V (.load ag n) [.mref (.xp i) o g] K=Fd (V.get o g) fun _ _ _ ix _=>Ag ix[i]? fun j=>Bc ag n [.mref (.row j) o g] 0 .agg id (K · .none):=by
 simp only [ev];cases V.get o g with
 |none=>rfl
 |some x =>
  cases x with
  |mat a b c ix rows=>simp only [Fd];cases ix[i]?<;>rfl
  |_=>rfl
theorem T8 {ag n o g j k}:ev E dst V (.load ag n) [.mref (.mp j k) o g] K=Fd (V.get o g) fun _ _ _ _ rows=>Ag rows[j]? fun x=>Ag x.2[k]? fun y=>Bc ag n y.cells 0 (fun cs=>.d (.agg cs)) .d (K · .none):=by
 simp only [ev];cases V.get o g with
 |none=>rfl
 |some x =>
  cases x with
  |mat a b c ix rows=>simp only [Fd];cases rows[j]? with
   |none=>rfl
   |some x=>simp only [Ag];cases x.2[k]?<;>rfl
  |_=>rfl
theorem T9 {ag n cs off}:ev E dst V (.load ag n) [.ablk false cs off] K=Bc ag n cs off .agg id (K · .none):=rfl
theorem SC {n i o g j o' g'}:ev E dst V (.store n) [.mref (.xp i) o g,.mref (.row j) o' g'] K=Fd (V.get o g) fun e1 e2 nl ix rows=>n=1∧o'=o∧g'=g∧i < ix.length∧j < rows.length∧K .undef (.keep o g (.mat e1 e2 nl (ix.set i j) rows)):=by
 simp only [ev];cases V.get o g with
 |none=>rfl
 |some x=>cases x<;>rfl
theorem SD {n j k o g v}:ev E dst V (.store n) [.mref (.mp j k) o g,.d v] K=Fd (V.get o g) fun e1 e2 nl ix rows=>Ag (AV.d v).toD1 fun y=>Ag rows[j]? fun x=>n=1∧y.cells.length=1∧k < x.2.length∧K .undef (.keep o g (.mat e1 e2 nl ix (rows.set j (x.1,x.2.set k y)))):=by
 simp only [ev];cases V.get o g with
 |none=>rfl
 |some x =>
  cases x with
  |mat a b c ix rows=>simp only [Fd];cases (AV.d v).toD1 with
   |none=>rfl
   |some y=>simp only [Ag];cases rows[j]?<;>rfl
  |_=>rfl
theorem SH {es o g k i}:ev E dst V (.iaddrS es) [.mref .out o g,.d (.int k i)] K=Fd (V.get o g) fun _ _ _ ix _=>es=1∧0≤i∧i < ix.length∧K (.mref (.xp i.toNat) o g) .none:=by
 simp only [ev];cases V.get o g with
 |none=>rfl
 |some x=>cases x<;>rfl
theorem SG {es j o g k i}:ev E dst V (.iaddrS es) [.mref (.row j) o g,.d (.int k i)] K=Fd (V.get o g) fun _ _ _ _ rows=>Ag rows[j]? fun x=>es=1∧0≤i∧i < x.2.length∧K (.mref (.mp j i.toNat) o g) .none:=by
 simp only [ev];cases V.get o g with
 |none=>rfl
 |some x =>
  cases x with
  |mat a b c ix rows=>simp only [Fd];cases rows[j]?<;>rfl
  |_=>rfl
theorem Y5 {ety es z own o g q p}:ev E dst V (.app ety es z own) [.mref .out o g,.ablk true [.own q p] 0] K=Fd (V.get o g) fun e1 e2 nl ix rows=>Hb (V.get q p) fun e2' es2 nl2 l2 =>
  z=none∧o < D5∧q < D5∧o≠q∧ety=e1∧es=1∧es2=1∧e2'=e2∧ix.length+1≤CG ∧
   K (.mref .out o (V.cn o)) (.seq (.fresh o (.mat e1 e2 false (ix++[rows.length]) (rows++[(nl2,l2)]))) (.fresh q (.row e2 1 true []))):=by
 simp only [ev];cases V.get o g with
 |none=>rfl
 |some x =>
  cases x with
  |mat a b c ix rows=>simp only [Fd];cases V.get q p with
   |none=>rfl
   |some y=>cases y<;>rfl
  |_=>rfl
theorem WK {ety es z n ix xs t}:ev E (some t) V (.mkrowO ety es z n ix) xs K=Ag (Fx es (List.replicate n z) (ix.zip xs)) fun l=>t < D5∧ix.length=xs.length∧K (.own t (V.cn t)) (.fresh t (.row ety es false l)):=by
 simp only [ev];cases Fx es (List.replicate n z) (ix.zip xs)<;>rfl
theorem bA {f xs}:ev E dst V (.mkfn f) xs K=K (.fn f xs) .none:=rfl
theorem a8 {cs t}:ev E (some t) V (.zero cs) [] K=(t < D5∧K (.ptr t (V.cn t) 0) (.fresh t (.cells (cs.map .d)))):=rfl
theorem SE {ety es z t n m}:ev E (some t) V (.mksl ety es z true) [.d (.int .i64 n),.d (.int .i64 m)] K=(n=m∧0≤n∧n≤(CG:Int)∧t < D5∧K (.own t (V.cn t)) (.fresh t (.row ety es false (List.replicate n.toNat z)))):=rfl
theorem WJ {ety es z t n m}:ev E (some t) V (.mksl ety es z false) [.d (.int .i64 n),.d (.int .i64 m)] K=(n=m∧0≤n∧n≤(CG:Int)∧K (.d (.list false (List.replicate n.toNat z))) .none):=rfl
theorem T5 {es lo hi nl l rest}:ev E dst V (.slice es lo hi false) (.d (.list nl l) :: rest) K=(Cc es l∧LK lo hi l.length rest fun a b=>K (.d (.list nl ((l.drop a).take (b - a)))) .none):=rfl
theorem Ou {es lo o g rest}:ev E dst V (.slice es lo true false) (.own o g :: rest) K=Hb (V.get o g) fun ety es' nl l=>o < D5∧es=es'∧LK lo true l.length rest fun a b=>K (.own o (V.cn o)) (.fresh o (.row ety es nl ((l.drop a).take (b - a)))):=by
 simp only [ev,Bool.false_eq_true,if_false,if_true];cases V.get o g with
 |none=>rfl
 |some x=>cases x<;>rfl
theorem dc:ev E dst V .cap [.d (.list true [])] K=K (.d (.int .i64 0)) .none:=rfl
theorem cj {len:Nat} {C:Nat→Nat→Prop} {k h}:LK false true len [.d (.int k h)] C=(0≤h∧h≤len∧C 0 h.toNat):=rfl
theorem ci {len:Nat} {C:Nat→Nat→Prop} {k h}:LK true false len [.d (.int k h)] C=(0≤h∧h≤len∧C h.toNat len):=rfl
theorem db {x}:ev E dst V (.len false) [x] K=Ag (x.asList V) fun p=>K (.d (.int .i64 p.2.length)) .none:=by
 simp only [ev,Bool.false_eq_true,if_false];cases x.asList V<;>rfl
theorem Y0 {n x}:ev E dst V (.eqnil n) [x,.d (.list true [])] K=Ag (x.asList V) fun p=>K (.d (.bool (if n then !p.1 else p.1))) .none:=by
 simp only [ev];cases x.asList V<;>rfl
theorem WL {m k a rest}:ev E dst V (.minmax m) (.d (.int k a) :: rest) K=Ag (GL m k a rest) fun r=>K (.d (.int k r)) .none:=by
 simp only [ev];cases GL m k a rest<;>rfl
theorem UD {ety es z own o g y}:ev E dst V (.app ety es z own) [.own o g,y] K=Ag (DW V z y) fun ys=>Hb (V.get o g) fun ety' es' nl l=>o < D5∧ety=ety'∧es=es'∧Cc es ys∧l.length+ys.length≤CG ∧
  K (.own o (V.cn o)) (.fresh o (.row ety es (nl && ys.isEmpty) (l++ys))):=by
 simp only [ev];cases DW V z y with
 |none=>rfl
 |some ys =>
  simp only [Ag]
  cases V.get o g with
  |none=>rfl
  |some x=>cases x<;>rfl
theorem UE {ety es z t y}:ev E (some t) V (.app ety es z true) [.d (.list true []),y] K=Ag (DW V z y) fun ys=>Cc es ys∧ys.length≤CG∧t < D5∧K (.own t (V.cn t)) (.fresh t (.row ety es ys.isEmpty ys)):=by
 simp only [ev];cases DW V z y<;>rfl
theorem WN {ety es z t l y}:ev E (some t) V (.app ety es z true) [.ex l,y] K=Ag (DW V z y) fun ys=>Cc es (l++ys)∧l.length+ys.length≤CG∧(ys=[]→K (.ex l) .none)∧(ys≠[]→t < D5∧K (.own t (V.cn t)) (.fresh t (.row ety es false (l++ys)))):=by
 simp only [ev];cases DW V z y with
 |none=>rfl
 |some ys=>cases ys<;>simp [Ag]
theorem UF {ety es z l y}:ev E dst V (.app ety es z false) [.ex l,y] K=Ag (DW V z y) fun ys=>Cc es (l++ys)∧l.length+ys.length≤CG∧K (.d (.list false (l++ys))) .none:=by
 simp only [ev];cases DW V z y<;>rfl
theorem SJ {f cs args}:ev E dst V .callv (.fn f cs :: args) K=(B0 E.P f=true∧DV E dst V f (args++cs) K):=rfl
theorem UC {f cs args}:ev E dst V .callv (.d (.fn f cs) :: args) K=(B0 E.P f=true∧DV E dst V f (args++cs.map .d) K):=rfl
theorem Wa {k k':IntKind} {a b:Int} {C:AV→Prop}:Cr .eql k k' a b C=(k=k'∧C (.d (.bool (decide (a=b))))):=rfl
theorem WU {k k':IntKind} {a b:Int} {C:AV→Prop}:Cr .neq k k' a b C=(k=k'∧C (.d (.bool (!decide (a=b))))):=rfl
theorem WW {k k':IntKind} {a b:Int} {C:AV→Prop}:Cr .lss k k' a b C=(k=k'∧C (.d (.bool (decide (a < b))))):=rfl
theorem WX {k k':IntKind} {a b:Int} {C:AV→Prop}:Cr .leq k k' a b C=(k=k'∧C (.d (.bool (decide (a≤b))))):=rfl
theorem WY {k k':IntKind} {a b:Int} {C:AV→Prop}:Cr .gtr k k' a b C=(k=k'∧C (.d (.bool (decide (b < a))))):=rfl
theorem WZ {k k':IntKind} {a b:Int} {C:AV→Prop}:Cr .geq k k' a b C=(k=k'∧C (.d (.bool (decide (b≤a))))):=rfl
theorem Wc {k k':IntKind} {a b:Int} {C:AV→Prop}:Cr .add k k' a b C=(k=k'∧C (.d (.int k (k.wrap (a+b))))):=rfl
theorem WP {k k':IntKind} {a b:Int} {C:AV→Prop}:Cr .sub k k' a b C=(k=k'∧C (.d (.int k (k.wrap (a - b))))):=rfl
theorem WV {k k':IntKind} {a b:Int} {C:AV→Prop}:Cr .mul k k' a b C=(k=k'∧C (.d (.int k (k.wrap (a * b))))):=rfl
theorem WT {k k':IntKind} {a b:Int} {C:AV→Prop}:Cr .quo k k' a b C=(k=k'∧b≠0∧C (.d (.int k (k.wrap (a.tdiv b))))):=rfl
theorem WS {k k':IntKind} {a b:Int} {C:AV→Prop}:Cr .rem k k' a b C=(k=k'∧b≠0∧C (.d (.int k (a.tmod b)))):=rfl
theorem WR {k k':IntKind} {a b:Int} {C:AV→Prop}:Cr .shl k k' a b C=(0≤b∧C (.d (.int k (k.wrap (a * 2 ^ (min b.toNat k.bits)))))):=rfl
theorem WQ {k k':IntKind} {a b:Int} {C:AV→Prop}:Cr .shr k k' a b C=(0≤b∧C (.d (.int k (a.fdiv (2 ^ (min b.toNat k.bits)))))):=rfl
theorem Wb {k k':IntKind} {a b:Int} {C:AV→Prop}:Cr .and k k' a b C=(k=k'∧C (.d (.int k (A_ .and k a b)))):=rfl
theorem WO {k k':IntKind} {a b:Int} {C:AV→Prop}:Cr .xor k k' a b C=(k=k'∧C (.d (.int k (A_ .xor k a b)))):=rfl
end
end Go.Pw
end
section
namespace Go.Pw
set_option linter.unusedSimpArgs false
set_option linter.unusedVariables false
def fJ (x:Option AX) (A:List (List D)→Nat→Prop):Prop:=match x with|some (.hist els n false)=>A els n|_=>False
section
variable {E:CZ} {Q:Bn→Aw→Prop} {s s':Aw} {K:AV→Bd→Prop} {KS:Aw→Prop}
def fV (V:AN) (o:Nat):Bool:=match V.ob o with|some (g,_)=>g == 0|none=>false
def fU (x:Option (Nat×AX)):Bool:=match x with|some (g,_)=>g == 0|none=>false
def mvL (l:List (Nat×AV)):List (Nat×AV):=l.map fun p=>(p.1,p.2.mv)
def fM (k:Nat) (g:Nat) (x:Option AX) (r:List (Nat×(Nat×AX))):List (Nat×(Nat×AX)):=match x with
 |some y=>(RB k,(g,y)) :: r
 |none=>r.filter fun p=>!(p.1 == RB k)
def fw:List (Nat×(Nat×AX))→List (Nat×(Nat×AX))
 |[]=>[]
 |(k,(g,x)) :: l=>fM k g x.mv (fw l)
def ft {α:Type} (T:α→AN) (Inv:Nat→α→Prop) (PInv:Bn→α→Prop) (m:Nat) (gs:List Eg) (ks os:List Nat) (sl:Nat→AV) (e:Bn) (s:Aw):Prop :=
 CT gs s fun s'=>NW ks sl (s'.V.nrm os)=true∧∃y,s'.V.nrm os=T y∧(match e with|.normal=>Inv m y|e=>PInv e y)
end
end Go.Pw
end
