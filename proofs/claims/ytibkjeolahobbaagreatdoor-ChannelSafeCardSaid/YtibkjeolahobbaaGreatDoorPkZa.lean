/- A part of the proof. -/
import Derived.Test.YtibkjeolahobbaaGreatDoorPwZ
set_option linter.all false
section
namespace Go.Pw
set_option linter.unusedSimpArgs false
set_option linter.unusedVariables false
def Ge (x:Option Aa) (A:List AV→Prop):Prop:=match x with|some (.cells cs)=>A cs|_=>False
def Hg (x:Option Aa) (A:Nat→Nat→Bool→List D→Prop):Prop:=match x with|some (.row a b c l)=>A a b c l|_=>False
def Ly (x:Option Aa) (A:Nat→Nat→Bool→List D→Prop) (B:Nat→List D→Nat→Nat→Nat→Prop):Prop:=match x with|some (.row a b c l)=>A a b c l|some (.rowH a l i q p)=>B a l i q p|_=>False
def mq (x:Option Aa) (A:MS→List (D×D)→Prop):Prop:=match x with|some (.map t l)=>A t l|_=>False
def Et (x:Option Aa) (A:Nat→Nat→Bool→List Nat→List (Bool×List D)→Prop):Prop:=match x with|some (.mat a b c d e)=>A a b c d e|_=>False
def BO {α:Type} (x:Option α) (A:α→Prop):Prop:=match x with|some v=>A v|none=>False
def mo {α:Type} (x:Option α) (A:α→Prop) (B:Prop):Prop:=match x with|some v=>A v|none=>B
theorem Sg (cs A):Ge (some (.cells cs)) A=A cs:=rfl
theorem WD (a b c l A):Hg (some (.row a b c l)) A=A a b c l:=rfl
theorem WE (a b c l A B):Ly (some (.row a b c l)) A B=A a b c l:=rfl
theorem UM {α:Type} (v:α) (A:α→Prop):BO (some v) A=A v:=rfl
section
variable {E:Ci} {dst:Option Nat} {V:AN} {K:AV→Bt→Prop}
theorem j5 {α:Type} {n:Nat} {cs:List α} {off:Nat} {mk:List α→AV} {one:α→AV} {C:AV→Prop}:Br true n cs off mk one C=(off+n≤cs.length∧C (mk ((cs.drop off).take n))):=by simp [Br]
theorem j6 {α:Type} {n:Nat} {cs:List α} {off:Nat} {mk:List α→AV} {one:α→AV} {C:AV→Prop}:Br false n cs off mk one C=BO cs[off]? fun v=>C (one v):=by
 simp only [Br,Bool.false_eq_true,if_false];cases cs[off]?<;>rfl
theorem Uv {ag n o g off}:ev E dst V (.load ag n) [.ptr o g off] K=Ge (V.get o g) fun cs=>Br ag n cs off .agg id (K · .none):=by
 simp only [ev];cases V.get o g with
 |none=>rfl
 |some x=>cases x<;>rfl
theorem Sw {ag n o g es i off}:ev E dst V (.load ag n) [.rptr o g es i off] K=Ly (V.get o g) (fun _ es' _ l=>es=es'∧BO l[i]? fun x=>Br ag n x.cells off (fun cs=>.d (.agg cs)) .d (K · .none))
  fun _ l k q p=>es=1∧(i=k→Br ag n [.own q p] off .agg id (K · .none))∧(i≠k→BO l[i]? fun x=>Br ag n x.cells off (fun cs=>.d (.agg cs)) .d (K · .none)):=by
 simp only [ev];cases V.get o g with
 |none=>rfl
 |some x =>
  cases x with
  |row a b c l=>simp only [Ly];cases l[i]?<;>rfl
  |rowH a l k q p=>simp only [Ly];cases l[i]?<;>rfl
  |_=>rfl
theorem Sx {ag n cs off}:ev E dst V (.load ag n) [.dptr cs off] K=Br ag n cs off (fun cs=>.d (.agg cs)) .d (K · .none):=rfl
theorem ZU {ag n cs}:ev E dst V (.load ag n) [.d (.ptr cs)] K=Br ag n cs 0 (fun cs=>.d (.agg cs)) .d (K · .none):=rfl
theorem Sr {n o g off v}:ev E dst V (.store n) [.ptr o g off,v] K=Ge (V.get o g) fun cs=>BO v.cells? fun vs=>vs.length=n∧off+n≤cs.length∧K .undef (.keep o g (.cells (BX cs off vs))):=by
 unfold ev Ge BO;simp only
 cases V.get o g with
 |none=>rfl
 |some x=>cases x<;>cases v.cells?<;>rfl
theorem Sz {off o g a}:ev E dst V (.faddr off) [.ptr o g a] K=K (.ptr o g (a+off)) .none:=rfl
theorem Q0 {off cs a}:ev E dst V (.faddr off) [.dptr cs a] K=K (.dptr cs (a+off)) .none:=rfl
theorem W2 {off cs}:ev E dst V (.faddr off) [.d (.ptr cs)] K=K (.dptr cs off) .none:=rfl
theorem g8 {nl:Bool} {l:List D}:ev E dst V (.len false) [.d (.list nl l)] K=K (.d (.int .i64 l.length)) .none:=rfl
theorem Wz {es nl l k i}:ev E dst V (.iaddrS es) [.d (.list nl l),.d (.int k i)] K=(0≤i∧i < l.length∧BO l[i.toNat]? fun x=>x.cells.length=es∧K (.dptr x.cells 0) .none):=by
 simp only [ev];cases l[i.toNat]?<;>rfl
theorem kh {t v}:ev E (some t) V .box [v] K=BO v.cells? fun cs=>t < EF∧K (.ptr t (V.cn t) 0) (.fresh t (.cells cs)):=by
 simp only [ev];cases v.cells?<;>rfl
theorem g9 {k k' n}:ev E dst V (.conv k) [.d (.int k' n)] K=K (.d (.int k (k.wrap n))) .none:=rfl
theorem W3 {i vs}:ev E dst V (.extract i) [.tup vs] K=BO vs[i]? fun v=>K v .none:=by
 simp only [ev];cases vs[i]?<;>rfl
theorem g_ {f xs}:ev E dst V (.call f) xs K=Dn E dst V f xs K:=rfl
theorem Oo {n o g es0 i off x}:ev E dst V (.store n) [.rptr o g es0 i off,.d x] K=Hg (V.get o g) fun ety es nl l=>BO (AV.d x).toD1 fun y=>es0=es∧BO l[i]? fun x=>y.cells.length=n∧off+n≤x.cells.length∧(n=es∨1 < x.cells.length) ∧
  K .undef (.keep o g (.row ety es nl (l.set i (if n=es then y else .agg (BX x.cells off y.cells))))):=by
 simp only [ev];cases V.get o g with
 |none=>rfl
 |some x =>
  cases x with
  |row a b c l=>simp only [Hg];cases (AV.d x).toD1 with
   |none=>rfl
   |some y=>simp only [BO];cases l[i]?<;>rfl
  |_=>rfl
theorem Ss {o g off}:ev E dst V .nilck [.ptr o g off] K=K (.ptr o g off) .none:=rfl
theorem Ws {cs}:ev E dst V .nilck [.d (.ptr cs)] K=K (.d (.ptr cs)) .none:=rfl
theorem Sy {es o g k i}:ev E dst V (.iaddrS es) [.own o g,.d (.int k i)] K=Ly (V.get o g) (fun _ es' _ l=>es=es'∧0≤i∧i < l.length∧K (.rptr o g es i.toNat 0) .none) fun _ l _ _ _=>es=1∧0≤i∧i < l.length∧K (.rptr o g es i.toNat 0) .none:=by
 simp only [ev];cases V.get o g with
 |none=>rfl
 |some x=>cases x<;>rfl
theorem Qz {len es o g off k i}:ev E dst V (.iaddrA len es) [.ptr o g off,.d (.int k i)] K=(0≤i∧i < len∧K (.ptr o g (off+i.toNat * es)) .none):=rfl
theorem P5 {len es cs off k i}:ev E dst V (.iaddrA len es) [.dptr cs off,.d (.int k i)] K=(0≤i∧i < len∧K (.dptr cs (off+i.toNat * es)) .none):=rfl
theorem Uz {len es cs k i}:ev E dst V (.iaddrA len es) [.d (.ptr cs),.d (.int k i)] K=(0≤i∧i < len∧K (.dptr cs (i.toNat * es)) .none):=rfl
theorem Wy {len es ag cs k i}:ev E dst V (.index len es ag) [.d (.agg cs),.d (.int k i)] K=(0≤i∧i < len∧Br ag es cs (i.toNat * es) (fun cs=>.d (.agg cs)) .d (K · .none)):=rfl
theorem dX {z pl xs}:ev E dst V (.build z pl) xs K=BO (Le (z.map .d) (pl.zip xs)) fun cs=>pl.length=xs.length∧K (.agg cs) .none:=by
 simp only [ev];cases Le (z.map .d) (pl.zip xs)<;>rfl
theorem Sv {es z n ix}:ev E dst V (.mkrow es z n ix) [] K=BO (Fm es (List.replicate n z) (ix.zip [])) fun l=>ix.length=0∧K (.ex l) .none:=by
 simp only [ev];cases Fm es (List.replicate n z) (ix.zip [])<;>rfl
theorem Wt {es z n ix x xs}:ev E dst V (.mkrow es z n ix) (.d x :: xs) K=BO (Fm es (List.replicate n z) (ix.zip (.d x :: xs))) fun l=>ix.length=(.d x :: xs).length∧K (.ex l) .none:=by
 simp only [ev];cases Fm es (List.replicate n z) (ix.zip (.d x :: xs))<;>rfl
theorem Uu {es z n ix x xs}:ev E dst V (.mkrow es z n ix) (.ex x :: xs) K=BO (Fm es (List.replicate n z) (ix.zip (.ex x :: xs))) fun l=>ix.length=(.ex x :: xs).length∧K (.ex l) .none:=by
 simp only [ev];cases Fm es (List.replicate n z) (ix.zip (.ex x :: xs))<;>rfl
theorem Su {es z n ix q p}:ev E dst V (.mkrow es z n ix) [.own q p] K=(es=1∧n=1∧ix=[0]∧K (.ablk true [.own q p] 0) .none):=rfl
theorem WG (a b c d e A):Et (some (.mat a b c d e)) A=A a b c d e:=rfl
theorem Wu {ag n o g i}:ev E dst V (.load ag n) [.mref (.xp i) o g] K=Et (V.get o g) fun _ _ _ ix _=>BO ix[i]? fun j=>Br ag n [.mref (.row j) o g] 0 .agg id (K · .none):=by
 simp only [ev];cases V.get o g with
 |none=>rfl
 |some x =>
  cases x with
  |mat a b c ix rows=>simp only [Et];cases ix[i]?<;>rfl
  |_=>rfl
theorem Wv {ag n o g j k}:ev E dst V (.load ag n) [.mref (.mp j k) o g] K=Et (V.get o g) fun _ _ _ _ rows=>BO rows[j]? fun x=>BO x.2[k]? fun y=>Br ag n y.cells 0 (fun cs=>.d (.agg cs)) .d (K · .none):=by
 simp only [ev];cases V.get o g with
 |none=>rfl
 |some x =>
  cases x with
  |mat a b c ix rows=>simp only [Et];cases rows[j]? with
   |none=>rfl
   |some x=>simp only [BO];cases x.2[k]?<;>rfl
  |_=>rfl
theorem Ww {ag n cs off}:ev E dst V (.load ag n) [.ablk false cs off] K=Br ag n cs off .agg id (K · .none):=rfl
theorem Ur {n i o g j o' g'}:ev E dst V (.store n) [.mref (.xp i) o g,.mref (.row j) o' g'] K=Et (V.get o g) fun e1 e2 nl ix rows=>n=1∧o'=o∧g'=g∧i < ix.length∧j < rows.length∧K .undef (.keep o g (.mat e1 e2 nl (ix.set i j) rows)):=by
 simp only [ev];cases V.get o g with
 |none=>rfl
 |some x=>cases x<;>rfl
theorem Us {n j k o g v}:ev E dst V (.store n) [.mref (.mp j k) o g,.d v] K=Et (V.get o g) fun e1 e2 nl ix rows=>BO (AV.d v).toD1 fun y=>BO rows[j]? fun x=>n=1∧y.cells.length=1∧k < x.2.length∧K .undef (.keep o g (.mat e1 e2 nl ix (rows.set j (x.1,x.2.set k y)))):=by
 simp only [ev];cases V.get o g with
 |none=>rfl
 |some x =>
  cases x with
  |mat a b c ix rows=>simp only [Et];cases (AV.d v).toD1 with
   |none=>rfl
   |some y=>simp only [BO];cases rows[j]?<;>rfl
  |_=>rfl
theorem Ux {es o g k i}:ev E dst V (.iaddrS es) [.mref .out o g,.d (.int k i)] K=Et (V.get o g) fun _ _ _ ix _=>es=1∧0≤i∧i < ix.length∧K (.mref (.xp i.toNat) o g) .none:=by
 simp only [ev];cases V.get o g with
 |none=>rfl
 |some x=>cases x<;>rfl
theorem Uw {es j o g k i}:ev E dst V (.iaddrS es) [.mref (.row j) o g,.d (.int k i)] K=Et (V.get o g) fun _ _ _ _ rows=>BO rows[j]? fun x=>es=1∧0≤i∧i < x.2.length∧K (.mref (.mp j i.toNat) o g) .none:=by
 simp only [ev];cases V.get o g with
 |none=>rfl
 |some x =>
  cases x with
  |mat a b c ix rows=>simp only [Et];cases rows[j]?<;>rfl
  |_=>rfl
theorem dY {ety es z own o g q p}:ev E dst V (.app ety es z own) [.mref .out o g,.ablk true [.own q p] 0] K=Et (V.get o g) fun e1 e2 nl ix rows=>Hg (V.get q p) fun e2' es2 nl2 l2 =>
  z=none∧o < EF∧q < EF∧o≠q∧ety=e1∧es=1∧es2=1∧e2'=e2∧ix.length+1≤Cm ∧
   K (.mref .out o (V.cn o)) (.seq (.fresh o (.mat e1 e2 false (ix++[rows.length]) (rows++[(nl2,l2)]))) (.fresh q (.row e2 1 true []))):=by
 simp only [ev];cases V.get o g with
 |none=>rfl
 |some x =>
  cases x with
  |mat a b c ix rows=>simp only [Et];cases V.get q p with
   |none=>rfl
   |some y=>cases y<;>rfl
  |_=>rfl
theorem ZS {ety es z n ix xs t}:ev E (some t) V (.mkrowO ety es z n ix) xs K=BO (Fm es (List.replicate n z) (ix.zip xs)) fun l=>t < EF∧ix.length=xs.length∧K (.own t (V.cn t)) (.fresh t (.row ety es false l)):=by
 simp only [ev];cases Fm es (List.replicate n z) (ix.zip xs)<;>rfl
theorem g7 {f xs}:ev E dst V (.mkfn f) xs K=K (.fn f xs) .none:=rfl
theorem gz {cs t}:ev E (some t) V (.zero cs) [] K=(t < EF∧K (.ptr t (V.cn t) 0) (.fresh t (.cells (cs.map .d)))):=rfl
theorem Ut {ety es z t n m}:ev E (some t) V (.mksl ety es z true) [.d (.int .i64 n),.d (.int .i64 m)] K=(n=m∧0≤n∧n≤(Cm:Int)∧t < EF∧K (.own t (V.cn t)) (.fresh t (.row ety es false (List.replicate n.toNat z)))):=rfl
theorem Wr {es lo hi nl l rest}:ev E dst V (.slice es lo hi false) (.d (.list nl l) :: rest) K=(Cl es l∧Lv lo hi l.length rest fun a b=>K (.d (.list nl ((l.drop a).take (b - a)))) .none):=rfl
theorem Qy {es lo o g rest}:ev E dst V (.slice es lo true false) (.own o g :: rest) K=Hg (V.get o g) fun ety es' nl l=>o < EF∧es=es'∧Lv lo true l.length rest fun a b=>K (.own o (V.cn o)) (.fresh o (.row ety es nl ((l.drop a).take (b - a)))):=by
 simp only [ev,Bool.false_eq_true,if_false,if_true];cases V.get o g with
 |none=>rfl
 |some x=>cases x<;>rfl
theorem kg:ev E dst V .cap [.d (.list true [])] K=K (.d (.int .i64 0)) .none:=rfl
theorem jn {len:Nat} {C:Nat→Nat→Prop} {k h}:Lv false true len [.d (.int k h)] C=(0≤h∧h≤len∧C 0 h.toNat):=rfl
theorem jm {len:Nat} {C:Nat→Nat→Prop} {k h}:Lv true false len [.d (.int k h)] C=(0≤h∧h≤len∧C h.toNat len):=rfl
theorem jl {len:Nat} {C:Nat→Nat→Prop} {k h k' m}:Lv true true len [.d (.int k h),.d (.int k' m)] C=(0≤h∧h≤m∧m≤len∧C h.toNat m.toNat):=rfl
theorem Wx {o g}:ev E dst V (.len false) [.own o g] K=Hg (V.get o g) fun _ _ _ l=>K (.d (.int .i64 l.length)) .none:=by
 simp only [ev,Bool.false_eq_true,if_false,AV.lenL,AV.asList];cases V.get o g with
 |none=>rfl
 |some x=>cases x<;>rfl
theorem ZW {o g}:ev E dst V (.len false) [.mref .out o g] K=Et (V.get o g) fun _ _ _ ix _=>K (.d (.int .i64 ix.length)) .none:=by
 simp only [ev,Bool.false_eq_true,if_false,AV.lenL,AV.asList];cases V.get o g with
 |none=>rfl
 |some x=>cases x<;>first|rfl|simp [Jt,Et]
theorem ZV {j o g}:ev E dst V (.len false) [.mref (.row j) o g] K=Et (V.get o g) fun _ _ _ _ rows=>BO rows[j]? fun x=>K (.d (.int .i64 x.2.length)) .none:=by
 simp only [ev,Bool.false_eq_true,if_false,AV.lenL,AV.asList];cases V.get o g with
 |none=>rfl
 |some x=>cases x<;>first|rfl|(simp only [Et];rename_i rows;cases rows[j]?<;>rfl)
theorem ZX {off n cap o g}:ev E dst V (.len false) [.mref (.bs off n cap) o g] K=K (.d (.int .i64 n)) .none:=rfl
theorem dS {o g off k h k' m}:ev E dst V (.slice 1 true true true) [.ptr o g off,.d (.int k h),.d (.int k' m)] K=(0≤h∧h≤m∧K (.mref (.bs off h.toNat m.toNat) o g) .none):=rfl
theorem ZR {cs off k h k' m}:ev E dst V (.slice 1 true true true) [.dptr cs off,.d (.int k h),.d (.int k' m)] K=(0≤h∧h≤m∧off+m.toNat≤cs.length∧K (.d (.list false ((cs.drop off).take h.toNat))) .none):=rfl
theorem ZQ {es l k a k' h k'' m}:ev E dst V (.slice es true true true) [.d (.list false l),.d (.int k a),.d (.int k' h),.d (.int k'' m)] K=(Cl es l∧h=m∧0≤a∧a < h∧h≤l.length∧K (.ex ((l.drop a.toNat).take (h.toNat - a.toNat))) .none):=rfl
theorem Uy {es off n cap o g k i}:ev E dst V (.iaddrS es) [.mref (.bs off n cap) o g,.d (.int k i)] K=(es=1∧0≤i∧i < n∧K (.ptr o g (off+i.toNat)) .none):=rfl
theorem dV {n x}:ev E dst V (.eqnil n) [x,.d (.list true [])] K=BO (x.asList V) fun p=>K (.d (.bool (if n then !p.1 else p.1))) .none:=by
 simp only [ev];cases x.asList V<;>rfl
theorem ZT {m k a rest}:ev E dst V (.minmax m) (.d (.int k a) :: rest) K=BO (FP m k a rest) fun r=>K (.d (.int k r)) .none:=by
 simp only [ev];cases FP m k a rest<;>rfl
theorem W5 {ety es z own o g y}:ev E dst V (.app ety es z own) [.own o g,y] K=BO (Dp V z y) fun ys=>Hg (V.get o g) fun ety' es' nl l=>o < EF∧ety=ety'∧es=es'∧Cl es ys∧l.length+ys.length≤Cm ∧
  K (.own o (V.cn o)) (.fresh o (.row ety es (nl && ys.isEmpty) (l++ys))):=by
 simp only [ev];cases Dp V z y with
 |none=>rfl
 |some ys =>
  simp only [BO]
  cases V.get o g with
  |none=>rfl
  |some x=>cases x<;>rfl
theorem W6 {ety es z t y}:ev E (some t) V (.app ety es z true) [.d (.list true []),y] K=BO (Dp V z y) fun ys=>Cl es ys∧ys.length≤Cm∧t < EF∧K (.own t (V.cn t)) (.fresh t (.row ety es ys.isEmpty ys)):=by
 simp only [ev];cases Dp V z y<;>rfl
theorem ZY {ety es z t l y}:ev E (some t) V (.app ety es z true) [.ex l,y] K=BO (Dp V z y) fun ys=>Cl es (l++ys)∧l.length+ys.length≤Cm∧(ys=[]→K (.ex l) .none)∧(ys≠[]→t < EF∧K (.own t (V.cn t)) (.fresh t (.row ety es false (l++ys)))):=by
 simp only [ev];cases Dp V z y with
 |none=>rfl
 |some ys=>cases ys<;>simp [BO]
theorem W7 {ety es z l y}:ev E dst V (.app ety es z false) [.ex l,y] K=BO (Dp V z y) fun ys=>Cl es (l++ys)∧l.length+ys.length≤Cm∧K (.d (.list false (l++ys))) .none:=by
 simp only [ev];cases Dp V z y<;>rfl
theorem U0 {f cs args}:ev E dst V .callv (.fn f cs :: args) K=(Bl E.P f=true∧Dn E dst V f (args++cs) K):=rfl
theorem W4 {f cs args}:ev E dst V .callv (.d (.fn f cs) :: args) K=(Bl E.P f=true∧Dn E dst V f (args++cs.map .d) K):=rfl
theorem Zl {k k':IntKind} {a b:Int} {C:AV→Prop}:C6 .eql k k' a b C=(k=k'∧C (.d (.bool (decide (a=b))))):=rfl
theorem Zf {k k':IntKind} {a b:Int} {C:AV→Prop}:C6 .neq k k' a b C=(k=k'∧C (.d (.bool (!decide (a=b))))):=rfl
theorem Zh {k k':IntKind} {a b:Int} {C:AV→Prop}:C6 .lss k k' a b C=(k=k'∧C (.d (.bool (decide (a < b))))):=rfl
theorem Zi {k k':IntKind} {a b:Int} {C:AV→Prop}:C6 .leq k k' a b C=(k=k'∧C (.d (.bool (decide (a≤b))))):=rfl
theorem Zj {k k':IntKind} {a b:Int} {C:AV→Prop}:C6 .gtr k k' a b C=(k=k'∧C (.d (.bool (decide (b < a))))):=rfl
theorem Zk {k k':IntKind} {a b:Int} {C:AV→Prop}:C6 .geq k k' a b C=(k=k'∧C (.d (.bool (decide (b≤a))))):=rfl
theorem Zn {k k':IntKind} {a b:Int} {C:AV→Prop}:C6 .add k k' a b C=(k=k'∧C (.d (.int k (k.wrap (a+b))))):=rfl
theorem Za {k k':IntKind} {a b:Int} {C:AV→Prop}:C6 .sub k k' a b C=(k=k'∧C (.d (.int k (k.wrap (a - b))))):=rfl
theorem Zg {k k':IntKind} {a b:Int} {C:AV→Prop}:C6 .mul k k' a b C=(k=k'∧C (.d (.int k (k.wrap (a * b))))):=rfl
theorem Ze {k k':IntKind} {a b:Int} {C:AV→Prop}:C6 .quo k k' a b C=(k=k'∧b≠0∧C (.d (.int k (k.wrap (a.tdiv b))))):=rfl
theorem Zd {k k':IntKind} {a b:Int} {C:AV→Prop}:C6 .rem k k' a b C=(k=k'∧b≠0∧C (.d (.int k (a.tmod b)))):=rfl
theorem Zc {k k':IntKind} {a b:Int} {C:AV→Prop}:C6 .shl k k' a b C=(0≤b∧C (.d (.int k (k.wrap (a * 2 ^ (min b.toNat k.bits)))))):=rfl
theorem Zb {k k':IntKind} {a b:Int} {C:AV→Prop}:C6 .shr k k' a b C=(0≤b∧C (.d (.int k (a.fdiv (2 ^ (min b.toNat k.bits)))))):=rfl
theorem Zm {k k':IntKind} {a b:Int} {C:AV→Prop}:C6 .and k k' a b C=(k=k'∧C (.d (.int k (A5 .and k a b)))):=rfl
theorem dZ {k k':IntKind} {a b:Int} {C:AV→Prop}:C6 .or k k' a b C=(k=k'∧C (.d (.int k (A5 .or k a b)))):=rfl
theorem ZZ {k k':IntKind} {a b:Int} {C:AV→Prop}:C6 .xor k k' a b C=(k=k'∧C (.d (.int k (A5 .xor k a b)))):=rfl
end
end Go.Pw
end
section
namespace Go.Pw
set_option linter.unusedSimpArgs false
set_option linter.unusedVariables false
def Pq (x:Option Aa) (A:List (List D)→Nat→Prop):Prop:=match x with|some (.hist els n false)=>A els n|_=>False
theorem UP (els n A):Pq (some (.hist els n false)) A=A els n:=rfl
section
variable {E:Ci} {Q:Bv→BR→Prop} {s s':BR} {K:AV→Bt→Prop} {KS:BR→Prop}
theorem aK {o g:Nat} {xs:List AV} {V:AN}:Qp (.own o g) xs V K=Pq (V.get o g) fun els n=>BO (Fx xs) fun ds=>els[n]?=some ds∧K (.d (.bool true)) (.keep o g (.hist els (n+1) false))∧K (.d (.bool false)) (.keep o g (.hist els (n+1) true)):=by
 simp only [Qp,Pq]
 cases V.get o g with
 |none=>rfl
 |some x=>cases x with
  |hist els n st=>cases st<;>(simp only [BO];try (cases Fx xs<;>rfl))
  |_=>rfl
theorem Z4 {xs:List AV}:Fx xs=A7 AV.toD1 xs:=rfl
theorem Vf {sl:Nat→AV} {V:AN}:Fq [] sl V=true:=rfl
def eA (V:AN) (o:Nat):Bool:=match V.ob o with|some (g,_)=>g == 0|none=>false
theorem TU {k:Nat} {ks:List Nat} {sl:Nat→AV} {V:AN}:Fq (k :: ks) sl V=((sl k).sites.all (eA V) && Fq ks sl V):=rfl
def d_ (x:Option (Nat×Aa)):Bool:=match x with|some (g,_)=>g == 0|none=>false
theorem Z6 {ob cn o}:eA ⟨ob,cn⟩ o=d_ (ob o):=rfl
theorem VQ {g x}:d_ (some (g,x))=(g == 0):=rfl
theorem ed {m:List (Nat×(Nat×Aa))} {cn:Nat→Nat} {os:List Nat}:(AN.mk (BS m) cn).nrm os=⟨BS (D_ ⟨BS m,cn⟩ os os),fun _=>1⟩:=by
 have:=bl (fun _=>.undef) ⟨BS m,cn⟩ [] os
 have h2:((BR.mk (fun _=>.undef) ⟨BS m,cn⟩).nrm [] os).V=(AN.mk (BS m) cn).nrm os:=rfl
 rw [←h2,this]
theorem kD {o:Nat}:OT o=if 900000≤o∧o < 5000000 then o else o+5000000:=rfl
def mvL (l:List (Nat×AV)):List (Nat×AV):=l.map fun p=>(p.1,p.2.mv)
theorem gE:mvL []=[]:=rfl
theorem UU {k v l}:mvL ((k,v) :: l)=(k,v.mv) :: mvL l:=rfl
def WL (k:Nat) (g:Nat) (x:Option Aa) (r:List (Nat×(Nat×Aa))):List (Nat×(Nat×Aa)):=match x with
 |some y=>(OT k,(g,y)) :: r
 |none=>r.filter fun p=>!(p.1 == OT k)
def gD:List (Nat×(Nat×Aa))→List (Nat×(Nat×Aa))
 |[]=>[]
 |(k,(g,x)) :: l=>WL k g x.mv (gD l)
theorem gC:gD []=[]:=rfl
theorem UT {k g x l}:gD ((k,(g,x)) :: l)=WL k g x.mv (gD l):=rfl
theorem Y5 {k g y r}:WL k g (some y) r=(OT k,(g,y)) :: r:=rfl
theorem Nu {k g r}:WL k g none r=r.filter fun p=>!(p.1 == OT k):=rfl
theorem I7 (k:Nat):∀(l:List (Nat×(Nat×Aa))) (t:Nat),BS (l.filter fun p=>!(p.1 == k)) t=if t=k then none else BS l t
 |[],t=>by simp [BS]
 |p :: l,t=>by
  obtain⟨a,b⟩:=p
  have ih:=I7 k l t
  by_cases h:a=k
  ·subst h
   rw [List.filter_cons,if_neg (by simp),ih]
   by_cases ht:t=a
   ·simp [ht]
   ·simp [ht,BS]
  ·rw [List.filter_cons,if_pos (by simpa using h)]
   simp only [BS,ih]
   by_cases ht:t=a
   ·subst ht;simp [h]
   ·simp [ht]
theorem UY:∀(m:List (Nat×(Nat×Aa))) (o:Nat),BS (gD m) o=if OT (Nh o)=o then (match BS m (Nh o) with
   |some (g,x)=>match x.mv with|some y=>some (g,y)|none=>none
   |none=>none) else none
 |[],o=>by simp [gD,BS]
 |(k,(g,x)) :: m,o=>by
  have ih:=UY m o
  rw [UT]
  by_cases h:o=OT k
  ·subst h
   rw [HV,if_pos rfl]
   cases hx:x.mv with
   |some y=>simp [WL,BS,hx]
   |none=>rw [Nu,I7,if_pos rfl];simp [BS,hx]
  ·have hk:OT (Nh o)=o→Nh o≠k:=fun h1 h2=>h (by rw [←h1,h2])
   have hrest:BS (WL k g x.mv (gD m)) o=BS (gD m) o:=by
    cases x.mv with
    |some y=>simp [WL,BS,h]
    |none=>rw [Nu,I7,if_neg h]
   rw [hrest,ih]
   by_cases h1:OT (Nh o)=o
   ·rw [if_pos h1,if_pos h1]
    have:=hk h1
    simp [BS,this]
   ·rw [if_neg h1,if_neg h1]
theorem lR {l:List (Nat×AV)} {m:List (Nat×(Nat×Aa))} {cn:Nat→Nat}:(BR.mk (Eg l) ⟨BS m,cn⟩).mv=⟨Eg (mvL l),⟨BS (gD m),fun _=>1⟩⟩:=by
 have h1:(fun t=>(Eg l t).mv)=Eg (mvL l):=by
  funext t
  induction l with
  |nil=>rfl
  |cons p l ih =>
   obtain⟨k,v⟩:=p
   simp only [UU,Eg]
   by_cases h:t=k
   ·simp [h]
   ·simp only [if_neg h];exact ih
 show BR.mk (fun t=>(Eg l t).mv) _=_
 rw [h1]
 refine congrArg (fun ob=>BR.mk _ (AN.mk ob _)) ?_
 funext o
 exact(UY m o).symm
theorem Yy {xs}:(Aa.cells xs).mv=some (.cells (xs.map AV.mv)):=rfl
theorem mW {x}:(AV.d x).mv=.d x:=rfl
theorem kE {o g f}:(AV.ptr o g f).mv=.ptr (OT o) g f:=rfl
theorem Yt {V:AN} {os a b l}:(Aa.hist a b l).nrm V os=some (.hist a b l):=rfl
theorem Sd {A:BR→Prop}:OS A .normal s=A s:=rfl
theorem YW {sl:Nat→AV} {ds}:LV sl [] ds=sl:=by cases ds<;>rfl
theorem Vw {sl:Nat→AV} {p ps d ds}:LV sl (p :: ps) (d :: ds)=LV (B9 sl p (.d d)) ps ds:=rfl
def Yj {α:Type} (T:α→AN) (Inv:Nat→α→Prop) (PInv:Bv→α→Prop) (m:Nat) (gs:List EU) (ks os:List Nat) (sl:Nat→AV) (e:Bv) (s:BR):Prop :=
 CK gs s fun s'=>Fq ks sl (s'.V.nrm os)=true∧∃y,s'.V.nrm os=T y∧(match e with|.normal=>Inv m y|e=>PInv e y)
theorem UD {α:Type} {T:α→AN} {Inv PInv m gs ks os sl}:Yj T Inv PInv m gs ks os sl .normal s=CK gs s fun s'=>Fq ks sl (s'.V.nrm os)=true∧∃y,s'.V.nrm os=T y∧Inv m y:=rfl
theorem Yi {α:Type} {T:α→AN} {Inv PInv m gs ks os sl i}:Yj T Inv PInv m gs ks os sl (.exit i) s=CK gs s fun s'=>Fq ks sl (s'.V.nrm os)=true∧∃y,s'.V.nrm os=T y∧PInv (.exit i) y:=rfl
theorem ff {α:Type} (T:α→AN) (Inv:Nat→α→Prop) (PInv:Bv→α→Prop) (x0:α) {ps ks os:List Nat} {b:PC} {gs2:List EU} {os2:List Nat} {a:PC} {f:FuncId} {pre post:List D} {els:List (List D)} {sl1:Nat→AV} {s1:BR}
  (h2:(s1.nrm ks os).mv=⟨sl1,T x0⟩) (hr:(b.noR && a.noR)=true) (hs:Z7 E f pre post els) (hw:Fq ks sl1 (T x0)=true) (hI:Inv 0 x0)
  (step:∀n x ds,els[n]?=some ds→Inv n x→ps.length=ds.length∧pw E b (OS fun s2=>pw E a (Yj T Inv PInv (n+1) gs2 ks os2 sl1) s2) ⟨LV sl1 ps ds,T x⟩)
  (hend:∀x,Inv els.length x→Q .normal ⟨sl1,T x⟩) (hjump:∀e x,PInv e x→Q e ⟨sl1,T x⟩) :
  (b.noR && a.noR)=true∧∃els,Z7 E f pre post els∧∃(JJ:Nat→AN→Prop) (Pd:Bv→AN→Prop),
   Fq ks (s1.nrm ks os).mv.sl (s1.nrm ks os).mv.V=true∧JJ 0 (s1.nrm ks os).mv.V ∧
   (∀n V ds,V.cn=(fun _=>1)→els[n]?=some ds→JJ n V→ps.length=ds.length ∧
    pw E b (OS fun s2=>pw E a (jo JJ Pd (n+1) gs2 ks os2 (s1.nrm ks os).mv.sl) s2) ⟨LV (s1.nrm ks os).mv.sl ps ds,V⟩) ∧
   (∀V,V.cn=(fun _=>1)→JJ els.length V→Q .normal ⟨(s1.nrm ks os).mv.sl,V⟩) ∧
   ∀e V,V.cn=(fun _=>1)→Pd e V→Q e ⟨(s1.nrm ks os).mv.sl,V⟩:=by
 refine⟨hr,els,hs,fun n V=>∃x,V=T x∧Inv n x,fun e V=>∃x,V=T x∧PInv e x,?_,?_,?_,?_,?_⟩
 ·rw [h2];exact hw
 ·rw [h2];exact⟨x0,rfl,hI⟩
 ·rintro n V ds _ hds ⟨x,rfl,hx⟩
  obtain⟨k1,k2⟩:=step n x ds hds hx
  refine⟨k1,?_⟩
  rw [h2]
  refine F1 k2 fun e s2 h3=>?_
  cases e with
  |normal =>
   refine F1 h3 fun e s3 h4=>?_
   refine C2 (fun s4 h5=>?_) h4
   obtain⟨k3,y,k4,k5⟩:=h5
   refine⟨k3,?_⟩
   cases e with
   |normal=>exact⟨y,k4,k5⟩
   |exit i=>exact⟨y,k4,k5⟩
   |ret=>exact⟨y,k4,k5⟩
  |exit i=>exact h3
  |ret=>exact h3
 ·rintro V _ ⟨x,rfl,hx⟩
  rw [h2];exact hend x hx
 ·rintro e V _ ⟨x,rfl,hx⟩
  rw [h2];exact hjump e x hx
theorem Xf {α:Type} (T:α→AN) (Inv:Nat→α→Prop) (PInv:Bv→α→Prop) (x0:α) {gs:List EU} {g:Kq} {ps ks os:List Nat} {b:PC} {gs2:List EU} {os2:List Nat} {a:PC} {f:FuncId} {pre post:List D} {els:List (List D)} {sl1:Nat→AV}
  (h0:CK gs s fun s1=>(g.val s1.sl=.bnd f pre∧post=[]∨g.val s1.sl=.d (.fn f post)∧pre=[])∧(s1.nrm ks os).mv=⟨sl1,T x0⟩) (hT:∀x,(T x).cn=fun _=>1) (hb:Bl E.P f=true) (hr:(b.noR && a.noR)=true) (hs:Z7 E f pre post els) (hw:Fq ks sl1 (T x0)=true) (hI:Inv 0 x0)
  (step:∀n x ds,els[n]?=some ds→Inv n x→ps.length=ds.length∧pw E b (OS fun s2=>pw E a (Yj T Inv PInv (n+1) gs2 ks os2 sl1) s2) ⟨LV sl1 ps ds,T x⟩)
  (hend:∀x,Inv els.length x→Q .normal ⟨sl1,T x⟩) (hjump:∀e x,PInv e x→Q e ⟨sl1,T x⟩):pw E (.rngF gs g ps ks os b gs2 os2 a) Q s:=by
 refine C2 (fun s1 h=>?_) h0
 obtain⟨h1,h2⟩:=h
 suffices hk:UC E (g.val s1.sl) (fun f' pre' post'=>f'=f∧pre'=pre∧post'=post) by
  refine Ra (fun f' pre' post' hk=>?_) hk
  obtain⟨rfl,rfl,rfl⟩:=hk
  exact ff T Inv PInv x0 h2 hr hs hw hI step hend hjump
 unfold UC
 rcases h1 with⟨h1,rfl⟩|⟨h1,rfl⟩
 ·rw [h1];exact⟨hb,rfl,rfl,rfl⟩
 ·rw [h1];exact⟨hb,rfl,rfl,rfl⟩
end
end Go.Pw
end
