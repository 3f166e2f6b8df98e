/- A part of the proof. -/
import Derived.Test.YtibkjeolahobbaaGreatDoorPwZ
set_option linter.all false
section
namespace Go.Pw
def Ga (x:Option Ah) (A:List AV->Prop):Prop:=match x with|some (.cells cs)=>A cs|_=>False
def Eo (x:Option Ah) (A:Nat->Nat->Bool->List D->Prop):Prop:=match x with|some (.row a b c l)=>A a b c l|_=>False
def sJ (x:Option Ah) (A:qQ->List (D×D)->Prop):Prop:=match x with|some (.map t l)=>A t l|_=>False
def D3 (x:Option Ah) (A:Nat->Nat->Bool->List Nat->List (Bool×List D)->Prop):Prop:=match x with|some (.mat a b c d e)=>A a b c d e|_=>False
def Av {α:Type}(x:Option α) (A:α->Prop):Prop:=match x with|some v=>A v|none=>False
def sI {α:Type}(x:Option α) (A:α->Prop) (B:Prop):Prop:=match x with|some v=>A v|none=>B
theorem UI (cs A):Ga (some (.cells cs)) A=A cs:=rfl
theorem X9 (a b c l A):Eo (some (.row a b c l)) A=A a b c l:=rfl
theorem V7 {α:Type}(v:α) (A:α->Prop):Av (some v) A=A v:=rfl
section
variable {E:CB}{dst:Option Nat}{V:AN}{K:AV->BQ->Prop}
theorem pI {α:Type}{n:Nat}{cs:List α}{off:Nat}{mk:List α->AV}{one:α->AV}{C:AV->Prop}:BV true n cs off mk one C=(off+n<=cs.length/\C (mk ((cs.drop off).take n))):=by simp[BV]
theorem pJ {α:Type}{n:Nat}{cs:List α}{off:Nat}{mk:List α->AV}{one:α->AV}{C:AV->Prop}:BV false n cs off mk one C=Av cs[off]? fun v=>C (one v):=by
 simp only[BV,Bool.false_eq_true,if_false];cases cs[off]?<;>rfl
theorem Wh {ag n o g off}:ev E dst V (.load ag n) [.ptr o g off] K=Ga (V.get o g) fun cs=>BV ag n cs off .agg id (K · .none):=by
 simp only[ev];cases V.get o g with
 |none=>rfl
 |some x=>cases x<;>rfl
theorem Ue {ag n o g es i off}:ev E dst V (.load ag n) [.rptr o g es i off] K=Eo (V.get o g) fun _ es' _ l=>es=es'/\Av l[i]? fun x=>BV ag n x.cells off (fun cs=>.d (.agg cs)) .d (K · .none):=by
 simp only[ev];cases V.get o g with
 |none=>rfl
 |some x =>
  cases x with
  |row a b c l=>simp only[Eo];cases l[i]?<;>rfl
  |_=>rfl
theorem Uf {ag n cs off}:ev E dst V (.load ag n) [.dptr cs off] K=BV ag n cs off (fun cs=>.d (.agg cs)) .d (K · .none):=rfl
theorem cE {ag n cs}:ev E dst V (.load ag n) [.d (.ptr cs)] K=BV ag n cs 0 (fun cs=>.d (.agg cs)) .d (K · .none):=rfl
theorem Ua {n o g off v}:ev E dst V (.store n) [.ptr o g off,v] K=Ga (V.get o g) fun cs=>Av v.cells? fun vs=>vs.length=n/\off+n<=cs.length/\K .undef (.keep o g (.cells (BA cs off vs))):=by
 unfold ev Ga Av;simp only
 cases V.get o g with
 |none=>rfl
 |some x=>cases x<;>cases v.cells?<;>rfl
theorem Uh {off o g a}:ev E dst V (.faddr off) [.ptr o g a] K=K (.ptr o g (a+off)) .none:=rfl
theorem Sp {off cs a}:ev E dst V (.faddr off) [.dptr cs a] K=K (.dptr cs (a+off)) .none:=rfl
theorem Yt {off cs}:ev E dst V (.faddr off) [.d (.ptr cs)] K=K (.dptr cs off) .none:=rfl
theorem lf {nl:Bool}{l:List D}:ev E dst V (.len false) [.d (.list nl l)] K=K (.d (.int .i64 l.length)) .none:=rfl
theorem Ys {es nl l k i}:ev E dst V (.iaddrS es) [.d (.list nl l),.d (.int k i)] K=(0<=i/\i<l.length/\Av l[i.toNat]? fun x=>x.cells.length=es/\K (.dptr x.cells 0) .none):=by
 simp only[ev];cases l[i.toNat]?<;>rfl
theorem qA {t v}:ev E (some t) V .box [v] K=Av v.cells? fun cs=>t<D7/\K (.ptr t (V.cn t) 0) (.fresh t (.cells cs)):=by
 simp only[ev];cases v.cells?<;>rfl
theorem lh {k k' n}:ev E dst V (.conv k) [.d (.int k' n)] K=K (.d (.int k (k.wrap n))) .none:=rfl
theorem Yu {i vs}:ev E dst V (.extract i) [.tup vs] K=Av vs[i]? fun v=>K v .none:=by
 simp only[ev];cases vs[i]?<;>rfl
theorem lj {f xs}:ev E dst V (.call f) xs K=DF E dst V f xs K:=rfl
theorem Px {n o g es0 i off x}:ev E dst V (.store n) [.rptr o g es0 i off,.d x] K=Eo (V.get o g) fun ety es nl l=>Av (AV.d x).toD1 fun y=>es0=es/\Av l[i]? fun x=>y.cells.length=n/\off+n<=x.cells.length/\(n=es\/1<x.cells.length) /\
  K .undef (.keep o g (.row ety es nl (l.set i (if n=es then y else .agg (BA x.cells off y.cells))))):=by
 simp only[ev];cases V.get o g with
 |none=>rfl
 |some x =>
  cases x with
  |row a b c l=>simp only[Eo];cases (AV.d x).toD1 with
   |none=>rfl
   |some y=>simp only[Av];cases l[i]?<;>rfl
  |_=>rfl
theorem Ub {o g off}:ev E dst V .nilck [.ptr o g off] K=K (.ptr o g off) .none:=rfl
theorem Yl {cs}:ev E dst V .nilck [.d (.ptr cs)] K=K (.d (.ptr cs)) .none:=rfl
theorem Ug {es o g k i}:ev E dst V (.iaddrS es) [.own o g,.d (.int k i)] K=Eo (V.get o g) fun _ es' _ l=>es=es'/\0<=i/\i<l.length/\K (.rptr o g es i.toNat 0) .none:=by
 simp only[ev];cases V.get o g with
 |none=>rfl
 |some x=>cases x<;>rfl
theorem So {len es o g off k i}:ev E dst V (.iaddrA len es) [.ptr o g off,.d (.int k i)] K=(0<=i/\i<len/\K (.ptr o g (off+i.toNat * es)) .none):=rfl
theorem Rh {len es cs off k i}:ev E dst V (.iaddrA len es) [.dptr cs off,.d (.int k i)] K=(0<=i/\i<len/\K (.dptr cs (off+i.toNat * es)) .none):=rfl
theorem Wl {len es cs k i}:ev E dst V (.iaddrA len es) [.d (.ptr cs),.d (.int k i)] K=(0<=i/\i<len/\K (.dptr cs (i.toNat * es)) .none):=rfl
theorem Yr {len es ag cs k i}:ev E dst V (.index len es ag) [.d (.agg cs),.d (.int k i)] K=(0<=i/\i<len/\BV ag es cs (i.toNat * es) (fun cs=>.d (.agg cs)) .d (K · .none)):=rfl
theorem g9 {z pl xs}:ev E dst V (.build z pl) xs K=Av (L_ (z.map .d) (pl.zip xs)) fun cs=>pl.length=xs.length/\K (.agg cs) .none:=by
 simp only[ev];cases L_ (z.map .d) (pl.zip xs)<;>rfl
theorem Ud {es z n ix}:ev E dst V (.mkrow es z n ix) [] K=Av (FY es (List.replicate n z) (ix.zip [])) fun l=>ix.length=0/\K (.ex l) .none:=by
 simp only[ev];cases FY es (List.replicate n z) (ix.zip [])<;>rfl
theorem Ym {es z n ix x xs}:ev E dst V (.mkrow es z n ix) (.d x::xs) K=Av (FY es (List.replicate n z) (ix.zip (.d x::xs))) fun l=>ix.length=(.d x::xs).length/\K (.ex l) .none:=by
 simp only[ev];cases FY es (List.replicate n z) (ix.zip (.d x::xs))<;>rfl
theorem Wg {es z n ix x xs}:ev E dst V (.mkrow es z n ix) (.ex x::xs) K=Av (FY es (List.replicate n z) (ix.zip (.ex x::xs))) fun l=>ix.length=(.ex x::xs).length/\K (.ex l) .none:=by
 simp only[ev];cases FY es (List.replicate n z) (ix.zip (.ex x::xs))<;>rfl
theorem Uc {es z n ix q p}:ev E dst V (.mkrow es z n ix) [.own q p] K=(es=1/\n=1/\ix=[0]/\K (.ablk true [.own q p] 0) .none):=rfl
theorem X_ (a b c d e A):D3 (some (.mat a b c d e)) A=A a b c d e:=rfl
theorem Yn {ag n o g i}:ev E dst V (.load ag n) [.mref (.xp i) o g] K=D3 (V.get o g) fun _ _ _ ix _=>Av ix[i]? fun j=>BV ag n [.mref (.row j) o g] 0 .agg id (K · .none):=by
 simp only[ev];cases V.get o g with
 |none=>rfl
 |some x =>
  cases x with
  |mat a b c ix rows=>simp only[D3];cases ix[i]?<;>rfl
  |_=>rfl
theorem Yo {ag n o g j k}:ev E dst V (.load ag n) [.mref (.mp j k) o g] K=D3 (V.get o g) fun _ _ _ _ rows=>Av rows[j]? fun x=>Av x.2[k]? fun y=>BV ag n y.cells 0 (fun cs=>.d (.agg cs)) .d (K · .none):=by
 simp only[ev];cases V.get o g with
 |none=>rfl
 |some x =>
  cases x with
  |mat a b c ix rows=>simp only[D3];cases rows[j]? with
   |none=>rfl
   |some x=>simp only[Av];cases x.2[k]?<;>rfl
  |_=>rfl
theorem Yp {ag n cs off}:ev E dst V (.load ag n) [.ablk false cs off] K=BV ag n cs off .agg id (K · .none):=rfl
theorem Wd {n i o g j o' g'}:ev E dst V (.store n) [.mref (.xp i) o g,.mref (.row j) o' g'] K=D3 (V.get o g) fun e1 e2 nl ix rows=>n=1/\o'=o/\g'=g/\i<ix.length/\j<rows.length/\K .undef (.keep o g (.mat e1 e2 nl (ix.set i j) rows)):=by
 simp only[ev];cases V.get o g with
 |none=>rfl
 |some x=>cases x<;>rfl
theorem Wc {n i o g q p}:ev E dst V (.store n) [.mref (.xp i) o g,.own q p] K=D3 (V.get o g) fun e1 e2 nl ix rows=>Eo (V.get q p) fun e2' es2 nl2 l2=>n=1/\o<D7/\q<D7/\o≠q/\es2=1/\e2'=e2/\i<ix.length /\
   K .undef (.seq (.keep o g (.mat e1 e2 nl (ix.set i rows.length) (rows++[(nl2,l2)]))) (.fresh q (.row e2 1 true []))):=by
 simp only[ev];cases V.get o g with
 |none=>rfl
 |some x =>
  cases x with
  |mat a b c ix rows=>simp only[D3];cases V.get q p with
   |none=>rfl
   |some y=>cases y<;>rfl
  |_=>rfl
theorem We {n j k o g v}:ev E dst V (.store n) [.mref (.mp j k) o g,.d v] K=D3 (V.get o g) fun e1 e2 nl ix rows=>Av (AV.d v).toD1 fun y=>Av rows[j]? fun x=>n=1/\y.cells.length=1/\k<x.2.length/\K .undef (.keep o g (.mat e1 e2 nl ix (rows.set j (x.1,x.2.set k y)))):=by
 simp only[ev];cases V.get o g with
 |none=>rfl
 |some x =>
  cases x with
  |mat a b c ix rows=>simp only[D3];cases (AV.d v).toD1 with
   |none=>rfl
   |some y=>simp only[Av];cases rows[j]?<;>rfl
  |_=>rfl
theorem Wj {es o g k i}:ev E dst V (.iaddrS es) [.mref .out o g,.d (.int k i)] K=D3 (V.get o g) fun _ _ _ ix _=>es=1/\0<=i/\i<ix.length/\K (.mref (.xp i.toNat) o g) .none:=by
 simp only[ev];cases V.get o g with
 |none=>rfl
 |some x=>cases x<;>rfl
theorem Wi {es j o g k i}:ev E dst V (.iaddrS es) [.mref (.row j) o g,.d (.int k i)] K=D3 (V.get o g) fun _ _ _ _ rows=>Av rows[j]? fun x=>es=1/\0<=i/\i<x.2.length/\K (.mref (.mp j i.toNat) o g) .none:=by
 simp only[ev];cases V.get o g with
 |none=>rfl
 |some x =>
  cases x with
  |mat a b c ix rows=>simp only[D3];cases rows[j]?<;>rfl
  |_=>rfl
theorem g_ {ety es z own o g q p}:ev E dst V (.app ety es z own) [.mref .out o g,.ablk true [.own q p] 0] K=D3 (V.get o g) fun e1 e2 nl ix rows=>Eo (V.get q p) fun e2' es2 nl2 l2 =>
  z=none/\o<D7/\q<D7/\o≠q/\ety=e1/\es=1/\es2=1/\e2'=e2/\ix.length+1<=Cn /\
   K (.mref .out o (V.cn o)) (.seq (.fresh o (.mat e1 e2 false (ix++[rows.length]) (rows++[(nl2,l2)]))) (.fresh q (.row e2 1 true []))):=by
 simp only[ev];cases V.get o g with
 |none=>rfl
 |some x =>
  cases x with
  |mat a b c ix rows=>simp only[D3];cases V.get q p with
   |none=>rfl
   |some y=>cases y<;>rfl
  |_=>rfl
theorem b9 {ety es z n ix xs t}:ev E (some t) V (.mkrowO ety es z n ix) xs K=Av (FY es (List.replicate n z) (ix.zip xs)) fun l=>t<D7/\ix.length=xs.length/\K (.own t (V.cn t)) (.fresh t (.row ety es false l)):=by
 simp only[ev];cases FY es (List.replicate n z) (ix.zip xs)<;>rfl
theorem le {f xs}:ev E dst V (.mkfn f) xs K=K (.fn f xs) .none:=rfl
theorem lb {cs t}:ev E (some t) V (.zero cs) [] K=(t<D7/\K (.ptr t (V.cn t) 0) (.fresh t (.cells (cs.map .d)))):=rfl
theorem Wf {ety es z t n m}:ev E (some t) V (.mksl ety es z true) [.d (.int .i64 n),.d (.int .i64 m)] K=(n=m/\0<=n/\n<=(Cn:Int)/\t<D7/\K (.own t (V.cn t)) (.fresh t (.row ety es false (List.replicate n.toNat z)))):=rfl
theorem b8 {ety es z t n m}:ev E (some t) V (.mksl ety es z false) [.d (.int .i64 n),.d (.int .i64 m)] K=(n=m/\0<=n/\n<=(Cn:Int)/\K (.d (.list false (List.replicate n.toNat z))) .none):=rfl
theorem Yk {es lo hi nl l rest}:ev E dst V (.slice es lo hi false) (.d (.list nl l)::rest) K=(CJ es l/\MV lo hi l.length rest fun a b=>K (.d (.list nl ((l.drop a).take (b-a)))) .none):=rfl
theorem Sn {es lo o g rest}:ev E dst V (.slice es lo true false) (.own o g::rest) K=Eo (V.get o g) fun ety es' nl l=>o<D7/\es=es'/\MV lo true l.length rest fun a b=>K (.own o (V.cn o)) (.fresh o (.row ety es nl ((l.drop a).take (b-a)))):=by
 simp only[ev,Bool.false_eq_true,if_false,if_true];cases V.get o g with
 |none=>rfl
 |some x=>cases x<;>rfl
theorem p_:ev E dst V .cap [.d (.list true [])] K=K (.d (.int .i64 0)) .none:=rfl
theorem o6 {len:Nat}{C:Nat->Nat->Prop} {k h}:MV false true len [.d (.int k h)] C=(0<=h/\h<=len/\C 0 h.toNat):=rfl
theorem o5 {len:Nat}{C:Nat->Nat->Prop} {k h}:MV true false len [.d (.int k h)] C=(0<=h/\h<=len/\C h.toNat len):=rfl
theorem o4 {len:Nat}{C:Nat->Nat->Prop} {k h k' m}:MV true true len [.d (.int k h),.d (.int k' m)] C=(0<=h/\h<=m/\m<=len/\C h.toNat m.toNat):=rfl
theorem cJ {l}:ev E dst V (.len false) [.ex l] K=K (.d (.int .i64 l.length)) .none:=rfl
theorem Yq {o g}:ev E dst V (.len false) [.own o g] K=Eo (V.get o g) fun _ _ _ l=>K (.d (.int .i64 l.length)) .none:=by
 simp only[ev,Bool.false_eq_true,if_false,AV.lenL,AV.asList];cases V.get o g with
 |none=>rfl
 |some x=>cases x<;>rfl
theorem cH {o g}:ev E dst V (.len false) [.mref .out o g] K=D3 (V.get o g) fun _ _ _ ix _=>K (.d (.int .i64 ix.length)) .none:=by
 simp only[ev,Bool.false_eq_true,if_false,AV.lenL,AV.asList];cases V.get o g with
 |none=>rfl
 |some x=>cases x<;>first|rfl|simp[Gw,D3]
theorem cF {j o g}:ev E dst V (.len false) [.mref (.row j) o g] K=D3 (V.get o g) fun _ _ _ _ rows=>Av rows[j]? fun x=>K (.d (.int .i64 x.2.length)) .none:=by
 simp only[ev,Bool.false_eq_true,if_false,AV.lenL,AV.asList];cases V.get o g with
 |none=>rfl
 |some x=>cases x<;>first|rfl|(simp only[D3];rename_i rows;cases rows[j]?<;>rfl)
theorem cK {off n cap o g}:ev E dst V (.len false) [.mref (.bs off n cap) o g] K=K (.d (.int .i64 n)) .none:=rfl
theorem gw {o g off k h k' m}:ev E dst V (.slice 1 true true true) [.ptr o g off,.d (.int k h),.d (.int k' m)] K=(0<=h/\h<=m/\K (.mref (.bs off h.toNat m.toNat) o g) .none):=rfl
theorem gx {cs k h k' m}:ev E dst V (.slice 1 true true true) [.d (.ptr cs),.d (.int k h),.d (.int k' m)] K=(0<=h/\h<=m/\m<=cs.length/\K (.d (.list false (cs.take h.toNat))) .none):=rfl
theorem bz {cs off k h k' m}:ev E dst V (.slice 1 true true true) [.dptr cs off,.d (.int k h),.d (.int k' m)] K=(0<=h/\h<=m/\off+m.toNat<=cs.length/\K (.d (.list false ((cs.drop off).take h.toNat))) .none):=rfl
theorem bx {es l k a k' h k'' m}:ev E dst V (.slice es true true true) [.d (.list false l),.d (.int k a),.d (.int k' h),.d (.int k'' m)] K=(CJ es l/\h=m/\0<=a/\a<h/\h<=l.length/\K (.ex ((l.drop a.toNat).take (h.toNat-a.toNat))) .none):=rfl
theorem Wk {es off n cap o g k i}:ev E dst V (.iaddrS es) [.mref (.bs off n cap) o g,.d (.int k i)] K=(es=1/\0<=i/\i<n/\K (.ptr o g (off+i.toNat)) .none):=rfl
theorem Rg {len es o g es' j off k i}:ev E dst V (.iaddrA len es) [.rptr o g es' j off,.d (.int k i)] K=(0<=i/\i<len/\K (.rptr o g es' j (off+i.toNat * es)) .none):=rfl
theorem g7 {n x}:ev E dst V (.eqnil n) [x,.d (.list true [])] K=Av (x.asList V) fun p=>K (.d (.bool (if n then !p.1 else p.1))) .none:=by
 simp only[ev];cases x.asList V<;>rfl
theorem b_ {m k a rest}:ev E dst V (.minmax m) (.d (.int k a)::rest) K=Av (E_ m k a rest) fun r=>K (.d (.int k r)) .none:=by
 simp only[ev];cases E_ m k a rest<;>rfl
theorem Yw {ety es z own o g y}:ev E dst V (.app ety es z own) [.own o g,y] K=Av (DN V z y) fun ys=>Eo (V.get o g) fun ety' es' nl l=>o<D7/\ety=ety'/\es=es'/\CJ es ys/\l.length+ys.length<=Cn /\
  K (.own o (V.cn o)) (.fresh o (.row ety es (nl && ys.isEmpty) (l++ys))):=by
 simp only[ev];cases DN V z y with
 |none=>rfl
 |some ys =>
  simp only[Av]
  cases V.get o g with
  |none=>rfl
  |some x=>cases x<;>rfl
theorem Yx {ety es z t y}:ev E (some t) V (.app ety es z true) [.d (.list true []),y] K=Av (DN V z y) fun ys=>CJ es ys/\ys.length<=Cn/\t<D7/\K (.own t (V.cn t)) (.fresh t (.row ety es ys.isEmpty ys)):=by
 simp only[ev];cases DN V z y<;>rfl
theorem cN {ety es z t l y}:ev E (some t) V (.app ety es z true) [.ex l,y] K=Av (DN V z y) fun ys=>CJ es (l++ys)/\l.length+ys.length<=Cn/\(ys=[]->K (.ex l) .none)/\(ys≠[]->t<D7/\K (.own t (V.cn t)) (.fresh t (.row ety es false (l++ys)))):=by
 simp only[ev];cases DN V z y with
 |none=>rfl
 |some ys=>cases ys<;>simp[Av]
theorem Yy {ety es z l y}:ev E dst V (.app ety es z false) [.ex l,y] K=Av (DN V z y) fun ys=>CJ es (l++ys)/\l.length+ys.length<=Cn/\K (.d (.list false (l++ys))) .none:=by
 simp only[ev];cases DN V z y<;>rfl
theorem Wm {f cs args}:ev E dst V .callv (.fn f cs::args) K=(BL E.P f=true/\DF E dst V f (args++cs) K):=rfl
theorem Yv {f cs args}:ev E dst V .callv (.d (.fn f cs)::args) K=(BL E.P f=true/\DF E dst V f (args++cs.map .d) K):=rfl
theorem cj {k k':IntKind}{a b:Int}{C:AV->Prop}:Cf .eql k k' a b C=(k=k'/\C (.d (.bool (decide (a=b))))):=rfl
theorem cX {k k':IntKind}{a b:Int}{C:AV->Prop}:Cf .neq k k' a b C=(k=k'/\C (.d (.bool (!decide (a=b))))):=rfl
theorem ce {k k':IntKind}{a b:Int}{C:AV->Prop}:Cf .lss k k' a b C=(k=k'/\C (.d (.bool (decide (a<b))))):=rfl
theorem cf {k k':IntKind}{a b:Int}{C:AV->Prop}:Cf .leq k k' a b C=(k=k'/\C (.d (.bool (decide (a<=b))))):=rfl
theorem cg {k k':IntKind}{a b:Int}{C:AV->Prop}:Cf .gtr k k' a b C=(k=k'/\C (.d (.bool (decide (b<a))))):=rfl
theorem ci {k k':IntKind}{a b:Int}{C:AV->Prop}:Cf .geq k k' a b C=(k=k'/\C (.d (.bool (decide (b<=a))))):=rfl
theorem co {k k':IntKind}{a b:Int}{C:AV->Prop}:Cf .add k k' a b C=(k=k'/\C (.d (.int k (k.wrap (a+b))))):=rfl
theorem cP {k k':IntKind}{a b:Int}{C:AV->Prop}:Cf .sub k k' a b C=(k=k'/\C (.d (.int k (k.wrap (a-b))))):=rfl
theorem cY {k k':IntKind}{a b:Int}{C:AV->Prop}:Cf .mul k k' a b C=(k=k'/\C (.d (.int k (k.wrap (a*b))))):=rfl
theorem cV {k k':IntKind}{a b:Int}{C:AV->Prop}:Cf .quo k k' a b C=(k=k'/\b≠0/\C (.d (.int k (k.wrap (a.tdiv b))))):=rfl
theorem cU {k k':IntKind}{a b:Int}{C:AV->Prop}:Cf .rem k k' a b C=(k=k'/\b≠0/\C (.d (.int k (a.tmod b)))):=rfl
theorem cT {k k':IntKind}{a b:Int}{C:AV->Prop}:Cf .shl k k' a b C=(0<=b/\C (.d (.int k (k.wrap (a*2^(min b.toNat k.bits)))))):=rfl
theorem cQ {k k':IntKind}{a b:Int}{C:AV->Prop}:Cf .shr k k' a b C=(0<=b/\C (.d (.int k (a.fdiv (2^(min b.toNat k.bits)))))):=rfl
theorem cm {k k':IntKind}{a b:Int}{C:AV->Prop}:Cf .and k k' a b C=(k=k'/\C (.d (.int k (Ai .and k a b)))):=rfl
theorem hC {k k':IntKind}{a b:Int}{C:AV->Prop}:Cf .or k k' a b C=(k=k'/\C (.d (.int k (Ai .or k a b)))):=rfl
theorem cO {k k':IntKind}{a b:Int}{C:AV->Prop}:Cf .xor k k' a b C=(k=k'/\C (.d (.int k (Ai .xor k a b)))):=rfl
end
end Go.Pw
end
section
namespace Go.Pw
def RQ (x:Option Ah) (A:List (List D)->Nat->Prop):Prop:=match x with|some (.hist els n false)=>A els n|_=>False
theorem V9 (els n A):RQ (some (.hist els n false)) A=A els n:=rfl
section
variable {E:CB}{Q:BP->A1->Prop}{s s':A1}{K:AV->BQ->Prop}{KS:A1->Prop}
theorem dZ {o g:Nat}{xs:List AV}{V:AN}:Sb (.own o g) xs V K=RQ (V.get o g) fun els n=>Av (Ed xs) fun ds=>els[n]?=some ds/\K (.d (.bool true)) (.keep o g (.hist els (n+1) false))/\K (.d (.bool false)) (.keep o g (.hist els (n+1) true)):=by
 simp only[Sb,RQ]
 cases V.get o g with
 |none=>rfl
 |some x=>cases x with
  |hist els n st=>cases st<;>(simp only[Av];try (cases Ed xs<;>rfl))
  |_=>rfl
theorem dN {xs:List AV}:Ed xs=Ax AV.toD1 xs:=rfl
theorem Xc {sl:Nat->AV}{V:AN}:Fd [] sl V=true:=rfl
def jJ (V:AN) (o:Nat):Bool:=match V.ob o with|some (g,_)=>g == 0|none=>false
theorem VI {k:Nat}{ks:List Nat}{sl:Nat->AV}{V:AN}:Fd (k::ks) sl V=((sl k).sites.all (jJ V) && Fd ks sl V):=rfl
def jI (x:Option (Nat×Ah)):Bool:=match x with|some (g,_)=>g == 0|none=>false
theorem dQ {ob cn o}:jJ ⟨ob,cn⟩ o=jI (ob o):=rfl
theorem XL {g x}:jI (some (g,x))=(g == 0):=rfl
theorem jX {m:List (Nat×(Nat×Ah))}{cn:Nat->Nat}{os:List Nat}:(AN.mk (A' m) cn).nrm os=⟨A' (Dh ⟨A' m,cn⟩ os os),fun _=>1⟩:=by
 have:=fI (fun _=>.undef) ⟨A' m,cn⟩ [] os
 have h2:((A1.mk (fun _=>.undef) ⟨A' m,cn⟩).nrm [] os).V=(AN.mk (A' m) cn).nrm os:=rfl
 rw[←h2,this]
theorem pS {o:Nat}:PY o=if 900000<=o/\o<5000000 then o else o+5000000:=rfl
def mvL (l:List (Nat×AV)):List (Nat×AV):=l.map fun p=>(p.1,p.2.mv)
theorem kl:mvL []=[]:=rfl
theorem WB {k v l}:mvL ((k,v)::l)=(k,v.mv)::mvL l:=rfl
def YE (k:Nat) (g:Nat) (x:Option Ah) (r:List (Nat×(Nat×Ah))):List (Nat×(Nat×Ah)):=match x with
 |some y=>(PY k,(g,y))::r
 |none=>r.filter fun p=>!(p.1 == PY k)
def kk:List (Nat×(Nat×Ah))->List (Nat×(Nat×Ah))
 |[]=>[]
 |(k,(g,x))::l=>YE k g x.mv (kk l)
theorem kj:kk []=[]:=rfl
theorem WA {k g x l}:kk ((k,(g,x))::l)=YE k g x.mv (kk l):=rfl
theorem bT {k g y r}:YE k g (some y) r=(PY k,(g,y))::r:=rfl
theorem Ok {k g r}:YE k g none r=r.filter fun p=>!(p.1 == PY k):=rfl
theorem JD (k:Nat):∀(l:List (Nat×(Nat×Ah))) (t:Nat),A' (l.filter fun p=>!(p.1 == k)) t=if t=k then none else A' l t
 |[],t=>by simp[A']
 |p::l,t=>by
  obtain⟨a,b⟩:=p
  have ih:=JD k l t
  by_cases h:a=k
  ·subst h
   rw[List.filter_cons,if_neg (by simp),ih]
   by_cases ht:t=a
   ·simp[ht]
   ·simp[ht,A']
  ·rw[List.filter_cons,if_pos (by simpa using h)]
   simp only[A',ih]
   by_cases ht:t=a
   ·subst ht;simp[h]
   ·simp[ht]
theorem WH:∀(m:List (Nat×(Nat×Ah))) (o:Nat),A' (kk m) o=if PY (OP o)=o then (match A' m (OP o) with
   |some (g,x)=>match x.mv with|some y=>some (g,y)|none=>none
   |none=>none) else none
 |[],o=>by simp[kk,A']
 |(k,(g,x))::m,o=>by
  have ih:=WH m o
  rw[WA]
  by_cases h:o=PY k
  ·subst h
   rw[HR,if_pos rfl]
   cases hx:x.mv with
   |some y=>simp[YE,A',hx]
   |none=>rw[Ok,JD,if_pos rfl];simp[A',hx]
  ·have hk:PY (OP o)=o->OP o≠k:=fun h1 h2=>h (by rw[←h1,h2])
   have hrest:A' (YE k g x.mv (kk m)) o=A' (kk m) o:=by
    cases x.mv with
    |some y=>simp[YE,A',h]
    |none=>rw[Ok,JD,if_neg h]
   rw[hrest,ih]
   by_cases h1:PY (OP o)=o
   ·rw[if_pos h1,if_pos h1]
    have:=hk h1
    simp[A',this]
   ·rw[if_neg h1,if_neg h1]
theorem qq {l:List (Nat×AV)}{m:List (Nat×(Nat×Ah))}{cn:Nat->Nat}:(A1.mk (EJ l) ⟨A' m,cn⟩).mv=⟨EJ (mvL l),⟨A' (kk m),fun _=>1⟩⟩:=by
 have h1:(fun t=>(EJ l t).mv)=EJ (mvL l):=by
  funext t
  induction l with
  |nil=>rfl
  |cons p l ih =>
   obtain⟨k,v⟩:=p
   simp only[WB,EJ]
   by_cases h:t=k
   ·simp[h]
   ·simp only[if_neg h];exact ih
 show A1.mk (fun t=>(EJ l t).mv) _=_
 rw[h1]
 refine congrArg (fun ob=>A1.mk _ (AN.mk ob _)) ?_
 funext o
 exact(WH m o).symm
theorem bL {xs}:(Ah.cells xs).mv=some (.cells (xs.map AV.mv)):=rfl
theorem ry {x}:(AV.d x).mv=.d x:=rfl
theorem pT {o g f}:(AV.ptr o g f).mv=.ptr (PY o) g f:=rfl
theorem bF {V:AN} {os a b l}:(Ah.hist a b l).nrm V os=some (.hist a b l):=rfl
theorem UE {A:A1->Prop}:PV A .normal s=A s:=rfl
theorem al {sl:Nat->AV} {ds}:Lu sl [] ds=sl:=by cases ds<;>rfl
theorem Xu {sl:Nat->AV} {p ps d ds}:Lu sl (p::ps) (d::ds)=Lu (Bs sl p (.d d)) ps ds:=rfl
def a8 {α:Type}(T:α->AN) (Inv:Nat->α->Prop) (PInv:BP->α->Prop) (m:Nat) (gs:List EG) (ks os:List Nat) (sl:Nat->AV) (e:BP) (s:A1):Prop :=
 B1 gs s fun s'=>Fd ks sl (s'.V.nrm os)=true/\∃y,s'.V.nrm os=T y/\(match e with|.normal=>Inv m y|e=>PInv e y)
theorem Vz {α:Type}{T:α->AN} {Inv PInv m gs ks os sl}:a8 T Inv PInv m gs ks os sl .normal s=B1 gs s fun s'=>Fd ks sl (s'.V.nrm os)=true/\∃y,s'.V.nrm os=T y/\Inv m y:=rfl
theorem a7 {α:Type}{T:α->AN} {Inv PInv m gs ks os sl i}:a8 T Inv PInv m gs ks os sl (.exit i) s=B1 gs s fun s'=>Fd ks sl (s'.V.nrm os)=true/\∃y,s'.V.nrm os=T y/\PInv (.exit i) y:=rfl
theorem kM {α:Type}(T:α->AN) (Inv:Nat->α->Prop) (PInv:BP->α->Prop) (x0:α) {ps ks os:List Nat}{b:PC}{gs2:List EG}{os2:List Nat}{a:PC}{f:FuncId}{pre post:List D}{els:List (List D)}{sl1:Nat->AV}{s1:A1}
  (h2:(s1.nrm ks os).mv=⟨sl1,T x0⟩) (hr:(b.noR && a.noR)=true) (hs:dR E f pre post els) (hw:Fd ks sl1 (T x0)=true) (hI:Inv 0 x0)
  (step:∀n x ds,els[n]?=some ds->Inv n x->ps.length=ds.length/\pw E b (PV fun s2=>pw E a (a8 T Inv PInv (n+1) gs2 ks os2 sl1) s2) ⟨Lu sl1 ps ds,T x⟩)
  (hend:∀x,Inv els.length x->Q .normal ⟨sl1,T x⟩) (hjump:∀e x,PInv e x->Q e ⟨sl1,T x⟩) :
  (b.noR && a.noR)=true/\∃els,dR E f pre post els/\∃(JJ:Nat->AN->Prop) (Pd:BP->AN->Prop),
   Fd ks (s1.nrm ks os).mv.sl (s1.nrm ks os).mv.V=true/\JJ 0 (s1.nrm ks os).mv.V /\
   (∀n V ds,V.cn=(fun _=>1)->els[n]?=some ds->JJ n V->ps.length=ds.length /\
    pw E b (PV fun s2=>pw E a (o7 JJ Pd (n+1) gs2 ks os2 (s1.nrm ks os).mv.sl) s2) ⟨Lu (s1.nrm ks os).mv.sl ps ds,V⟩) /\
   (∀V,V.cn=(fun _=>1)->JJ els.length V->Q .normal ⟨(s1.nrm ks os).mv.sl,V⟩) /\
   ∀e V,V.cn=(fun _=>1)->Pd e V->Q e ⟨(s1.nrm ks os).mv.sl,V⟩:=by
 refine⟨hr,els,hs,fun n V=>∃x,V=T x/\Inv n x,fun e V=>∃x,V=T x/\PInv e x,?_,?_,?_,?_,?_⟩
 ·rw[h2];exact hw
 ·rw[h2];exact⟨x0,rfl,hI⟩
 ·rintro n V ds _ hds ⟨x,rfl,hx⟩
  obtain⟨k1,k2⟩:=step n x ds hds hx
  refine⟨k1,?_⟩
  rw[h2]
  refine Fr k2 fun e s2 h3=>?_
  cases e with
  |normal =>
   refine Fr h3 fun e s3 h4=>?_
   refine Cy (fun s4 h5=>?_) h4
   obtain⟨k3,y,k4,k5⟩:=h5
   refine⟨k3,?_⟩
   cases e with
   |normal=>exact⟨y,k4,k5⟩
   |exit i=>exact⟨y,k4,k5⟩
   |ret=>exact⟨y,k4,k5⟩
  |exit i=>exact h3
  |ret=>exact h3
 ·rintro V _ ⟨x,rfl,hx⟩
  rw[h2];exact hend x hx
 ·rintro e V _ ⟨x,rfl,hx⟩
  rw[h2];exact hjump e x hx
theorem Zf {α:Type}(T:α->AN) (Inv:Nat->α->Prop) (PInv:BP->α->Prop) (x0:α) {gs:List EG}{g:Jq}{ps ks os:List Nat}{b:PC}{gs2:List EG}{os2:List Nat}{a:PC}{f:FuncId}{pre post:List D}{els:List (List D)}{sl1:Nat->AV}
  (h0:B1 gs s fun s1=>(g.val s1.sl=.bnd f pre/\post=[]\/g.val s1.sl=.d (.fn f post)/\pre=[])/\(s1.nrm ks os).mv=⟨sl1,T x0⟩) (hT:∀x,(T x).cn=fun _=>1) (hb:BL E.P f=true) (hr:(b.noR && a.noR)=true) (hs:dR E f pre post els) (hw:Fd ks sl1 (T x0)=true) (hI:Inv 0 x0)
  (step:∀n x ds,els[n]?=some ds->Inv n x->ps.length=ds.length/\pw E b (PV fun s2=>pw E a (a8 T Inv PInv (n+1) gs2 ks os2 sl1) s2) ⟨Lu sl1 ps ds,T x⟩)
  (hend:∀x,Inv els.length x->Q .normal ⟨sl1,T x⟩) (hjump:∀e x,PInv e x->Q e ⟨sl1,T x⟩):pw E (.rngF gs g ps ks os b gs2 os2 a) Q s:=by
 refine Cy (fun s1 h=>?_) h0
 obtain⟨h1,h2⟩:=h
 suffices hk:Vy E (g.val s1.sl) (fun f' pre' post'=>f'=f/\pre'=pre/\post'=post) by
  refine TB (fun f' pre' post' hk=>?_) hk
  obtain⟨rfl,rfl,rfl⟩:=hk
  exact kM T Inv PInv x0 h2 hr hs hw hI step hend hjump
 unfold Vy
 rcases h1 with⟨h1,rfl⟩|⟨h1,rfl⟩
 ·rw[h1];exact⟨hb,rfl,rfl,rfl⟩
 ·rw[h1];exact⟨hb,rfl,rfl,rfl⟩
end
end Go.Pw
end
