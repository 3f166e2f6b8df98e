/- A part of the proof. -/
import Derived.Test.YtibkjeolahobbaaGreatDoorPwZ
set_option linter.all false
section
namespace Go.Pw
def G_ (x:Option Ak) (A:List AV->Prop):Prop:=match x with|some (.cells cs)=>A cs|_=>False
def H8 (x:Option Ak) (A:Nat->Nat->Bool->List D->Prop):Prop:=match x with|some (.row a b c l)=>A a b c l|_=>False
def Mg (x:Option Ak) (A:Nat->Nat->Bool->List D->Prop) (B:Nat->List D->Nat->Nat->Nat->Prop):Prop:=match x with|some (.row a b c l)=>A a b c l|some (.rowH a l i q p)=>B a l i q p|_=>False
def p_ (x:Option Ak) (A:M7->List (D×D)->Prop):Prop:=match x with|some (.map t l)=>A t l|_=>False
def FG (x:Option Ak) (A:Nat->Nat->Bool->List Nat->List (Bool×List D)->Prop):Prop:=match x with|some (.mat a b c d e)=>A a b c d e|_=>False
def BV {α:Type}(x:Option α) (A:α->Prop):Prop:=match x with|some v=>A v|none=>False
def p9 {α:Type}(x:Option α) (A:α->Prop) (B:Prop):Prop:=match x with|some v=>A v|none=>B
theorem Tx (cs A):G_ (some (.cells cs)) A=A cs:=rfl
theorem Xa (a b c l A):H8 (some (.row a b c l)) A=A a b c l:=rfl
theorem Xb (a b c l A B):Mg (some (.row a b c l)) A B=A a b c l:=rfl
theorem Va {α:Type}(v:α) (A:α->Prop):BV (some v) A=A v:=rfl
section
variable {E:Co}{dst:Option Nat}{V:AM}{K:AV->Bw->Prop}
theorem mo {α:Type}{n:Nat}{cs:List α}{off:Nat}{mk:List α->AV}{one:α->AV}{C:AV->Prop}:B1 true n cs off mk one C=(off+n<=cs.length/\C (mk ((cs.drop off).take n))):=by simp[B1]
theorem mq {α:Type}{n:Nat}{cs:List α}{off:Nat}{mk:List α->AV}{one:α->AV}{C:AV->Prop}:B1 false n cs off mk one C=BV cs[off]? fun v=>C (one v):=by
 simp only[B1,Bool.false_eq_true,if_false];cases cs[off]?<;>rfl
theorem WB {ag n o g off}:ev E dst V (.load ag n) [.ptr o g off] K=G_ (V.get o g) fun cs=>B1 ag n cs off .agg id (K · .none):=by
 simp only[ev];cases V.get o g with
 |none=>rfl
 |some x=>cases x<;>rfl
theorem UB {ag n o g es i off}:ev E dst V (.load ag n) [.rptr o g es i off] K=Mg (V.get o g) (fun _ es' _ l=>es=es'/\BV l[i]? fun x=>B1 ag n x.cells off (fun cs=>.d (.agg cs)) .d (K · .none))
  fun _ l k q p=>es=1/\(i=k->B1 ag n [.own q p] off .agg id (K · .none))/\(i≠k->BV l[i]? fun x=>B1 ag n x.cells off (fun cs=>.d (.agg cs)) .d (K · .none)):=by
 simp only[ev];cases V.get o g with
 |none=>rfl
 |some x =>
  cases x with
  |row a b c l=>simp only[Mg];cases l[i]?<;>rfl
  |rowH a l k q p=>simp only[Mg];cases l[i]?<;>rfl
  |_=>rfl
theorem UC {ag n cs off}:ev E dst V (.load ag n) [.dptr cs off] K=B1 ag n cs off (fun cs=>.d (.agg cs)) .d (K · .none):=rfl
theorem bI {ag n cs}:ev E dst V (.load ag n) [.d (.ptr cs)] K=B1 ag n cs 0 (fun cs=>.d (.agg cs)) .d (K · .none):=rfl
theorem T8 {n o g off v}:ev E dst V (.store n) [.ptr o g off,v] K=G_ (V.get o g) fun cs=>BV v.cells? fun vs=>vs.length=n/\off+n<=cs.length/\K .undef (.keep o g (.cells (Bh cs off vs))):=by
 unfold ev G_ BV;simp only
 cases V.get o g with
 |none=>rfl
 |some x=>cases x<;>cases v.cells?<;>rfl
theorem UE {off o g a}:ev E dst V (.faddr off) [.ptr o g a] K=K (.ptr o g (a+off)) .none:=rfl
theorem SM {off cs a}:ev E dst V (.faddr off) [.dptr cs a] K=K (.dptr cs (a+off)) .none:=rfl
theorem YL {off cs}:ev E dst V (.faddr off) [.d (.ptr cs)] K=K (.dptr cs off) .none:=rfl
theorem kb {nl:Bool}{l:List D}:ev E dst V (.len false) [.d (.list nl l)] K=K (.d (.int .i64 l.length)) .none:=rfl
theorem YK {es nl l k i}:ev E dst V (.iaddrS es) [.d (.list nl l),.d (.int k i)] K=(0<=i/\i<l.length/\BV l[i.toNat]? fun x=>x.cells.length=es/\K (.dptr x.cells 0) .none):=by
 simp only[ev];cases l[i.toNat]?<;>rfl
theorem nq {t v}:ev E (some t) V .box [v] K=BV v.cells? fun cs=>t<EW/\K (.ptr t (V.cn t) 0) (.fresh t (.cells cs)):=by
 simp only[ev];cases v.cells?<;>rfl
theorem kc {k k' n}:ev E dst V (.conv k) [.d (.int k' n)] K=K (.d (.int k (k.wrap n))) .none:=rfl
theorem YM {i vs}:ev E dst V (.extract i) [.tup vs] K=BV vs[i]? fun v=>K v .none:=by
 simp only[ev];cases vs[i]?<;>rfl
theorem kd {f xs}:ev E dst V (.call f) xs K=EA E dst V f xs K:=rfl
theorem P1 {n o g es0 i off x}:ev E dst V (.store n) [.rptr o g es0 i off,.d x] K=H8 (V.get o g) fun ety es nl l=>BV (AV.d x).toD1 fun y=>es0=es/\BV l[i]? fun x=>y.cells.length=n/\off+n<=x.cells.length/\(n=es\/1<x.cells.length) /\
  K .undef (.keep o g (.row ety es nl (l.set i (if n=es then y else .agg (Bh x.cells off y.cells))))):=by
 simp only[ev];cases V.get o g with
 |none=>rfl
 |some x =>
  cases x with
  |row a b c l=>simp only[H8];cases (AV.d x).toD1 with
   |none=>rfl
   |some y=>simp only[BV];cases l[i]?<;>rfl
  |_=>rfl
theorem T9 {o g off}:ev E dst V .nilck [.ptr o g off] K=K (.ptr o g off) .none:=rfl
theorem YD {cs}:ev E dst V .nilck [.d (.ptr cs)] K=K (.d (.ptr cs)) .none:=rfl
theorem UD {es o g k i}:ev E dst V (.iaddrS es) [.own o g,.d (.int k i)] K=Mg (V.get o g) (fun _ es' _ l=>es=es'/\0<=i/\i<l.length/\K (.rptr o g es i.toNat 0) .none) fun _ l _ _ _=>es=1/\0<=i/\i<l.length/\K (.rptr o g es i.toNat 0) .none:=by
 simp only[ev];cases V.get o g with
 |none=>rfl
 |some x=>cases x<;>rfl
theorem SL {len es o g off k i}:ev E dst V (.iaddrA len es) [.ptr o g off,.d (.int k i)] K=(0<=i/\i<len/\K (.ptr o g (off+i.toNat * es)) .none):=rfl
theorem RK {len es cs off k i}:ev E dst V (.iaddrA len es) [.dptr cs off,.d (.int k i)] K=(0<=i/\i<len/\K (.dptr cs (off+i.toNat * es)) .none):=rfl
theorem WG {len es cs k i}:ev E dst V (.iaddrA len es) [.d (.ptr cs),.d (.int k i)] K=(0<=i/\i<len/\K (.dptr cs (i.toNat * es)) .none):=rfl
theorem YJ {len es ag cs k i}:ev E dst V (.index len es ag) [.d (.agg cs),.d (.int k i)] K=(0<=i/\i<len/\B1 ag es cs (i.toNat * es) (fun cs=>.d (.agg cs)) .d (K · .none)):=rfl
theorem gG {z pl xs}:ev E dst V (.build z pl) xs K=BV (MH (z.map .d) (pl.zip xs)) fun cs=>pl.length=xs.length/\K (.agg cs) .none:=by
 simp only[ev];cases MH (z.map .d) (pl.zip xs)<;>rfl
theorem UA {es z n ix}:ev E dst V (.mkrow es z n ix) [] K=BV (GD es (List.replicate n z) (ix.zip [])) fun l=>ix.length=0/\K (.ex l) .none:=by
 simp only[ev];cases GD es (List.replicate n z) (ix.zip [])<;>rfl
theorem YE {es z n ix x xs}:ev E dst V (.mkrow es z n ix) (.d x::xs) K=BV (GD es (List.replicate n z) (ix.zip (.d x::xs))) fun l=>ix.length=(.d x::xs).length/\K (.ex l) .none:=by
 simp only[ev];cases GD es (List.replicate n z) (ix.zip (.d x::xs))<;>rfl
theorem WA {es z n ix x xs}:ev E dst V (.mkrow es z n ix) (.ex x::xs) K=BV (GD es (List.replicate n z) (ix.zip (.ex x::xs))) fun l=>ix.length=(.ex x::xs).length/\K (.ex l) .none:=by
 simp only[ev];cases GD es (List.replicate n z) (ix.zip (.ex x::xs))<;>rfl
theorem T_ {es z n ix q p}:ev E dst V (.mkrow es z n ix) [.own q p] K=(es=1/\n=1/\ix=[0]/\K (.ablk true [.own q p] 0) .none):=rfl
theorem Xc (a b c d e A):FG (some (.mat a b c d e)) A=A a b c d e:=rfl
theorem YF {ag n o g i}:ev E dst V (.load ag n) [.mref (.xp i) o g] K=FG (V.get o g) fun _ _ _ ix _=>BV ix[i]? fun j=>B1 ag n [.mref (.row j) o g] 0 .agg id (K · .none):=by
 simp only[ev];cases V.get o g with
 |none=>rfl
 |some x =>
  cases x with
  |mat a b c ix rows=>simp only[FG];cases ix[i]?<;>rfl
  |_=>rfl
theorem YG {ag n o g j k}:ev E dst V (.load ag n) [.mref (.mp j k) o g] K=FG (V.get o g) fun _ _ _ _ rows=>BV rows[j]? fun x=>BV x.2[k]? fun y=>B1 ag n y.cells 0 (fun cs=>.d (.agg cs)) .d (K · .none):=by
 simp only[ev];cases V.get o g with
 |none=>rfl
 |some x =>
  cases x with
  |mat a b c ix rows=>simp only[FG];cases rows[j]? with
   |none=>rfl
   |some x=>simp only[BV];cases x.2[k]?<;>rfl
  |_=>rfl
theorem YH {ag n cs off}:ev E dst V (.load ag n) [.ablk false cs off] K=B1 ag n cs off .agg id (K · .none):=rfl
theorem V8 {n i o g j o' g'}:ev E dst V (.store n) [.mref (.xp i) o g,.mref (.row j) o' g'] K=FG (V.get o g) fun e1 e2 nl ix rows=>n=1/\o'=o/\g'=g/\i<ix.length/\j<rows.length/\K .undef (.keep o g (.mat e1 e2 nl (ix.set i j) rows)):=by
 simp only[ev];cases V.get o g with
 |none=>rfl
 |some x=>cases x<;>rfl
theorem V9 {n j k o g v}:ev E dst V (.store n) [.mref (.mp j k) o g,.d v] K=FG (V.get o g) fun e1 e2 nl ix rows=>BV (AV.d v).toD1 fun y=>BV rows[j]? fun x=>n=1/\y.cells.length=1/\k<x.2.length/\K .undef (.keep o g (.mat e1 e2 nl ix (rows.set j (x.1,x.2.set k y)))):=by
 simp only[ev];cases V.get o g with
 |none=>rfl
 |some x =>
  cases x with
  |mat a b c ix rows=>simp only[FG];cases (AV.d v).toD1 with
   |none=>rfl
   |some y=>simp only[BV];cases rows[j]?<;>rfl
  |_=>rfl
theorem WD {es o g k i}:ev E dst V (.iaddrS es) [.mref .out o g,.d (.int k i)] K=FG (V.get o g) fun _ _ _ ix _=>es=1/\0<=i/\i<ix.length/\K (.mref (.xp i.toNat) o g) .none:=by
 simp only[ev];cases V.get o g with
 |none=>rfl
 |some x=>cases x<;>rfl
theorem WC {es j o g k i}:ev E dst V (.iaddrS es) [.mref (.row j) o g,.d (.int k i)] K=FG (V.get o g) fun _ _ _ _ rows=>BV rows[j]? fun x=>es=1/\0<=i/\i<x.2.length/\K (.mref (.mp j i.toNat) o g) .none:=by
 simp only[ev];cases V.get o g with
 |none=>rfl
 |some x =>
  cases x with
  |mat a b c ix rows=>simp only[FG];cases rows[j]?<;>rfl
  |_=>rfl
theorem gH {ety es z own o g q p}:ev E dst V (.app ety es z own) [.mref .out o g,.ablk true [.own q p] 0] K=FG (V.get o g) fun e1 e2 nl ix rows=>H8 (V.get q p) fun e2' es2 nl2 l2 =>
  z=none/\o<EW/\q<EW/\o≠q/\ety=e1/\es=1/\es2=1/\e2'=e2/\ix.length+1<=Cx /\
   K (.mref .out o (V.cn o)) (.seq (.fresh o (.mat e1 e2 false (ix++[rows.length]) (rows++[(nl2,l2)]))) (.fresh q (.row e2 1 true []))):=by
 simp only[ev];cases V.get o g with
 |none=>rfl
 |some x =>
  cases x with
  |mat a b c ix rows=>simp only[FG];cases V.get q p with
   |none=>rfl
   |some y=>cases y<;>rfl
  |_=>rfl
theorem bG {ety es z n ix xs t}:ev E (some t) V (.mkrowO ety es z n ix) xs K=BV (GD es (List.replicate n z) (ix.zip xs)) fun l=>t<EW/\ix.length=xs.length/\K (.own t (V.cn t)) (.fresh t (.row ety es false l)):=by
 simp only[ev];cases GD es (List.replicate n z) (ix.zip xs)<;>rfl
theorem ka {f xs}:ev E dst V (.mkfn f) xs K=K (.fn f xs) .none:=rfl
theorem kX {cs t}:ev E (some t) V (.zero cs) [] K=(t<EW/\K (.ptr t (V.cn t) 0) (.fresh t (.cells (cs.map .d)))):=rfl
theorem V_ {ety es z t n m}:ev E (some t) V (.mksl ety es z true) [.d (.int .i64 n),.d (.int .i64 m)] K=(n=m/\0<=n/\n<=(Cx:Int)/\t<EW/\K (.own t (V.cn t)) (.fresh t (.row ety es false (List.replicate n.toNat z)))):=rfl
theorem YC {es lo hi nl l rest}:ev E dst V (.slice es lo hi false) (.d (.list nl l)::rest) K=(Cs es l/\Md lo hi l.length rest fun a b=>K (.d (.list nl ((l.drop a).take (b-a)))) .none):=rfl
theorem SK {es lo o g rest}:ev E dst V (.slice es lo true false) (.own o g::rest) K=H8 (V.get o g) fun ety es' nl l=>o<EW/\es=es'/\Md lo true l.length rest fun a b=>K (.own o (V.cn o)) (.fresh o (.row ety es nl ((l.drop a).take (b-a)))):=by
 simp only[ev,Bool.false_eq_true,if_false,if_true];cases V.get o g with
 |none=>rfl
 |some x=>cases x<;>rfl
theorem np:ev E dst V .cap [.d (.list true [])] K=K (.d (.int .i64 0)) .none:=rfl
theorem mX {len:Nat}{C:Nat->Nat->Prop} {k h}:Md false true len [.d (.int k h)] C=(0<=h/\h<=len/\C 0 h.toNat):=rfl
theorem mW {len:Nat}{C:Nat->Nat->Prop} {k h}:Md true false len [.d (.int k h)] C=(0<=h/\h<=len/\C h.toNat len):=rfl
theorem mV {len:Nat}{C:Nat->Nat->Prop} {k h k' m}:Md true true len [.d (.int k h),.d (.int k' m)] C=(0<=h/\h<=m/\m<=len/\C h.toNat m.toNat):=rfl
theorem YI {o g}:ev E dst V (.len false) [.own o g] K=H8 (V.get o g) fun _ _ _ l=>K (.d (.int .i64 l.length)) .none:=by
 simp only[ev,Bool.false_eq_true,if_false,AV.lenL,AV.asList];cases V.get o g with
 |none=>rfl
 |some x=>cases x<;>rfl
theorem bK {o g}:ev E dst V (.len false) [.mref .out o g] K=FG (V.get o g) fun _ _ _ ix _=>K (.d (.int .i64 ix.length)) .none:=by
 simp only[ev,Bool.false_eq_true,if_false,AV.lenL,AV.asList];cases V.get o g with
 |none=>rfl
 |some x=>cases x<;>first|rfl|simp[KM,FG]
theorem bJ {j o g}:ev E dst V (.len false) [.mref (.row j) o g] K=FG (V.get o g) fun _ _ _ _ rows=>BV rows[j]? fun x=>K (.d (.int .i64 x.2.length)) .none:=by
 simp only[ev,Bool.false_eq_true,if_false,AV.lenL,AV.asList];cases V.get o g with
 |none=>rfl
 |some x=>cases x<;>first|rfl|(simp only[FG];rename_i rows;cases rows[j]?<;>rfl)
theorem bL {off n cap o g}:ev E dst V (.len false) [.mref (.bs off n cap) o g] K=K (.d (.int .i64 n)) .none:=rfl
theorem gA {o g off k h k' m}:ev E dst V (.slice 1 true true true) [.ptr o g off,.d (.int k h),.d (.int k' m)] K=(0<=h/\h<=m/\K (.mref (.bs off h.toNat m.toNat) o g) .none):=rfl
theorem gB {cs k h k' m}:ev E dst V (.slice 1 true true true) [.d (.ptr cs),.d (.int k h),.d (.int k' m)] K=(0<=h/\h<=m/\m<=cs.length/\K (.d (.list false (cs.take h.toNat))) .none):=rfl
theorem bF {cs off k h k' m}:ev E dst V (.slice 1 true true true) [.dptr cs off,.d (.int k h),.d (.int k' m)] K=(0<=h/\h<=m/\off+m.toNat<=cs.length/\K (.d (.list false ((cs.drop off).take h.toNat))) .none):=rfl
theorem bE {es l k a k' h k'' m}:ev E dst V (.slice es true true true) [.d (.list false l),.d (.int k a),.d (.int k' h),.d (.int k'' m)] K=(Cs es l/\h=m/\0<=a/\a<h/\h<=l.length/\K (.ex ((l.drop a.toNat).take (h.toNat-a.toNat))) .none):=rfl
theorem WE {es off n cap o g k i}:ev E dst V (.iaddrS es) [.mref (.bs off n cap) o g,.d (.int k i)] K=(es=1/\0<=i/\i<n/\K (.ptr o g (off+i.toNat)) .none):=rfl
theorem RJ {len es o g es' j off k i}:ev E dst V (.iaddrA len es) [.rptr o g es' j off,.d (.int k i)] K=(0<=i/\i<len/\K (.rptr o g es' j (off+i.toNat * es)) .none):=rfl
theorem gE {n x}:ev E dst V (.eqnil n) [x,.d (.list true [])] K=BV (x.asList V) fun p=>K (.d (.bool (if n then !p.1 else p.1))) .none:=by
 simp only[ev];cases x.asList V<;>rfl
theorem bH {m k a rest}:ev E dst V (.minmax m) (.d (.int k a)::rest) K=BV (Ft m k a rest) fun r=>K (.d (.int k r)) .none:=by
 simp only[ev];cases Ft m k a rest<;>rfl
theorem YO {ety es z own o g y}:ev E dst V (.app ety es z own) [.own o g,y] K=BV (EC V z y) fun ys=>H8 (V.get o g) fun ety' es' nl l=>o<EW/\ety=ety'/\es=es'/\Cs es ys/\l.length+ys.length<=Cx /\
  K (.own o (V.cn o)) (.fresh o (.row ety es (nl && ys.isEmpty) (l++ys))):=by
 simp only[ev];cases EC V z y with
 |none=>rfl
 |some ys =>
  simp only[BV]
  cases V.get o g with
  |none=>rfl
  |some x=>cases x<;>rfl
theorem YP {ety es z t y}:ev E (some t) V (.app ety es z true) [.d (.list true []),y] K=BV (EC V z y) fun ys=>Cs es ys/\ys.length<=Cx/\t<EW/\K (.own t (V.cn t)) (.fresh t (.row ety es ys.isEmpty ys)):=by
 simp only[ev];cases EC V z y<;>rfl
theorem bM {ety es z t l y}:ev E (some t) V (.app ety es z true) [.ex l,y] K=BV (EC V z y) fun ys=>Cs es (l++ys)/\l.length+ys.length<=Cx/\(ys=[]->K (.ex l) .none)/\(ys≠[]->t<EW/\K (.own t (V.cn t)) (.fresh t (.row ety es false (l++ys)))):=by
 simp only[ev];cases EC V z y with
 |none=>rfl
 |some ys=>cases ys<;>simp[BV]
theorem YQ {ety es z l y}:ev E dst V (.app ety es z false) [.ex l,y] K=BV (EC V z y) fun ys=>Cs es (l++ys)/\l.length+ys.length<=Cx/\K (.d (.list false (l++ys))) .none:=by
 simp only[ev];cases EC V z y<;>rfl
theorem WH {f cs args}:ev E dst V .callv (.fn f cs::args) K=(Bv E.P f=true/\EA E dst V f (args++cs) K):=rfl
theorem YN {f cs args}:ev E dst V .callv (.d (.fn f cs)::args) K=(Bv E.P f=true/\EA E dst V f (args++cs.map .d) K):=rfl
theorem ba {k k':IntKind}{a b:Int}{C:AV->Prop}:DM .eql k k' a b C=(k=k'/\C (.d (.bool (decide (a=b))))):=rfl
theorem bT {k k':IntKind}{a b:Int}{C:AV->Prop}:DM .neq k k' a b C=(k=k'/\C (.d (.bool (!decide (a=b))))):=rfl
theorem bV {k k':IntKind}{a b:Int}{C:AV->Prop}:DM .lss k k' a b C=(k=k'/\C (.d (.bool (decide (a<b))))):=rfl
theorem bW {k k':IntKind}{a b:Int}{C:AV->Prop}:DM .leq k k' a b C=(k=k'/\C (.d (.bool (decide (a<=b))))):=rfl
theorem bX {k k':IntKind}{a b:Int}{C:AV->Prop}:DM .gtr k k' a b C=(k=k'/\C (.d (.bool (decide (b<a))))):=rfl
theorem bZ {k k':IntKind}{a b:Int}{C:AV->Prop}:DM .geq k k' a b C=(k=k'/\C (.d (.bool (decide (b<=a))))):=rfl
theorem bc {k k':IntKind}{a b:Int}{C:AV->Prop}:DM .add k k' a b C=(k=k'/\C (.d (.int k (k.wrap (a+b))))):=rfl
theorem bO {k k':IntKind}{a b:Int}{C:AV->Prop}:DM .sub k k' a b C=(k=k'/\C (.d (.int k (k.wrap (a-b))))):=rfl
theorem bU {k k':IntKind}{a b:Int}{C:AV->Prop}:DM .mul k k' a b C=(k=k'/\C (.d (.int k (k.wrap (a*b))))):=rfl
theorem bS {k k':IntKind}{a b:Int}{C:AV->Prop}:DM .quo k k' a b C=(k=k'/\b≠0/\C (.d (.int k (k.wrap (a.tdiv b))))):=rfl
theorem bR {k k':IntKind}{a b:Int}{C:AV->Prop}:DM .rem k k' a b C=(k=k'/\b≠0/\C (.d (.int k (a.tmod b)))):=rfl
theorem bQ {k k':IntKind}{a b:Int}{C:AV->Prop}:DM .shl k k' a b C=(0<=b/\C (.d (.int k (k.wrap (a*2^(min b.toNat k.bits)))))):=rfl
theorem bP {k k':IntKind}{a b:Int}{C:AV->Prop}:DM .shr k k' a b C=(0<=b/\C (.d (.int k (a.fdiv (2^(min b.toNat k.bits)))))):=rfl
theorem bb {k k':IntKind}{a b:Int}{C:AV->Prop}:DM .and k k' a b C=(k=k'/\C (.d (.int k (A4 .and k a b)))):=rfl
theorem gI {k k':IntKind}{a b:Int}{C:AV->Prop}:DM .or k k' a b C=(k=k'/\C (.d (.int k (A4 .or k a b)))):=rfl
theorem bN {k k':IntKind}{a b:Int}{C:AV->Prop}:DM .xor k k' a b C=(k=k'/\C (.d (.int k (A4 .xor k a b)))):=rfl
end
end Go.Pw
end
section
namespace Go.Pw
def Q3 (x:Option Ak) (A:List (List D)->Nat->Prop):Prop:=match x with|some (.hist els n false)=>A els n|_=>False
theorem Vd (els n A):Q3 (some (.hist els n false)) A=A els n:=rfl
section
variable {E:Co}{Q:B6->BZ->Prop}{s s':BZ}{K:AV->Bw->Prop}{KS:BZ->Prop}
theorem cO {o g:Nat}{xs:List AV}{V:AM}:R_ (.own o g) xs V K=Q3 (V.get o g) fun els n=>BV (Fy xs) fun ds=>els[n]?=some ds/\K (.d (.bool true)) (.keep o g (.hist els (n+1) false))/\K (.d (.bool false)) (.keep o g (.hist els (n+1) true)):=by
 simp only[R_,Q3]
 cases V.get o g with
 |none=>rfl
 |some x=>cases x with
  |hist els n st=>cases st<;>(simp only[BV];try (cases Fy xs<;>rfl))
  |_=>rfl
theorem bu {xs:List AV}:Fy xs=BR AV.toD1 xs:=rfl
theorem W6 {sl:Nat->AV}{V:AM}:GI [] sl V=true:=rfl
def gw (V:AM) (o:Nat):Bool:=match V.ob o with|some (g,_)=>g == 0|none=>false
theorem Un {k:Nat}{ks:List Nat}{sl:Nat->AV}{V:AM}:GI (k::ks) sl V=((sl k).sites.all (gw V) && GI ks sl V):=rfl
def gv (x:Option (Nat×Ak)):Bool:=match x with|some (g,_)=>g == 0|none=>false
theorem bw {ob cn o}:gw ⟨ob,cn⟩ o=gv (ob o):=rfl
theorem Wr {g x}:gv (some (g,x))=(g == 0):=rfl
theorem iC {m:List (Nat×(Nat×Ak))}{cn:Nat->Nat}{os:List Nat}:(AM.mk (Bb m) cn).nrm os=⟨Bb (EV ⟨Bb m,cn⟩ os os),fun _=>1⟩:=by
 have:=eK (fun _=>.undef) ⟨Bb m,cn⟩ [] os
 have h2:((BZ.mk (fun _=>.undef) ⟨Bb m,cn⟩).nrm [] os).V=(AM.mk (Bb m) cn).nrm os:=rfl
 rw[←h2,this]
theorem m9 {o:Nat}:Pb o=if 900000<=o/\o<5000000 then o else o+5000000:=rfl
def mvL (l:List (Nat×AV)):List (Nat×AV):=l.map fun p=>(p.1,p.2.mv)
theorem jk:mvL []=[]:=rfl
theorem Vh {k v l}:mvL ((k,v)::l)=(k,v.mv)::mvL l:=rfl
def Xj (k:Nat) (g:Nat) (x:Option Ak) (r:List (Nat×(Nat×Ak))):List (Nat×(Nat×Ak)):=match x with
 |some y=>(Pb k,(g,y))::r
 |none=>r.filter fun p=>!(p.1 == Pb k)
def jj:List (Nat×(Nat×Ak))->List (Nat×(Nat×Ak))
 |[]=>[]
 |(k,(g,x))::l=>Xj k g x.mv (jj l)
theorem ji:jj []=[]:=rfl
theorem Vg {k g x l}:jj ((k,(g,x))::l)=Xj k g x.mv (jj l):=rfl
theorem aj {k g y r}:Xj k g (some y) r=(Pb k,(g,y))::r:=rfl
theorem Ot {k g r}:Xj k g none r=r.filter fun p=>!(p.1 == Pb k):=rfl
theorem Ja (k:Nat):∀(l:List (Nat×(Nat×Ak))) (t:Nat),Bb (l.filter fun p=>!(p.1 == k)) t=if t=k then none else Bb l t
 |[],t=>by simp[Bb]
 |p::l,t=>by
  obtain⟨a,b⟩:=p
  have ih:=Ja k l t
  by_cases h:a=k
  ·subst h
   rw[List.filter_cons,if_neg (by simp),ih]
   by_cases ht:t=a
   ·simp[ht]
   ·simp[ht,Bb]
  ·rw[List.filter_cons,if_pos (by simpa using h)]
   simp only[Bb,ih]
   by_cases ht:t=a
   ·subst ht;simp[h]
   ·simp[ht]
theorem Vl:∀(m:List (Nat×(Nat×Ak))) (o:Nat),Bb (jj m) o=if Pb (OX o)=o then (match Bb m (OX o) with
   |some (g,x)=>match x.mv with|some y=>some (g,y)|none=>none
   |none=>none) else none
 |[],o=>by simp[jj,Bb]
 |(k,(g,x))::m,o=>by
  have ih:=Vl m o
  rw[Vg]
  by_cases h:o=Pb k
  ·subst h
   rw[Hy,if_pos rfl]
   cases hx:x.mv with
   |some y=>simp[Xj,Bb,hx]
   |none=>rw[Ot,Ja,if_pos rfl];simp[Bb,hx]
  ·have hk:Pb (OX o)=o->OX o≠k:=fun h1 h2=>h (by rw[←h1,h2])
   have hrest:Bb (Xj k g x.mv (jj m)) o=Bb (jj m) o:=by
    cases x.mv with
    |some y=>simp[Xj,Bb,h]
    |none=>rw[Ot,Ja,if_neg h]
   rw[hrest,ih]
   by_cases h1:Pb (OX o)=o
   ·rw[if_pos h1,if_pos h1]
    have:=hk h1
    simp[Bb,this]
   ·rw[if_neg h1,if_neg h1]
theorem om {l:List (Nat×AV)}{m:List (Nat×(Nat×Ak))}{cn:Nat->Nat}:(BZ.mk (E9 l) ⟨Bb m,cn⟩).mv=⟨E9 (mvL l),⟨Bb (jj m),fun _=>1⟩⟩:=by
 have h1:(fun t=>(E9 l t).mv)=E9 (mvL l):=by
  funext t
  induction l with
  |nil=>rfl
  |cons p l ih =>
   obtain⟨k,v⟩:=p
   simp only[Vh,E9]
   by_cases h:t=k
   ·simp[h]
   ·simp only[if_neg h];exact ih
 show BZ.mk (fun t=>(E9 l t).mv) _=_
 rw[h1]
 refine congrArg (fun ob=>BZ.mk _ (AM.mk ob _)) ?_
 funext o
 exact(Vl m o).symm
theorem aW {xs}:(Ak.cells xs).mv=some (.cells (xs.map AV.mv)):=rfl
theorem po {x}:(AV.d x).mv=.d x:=rfl
theorem m_ {o g f}:(AV.ptr o g f).mv=.ptr (Pb o) g f:=rfl
theorem aP {V:AM} {os a b l}:(Ak.hist a b l).nrm V os=some (.hist a b l):=rfl
theorem Tu {A:BZ->Prop}:Pa A .normal s=A s:=rfl
theorem Z3 {sl:Nat->AV} {ds}:L6 sl [] ds=sl:=by cases ds<;>rfl
theorem XL {sl:Nat->AV} {p ps d ds}:L6 sl (p::ps) (d::ds)=L6 (CJ sl p (.d d)) ps ds:=rfl
def aE {α:Type}(T:α->AM) (Inv:Nat->α->Prop) (PInv:B6->α->Prop) (m:Nat) (gs:List Eu) (ks os:List Nat) (sl:Nat->AV) (e:B6) (s:BZ):Prop :=
 CU gs s fun s'=>GI ks sl (s'.V.nrm os)=true/\∃y,s'.V.nrm os=T y/\(match e with|.normal=>Inv m y|e=>PInv e y)
theorem VT {α:Type}{T:α->AM} {Inv PInv m gs ks os sl}:aE T Inv PInv m gs ks os sl .normal s=CU gs s fun s'=>GI ks sl (s'.V.nrm os)=true/\∃y,s'.V.nrm os=T y/\Inv m y:=rfl
theorem aD {α:Type}{T:α->AM} {Inv PInv m gs ks os sl i}:aE T Inv PInv m gs ks os sl (.exit i) s=CU gs s fun s'=>GI ks sl (s'.V.nrm os)=true/\∃y,s'.V.nrm os=T y/\PInv (.exit i) y:=rfl
theorem jJ {α:Type}(T:α->AM) (Inv:Nat->α->Prop) (PInv:B6->α->Prop) (x0:α) {ps ks os:List Nat}{b:PC}{gs2:List Eu}{os2:List Nat}{a:PC}{f:FuncId}{pre post:List D}{els:List (List D)}{sl1:Nat->AV}{s1:BZ}
  (h2:(s1.nrm ks os).mv=⟨sl1,T x0⟩) (hr:(b.noR && a.noR)=true) (hs:bx E f pre post els) (hw:GI ks sl1 (T x0)=true) (hI:Inv 0 x0)
  (step:∀n x ds,els[n]?=some ds->Inv n x->ps.length=ds.length/\pw E b (Pa fun s2=>pw E a (aE T Inv PInv (n+1) gs2 ks os2 sl1) s2) ⟨L6 sl1 ps ds,T x⟩)
  (hend:∀x,Inv els.length x->Q .normal ⟨sl1,T x⟩) (hjump:∀e x,PInv e x->Q e ⟨sl1,T x⟩) :
  (b.noR && a.noR)=true/\∃els,bx E f pre post els/\∃(JJ:Nat->AM->Prop) (Pd:B6->AM->Prop),
   GI ks (s1.nrm ks os).mv.sl (s1.nrm ks os).mv.V=true/\JJ 0 (s1.nrm ks os).mv.V /\
   (∀n V ds,V.cn=(fun _=>1)->els[n]?=some ds->JJ n V->ps.length=ds.length /\
    pw E b (Pa fun s2=>pw E a (mY JJ Pd (n+1) gs2 ks os2 (s1.nrm ks os).mv.sl) s2) ⟨L6 (s1.nrm ks os).mv.sl ps ds,V⟩) /\
   (∀V,V.cn=(fun _=>1)->JJ els.length V->Q .normal ⟨(s1.nrm ks os).mv.sl,V⟩) /\
   ∀e V,V.cn=(fun _=>1)->Pd e V->Q e ⟨(s1.nrm ks os).mv.sl,V⟩:=by
 refine⟨hr,els,hs,fun n V=>∃x,V=T x/\Inv n x,fun e V=>∃x,V=T x/\PInv e x,?_,?_,?_,?_,?_⟩
 ·rw[h2];exact hw
 ·rw[h2];exact⟨x0,rfl,hI⟩
 ·rintro n V ds _ hds ⟨x,rfl,hx⟩
  obtain⟨k1,k2⟩:=step n x ds hds hx
  refine⟨k1,?_⟩
  rw[h2]
  refine GS k2 fun e s2 h3=>?_
  cases e with
  |normal =>
   refine GS h3 fun e s3 h4=>?_
   refine DF (fun s4 h5=>?_) h4
   obtain⟨k3,y,k4,k5⟩:=h5
   refine⟨k3,?_⟩
   cases e with
   |normal=>exact⟨y,k4,k5⟩
   |exit i=>exact⟨y,k4,k5⟩
   |ret=>exact⟨y,k4,k5⟩
  |exit i=>exact h3
  |ret=>exact h3
 ·rintro V _ ⟨x,rfl,hx⟩
  rw[h2];exact hend x hx
 ·rintro e V _ ⟨x,rfl,hx⟩
  rw[h2];exact hjump e x hx
theorem Y_ {α:Type}(T:α->AM) (Inv:Nat->α->Prop) (PInv:B6->α->Prop) (x0:α) {gs:List Eu}{g:J_}{ps ks os:List Nat}{b:PC}{gs2:List Eu}{os2:List Nat}{a:PC}{f:FuncId}{pre post:List D}{els:List (List D)}{sl1:Nat->AV}
  (h0:CU gs s fun s1=>(g.val s1.sl=.bnd f pre/\post=[]\/g.val s1.sl=.d (.fn f post)/\pre=[])/\(s1.nrm ks os).mv=⟨sl1,T x0⟩) (hT:∀x,(T x).cn=fun _=>1) (hb:Bv E.P f=true) (hr:(b.noR && a.noR)=true) (hs:bx E f pre post els) (hw:GI ks sl1 (T x0)=true) (hI:Inv 0 x0)
  (step:∀n x ds,els[n]?=some ds->Inv n x->ps.length=ds.length/\pw E b (Pa fun s2=>pw E a (aE T Inv PInv (n+1) gs2 ks os2 sl1) s2) ⟨L6 sl1 ps ds,T x⟩)
  (hend:∀x,Inv els.length x->Q .normal ⟨sl1,T x⟩) (hjump:∀e x,PInv e x->Q e ⟨sl1,T x⟩):pw E (.rngF gs g ps ks os b gs2 os2 a) Q s:=by
 refine DF (fun s1 h=>?_) h0
 obtain⟨h1,h2⟩:=h
 suffices hk:VS E (g.val s1.sl) (fun f' pre' post'=>f'=f/\pre'=pre/\post'=post) by
  refine Sr (fun f' pre' post' hk=>?_) hk
  obtain⟨rfl,rfl,rfl⟩:=hk
  exact jJ T Inv PInv x0 h2 hr hs hw hI step hend hjump
 unfold VS
 rcases h1 with⟨h1,rfl⟩|⟨h1,rfl⟩
 ·rw[h1];exact⟨hb,rfl,rfl,rfl⟩
 ·rw[h1];exact⟨hb,rfl,rfl,rfl⟩
end
end Go.Pw
end
