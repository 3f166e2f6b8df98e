/- A part of the proof. -/
import Derived.Test.YtibkjeolahobbaaGreatDoorPwZ
set_option linter.all false
section
namespace Go.Pw
def Gz (x:Option Aa) (A:List AV->Prop):Prop:=match x with|some (.cells cs)=>A cs|_=>False
def Hz (x:Option Aa) (A:Nat->Nat->Bool->List D->Prop):Prop:=match x with|some (.row a b c l)=>A a b c l|_=>False
def MO (x:Option Aa) (A:Nat->Nat->Bool->List D->Prop) (B:Nat->List D->Nat->Nat->Nat->Prop):Prop:=match x with|some (.row a b c l)=>A a b c l|some (.rowH a l i q p)=>B a l i q p|_=>False
def oA (x:Option Aa) (A:Mp->List (D×D)->Prop):Prop:=match x with|some (.map t l)=>A t l|_=>False
def E6 (x:Option Aa) (A:Nat->Nat->Bool->List Nat->List (Bool×List D)->Prop):Prop:=match x with|some (.mat a b c d e)=>A a b c d e|_=>False
def BP {α:Type}(x:Option α) (A:α->Prop):Prop:=match x with|some v=>A v|none=>False
def n_ {α:Type}(x:Option α) (A:α->Prop) (B:Prop):Prop:=match x with|some v=>A v|none=>B
theorem TA (cs A):Gz (some (.cells cs)) A=A cs:=rfl
theorem Wf (a b c l A):Hz (some (.row a b c l)) A=A a b c l:=rfl
theorem Wg (a b c l A B):MO (some (.row a b c l)) A B=A a b c l:=rfl
theorem Ur {α:Type}(v:α) (A:α->Prop):BP (some v) A=A v:=rfl
section
variable {E:Cl}{dst:Option Nat}{V:AJ}{K:AV->Bq->Prop}
theorem kg {α:Type}{n:Nat}{cs:List α}{off:Nat}{mk:List α->AV}{one:α->AV}{C:AV->Prop}:Bx true n cs off mk one C=(off+n<=cs.length/\C (mk ((cs.drop off).take n))):=by simp[Bx]
theorem kh {α:Type}{n:Nat}{cs:List α}{off:Nat}{mk:List α->AV}{one:α->AV}{C:AV->Prop}:Bx false n cs off mk one C=BP cs[off]? fun v=>C (one v):=by
 simp only[Bx,Bool.false_eq_true,if_false];cases cs[off]?<;>rfl
theorem VO {ag n o g off}:ev E dst V (.load ag n) [.ptr o g off] K=Gz (V.get o g) fun cs=>Bx ag n cs off .agg id (K · .none):=by
 simp only[ev];cases V.get o g with
 |none=>rfl
 |some x=>cases x<;>rfl
theorem TM {ag n o g es i off}:ev E dst V (.load ag n) [.rptr o g es i off] K=MO (V.get o g) (fun _ es' _ l=>es=es'/\BP l[i]? fun x=>Bx ag n x.cells off (fun cs=>.d (.agg cs)) .d (K · .none))
  fun _ l k q p=>es=1/\(i=k->Bx ag n [.own q p] off .agg id (K · .none))/\(i≠k->BP l[i]? fun x=>Bx ag n x.cells off (fun cs=>.d (.agg cs)) .d (K · .none)):=by
 simp only[ev];cases V.get o g with
 |none=>rfl
 |some x =>
  cases x with
  |row a b c l=>simp only[MO];cases l[i]?<;>rfl
  |rowH a l k q p=>simp only[MO];cases l[i]?<;>rfl
  |_=>rfl
theorem TN {ag n cs off}:ev E dst V (.load ag n) [.dptr cs off] K=Bx ag n cs off (fun cs=>.d (.agg cs)) .d (K · .none):=rfl
theorem Zw {ag n cs}:ev E dst V (.load ag n) [.d (.ptr cs)] K=Bx ag n cs 0 (fun cs=>.d (.agg cs)) .d (K · .none):=rfl
theorem TI {n o g off v}:ev E dst V (.store n) [.ptr o g off,v] K=Gz (V.get o g) fun cs=>BP v.cells? fun vs=>vs.length=n/\off+n<=cs.length/\K .undef (.keep o g (.cells (Bd cs off vs))):=by
 unfold ev Gz BP;simp only
 cases V.get o g with
 |none=>rfl
 |some x=>cases x<;>cases v.cells?<;>rfl
theorem TQ {off o g a}:ev E dst V (.faddr off) [.ptr o g a] K=K (.ptr o g (a+off)) .none:=rfl
theorem Rc {off cs a}:ev E dst V (.faddr off) [.dptr cs a] K=K (.dptr cs (a+off)) .none:=rfl
theorem XR {off cs}:ev E dst V (.faddr off) [.d (.ptr cs)] K=K (.dptr cs off) .none:=rfl
theorem iu {nl:Bool}{l:List D}:ev E dst V (.len false) [.d (.list nl l)] K=K (.d (.int .i64 l.length)) .none:=rfl
theorem XQ {es nl l k i}:ev E dst V (.iaddrS es) [.d (.list nl l),.d (.int k i)] K=(0<=i/\i<l.length/\BP l[i.toNat]? fun x=>x.cells.length=es/\K (.dptr x.cells 0) .none):=by
 simp only[ev];cases l[i.toNat]?<;>rfl
theorem lZ {t v}:ev E (some t) V .box [v] K=BP v.cells? fun cs=>t<EL/\K (.ptr t (V.cn t) 0) (.fresh t (.cells cs)):=by
 simp only[ev];cases v.cells?<;>rfl
theorem iw {k k' n}:ev E dst V (.conv k) [.d (.int k' n)] K=K (.d (.int k (k.wrap n))) .none:=rfl
theorem XS {i vs}:ev E dst V (.extract i) [.tup vs] K=BP vs[i]? fun v=>K v .none:=by
 simp only[ev];cases vs[i]?<;>rfl
theorem iy {f xs}:ev E dst V (.call f) xs K=Dz E dst V f xs K:=rfl
theorem PP {n o g es0 i off x}:ev E dst V (.store n) [.rptr o g es0 i off,.d x] K=Hz (V.get o g) fun ety es nl l=>BP (AV.d x).toD1 fun y=>es0=es/\BP l[i]? fun x=>y.cells.length=n/\off+n<=x.cells.length/\(n=es\/1<x.cells.length) /\
  K .undef (.keep o g (.row ety es nl (l.set i (if n=es then y else .agg (Bd x.cells off y.cells))))):=by
 simp only[ev];cases V.get o g with
 |none=>rfl
 |some x =>
  cases x with
  |row a b c l=>simp only[Hz];cases (AV.d x).toD1 with
   |none=>rfl
   |some y=>simp only[BP];cases l[i]?<;>rfl
  |_=>rfl
theorem TJ {o g off}:ev E dst V .nilck [.ptr o g off] K=K (.ptr o g off) .none:=rfl
theorem XJ {cs}:ev E dst V .nilck [.d (.ptr cs)] K=K (.d (.ptr cs)) .none:=rfl
theorem TP {es o g k i}:ev E dst V (.iaddrS es) [.own o g,.d (.int k i)] K=MO (V.get o g) (fun _ es' _ l=>es=es'/\0<=i/\i<l.length/\K (.rptr o g es i.toNat 0) .none) fun _ l _ _ _=>es=1/\0<=i/\i<l.length/\K (.rptr o g es i.toNat 0) .none:=by
 simp only[ev];cases V.get o g with
 |none=>rfl
 |some x=>cases x<;>rfl
theorem Rb {len es o g off k i}:ev E dst V (.iaddrA len es) [.ptr o g off,.d (.int k i)] K=(0<=i/\i<len/\K (.ptr o g (off+i.toNat * es)) .none):=rfl
theorem Qf {len es cs off k i}:ev E dst V (.iaddrA len es) [.dptr cs off,.d (.int k i)] K=(0<=i/\i<len/\K (.dptr cs (off+i.toNat * es)) .none):=rfl
theorem VS {len es cs k i}:ev E dst V (.iaddrA len es) [.d (.ptr cs),.d (.int k i)] K=(0<=i/\i<len/\K (.dptr cs (i.toNat * es)) .none):=rfl
theorem XP {len es ag cs k i}:ev E dst V (.index len es ag) [.d (.agg cs),.d (.int k i)] K=(0<=i/\i<len/\Bx ag es cs (i.toNat * es) (fun cs=>.d (.agg cs)) .d (K · .none)):=rfl
theorem eR {z pl xs}:ev E dst V (.build z pl) xs K=BP (L1 (z.map .d) (pl.zip xs)) fun cs=>pl.length=xs.length/\K (.agg cs) .none:=by
 simp only[ev];cases L1 (z.map .d) (pl.zip xs)<;>rfl
theorem TL {es z n ix}:ev E dst V (.mkrow es z n ix) [] K=BP (F5 es (List.replicate n z) (ix.zip [])) fun l=>ix.length=0/\K (.ex l) .none:=by
 simp only[ev];cases F5 es (List.replicate n z) (ix.zip [])<;>rfl
theorem XK {es z n ix x xs}:ev E dst V (.mkrow es z n ix) (.d x::xs) K=BP (F5 es (List.replicate n z) (ix.zip (.d x::xs))) fun l=>ix.length=(.d x::xs).length/\K (.ex l) .none:=by
 simp only[ev];cases F5 es (List.replicate n z) (ix.zip (.d x::xs))<;>rfl
theorem VN {es z n ix x xs}:ev E dst V (.mkrow es z n ix) (.ex x::xs) K=BP (F5 es (List.replicate n z) (ix.zip (.ex x::xs))) fun l=>ix.length=(.ex x::xs).length/\K (.ex l) .none:=by
 simp only[ev];cases F5 es (List.replicate n z) (ix.zip (.ex x::xs))<;>rfl
theorem TK {es z n ix q p}:ev E dst V (.mkrow es z n ix) [.own q p] K=(es=1/\n=1/\ix=[0]/\K (.ablk true [.own q p] 0) .none):=rfl
theorem Wh (a b c d e A):E6 (some (.mat a b c d e)) A=A a b c d e:=rfl
theorem XL {ag n o g i}:ev E dst V (.load ag n) [.mref (.xp i) o g] K=E6 (V.get o g) fun _ _ _ ix _=>BP ix[i]? fun j=>Bx ag n [.mref (.row j) o g] 0 .agg id (K · .none):=by
 simp only[ev];cases V.get o g with
 |none=>rfl
 |some x =>
  cases x with
  |mat a b c ix rows=>simp only[E6];cases ix[i]?<;>rfl
  |_=>rfl
theorem XM {ag n o g j k}:ev E dst V (.load ag n) [.mref (.mp j k) o g] K=E6 (V.get o g) fun _ _ _ _ rows=>BP rows[j]? fun x=>BP x.2[k]? fun y=>Bx ag n y.cells 0 (fun cs=>.d (.agg cs)) .d (K · .none):=by
 simp only[ev];cases V.get o g with
 |none=>rfl
 |some x =>
  cases x with
  |mat a b c ix rows=>simp only[E6];cases rows[j]? with
   |none=>rfl
   |some x=>simp only[BP];cases x.2[k]?<;>rfl
  |_=>rfl
theorem XN {ag n cs off}:ev E dst V (.load ag n) [.ablk false cs off] K=Bx ag n cs off .agg id (K · .none):=rfl
theorem VK {n i o g j o' g'}:ev E dst V (.store n) [.mref (.xp i) o g,.mref (.row j) o' g'] K=E6 (V.get o g) fun e1 e2 nl ix rows=>n=1/\o'=o/\g'=g/\i<ix.length/\j<rows.length/\K .undef (.keep o g (.mat e1 e2 nl (ix.set i j) rows)):=by
 simp only[ev];cases V.get o g with
 |none=>rfl
 |some x=>cases x<;>rfl
theorem VL {n j k o g v}:ev E dst V (.store n) [.mref (.mp j k) o g,.d v] K=E6 (V.get o g) fun e1 e2 nl ix rows=>BP (AV.d v).toD1 fun y=>BP rows[j]? fun x=>n=1/\y.cells.length=1/\k<x.2.length/\K .undef (.keep o g (.mat e1 e2 nl ix (rows.set j (x.1,x.2.set k y)))):=by
 simp only[ev];cases V.get o g with
 |none=>rfl
 |some x =>
  cases x with
  |mat a b c ix rows=>simp only[E6];cases (AV.d v).toD1 with
   |none=>rfl
   |some y=>simp only[BP];cases rows[j]?<;>rfl
  |_=>rfl
theorem VQ {es o g k i}:ev E dst V (.iaddrS es) [.mref .out o g,.d (.int k i)] K=E6 (V.get o g) fun _ _ _ ix _=>es=1/\0<=i/\i<ix.length/\K (.mref (.xp i.toNat) o g) .none:=by
 simp only[ev];cases V.get o g with
 |none=>rfl
 |some x=>cases x<;>rfl
theorem VP {es j o g k i}:ev E dst V (.iaddrS es) [.mref (.row j) o g,.d (.int k i)] K=E6 (V.get o g) fun _ _ _ _ rows=>BP rows[j]? fun x=>es=1/\0<=i/\i<x.2.length/\K (.mref (.mp j i.toNat) o g) .none:=by
 simp only[ev];cases V.get o g with
 |none=>rfl
 |some x =>
  cases x with
  |mat a b c ix rows=>simp only[E6];cases rows[j]?<;>rfl
  |_=>rfl
theorem eS {ety es z own o g q p}:ev E dst V (.app ety es z own) [.mref .out o g,.ablk true [.own q p] 0] K=E6 (V.get o g) fun e1 e2 nl ix rows=>Hz (V.get q p) fun e2' es2 nl2 l2 =>
  z=none/\o<EL/\q<EL/\o≠q/\ety=e1/\es=1/\es2=1/\e2'=e2/\ix.length+1<=Cr /\
   K (.mref .out o (V.cn o)) (.seq (.fresh o (.mat e1 e2 false (ix++[rows.length]) (rows++[(nl2,l2)]))) (.fresh q (.row e2 1 true []))):=by
 simp only[ev];cases V.get o g with
 |none=>rfl
 |some x =>
  cases x with
  |mat a b c ix rows=>simp only[E6];cases V.get q p with
   |none=>rfl
   |some y=>cases y<;>rfl
  |_=>rfl
theorem Zu {ety es z n ix xs t}:ev E (some t) V (.mkrowO ety es z n ix) xs K=BP (F5 es (List.replicate n z) (ix.zip xs)) fun l=>t<EL/\ix.length=xs.length/\K (.own t (V.cn t)) (.fresh t (.row ety es false l)):=by
 simp only[ev];cases F5 es (List.replicate n z) (ix.zip xs)<;>rfl
theorem ir {f xs}:ev E dst V (.mkfn f) xs K=K (.fn f xs) .none:=rfl
theorem io {cs t}:ev E (some t) V (.zero cs) [] K=(t<EL/\K (.ptr t (V.cn t) 0) (.fresh t (.cells (cs.map .d)))):=rfl
theorem VM {ety es z t n m}:ev E (some t) V (.mksl ety es z true) [.d (.int .i64 n),.d (.int .i64 m)] K=(n=m/\0<=n/\n<=(Cr:Int)/\t<EL/\K (.own t (V.cn t)) (.fresh t (.row ety es false (List.replicate n.toNat z)))):=rfl
theorem XI {es lo hi nl l rest}:ev E dst V (.slice es lo hi false) (.d (.list nl l)::rest) K=(Cq es l/\MJ lo hi l.length rest fun a b=>K (.d (.list nl ((l.drop a).take (b-a)))) .none):=rfl
theorem Ra {es lo o g rest}:ev E dst V (.slice es lo true false) (.own o g::rest) K=Hz (V.get o g) fun ety es' nl l=>o<EL/\es=es'/\MJ lo true l.length rest fun a b=>K (.own o (V.cn o)) (.fresh o (.row ety es nl ((l.drop a).take (b-a)))):=by
 simp only[ev,Bool.false_eq_true,if_false,if_true];cases V.get o g with
 |none=>rfl
 |some x=>cases x<;>rfl
theorem lY:ev E dst V .cap [.d (.list true [])] K=K (.d (.int .i64 0)) .none:=rfl
theorem kT {len:Nat}{C:Nat->Nat->Prop} {k h}:MJ false true len [.d (.int k h)] C=(0<=h/\h<=len/\C 0 h.toNat):=rfl
theorem kS {len:Nat}{C:Nat->Nat->Prop} {k h}:MJ true false len [.d (.int k h)] C=(0<=h/\h<=len/\C h.toNat len):=rfl
theorem kR {len:Nat}{C:Nat->Nat->Prop} {k h k' m}:MJ true true len [.d (.int k h),.d (.int k' m)] C=(0<=h/\h<=m/\m<=len/\C h.toNat m.toNat):=rfl
theorem XO {o g}:ev E dst V (.len false) [.own o g] K=Hz (V.get o g) fun _ _ _ l=>K (.d (.int .i64 l.length)) .none:=by
 simp only[ev,Bool.false_eq_true,if_false,AV.lenL,AV.asList];cases V.get o g with
 |none=>rfl
 |some x=>cases x<;>rfl
theorem Zy {o g}:ev E dst V (.len false) [.mref .out o g] K=E6 (V.get o g) fun _ _ _ ix _=>K (.d (.int .i64 ix.length)) .none:=by
 simp only[ev,Bool.false_eq_true,if_false,AV.lenL,AV.asList];cases V.get o g with
 |none=>rfl
 |some x=>cases x<;>first|rfl|simp[KB,E6]
theorem Zx {j o g}:ev E dst V (.len false) [.mref (.row j) o g] K=E6 (V.get o g) fun _ _ _ _ rows=>BP rows[j]? fun x=>K (.d (.int .i64 x.2.length)) .none:=by
 simp only[ev,Bool.false_eq_true,if_false,AV.lenL,AV.asList];cases V.get o g with
 |none=>rfl
 |some x=>cases x<;>first|rfl|(simp only[E6];rename_i rows;cases rows[j]?<;>rfl)
theorem Zz {off n cap o g}:ev E dst V (.len false) [.mref (.bs off n cap) o g] K=K (.d (.int .i64 n)) .none:=rfl
theorem eL {o g off k h k' m}:ev E dst V (.slice 1 true true true) [.ptr o g off,.d (.int k h),.d (.int k' m)] K=(0<=h/\h<=m/\K (.mref (.bs off h.toNat m.toNat) o g) .none):=rfl
theorem eM {cs k h k' m}:ev E dst V (.slice 1 true true true) [.d (.ptr cs),.d (.int k h),.d (.int k' m)] K=(0<=h/\h<=m/\m<=cs.length/\K (.d (.list false (cs.take h.toNat))) .none):=rfl
theorem Zt {cs off k h k' m}:ev E dst V (.slice 1 true true true) [.dptr cs off,.d (.int k h),.d (.int k' m)] K=(0<=h/\h<=m/\off+m.toNat<=cs.length/\K (.d (.list false ((cs.drop off).take h.toNat))) .none):=rfl
theorem Zs {es l k a k' h k'' m}:ev E dst V (.slice es true true true) [.d (.list false l),.d (.int k a),.d (.int k' h),.d (.int k'' m)] K=(Cq es l/\h=m/\0<=a/\a<h/\h<=l.length/\K (.ex ((l.drop a.toNat).take (h.toNat-a.toNat))) .none):=rfl
theorem VR {es off n cap o g k i}:ev E dst V (.iaddrS es) [.mref (.bs off n cap) o g,.d (.int k i)] K=(es=1/\0<=i/\i<n/\K (.ptr o g (off+i.toNat)) .none):=rfl
theorem Qe {len es o g es' j off k i}:ev E dst V (.iaddrA len es) [.rptr o g es' j off,.d (.int k i)] K=(0<=i/\i<len/\K (.rptr o g es' j (off+i.toNat * es)) .none):=rfl
theorem eP {n x}:ev E dst V (.eqnil n) [x,.d (.list true [])] K=BP (x.asList V) fun p=>K (.d (.bool (if n then !p.1 else p.1))) .none:=by
 simp only[ev];cases x.asList V<;>rfl
theorem Zv {m k a rest}:ev E dst V (.minmax m) (.d (.int k a)::rest) K=BP (Ff m k a rest) fun r=>K (.d (.int k r)) .none:=by
 simp only[ev];cases Ff m k a rest<;>rfl
theorem XU {ety es z own o g y}:ev E dst V (.app ety es z own) [.own o g,y] K=BP (D0 V z y) fun ys=>Hz (V.get o g) fun ety' es' nl l=>o<EL/\ety=ety'/\es=es'/\Cq es ys/\l.length+ys.length<=Cr /\
  K (.own o (V.cn o)) (.fresh o (.row ety es (nl && ys.isEmpty) (l++ys))):=by
 simp only[ev];cases D0 V z y with
 |none=>rfl
 |some ys =>
  simp only[BP]
  cases V.get o g with
  |none=>rfl
  |some x=>cases x<;>rfl
theorem XV {ety es z t y}:ev E (some t) V (.app ety es z true) [.d (.list true []),y] K=BP (D0 V z y) fun ys=>Cq es ys/\ys.length<=Cr/\t<EL/\K (.own t (V.cn t)) (.fresh t (.row ety es ys.isEmpty ys)):=by
 simp only[ev];cases D0 V z y<;>rfl
theorem Z0 {ety es z t l y}:ev E (some t) V (.app ety es z true) [.ex l,y] K=BP (D0 V z y) fun ys=>Cq es (l++ys)/\l.length+ys.length<=Cr/\(ys=[]->K (.ex l) .none)/\(ys≠[]->t<EL/\K (.own t (V.cn t)) (.fresh t (.row ety es false (l++ys)))):=by
 simp only[ev];cases D0 V z y with
 |none=>rfl
 |some ys=>cases ys<;>simp[BP]
theorem XW {ety es z l y}:ev E dst V (.app ety es z false) [.ex l,y] K=BP (D0 V z y) fun ys=>Cq es (l++ys)/\l.length+ys.length<=Cr/\K (.d (.list false (l++ys))) .none:=by
 simp only[ev];cases D0 V z y<;>rfl
theorem VT {f cs args}:ev E dst V .callv (.fn f cs::args) K=(Bp E.P f=true/\Dz E dst V f (args++cs) K):=rfl
theorem XT {f cs args}:ev E dst V .callv (.d (.fn f cs)::args) K=(Bp E.P f=true/\Dz E dst V f (args++cs.map .d) K):=rfl
theorem aB {k k':IntKind}{a b:Int}{C:AV->Prop}:DD .eql k k' a b C=(k=k'/\C (.d (.bool (decide (a=b))))):=rfl
theorem Z7 {k k':IntKind}{a b:Int}{C:AV->Prop}:DD .neq k k' a b C=(k=k'/\C (.d (.bool (!decide (a=b))))):=rfl
theorem Z9 {k k':IntKind}{a b:Int}{C:AV->Prop}:DD .lss k k' a b C=(k=k'/\C (.d (.bool (decide (a<b))))):=rfl
theorem Z_ {k k':IntKind}{a b:Int}{C:AV->Prop}:DD .leq k k' a b C=(k=k'/\C (.d (.bool (decide (a<=b))))):=rfl
theorem Z' {k k':IntKind}{a b:Int}{C:AV->Prop}:DD .gtr k k' a b C=(k=k'/\C (.d (.bool (decide (b<a))))):=rfl
theorem aA {k k':IntKind}{a b:Int}{C:AV->Prop}:DD .geq k k' a b C=(k=k'/\C (.d (.bool (decide (b<=a))))):=rfl
theorem aE {k k':IntKind}{a b:Int}{C:AV->Prop}:DD .add k k' a b C=(k=k'/\C (.d (.int k (k.wrap (a+b))))):=rfl
theorem Z2 {k k':IntKind}{a b:Int}{C:AV->Prop}:DD .sub k k' a b C=(k=k'/\C (.d (.int k (k.wrap (a-b))))):=rfl
theorem Z8 {k k':IntKind}{a b:Int}{C:AV->Prop}:DD .mul k k' a b C=(k=k'/\C (.d (.int k (k.wrap (a*b))))):=rfl
theorem Z6 {k k':IntKind}{a b:Int}{C:AV->Prop}:DD .quo k k' a b C=(k=k'/\b≠0/\C (.d (.int k (k.wrap (a.tdiv b))))):=rfl
theorem Z5 {k k':IntKind}{a b:Int}{C:AV->Prop}:DD .rem k k' a b C=(k=k'/\b≠0/\C (.d (.int k (a.tmod b)))):=rfl
theorem Z4 {k k':IntKind}{a b:Int}{C:AV->Prop}:DD .shl k k' a b C=(0<=b/\C (.d (.int k (k.wrap (a*2^(min b.toNat k.bits)))))):=rfl
theorem Z3 {k k':IntKind}{a b:Int}{C:AV->Prop}:DD .shr k k' a b C=(0<=b/\C (.d (.int k (a.fdiv (2^(min b.toNat k.bits)))))):=rfl
theorem aD {k k':IntKind}{a b:Int}{C:AV->Prop}:DD .and k k' a b C=(k=k'/\C (.d (.int k (A5 .and k a b)))):=rfl
theorem eT {k k':IntKind}{a b:Int}{C:AV->Prop}:DD .or k k' a b C=(k=k'/\C (.d (.int k (A5 .or k a b)))):=rfl
theorem Z1 {k k':IntKind}{a b:Int}{C:AV->Prop}:DD .xor k k' a b C=(k=k'/\C (.d (.int k (A5 .xor k a b)))):=rfl
end
end Go.Pw
end
section
namespace Go.Pw
def QQ (x:Option Aa) (A:List (List D)->Nat->Prop):Prop:=match x with|some (.hist els n false)=>A els n|_=>False
theorem Uu (els n A):QQ (some (.hist els n false)) A=A els n:=rfl
section
variable {E:Cl}{Q:B2->BV->Prop}{s s':BV}{K:AV->Bq->Prop}{KS:BV->Prop}
theorem an {o g:Nat}{xs:List AV}{V:AJ}:RN (.own o g) xs V K=QQ (V.get o g) fun els n=>BP (Fk xs) fun ds=>els[n]?=some ds/\K (.d (.bool true)) (.keep o g (.hist els (n+1) false))/\K (.d (.bool false)) (.keep o g (.hist els (n+1) true)):=by
 simp only[RN,QQ]
 cases V.get o g with
 |none=>rfl
 |some x=>cases x with
  |hist els n st=>cases st<;>(simp only[BP];try (cases Fk xs<;>rfl))
  |_=>rfl
theorem aX {xs:List AV}:Fk xs=BM AV.toD1 xs:=rfl
theorem V9 {sl:Nat->AV}{V:AJ}:F9 [] sl V=true:=rfl
def fG (V:AJ) (o:Nat):Bool:=match V.ob o with|some (g,_)=>g == 0|none=>false
theorem T1 {k:Nat}{ks:List Nat}{sl:Nat->AV}{V:AJ}:F9 (k::ks) sl V=((sl k).sites.all (fG V) && F9 ks sl V):=rfl
def fF (x:Option (Nat×Aa)):Bool:=match x with|some (g,_)=>g == 0|none=>false
theorem aZ {ob cn o}:fG ⟨ob,cn⟩ o=fF (ob o):=rfl
theorem Vu {g x}:fF (some (g,x))=(g == 0):=rfl
theorem fU {m:List (Nat×(Nat×Aa))}{cn:Nat->Nat}{os:List Nat}:(AJ.mk (BW m) cn).nrm os=⟨BW (EK ⟨BW m,cn⟩ os os),fun _=>1⟩:=by
 have:=cm (fun _=>.undef) ⟨BW m,cn⟩ [] os
 have h2:((BV.mk (fun _=>.undef) ⟨BW m,cn⟩).nrm [] os).V=(AJ.mk (BW m) cn).nrm os:=rfl
 rw[←h2,this]
theorem kq {o:Nat}:O6 o=if 900000<=o/\o<5000000 then o else o+5000000:=rfl
def mvL (l:List (Nat×AV)):List (Nat×AV):=l.map fun p=>(p.1,p.2.mv)
theorem gx:mvL []=[]:=rfl
theorem Uy {k v l}:mvL ((k,v)::l)=(k,v.mv)::mvL l:=rfl
def Wm (k:Nat) (g:Nat) (x:Option Aa) (r:List (Nat×(Nat×Aa))):List (Nat×(Nat×Aa)):=match x with
 |some y=>(O6 k,(g,y))::r
 |none=>r.filter fun p=>!(p.1 == O6 k)
def gw:List (Nat×(Nat×Aa))->List (Nat×(Nat×Aa))
 |[]=>[]
 |(k,(g,x))::l=>Wm k g x.mv (gw l)
theorem gv:gw []=[]:=rfl
theorem Ux {k g x l}:gw ((k,(g,x))::l)=Wm k g x.mv (gw l):=rfl
theorem ZW {k g y r}:Wm k g (some y) r=(O6 k,(g,y))::r:=rfl
theorem OK {k g r}:Wm k g none r=r.filter fun p=>!(p.1 == O6 k):=rfl
theorem JO (k:Nat):∀(l:List (Nat×(Nat×Aa))) (t:Nat),BW (l.filter fun p=>!(p.1 == k)) t=if t=k then none else BW l t
 |[],t=>by simp[BW]
 |p::l,t=>by
  obtain⟨a,b⟩:=p
  have ih:=JO k l t
  by_cases h:a=k
  ·subst h
   rw[List.filter_cons,if_neg (by simp),ih]
   by_cases ht:t=a
   ·simp[ht]
   ·simp[ht,BW]
  ·rw[List.filter_cons,if_pos (by simpa using h)]
   simp only[BW,ih]
   by_cases ht:t=a
   ·subst ht;simp[h]
   ·simp[ht]
theorem U2:∀(m:List (Nat×(Nat×Aa))) (o:Nat),BW (gw m) o=if O6 (N6 o)=o then (match BW m (N6 o) with
   |some (g,x)=>match x.mv with|some y=>some (g,y)|none=>none
   |none=>none) else none
 |[],o=>by simp[gw,BW]
 |(k,(g,x))::m,o=>by
  have ih:=U2 m o
  rw[Ux]
  by_cases h:o=O6 k
  ·subst h
   rw[Ho,if_pos rfl]
   cases hx:x.mv with
   |some y=>simp[Wm,BW,hx]
   |none=>rw[OK,JO,if_pos rfl];simp[BW,hx]
  ·have hk:O6 (N6 o)=o->N6 o≠k:=fun h1 h2=>h (by rw[←h1,h2])
   have hrest:BW (Wm k g x.mv (gw m)) o=BW (gw m) o:=by
    cases x.mv with
    |some y=>simp[Wm,BW,h]
    |none=>rw[OK,JO,if_neg h]
   rw[hrest,ih]
   by_cases h1:O6 (N6 o)=o
   ·rw[if_pos h1,if_pos h1]
    have:=hk h1
    simp[BW,this]
   ·rw[if_neg h1,if_neg h1]
theorem mT {l:List (Nat×AV)}{m:List (Nat×(Nat×Aa))}{cn:Nat->Nat}:(BV.mk (Et l) ⟨BW m,cn⟩).mv=⟨Et (mvL l),⟨BW (gw m),fun _=>1⟩⟩:=by
 have h1:(fun t=>(Et l t).mv)=Et (mvL l):=by
  funext t
  induction l with
  |nil=>rfl
  |cons p l ih =>
   obtain⟨k,v⟩:=p
   simp only[Uy,Et]
   by_cases h:t=k
   ·simp[h]
   ·simp only[if_neg h];exact ih
 show BV.mk (fun t=>(Et l t).mv) _=_
 rw[h1]
 refine congrArg (fun ob=>BV.mk _ (AJ.mk ob _)) ?_
 funext o
 exact(U2 m o).symm
theorem ZP {xs}:(Aa.cells xs).mv=some (.cells (xs.map AV.mv)):=rfl
theorem nc {x}:(AV.d x).mv=.d x:=rfl
theorem kr {o g f}:(AV.ptr o g f).mv=.ptr (O6 o) g f:=rfl
theorem ZK {V:AJ} {os a b l}:(Aa.hist a b l).nrm V os=some (.hist a b l):=rfl
theorem S9 {A:BV->Prop}:O5 A .normal s=A s:=rfl
theorem Y0 {sl:Nat->AV} {ds}:Ls sl [] ds=sl:=by cases ds<;>rfl
theorem WQ {sl:Nat->AV} {p ps d ds}:Ls sl (p::ps) (d::ds)=Ls (CF sl p (.d d)) ps ds:=rfl
def ZA {α:Type}(T:α->AJ) (Inv:Nat->α->Prop) (PInv:B2->α->Prop) (m:Nat) (gs:List Ef) (ks os:List Nat) (sl:Nat->AV) (e:B2) (s:BV):Prop :=
 CS gs s fun s'=>F9 ks sl (s'.V.nrm os)=true/\∃y,s'.V.nrm os=T y/\(match e with|.normal=>Inv m y|e=>PInv e y)
theorem Uk {α:Type}{T:α->AJ} {Inv PInv m gs ks os sl}:ZA T Inv PInv m gs ks os sl .normal s=CS gs s fun s'=>F9 ks sl (s'.V.nrm os)=true/\∃y,s'.V.nrm os=T y/\Inv m y:=rfl
theorem Y' {α:Type}{T:α->AJ} {Inv PInv m gs ks os sl i}:ZA T Inv PInv m gs ks os sl (.exit i) s=CS gs s fun s'=>F9 ks sl (s'.V.nrm os)=true/\∃y,s'.V.nrm os=T y/\PInv (.exit i) y:=rfl
theorem gV {α:Type}(T:α->AJ) (Inv:Nat->α->Prop) (PInv:B2->α->Prop) (x0:α) {ps ks os:List Nat}{b:PC}{gs2:List Ef}{os2:List Nat}{a:PC}{f:FuncId}{pre post:List D}{els:List (List D)}{sl1:Nat->AV}{s1:BV}
  (h2:(s1.nrm ks os).mv=⟨sl1,T x0⟩) (hr:(b.noR && a.noR)=true) (hs:ab E f pre post els) (hw:F9 ks sl1 (T x0)=true) (hI:Inv 0 x0)
  (step:∀n x ds,els[n]?=some ds->Inv n x->ps.length=ds.length/\pw E b (O5 fun s2=>pw E a (ZA T Inv PInv (n+1) gs2 ks os2 sl1) s2) ⟨Ls sl1 ps ds,T x⟩)
  (hend:∀x,Inv els.length x->Q .normal ⟨sl1,T x⟩) (hjump:∀e x,PInv e x->Q e ⟨sl1,T x⟩) :
  (b.noR && a.noR)=true/\∃els,ab E f pre post els/\∃(JJ:Nat->AJ->Prop) (Pd:B2->AJ->Prop),
   F9 ks (s1.nrm ks os).mv.sl (s1.nrm ks os).mv.V=true/\JJ 0 (s1.nrm ks os).mv.V /\
   (∀n V ds,V.cn=(fun _=>1)->els[n]?=some ds->JJ n V->ps.length=ds.length /\
    pw E b (O5 fun s2=>pw E a (kU JJ Pd (n+1) gs2 ks os2 (s1.nrm ks os).mv.sl) s2) ⟨Ls (s1.nrm ks os).mv.sl ps ds,V⟩) /\
   (∀V,V.cn=(fun _=>1)->JJ els.length V->Q .normal ⟨(s1.nrm ks os).mv.sl,V⟩) /\
   ∀e V,V.cn=(fun _=>1)->Pd e V->Q e ⟨(s1.nrm ks os).mv.sl,V⟩:=by
 refine⟨hr,els,hs,fun n V=>∃x,V=T x/\Inv n x,fun e V=>∃x,V=T x/\PInv e x,?_,?_,?_,?_,?_⟩
 ·rw[h2];exact hw
 ·rw[h2];exact⟨x0,rfl,hI⟩
 ·rintro n V ds _ hds ⟨x,rfl,hx⟩
  obtain⟨k1,k2⟩:=step n x ds hds hx
  refine⟨k1,?_⟩
  rw[h2]
  refine GI k2 fun e s2 h3=>?_
  cases e with
  |normal =>
   refine GI h3 fun e s3 h4=>?_
   refine C8 (fun s4 h5=>?_) h4
   obtain⟨k3,y,k4,k5⟩:=h5
   refine⟨k3,?_⟩
   cases e with
   |normal=>exact⟨y,k4,k5⟩
   |exit i=>exact⟨y,k4,k5⟩
   |ret=>exact⟨y,k4,k5⟩
  |exit i=>exact h3
  |ret=>exact h3
 ·rintro V _ ⟨x,rfl,hx⟩
  rw[h2];exact hend x hx
 ·rintro e V _ ⟨x,rfl,hx⟩
  rw[h2];exact hjump e x hx
theorem X' {α:Type}(T:α->AJ) (Inv:Nat->α->Prop) (PInv:B2->α->Prop) (x0:α) {gs:List Ef}{g:J0}{ps ks os:List Nat}{b:PC}{gs2:List Ef}{os2:List Nat}{a:PC}{f:FuncId}{pre post:List D}{els:List (List D)}{sl1:Nat->AV}
  (h0:CS gs s fun s1=>(g.val s1.sl=.bnd f pre/\post=[]\/g.val s1.sl=.d (.fn f post)/\pre=[])/\(s1.nrm ks os).mv=⟨sl1,T x0⟩) (hT:∀x,(T x).cn=fun _=>1) (hb:Bp E.P f=true) (hr:(b.noR && a.noR)=true) (hs:ab E f pre post els) (hw:F9 ks sl1 (T x0)=true) (hI:Inv 0 x0)
  (step:∀n x ds,els[n]?=some ds->Inv n x->ps.length=ds.length/\pw E b (O5 fun s2=>pw E a (ZA T Inv PInv (n+1) gs2 ks os2 sl1) s2) ⟨Ls sl1 ps ds,T x⟩)
  (hend:∀x,Inv els.length x->Q .normal ⟨sl1,T x⟩) (hjump:∀e x,PInv e x->Q e ⟨sl1,T x⟩):pw E (.rngF gs g ps ks os b gs2 os2 a) Q s:=by
 refine C8 (fun s1 h=>?_) h0
 obtain⟨h1,h2⟩:=h
 suffices hk:Uj E (g.val s1.sl) (fun f' pre' post'=>f'=f/\pre'=pre/\post'=post) by
  refine R_ (fun f' pre' post' hk=>?_) hk
  obtain⟨rfl,rfl,rfl⟩:=hk
  exact gV T Inv PInv x0 h2 hr hs hw hI step hend hjump
 unfold Uj
 rcases h1 with⟨h1,rfl⟩|⟨h1,rfl⟩
 ·rw[h1];exact⟨hb,rfl,rfl,rfl⟩
 ·rw[h1];exact⟨hb,rfl,rfl,rfl⟩
end
end Go.Pw
end
