/- A part of the proof. -/
import Derived.Test.YtibkjeolahobbaaGreatDoorPwZ
set_option linter.all false
section
namespace Go.Pw
def HA (x:Option Ad) (A:List AV->Prop):Prop:=match x with|some (.cells cs)=>A cs|_=>False
def IB (x:Option Ad) (A:Nat->Nat->Bool->List D->Prop):Prop:=match x with|some (.row a b c l)=>A a b c l|_=>False
def Mr (x:Option Ad) (A:Nat->Nat->Bool->List D->Prop) (B:Nat->List D->Nat->Nat->Nat->Prop):Prop:=match x with|some (.row a b c l)=>A a b c l|some (.rowH a l i q p)=>B a l i q p|_=>False
def qM (x:Option Ad) (A:NM->List (D×D)->Prop):Prop:=match x with|some (.map t l)=>A t l|_=>False
def FH (x:Option Ad) (A:Nat->Nat->Bool->List Nat->List (Bool×List D)->Prop):Prop:=match x with|some (.mat a b c d e)=>A a b c d e|_=>False
def BW {α:Type}(x:Option α) (A:α->Prop):Prop:=match x with|some v=>A v|none=>False
def qL {α:Type}(x:Option α) (A:α->Prop) (B:Prop):Prop:=match x with|some v=>A v|none=>B
theorem UC (cs A):HA (some (.cells cs)) A=A cs:=rfl
theorem Xu (a b c l A):IB (some (.row a b c l)) A=A a b c l:=rfl
theorem Xv (a b c l A B):Mr (some (.row a b c l)) A B=A a b c l:=rfl
theorem Vr {α:Type}(v:α) (A:α->Prop):BW (some v) A=A v:=rfl
section
variable {E:Cr}{dst:Option Nat}{V:AN}{K:AV->Bx->Prop}
theorem nC {α:Type}{n:Nat}{cs:List α}{off:Nat}{mk:List α->AV}{one:α->AV}{C:AV->Prop}:B3 true n cs off mk one C=(off+n<=cs.length/\C (mk ((cs.drop off).take n))):=by simp[B3]
theorem nD {α:Type}{n:Nat}{cs:List α}{off:Nat}{mk:List α->AV}{one:α->AV}{C:AV->Prop}:B3 false n cs off mk one C=BW cs[off]? fun v=>C (one v):=by
 simp only[B3,Bool.false_eq_true,if_false];cases cs[off]?<;>rfl
theorem WU {ag n o g off}:ev E dst V (.load ag n) [.ptr o g off] K=HA (V.get o g) fun cs=>B3 ag n cs off .agg id (K · .none):=by
 simp only[ev];cases V.get o g with
 |none=>rfl
 |some x=>cases x<;>rfl
theorem UU {ag n o g es i off}:ev E dst V (.load ag n) [.rptr o g es i off] K=Mr (V.get o g) (fun _ es' _ l=>es=es'/\BW l[i]? fun x=>B3 ag n x.cells off (fun cs=>.d (.agg cs)) .d (K · .none))
  fun _ l k q p=>es=1/\(i=k->B3 ag n [.own q p] off .agg id (K · .none))/\(i≠k->BW l[i]? fun x=>B3 ag n x.cells off (fun cs=>.d (.agg cs)) .d (K · .none)):=by
 simp only[ev];cases V.get o g with
 |none=>rfl
 |some x =>
  cases x with
  |row a b c l=>simp only[Mr];cases l[i]?<;>rfl
  |rowH a l k q p=>simp only[Mr];cases l[i]?<;>rfl
  |_=>rfl
theorem UV {ag n cs off}:ev E dst V (.load ag n) [.dptr cs off] K=B3 ag n cs off (fun cs=>.d (.agg cs)) .d (K · .none):=rfl
theorem bb {ag n cs}:ev E dst V (.load ag n) [.d (.ptr cs)] K=B3 ag n cs 0 (fun cs=>.d (.agg cs)) .d (K · .none):=rfl
theorem UQ {n o g off v}:ev E dst V (.store n) [.ptr o g off,v] K=HA (V.get o g) fun cs=>BW v.cells? fun vs=>vs.length=n/\off+n<=cs.length/\K .undef (.keep o g (.cells (Bf cs off vs))):=by
 unfold ev HA BW;simp only
 cases V.get o g with
 |none=>rfl
 |some x=>cases x<;>cases v.cells?<;>rfl
theorem UX {off o g a}:ev E dst V (.faddr off) [.ptr o g a] K=K (.ptr o g (a+off)) .none:=rfl
theorem SX {off cs a}:ev E dst V (.faddr off) [.dptr cs a] K=K (.dptr cs (a+off)) .none:=rfl
theorem Yf {off cs}:ev E dst V (.faddr off) [.d (.ptr cs)] K=K (.dptr cs off) .none:=rfl
theorem kn {nl:Bool}{l:List D}:ev E dst V (.len false) [.d (.list nl l)] K=K (.d (.int .i64 l.length)) .none:=rfl
theorem Ye {es nl l k i}:ev E dst V (.iaddrS es) [.d (.list nl l),.d (.int k i)] K=(0<=i/\i<l.length/\BW l[i.toNat]? fun x=>x.cells.length=es/\K (.dptr x.cells 0) .none):=by
 simp only[ev];cases l[i.toNat]?<;>rfl
theorem oI {t v}:ev E (some t) V .box [v] K=BW v.cells? fun cs=>t<EY/\K (.ptr t (V.cn t) 0) (.fresh t (.cells cs)):=by
 simp only[ev];cases v.cells?<;>rfl
theorem ko {k k' n}:ev E dst V (.conv k) [.d (.int k' n)] K=K (.d (.int k (k.wrap n))) .none:=rfl
theorem Yg {i vs}:ev E dst V (.extract i) [.tup vs] K=BW vs[i]? fun v=>K v .none:=by
 simp only[ev];cases vs[i]?<;>rfl
theorem kp {f xs}:ev E dst V (.call f) xs K=EE E dst V f xs K:=rfl
theorem P' {n o g es0 i off x}:ev E dst V (.store n) [.rptr o g es0 i off,.d x] K=IB (V.get o g) fun ety es nl l=>BW (AV.d x).toD1 fun y=>es0=es/\BW l[i]? fun x=>y.cells.length=n/\off+n<=x.cells.length/\(n=es\/1<x.cells.length) /\
  K .undef (.keep o g (.row ety es nl (l.set i (if n=es then y else .agg (Bf x.cells off y.cells))))):=by
 simp only[ev];cases V.get o g with
 |none=>rfl
 |some x =>
  cases x with
  |row a b c l=>simp only[IB];cases (AV.d x).toD1 with
   |none=>rfl
   |some y=>simp only[BW];cases l[i]?<;>rfl
  |_=>rfl
theorem UR {o g off}:ev E dst V .nilck [.ptr o g off] K=K (.ptr o g off) .none:=rfl
theorem YX {cs}:ev E dst V .nilck [.d (.ptr cs)] K=K (.d (.ptr cs)) .none:=rfl
theorem UW {es o g k i}:ev E dst V (.iaddrS es) [.own o g,.d (.int k i)] K=Mr (V.get o g) (fun _ es' _ l=>es=es'/\0<=i/\i<l.length/\K (.rptr o g es i.toNat 0) .none) fun _ l _ _ _=>es=1/\0<=i/\i<l.length/\K (.rptr o g es i.toNat 0) .none:=by
 simp only[ev];cases V.get o g with
 |none=>rfl
 |some x=>cases x<;>rfl
theorem SW {len es o g off k i}:ev E dst V (.iaddrA len es) [.ptr o g off,.d (.int k i)] K=(0<=i/\i<len/\K (.ptr o g (off+i.toNat * es)) .none):=rfl
theorem RR {len es cs off k i}:ev E dst V (.iaddrA len es) [.dptr cs off,.d (.int k i)] K=(0<=i/\i<len/\K (.dptr cs (off+i.toNat * es)) .none):=rfl
theorem WY {len es cs k i}:ev E dst V (.iaddrA len es) [.d (.ptr cs),.d (.int k i)] K=(0<=i/\i<len/\K (.dptr cs (i.toNat * es)) .none):=rfl
theorem Yd {len es ag cs k i}:ev E dst V (.index len es ag) [.d (.agg cs),.d (.int k i)] K=(0<=i/\i<len/\B3 ag es cs (i.toNat * es) (fun cs=>.d (.agg cs)) .d (K · .none)):=rfl
theorem gK {z pl xs}:ev E dst V (.build z pl) xs K=BW (MV (z.map .d) (pl.zip xs)) fun cs=>pl.length=xs.length/\K (.agg cs) .none:=by
 simp only[ev];cases MV (z.map .d) (pl.zip xs)<;>rfl
theorem UT {es z n ix}:ev E dst V (.mkrow es z n ix) [] K=BW (GH es (List.replicate n z) (ix.zip [])) fun l=>ix.length=0/\K (.ex l) .none:=by
 simp only[ev];cases GH es (List.replicate n z) (ix.zip [])<;>rfl
theorem YY {es z n ix x xs}:ev E dst V (.mkrow es z n ix) (.d x::xs) K=BW (GH es (List.replicate n z) (ix.zip (.d x::xs))) fun l=>ix.length=(.d x::xs).length/\K (.ex l) .none:=by
 simp only[ev];cases GH es (List.replicate n z) (ix.zip (.d x::xs))<;>rfl
theorem WT {es z n ix x xs}:ev E dst V (.mkrow es z n ix) (.ex x::xs) K=BW (GH es (List.replicate n z) (ix.zip (.ex x::xs))) fun l=>ix.length=(.ex x::xs).length/\K (.ex l) .none:=by
 simp only[ev];cases GH es (List.replicate n z) (ix.zip (.ex x::xs))<;>rfl
theorem US {es z n ix q p}:ev E dst V (.mkrow es z n ix) [.own q p] K=(es=1/\n=1/\ix=[0]/\K (.ablk true [.own q p] 0) .none):=rfl
theorem Xw (a b c d e A):FH (some (.mat a b c d e)) A=A a b c d e:=rfl
theorem YZ {ag n o g i}:ev E dst V (.load ag n) [.mref (.xp i) o g] K=FH (V.get o g) fun _ _ _ ix _=>BW ix[i]? fun j=>B3 ag n [.mref (.row j) o g] 0 .agg id (K · .none):=by
 simp only[ev];cases V.get o g with
 |none=>rfl
 |some x =>
  cases x with
  |mat a b c ix rows=>simp only[FH];cases ix[i]?<;>rfl
  |_=>rfl
theorem Ya {ag n o g j k}:ev E dst V (.load ag n) [.mref (.mp j k) o g] K=FH (V.get o g) fun _ _ _ _ rows=>BW rows[j]? fun x=>BW x.2[k]? fun y=>B3 ag n y.cells 0 (fun cs=>.d (.agg cs)) .d (K · .none):=by
 simp only[ev];cases V.get o g with
 |none=>rfl
 |some x =>
  cases x with
  |mat a b c ix rows=>simp only[FH];cases rows[j]? with
   |none=>rfl
   |some x=>simp only[BW];cases x.2[k]?<;>rfl
  |_=>rfl
theorem Yb {ag n cs off}:ev E dst V (.load ag n) [.ablk false cs off] K=B3 ag n cs off .agg id (K · .none):=rfl
theorem WQ {n i o g j o' g'}:ev E dst V (.store n) [.mref (.xp i) o g,.mref (.row j) o' g'] K=FH (V.get o g) fun e1 e2 nl ix rows=>n=1/\o'=o/\g'=g/\i<ix.length/\j<rows.length/\K .undef (.keep o g (.mat e1 e2 nl (ix.set i j) rows)):=by
 simp only[ev];cases V.get o g with
 |none=>rfl
 |some x=>cases x<;>rfl
theorem WR {n j k o g v}:ev E dst V (.store n) [.mref (.mp j k) o g,.d v] K=FH (V.get o g) fun e1 e2 nl ix rows=>BW (AV.d v).toD1 fun y=>BW rows[j]? fun x=>n=1/\y.cells.length=1/\k<x.2.length/\K .undef (.keep o g (.mat e1 e2 nl ix (rows.set j (x.1,x.2.set k y)))):=by
 simp only[ev];cases V.get o g with
 |none=>rfl
 |some x =>
  cases x with
  |mat a b c ix rows=>simp only[FH];cases (AV.d v).toD1 with
   |none=>rfl
   |some y=>simp only[BW];cases rows[j]?<;>rfl
  |_=>rfl
theorem WW {es o g k i}:ev E dst V (.iaddrS es) [.mref .out o g,.d (.int k i)] K=FH (V.get o g) fun _ _ _ ix _=>es=1/\0<=i/\i<ix.length/\K (.mref (.xp i.toNat) o g) .none:=by
 simp only[ev];cases V.get o g with
 |none=>rfl
 |some x=>cases x<;>rfl
theorem WV {es j o g k i}:ev E dst V (.iaddrS es) [.mref (.row j) o g,.d (.int k i)] K=FH (V.get o g) fun _ _ _ _ rows=>BW rows[j]? fun x=>es=1/\0<=i/\i<x.2.length/\K (.mref (.mp j i.toNat) o g) .none:=by
 simp only[ev];cases V.get o g with
 |none=>rfl
 |some x =>
  cases x with
  |mat a b c ix rows=>simp only[FH];cases rows[j]?<;>rfl
  |_=>rfl
theorem gL {ety es z own o g q p}:ev E dst V (.app ety es z own) [.mref .out o g,.ablk true [.own q p] 0] K=FH (V.get o g) fun e1 e2 nl ix rows=>IB (V.get q p) fun e2' es2 nl2 l2 =>
  z=none/\o<EY/\q<EY/\o≠q/\ety=e1/\es=1/\es2=1/\e2'=e2/\ix.length+1<=C0 /\
   K (.mref .out o (V.cn o)) (.seq (.fresh o (.mat e1 e2 false (ix++[rows.length]) (rows++[(nl2,l2)]))) (.fresh q (.row e2 1 true []))):=by
 simp only[ev];cases V.get o g with
 |none=>rfl
 |some x =>
  cases x with
  |mat a b c ix rows=>simp only[FH];cases V.get q p with
   |none=>rfl
   |some y=>cases y<;>rfl
  |_=>rfl
theorem bZ {ety es z n ix xs t}:ev E (some t) V (.mkrowO ety es z n ix) xs K=BW (GH es (List.replicate n z) (ix.zip xs)) fun l=>t<EY/\ix.length=xs.length/\K (.own t (V.cn t)) (.fresh t (.row ety es false l)):=by
 simp only[ev];cases GH es (List.replicate n z) (ix.zip xs)<;>rfl
theorem km {f xs}:ev E dst V (.mkfn f) xs K=K (.fn f xs) .none:=rfl
theorem ki {cs t}:ev E (some t) V (.zero cs) [] K=(t<EY/\K (.ptr t (V.cn t) 0) (.fresh t (.cells (cs.map .d)))):=rfl
theorem WS {ety es z t n m}:ev E (some t) V (.mksl ety es z true) [.d (.int .i64 n),.d (.int .i64 m)] K=(n=m/\0<=n/\n<=(C0:Int)/\t<EY/\K (.own t (V.cn t)) (.fresh t (.row ety es false (List.replicate n.toNat z)))):=rfl
theorem YW {es lo hi nl l rest}:ev E dst V (.slice es lo hi false) (.d (.list nl l)::rest) K=(Cv es l/\Mn lo hi l.length rest fun a b=>K (.d (.list nl ((l.drop a).take (b-a)))) .none):=rfl
theorem SV {es lo o g rest}:ev E dst V (.slice es lo true false) (.own o g::rest) K=IB (V.get o g) fun ety es' nl l=>o<EY/\es=es'/\Mn lo true l.length rest fun a b=>K (.own o (V.cn o)) (.fresh o (.row ety es nl ((l.drop a).take (b-a)))):=by
 simp only[ev,Bool.false_eq_true,if_false,if_true];cases V.get o g with
 |none=>rfl
 |some x=>cases x<;>rfl
theorem oH:ev E dst V .cap [.d (.list true [])] K=K (.d (.int .i64 0)) .none:=rfl
theorem mq {len:Nat}{C:Nat->Nat->Prop} {k h}:Mn false true len [.d (.int k h)] C=(0<=h/\h<=len/\C 0 h.toNat):=rfl
theorem mo {len:Nat}{C:Nat->Nat->Prop} {k h}:Mn true false len [.d (.int k h)] C=(0<=h/\h<=len/\C h.toNat len):=rfl
theorem mn {len:Nat}{C:Nat->Nat->Prop} {k h k' m}:Mn true true len [.d (.int k h),.d (.int k' m)] C=(0<=h/\h<=m/\m<=len/\C h.toNat m.toNat):=rfl
theorem Yc {o g}:ev E dst V (.len false) [.own o g] K=IB (V.get o g) fun _ _ _ l=>K (.d (.int .i64 l.length)) .none:=by
 simp only[ev,Bool.false_eq_true,if_false,AV.lenL,AV.asList];cases V.get o g with
 |none=>rfl
 |some x=>cases x<;>rfl
theorem bd {o g}:ev E dst V (.len false) [.mref .out o g] K=FH (V.get o g) fun _ _ _ ix _=>K (.d (.int .i64 ix.length)) .none:=by
 simp only[ev,Bool.false_eq_true,if_false,AV.lenL,AV.asList];cases V.get o g with
 |none=>rfl
 |some x=>cases x<;>first|rfl|simp[KX,FH]
theorem bc {j o g}:ev E dst V (.len false) [.mref (.row j) o g] K=FH (V.get o g) fun _ _ _ _ rows=>BW rows[j]? fun x=>K (.d (.int .i64 x.2.length)) .none:=by
 simp only[ev,Bool.false_eq_true,if_false,AV.lenL,AV.asList];cases V.get o g with
 |none=>rfl
 |some x=>cases x<;>first|rfl|(simp only[FH];rename_i rows;cases rows[j]?<;>rfl)
theorem be {off n cap o g}:ev E dst V (.len false) [.mref (.bs off n cap) o g] K=K (.d (.int .i64 n)) .none:=rfl
theorem gF {o g off k h k' m}:ev E dst V (.slice 1 true true true) [.ptr o g off,.d (.int k h),.d (.int k' m)] K=(0<=h/\h<=m/\K (.mref (.bs off h.toNat m.toNat) o g) .none):=rfl
theorem bX {cs off k h k' m}:ev E dst V (.slice 1 true true true) [.dptr cs off,.d (.int k h),.d (.int k' m)] K=(0<=h/\h<=m/\off+m.toNat<=cs.length/\K (.d (.list false ((cs.drop off).take h.toNat))) .none):=rfl
theorem bW {es l k a k' h k'' m}:ev E dst V (.slice es true true true) [.d (.list false l),.d (.int k a),.d (.int k' h),.d (.int k'' m)] K=(Cv es l/\h=m/\0<=a/\a<h/\h<=l.length/\K (.ex ((l.drop a.toNat).take (h.toNat-a.toNat))) .none):=rfl
theorem WX {es off n cap o g k i}:ev E dst V (.iaddrS es) [.mref (.bs off n cap) o g,.d (.int k i)] K=(es=1/\0<=i/\i<n/\K (.ptr o g (off+i.toNat)) .none):=rfl
theorem gI {n x}:ev E dst V (.eqnil n) [x,.d (.list true [])] K=BW (x.asList V) fun p=>K (.d (.bool (if n then !p.1 else p.1))) .none:=by
 simp only[ev];cases x.asList V<;>rfl
theorem ba {m k a rest}:ev E dst V (.minmax m) (.d (.int k a)::rest) K=BW (Fs m k a rest) fun r=>K (.d (.int k r)) .none:=by
 simp only[ev];cases Fs m k a rest<;>rfl
theorem Yi {ety es z own o g y}:ev E dst V (.app ety es z own) [.own o g,y] K=BW (EG V z y) fun ys=>IB (V.get o g) fun ety' es' nl l=>o<EY/\ety=ety'/\es=es'/\Cv es ys/\l.length+ys.length<=C0 /\
  K (.own o (V.cn o)) (.fresh o (.row ety es (nl && ys.isEmpty) (l++ys))):=by
 simp only[ev];cases EG V z y with
 |none=>rfl
 |some ys =>
  simp only[BW]
  cases V.get o g with
  |none=>rfl
  |some x=>cases x<;>rfl
theorem Yj {ety es z t y}:ev E (some t) V (.app ety es z true) [.d (.list true []),y] K=BW (EG V z y) fun ys=>Cv es ys/\ys.length<=C0/\t<EY/\K (.own t (V.cn t)) (.fresh t (.row ety es ys.isEmpty ys)):=by
 simp only[ev];cases EG V z y<;>rfl
theorem bf {ety es z t l y}:ev E (some t) V (.app ety es z true) [.ex l,y] K=BW (EG V z y) fun ys=>Cv es (l++ys)/\l.length+ys.length<=C0/\(ys=[]->K (.ex l) .none)/\(ys≠[]->t<EY/\K (.own t (V.cn t)) (.fresh t (.row ety es false (l++ys)))):=by
 simp only[ev];cases EG V z y with
 |none=>rfl
 |some ys=>cases ys<;>simp[BW]
theorem Yk {ety es z l y}:ev E dst V (.app ety es z false) [.ex l,y] K=BW (EG V z y) fun ys=>Cv es (l++ys)/\l.length+ys.length<=C0/\K (.d (.list false (l++ys))) .none:=by
 simp only[ev];cases EG V z y<;>rfl
theorem WZ {f cs args}:ev E dst V .callv (.fn f cs::args) K=(B0 E.P f=true/\EE E dst V f (args++cs) K):=rfl
theorem Yh {f cs args}:ev E dst V .callv (.d (.fn f cs)::args) K=(B0 E.P f=true/\EE E dst V f (args++cs.map .d) K):=rfl
theorem bt {k k':IntKind}{a b:Int}{C:AV->Prop}:DM .eql k k' a b C=(k=k'/\C (.d (.bool (decide (a=b))))):=rfl
theorem bm {k k':IntKind}{a b:Int}{C:AV->Prop}:DM .neq k k' a b C=(k=k'/\C (.d (.bool (!decide (a=b))))):=rfl
theorem bo {k k':IntKind}{a b:Int}{C:AV->Prop}:DM .lss k k' a b C=(k=k'/\C (.d (.bool (decide (a<b))))):=rfl
theorem bp {k k':IntKind}{a b:Int}{C:AV->Prop}:DM .leq k k' a b C=(k=k'/\C (.d (.bool (decide (a<=b))))):=rfl
theorem bq {k k':IntKind}{a b:Int}{C:AV->Prop}:DM .gtr k k' a b C=(k=k'/\C (.d (.bool (decide (b<a))))):=rfl
theorem br {k k':IntKind}{a b:Int}{C:AV->Prop}:DM .geq k k' a b C=(k=k'/\C (.d (.bool (decide (b<=a))))):=rfl
theorem bv {k k':IntKind}{a b:Int}{C:AV->Prop}:DM .add k k' a b C=(k=k'/\C (.d (.int k (k.wrap (a+b))))):=rfl
theorem bh {k k':IntKind}{a b:Int}{C:AV->Prop}:DM .sub k k' a b C=(k=k'/\C (.d (.int k (k.wrap (a-b))))):=rfl
theorem bn {k k':IntKind}{a b:Int}{C:AV->Prop}:DM .mul k k' a b C=(k=k'/\C (.d (.int k (k.wrap (a*b))))):=rfl
theorem bl {k k':IntKind}{a b:Int}{C:AV->Prop}:DM .quo k k' a b C=(k=k'/\b≠0/\C (.d (.int k (k.wrap (a.tdiv b))))):=rfl
theorem bk {k k':IntKind}{a b:Int}{C:AV->Prop}:DM .rem k k' a b C=(k=k'/\b≠0/\C (.d (.int k (a.tmod b)))):=rfl
theorem bj {k k':IntKind}{a b:Int}{C:AV->Prop}:DM .shl k k' a b C=(0<=b/\C (.d (.int k (k.wrap (a*2^(min b.toNat k.bits)))))):=rfl
theorem bi {k k':IntKind}{a b:Int}{C:AV->Prop}:DM .shr k k' a b C=(0<=b/\C (.d (.int k (a.fdiv (2^(min b.toNat k.bits)))))):=rfl
theorem bu {k k':IntKind}{a b:Int}{C:AV->Prop}:DM .and k k' a b C=(k=k'/\C (.d (.int k (A4 .and k a b)))):=rfl
theorem gM {k k':IntKind}{a b:Int}{C:AV->Prop}:DM .or k k' a b C=(k=k'/\C (.d (.int k (A4 .or k a b)))):=rfl
theorem bg {k k':IntKind}{a b:Int}{C:AV->Prop}:DM .xor k k' a b C=(k=k'/\C (.d (.int k (A4 .xor k a b)))):=rfl
end
end Go.Pw
end
section
namespace Go.Pw
def RB (x:Option Ad) (A:List (List D)->Nat->Prop):Prop:=match x with|some (.hist els n false)=>A els n|_=>False
theorem Vu (els n A):RB (some (.hist els n false)) A=A els n:=rfl
section
variable {E:Cr}{Q:B_->Ba->Prop}{s s':Ba}{K:AV->Bx->Prop}{KS:Ba->Prop}
theorem cx {o g:Nat}{xs:List AV}{V:AN}:SL (.own o g) xs V K=RB (V.get o g) fun els n=>BW (Fz xs) fun ds=>els[n]?=some ds/\K (.d (.bool true)) (.keep o g (.hist els (n+1) false))/\K (.d (.bool false)) (.keep o g (.hist els (n+1) true)):=by
 simp only[SL,RB]
 cases V.get o g with
 |none=>rfl
 |some x=>cases x with
  |hist els n st=>cases st<;>(simp only[BW];try (cases Fz xs<;>rfl))
  |_=>rfl
theorem cV {xs:List AV}:Fz xs=BS AV.toD1 xs:=rfl
theorem XO {sl:Nat->AV}{V:AN}:GL [] sl V=true:=rfl
def gx (V:AN) (o:Nat):Bool:=match V.ob o with|some (g,_)=>g == 0|none=>false
theorem U5 {k:Nat}{ks:List Nat}{sl:Nat->AV}{V:AN}:GL (k::ks) sl V=((sl k).sites.all (gx V) && GL ks sl V):=rfl
def gw (x:Option (Nat×Ad)):Bool:=match x with|some (g,_)=>g == 0|none=>false
theorem cX {ob cn o}:gx ⟨ob,cn⟩ o=gw (ob o):=rfl
theorem W9 {g x}:gw (some (g,x))=(g == 0):=rfl
theorem iR {m:List (Nat×(Nat×Ad))}{cn:Nat->Nat}{os:List Nat}:(AN.mk (Bb m) cn).nrm os=⟨Bb (EX ⟨Bb m,cn⟩ os os),fun _=>1⟩:=by
 have:=eU (fun _=>.undef) ⟨Bb m,cn⟩ [] os
 have h2:((Ba.mk (fun _=>.undef) ⟨Bb m,cn⟩).nrm [] os).V=(AN.mk (Bb m) cn).nrm os:=rfl
 rw[←h2,this]
theorem nN {o:Nat}:Pm o=if 900000<=o/\o<5000000 then o else o+5000000:=rfl
def mvL (l:List (Nat×AV)):List (Nat×AV):=l.map fun p=>(p.1,p.2.mv)
theorem jt:mvL []=[]:=rfl
theorem V3 {k v l}:mvL ((k,v)::l)=(k,v.mv)::mvL l:=rfl
def X2 (k:Nat) (g:Nat) (x:Option Ad) (r:List (Nat×(Nat×Ad))):List (Nat×(Nat×Ad)):=match x with
 |some y=>(Pm k,(g,y))::r
 |none=>r.filter fun p=>!(p.1 == Pm k)
def jr:List (Nat×(Nat×Ad))->List (Nat×(Nat×Ad))
 |[]=>[]
 |(k,(g,x))::l=>X2 k g x.mv (jr l)
theorem jq:jr []=[]:=rfl
theorem Vz {k g x l}:jr ((k,(g,x))::l)=X2 k g x.mv (jr l):=rfl
theorem bB {k g y r}:X2 k g (some y) r=(Pm k,(g,y))::r:=rfl
theorem O_ {k g r}:X2 k g none r=r.filter fun p=>!(p.1 == Pm k):=rfl
theorem Jk (k:Nat):∀(l:List (Nat×(Nat×Ad))) (t:Nat),Bb (l.filter fun p=>!(p.1 == k)) t=if t=k then none else Bb l t
 |[],t=>by simp[Bb]
 |p::l,t=>by
  obtain⟨a,b⟩:=p
  have ih:=Jk k l t
  by_cases h:a=k
  ·subst h
   rw[List.filter_cons,if_neg (by simp),ih]
   by_cases ht:t=a
   ·simp[ht]
   ·simp[ht,Bb]
  ·rw[List.filter_cons,if_pos (by simpa using h)]
   simp only[Bb,ih]
   by_cases ht:t=a
   ·subst ht;simp[h]
   ·simp[ht]
theorem V7:∀(m:List (Nat×(Nat×Ad))) (o:Nat),Bb (jr m) o=if Pm (Ot o)=o then (match Bb m (Ot o) with
   |some (g,x)=>match x.mv with|some y=>some (g,y)|none=>none
   |none=>none) else none
 |[],o=>by simp[jr,Bb]
 |(k,(g,x))::m,o=>by
  have ih:=V7 m o
  rw[Vz]
  by_cases h:o=Pm k
  ·subst h
   rw[H2,if_pos rfl]
   cases hx:x.mv with
   |some y=>simp[X2,Bb,hx]
   |none=>rw[O_,Jk,if_pos rfl];simp[Bb,hx]
  ·have hk:Pm (Ot o)=o->Ot o≠k:=fun h1 h2=>h (by rw[←h1,h2])
   have hrest:Bb (X2 k g x.mv (jr m)) o=Bb (jr m) o:=by
    cases x.mv with
    |some y=>simp[X2,Bb,h]
    |none=>rw[O_,Jk,if_neg h]
   rw[hrest,ih]
   by_cases h1:Pm (Ot o)=o
   ·rw[if_pos h1,if_pos h1]
    have:=hk h1
    simp[Bb,this]
   ·rw[if_neg h1,if_neg h1]
theorem pB {l:List (Nat×AV)}{m:List (Nat×(Nat×Ad))}{cn:Nat->Nat}:(Ba.mk (E9 l) ⟨Bb m,cn⟩).mv=⟨E9 (mvL l),⟨Bb (jr m),fun _=>1⟩⟩:=by
 have h1:(fun t=>(E9 l t).mv)=E9 (mvL l):=by
  funext t
  induction l with
  |nil=>rfl
  |cons p l ih =>
   obtain⟨k,v⟩:=p
   simp only[V3,E9]
   by_cases h:t=k
   ·simp[h]
   ·simp only[if_neg h];exact ih
 show Ba.mk (fun t=>(E9 l t).mv) _=_
 rw[h1]
 refine congrArg (fun ob=>Ba.mk _ (AN.mk ob _)) ?_
 funext o
 exact(V7 m o).symm
theorem av {xs}:(Ad.cells xs).mv=some (.cells (xs.map AV.mv)):=rfl
theorem p_ {x}:(AV.d x).mv=.d x:=rfl
theorem nO {o g f}:(AV.ptr o g f).mv=.ptr (Pm o) g f:=rfl
theorem an {V:AN} {os a b l}:(Ad.hist a b l).nrm V os=some (.hist a b l):=rfl
theorem T_ {A:Ba->Prop}:Pl A .normal s=A s:=rfl
theorem aK {sl:Nat->AV} {ds}:MH sl [] ds=sl:=by cases ds<;>rfl
theorem Xe {sl:Nat->AV} {p ps d ds}:MH sl (p::ps) (d::ds)=MH (CL sl p (.d d)) ps ds:=rfl
def aY {α:Type}(T:α->AN) (Inv:Nat->α->Prop) (PInv:B_->α->Prop) (m:Nat) (gs:List Eu) (ks os:List Nat) (sl:Nat->AV) (e:B_) (s:Ba):Prop :=
 CX gs s fun s'=>GL ks sl (s'.V.nrm os)=true/\∃y,s'.V.nrm os=T y/\(match e with|.normal=>Inv m y|e=>PInv e y)
theorem Vj {α:Type}{T:α->AN} {Inv PInv m gs ks os sl}:aY T Inv PInv m gs ks os sl .normal s=CX gs s fun s'=>GL ks sl (s'.V.nrm os)=true/\∃y,s'.V.nrm os=T y/\Inv m y:=rfl
theorem aX {α:Type}{T:α->AN} {Inv PInv m gs ks os sl i}:aY T Inv PInv m gs ks os sl (.exit i) s=CX gs s fun s'=>GL ks sl (s'.V.nrm os)=true/\∃y,s'.V.nrm os=T y/\PInv (.exit i) y:=rfl
theorem jR {α:Type}(T:α->AN) (Inv:Nat->α->Prop) (PInv:B_->α->Prop) (x0:α) {ps ks os:List Nat}{b:PC}{gs2:List Eu}{os2:List Nat}{a:PC}{f:FuncId}{pre post:List D}{els:List (List D)}{sl1:Nat->AV}{s1:Ba}
  (h2:(s1.nrm ks os).mv=⟨sl1,T x0⟩) (hr:(b.noR && a.noR)=true) (hs:cY E f pre post els) (hw:GL ks sl1 (T x0)=true) (hI:Inv 0 x0)
  (step:∀n x ds,els[n]?=some ds->Inv n x->ps.length=ds.length/\pw E b (Pl fun s2=>pw E a (aY T Inv PInv (n+1) gs2 ks os2 sl1) s2) ⟨MH sl1 ps ds,T x⟩)
  (hend:∀x,Inv els.length x->Q .normal ⟨sl1,T x⟩) (hjump:∀e x,PInv e x->Q e ⟨sl1,T x⟩) :
  (b.noR && a.noR)=true/\∃els,cY E f pre post els/\∃(JJ:Nat->AN->Prop) (Pd:B_->AN->Prop),
   GL ks (s1.nrm ks os).mv.sl (s1.nrm ks os).mv.V=true/\JJ 0 (s1.nrm ks os).mv.V /\
   (∀n V ds,V.cn=(fun _=>1)->els[n]?=some ds->JJ n V->ps.length=ds.length /\
    pw E b (Pl fun s2=>pw E a (mr JJ Pd (n+1) gs2 ks os2 (s1.nrm ks os).mv.sl) s2) ⟨MH (s1.nrm ks os).mv.sl ps ds,V⟩) /\
   (∀V,V.cn=(fun _=>1)->JJ els.length V->Q .normal ⟨(s1.nrm ks os).mv.sl,V⟩) /\
   ∀e V,V.cn=(fun _=>1)->Pd e V->Q e ⟨(s1.nrm ks os).mv.sl,V⟩:=by
 refine⟨hr,els,hs,fun n V=>∃x,V=T x/\Inv n x,fun e V=>∃x,V=T x/\PInv e x,?_,?_,?_,?_,?_⟩
 ·rw[h2];exact hw
 ·rw[h2];exact⟨x0,rfl,hI⟩
 ·rintro n V ds _ hds ⟨x,rfl,hx⟩
  obtain⟨k1,k2⟩:=step n x ds hds hx
  refine⟨k1,?_⟩
  rw[h2]
  refine GT k2 fun e s2 h3=>?_
  cases e with
  |normal =>
   refine GT h3 fun e s3 h4=>?_
   refine DH (fun s4 h5=>?_) h4
   obtain⟨k3,y,k4,k5⟩:=h5
   refine⟨k3,?_⟩
   cases e with
   |normal=>exact⟨y,k4,k5⟩
   |exit i=>exact⟨y,k4,k5⟩
   |ret=>exact⟨y,k4,k5⟩
  |exit i=>exact h3
  |ret=>exact h3
 ·rintro V _ ⟨x,rfl,hx⟩
  rw[h2];exact hend x hx
 ·rintro e V _ ⟨x,rfl,hx⟩
  rw[h2];exact hjump e x hx
theorem ZM {α:Type}(T:α->AN) (Inv:Nat->α->Prop) (PInv:B_->α->Prop) (x0:α) {gs:List Eu}{g:KH}{ps ks os:List Nat}{b:PC}{gs2:List Eu}{os2:List Nat}{a:PC}{f:FuncId}{pre post:List D}{els:List (List D)}{sl1:Nat->AV}
  (h0:CX gs s fun s1=>(g.val s1.sl=.bnd f pre/\post=[]\/g.val s1.sl=.d (.fn f post)/\pre=[])/\(s1.nrm ks os).mv=⟨sl1,T x0⟩) (hT:∀x,(T x).cn=fun _=>1) (hb:B0 E.P f=true) (hr:(b.noR && a.noR)=true) (hs:cY E f pre post els) (hw:GL ks sl1 (T x0)=true) (hI:Inv 0 x0)
  (step:∀n x ds,els[n]?=some ds->Inv n x->ps.length=ds.length/\pw E b (Pl fun s2=>pw E a (aY T Inv PInv (n+1) gs2 ks os2 sl1) s2) ⟨MH sl1 ps ds,T x⟩)
  (hend:∀x,Inv els.length x->Q .normal ⟨sl1,T x⟩) (hjump:∀e x,PInv e x->Q e ⟨sl1,T x⟩):pw E (.rngF gs g ps ks os b gs2 os2 a) Q s:=by
 refine DH (fun s1 h=>?_) h0
 obtain⟨h1,h2⟩:=h
 suffices hk:Vi E (g.val s1.sl) (fun f' pre' post'=>f'=f/\pre'=pre/\post'=post) by
  refine S3 (fun f' pre' post' hk=>?_) hk
  obtain⟨rfl,rfl,rfl⟩:=hk
  exact jR T Inv PInv x0 h2 hr hs hw hI step hend hjump
 unfold Vi
 rcases h1 with⟨h1,rfl⟩|⟨h1,rfl⟩
 ·rw[h1];exact⟨hb,rfl,rfl,rfl⟩
 ·rw[h1];exact⟨hb,rfl,rfl,rfl⟩
end
end Go.Pw
end
