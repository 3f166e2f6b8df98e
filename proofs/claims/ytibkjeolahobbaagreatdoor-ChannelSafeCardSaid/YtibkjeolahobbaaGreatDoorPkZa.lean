/- A part of the proof. -/
import Derived.Test.YtibkjeolahobbaaGreatDoorPwZ
set_option linter.all false
section
namespace Go.Pw
def G_ (x:Option Ad) (A:List AV->Prop):Prop:=match x with|some (.cells cs)=>A cs|_=>False
def H' (x:Option Ad) (A:Nat->Nat->Bool->List D->Prop):Prop:=match x with|some (.row a b c l)=>A a b c l|_=>False
def Mk (x:Option Ad) (A:Nat->Nat->Bool->List D->Prop) (B:Nat->List D->Nat->Nat->Nat->Prop):Prop:=match x with|some (.row a b c l)=>A a b c l|some (.rowH a l i q p)=>B a l i q p|_=>False
def qE (x:Option Ad) (A:NG->List (D×D)->Prop):Prop:=match x with|some (.map t l)=>A t l|_=>False
def FH (x:Option Ad) (A:Nat->Nat->Bool->List Nat->List (Bool×List D)->Prop):Prop:=match x with|some (.mat a b c d e)=>A a b c d e|_=>False
def BV {α:Type}(x:Option α) (A:α->Prop):Prop:=match x with|some v=>A v|none=>False
def qD {α:Type}(x:Option α) (A:α->Prop) (B:Prop):Prop:=match x with|some v=>A v|none=>B
theorem T3 (cs A):G_ (some (.cells cs)) A=A cs:=rfl
theorem Xm (a b c l A):H' (some (.row a b c l)) A=A a b c l:=rfl
theorem Xn (a b c l A B):Mk (some (.row a b c l)) A B=A a b c l:=rfl
theorem Vj {α:Type}(v:α) (A:α->Prop):BV (some v) A=A v:=rfl
section
variable {E:Cr}{dst:Option Nat}{V:AL}{K:AV->Bw->Prop}
theorem mw {α:Type}{n:Nat}{cs:List α}{off:Nat}{mk:List α->AV}{one:α->AV}{C:AV->Prop}:B2 true n cs off mk one C=(off+n<=cs.length/\C (mk ((cs.drop off).take n))):=by simp[B2]
theorem my {α:Type}{n:Nat}{cs:List α}{off:Nat}{mk:List α->AV}{one:α->AV}{C:AV->Prop}:B2 false n cs off mk one C=BV cs[off]? fun v=>C (one v):=by
 simp only[B2,Bool.false_eq_true,if_false];cases cs[off]?<;>rfl
theorem WM {ag n o g off}:ev E dst V (.load ag n) [.ptr o g off] K=G_ (V.get o g) fun cs=>B2 ag n cs off .agg id (K · .none):=by
 simp only[ev];cases V.get o g with
 |none=>rfl
 |some x=>cases x<;>rfl
theorem UK {ag n o g es i off}:ev E dst V (.load ag n) [.rptr o g es i off] K=Mk (V.get o g) (fun _ es' _ l=>es=es'/\BV l[i]? fun x=>B2 ag n x.cells off (fun cs=>.d (.agg cs)) .d (K · .none))
  fun _ l k q p=>es=1/\(i=k->B2 ag n [.own q p] off .agg id (K · .none))/\(i≠k->BV l[i]? fun x=>B2 ag n x.cells off (fun cs=>.d (.agg cs)) .d (K · .none)):=by
 simp only[ev];cases V.get o g with
 |none=>rfl
 |some x =>
  cases x with
  |row a b c l=>simp only[Mk];cases l[i]?<;>rfl
  |rowH a l k q p=>simp only[Mk];cases l[i]?<;>rfl
  |_=>rfl
theorem UL {ag n cs off}:ev E dst V (.load ag n) [.dptr cs off] K=B2 ag n cs off (fun cs=>.d (.agg cs)) .d (K · .none):=rfl
theorem bS {ag n cs}:ev E dst V (.load ag n) [.d (.ptr cs)] K=B2 ag n cs 0 (fun cs=>.d (.agg cs)) .d (K · .none):=rfl
theorem UG {n o g off v}:ev E dst V (.store n) [.ptr o g off,v] K=G_ (V.get o g) fun cs=>BV v.cells? fun vs=>vs.length=n/\off+n<=cs.length/\K .undef (.keep o g (.cells (Bf cs off vs))):=by
 unfold ev G_ BV;simp only
 cases V.get o g with
 |none=>rfl
 |some x=>cases x<;>cases v.cells?<;>rfl
theorem UN {off o g a}:ev E dst V (.faddr off) [.ptr o g a] K=K (.ptr o g (a+off)) .none:=rfl
theorem SM {off cs a}:ev E dst V (.faddr off) [.dptr cs a] K=K (.dptr cs (a+off)) .none:=rfl
theorem YX {off cs}:ev E dst V (.faddr off) [.d (.ptr cs)] K=K (.dptr cs off) .none:=rfl
theorem ke {nl:Bool}{l:List D}:ev E dst V (.len false) [.d (.list nl l)] K=K (.d (.int .i64 l.length)) .none:=rfl
theorem YW {es nl l k i}:ev E dst V (.iaddrS es) [.d (.list nl l),.d (.int k i)] K=(0<=i/\i<l.length/\BV l[i.toNat]? fun x=>x.cells.length=es/\K (.dptr x.cells 0) .none):=by
 simp only[ev];cases l[i.toNat]?<;>rfl
theorem n9 {t v}:ev E (some t) V .box [v] K=BV v.cells? fun cs=>t<EY/\K (.ptr t (V.cn t) 0) (.fresh t (.cells cs)):=by
 simp only[ev];cases v.cells?<;>rfl
theorem kf {k k' n}:ev E dst V (.conv k) [.d (.int k' n)] K=K (.d (.int k (k.wrap n))) .none:=rfl
theorem YY {i vs}:ev E dst V (.extract i) [.tup vs] K=BV vs[i]? fun v=>K v .none:=by
 simp only[ev];cases vs[i]?<;>rfl
theorem kg {f xs}:ev E dst V (.call f) xs K=EE E dst V f xs K:=rfl
theorem P3 {n o g es0 i off x}:ev E dst V (.store n) [.rptr o g es0 i off,.d x] K=H' (V.get o g) fun ety es nl l=>BV (AV.d x).toD1 fun y=>es0=es/\BV l[i]? fun x=>y.cells.length=n/\off+n<=x.cells.length/\(n=es\/1<x.cells.length) /\
  K .undef (.keep o g (.row ety es nl (l.set i (if n=es then y else .agg (Bf x.cells off y.cells))))):=by
 simp only[ev];cases V.get o g with
 |none=>rfl
 |some x =>
  cases x with
  |row a b c l=>simp only[H'];cases (AV.d x).toD1 with
   |none=>rfl
   |some y=>simp only[BV];cases l[i]?<;>rfl
  |_=>rfl
theorem UH {o g off}:ev E dst V .nilck [.ptr o g off] K=K (.ptr o g off) .none:=rfl
theorem YP {cs}:ev E dst V .nilck [.d (.ptr cs)] K=K (.d (.ptr cs)) .none:=rfl
theorem UM {es o g k i}:ev E dst V (.iaddrS es) [.own o g,.d (.int k i)] K=Mk (V.get o g) (fun _ es' _ l=>es=es'/\0<=i/\i<l.length/\K (.rptr o g es i.toNat 0) .none) fun _ l _ _ _=>es=1/\0<=i/\i<l.length/\K (.rptr o g es i.toNat 0) .none:=by
 simp only[ev];cases V.get o g with
 |none=>rfl
 |some x=>cases x<;>rfl
theorem SL {len es o g off k i}:ev E dst V (.iaddrA len es) [.ptr o g off,.d (.int k i)] K=(0<=i/\i<len/\K (.ptr o g (off+i.toNat * es)) .none):=rfl
theorem RI {len es cs off k i}:ev E dst V (.iaddrA len es) [.dptr cs off,.d (.int k i)] K=(0<=i/\i<len/\K (.dptr cs (off+i.toNat * es)) .none):=rfl
theorem WQ {len es cs k i}:ev E dst V (.iaddrA len es) [.d (.ptr cs),.d (.int k i)] K=(0<=i/\i<len/\K (.dptr cs (i.toNat * es)) .none):=rfl
theorem YV {len es ag cs k i}:ev E dst V (.index len es ag) [.d (.agg cs),.d (.int k i)] K=(0<=i/\i<len/\B2 ag es cs (i.toNat * es) (fun cs=>.d (.agg cs)) .d (K · .none)):=rfl
theorem gC {z pl xs}:ev E dst V (.build z pl) xs K=BV (MP (z.map .d) (pl.zip xs)) fun cs=>pl.length=xs.length/\K (.agg cs) .none:=by
 simp only[ev];cases MP (z.map .d) (pl.zip xs)<;>rfl
theorem UJ {es z n ix}:ev E dst V (.mkrow es z n ix) [] K=BV (GH es (List.replicate n z) (ix.zip [])) fun l=>ix.length=0/\K (.ex l) .none:=by
 simp only[ev];cases GH es (List.replicate n z) (ix.zip [])<;>rfl
theorem YQ {es z n ix x xs}:ev E dst V (.mkrow es z n ix) (.d x::xs) K=BV (GH es (List.replicate n z) (ix.zip (.d x::xs))) fun l=>ix.length=(.d x::xs).length/\K (.ex l) .none:=by
 simp only[ev];cases GH es (List.replicate n z) (ix.zip (.d x::xs))<;>rfl
theorem WL {es z n ix x xs}:ev E dst V (.mkrow es z n ix) (.ex x::xs) K=BV (GH es (List.replicate n z) (ix.zip (.ex x::xs))) fun l=>ix.length=(.ex x::xs).length/\K (.ex l) .none:=by
 simp only[ev];cases GH es (List.replicate n z) (ix.zip (.ex x::xs))<;>rfl
theorem UI {es z n ix q p}:ev E dst V (.mkrow es z n ix) [.own q p] K=(es=1/\n=1/\ix=[0]/\K (.ablk true [.own q p] 0) .none):=rfl
theorem Xo (a b c d e A):FH (some (.mat a b c d e)) A=A a b c d e:=rfl
theorem YR {ag n o g i}:ev E dst V (.load ag n) [.mref (.xp i) o g] K=FH (V.get o g) fun _ _ _ ix _=>BV ix[i]? fun j=>B2 ag n [.mref (.row j) o g] 0 .agg id (K · .none):=by
 simp only[ev];cases V.get o g with
 |none=>rfl
 |some x =>
  cases x with
  |mat a b c ix rows=>simp only[FH];cases ix[i]?<;>rfl
  |_=>rfl
theorem YS {ag n o g j k}:ev E dst V (.load ag n) [.mref (.mp j k) o g] K=FH (V.get o g) fun _ _ _ _ rows=>BV rows[j]? fun x=>BV x.2[k]? fun y=>B2 ag n y.cells 0 (fun cs=>.d (.agg cs)) .d (K · .none):=by
 simp only[ev];cases V.get o g with
 |none=>rfl
 |some x =>
  cases x with
  |mat a b c ix rows=>simp only[FH];cases rows[j]? with
   |none=>rfl
   |some x=>simp only[BV];cases x.2[k]?<;>rfl
  |_=>rfl
theorem YT {ag n cs off}:ev E dst V (.load ag n) [.ablk false cs off] K=B2 ag n cs off .agg id (K · .none):=rfl
theorem WI {n i o g j o' g'}:ev E dst V (.store n) [.mref (.xp i) o g,.mref (.row j) o' g'] K=FH (V.get o g) fun e1 e2 nl ix rows=>n=1/\o'=o/\g'=g/\i<ix.length/\j<rows.length/\K .undef (.keep o g (.mat e1 e2 nl (ix.set i j) rows)):=by
 simp only[ev];cases V.get o g with
 |none=>rfl
 |some x=>cases x<;>rfl
theorem WJ {n j k o g v}:ev E dst V (.store n) [.mref (.mp j k) o g,.d v] K=FH (V.get o g) fun e1 e2 nl ix rows=>BV (AV.d v).toD1 fun y=>BV rows[j]? fun x=>n=1/\y.cells.length=1/\k<x.2.length/\K .undef (.keep o g (.mat e1 e2 nl ix (rows.set j (x.1,x.2.set k y)))):=by
 simp only[ev];cases V.get o g with
 |none=>rfl
 |some x =>
  cases x with
  |mat a b c ix rows=>simp only[FH];cases (AV.d v).toD1 with
   |none=>rfl
   |some y=>simp only[BV];cases rows[j]?<;>rfl
  |_=>rfl
theorem WO {es o g k i}:ev E dst V (.iaddrS es) [.mref .out o g,.d (.int k i)] K=FH (V.get o g) fun _ _ _ ix _=>es=1/\0<=i/\i<ix.length/\K (.mref (.xp i.toNat) o g) .none:=by
 simp only[ev];cases V.get o g with
 |none=>rfl
 |some x=>cases x<;>rfl
theorem WN {es j o g k i}:ev E dst V (.iaddrS es) [.mref (.row j) o g,.d (.int k i)] K=FH (V.get o g) fun _ _ _ _ rows=>BV rows[j]? fun x=>es=1/\0<=i/\i<x.2.length/\K (.mref (.mp j i.toNat) o g) .none:=by
 simp only[ev];cases V.get o g with
 |none=>rfl
 |some x =>
  cases x with
  |mat a b c ix rows=>simp only[FH];cases rows[j]?<;>rfl
  |_=>rfl
theorem gD {ety es z own o g q p}:ev E dst V (.app ety es z own) [.mref .out o g,.ablk true [.own q p] 0] K=FH (V.get o g) fun e1 e2 nl ix rows=>H' (V.get q p) fun e2' es2 nl2 l2 =>
  z=none/\o<EY/\q<EY/\o≠q/\ety=e1/\es=1/\es2=1/\e2'=e2/\ix.length+1<=C0 /\
   K (.mref .out o (V.cn o)) (.seq (.fresh o (.mat e1 e2 false (ix++[rows.length]) (rows++[(nl2,l2)]))) (.fresh q (.row e2 1 true []))):=by
 simp only[ev];cases V.get o g with
 |none=>rfl
 |some x =>
  cases x with
  |mat a b c ix rows=>simp only[FH];cases V.get q p with
   |none=>rfl
   |some y=>cases y<;>rfl
  |_=>rfl
theorem bQ {ety es z n ix xs t}:ev E (some t) V (.mkrowO ety es z n ix) xs K=BV (GH es (List.replicate n z) (ix.zip xs)) fun l=>t<EY/\ix.length=xs.length/\K (.own t (V.cn t)) (.fresh t (.row ety es false l)):=by
 simp only[ev];cases GH es (List.replicate n z) (ix.zip xs)<;>rfl
theorem kd {f xs}:ev E dst V (.mkfn f) xs K=K (.fn f xs) .none:=rfl
theorem ka {cs t}:ev E (some t) V (.zero cs) [] K=(t<EY/\K (.ptr t (V.cn t) 0) (.fresh t (.cells (cs.map .d)))):=rfl
theorem WK {ety es z t n m}:ev E (some t) V (.mksl ety es z true) [.d (.int .i64 n),.d (.int .i64 m)] K=(n=m/\0<=n/\n<=(C0:Int)/\t<EY/\K (.own t (V.cn t)) (.fresh t (.row ety es false (List.replicate n.toNat z)))):=rfl
theorem YO {es lo hi nl l rest}:ev E dst V (.slice es lo hi false) (.d (.list nl l)::rest) K=(Cv es l/\Mg lo hi l.length rest fun a b=>K (.d (.list nl ((l.drop a).take (b-a)))) .none):=rfl
theorem SK {es lo o g rest}:ev E dst V (.slice es lo true false) (.own o g::rest) K=H' (V.get o g) fun ety es' nl l=>o<EY/\es=es'/\Mg lo true l.length rest fun a b=>K (.own o (V.cn o)) (.fresh o (.row ety es nl ((l.drop a).take (b-a)))):=by
 simp only[ev,Bool.false_eq_true,if_false,if_true];cases V.get o g with
 |none=>rfl
 |some x=>cases x<;>rfl
theorem n8:ev E dst V .cap [.d (.list true [])] K=K (.d (.int .i64 0)) .none:=rfl
theorem me {len:Nat}{C:Nat->Nat->Prop} {k h}:Mg false true len [.d (.int k h)] C=(0<=h/\h<=len/\C 0 h.toNat):=rfl
theorem md {len:Nat}{C:Nat->Nat->Prop} {k h}:Mg true false len [.d (.int k h)] C=(0<=h/\h<=len/\C h.toNat len):=rfl
theorem mc {len:Nat}{C:Nat->Nat->Prop} {k h k' m}:Mg true true len [.d (.int k h),.d (.int k' m)] C=(0<=h/\h<=m/\m<=len/\C h.toNat m.toNat):=rfl
theorem YU {o g}:ev E dst V (.len false) [.own o g] K=H' (V.get o g) fun _ _ _ l=>K (.d (.int .i64 l.length)) .none:=by
 simp only[ev,Bool.false_eq_true,if_false,AV.lenL,AV.asList];cases V.get o g with
 |none=>rfl
 |some x=>cases x<;>rfl
theorem bU {o g}:ev E dst V (.len false) [.mref .out o g] K=FH (V.get o g) fun _ _ _ ix _=>K (.d (.int .i64 ix.length)) .none:=by
 simp only[ev,Bool.false_eq_true,if_false,AV.lenL,AV.asList];cases V.get o g with
 |none=>rfl
 |some x=>cases x<;>first|rfl|simp[KV,FH]
theorem bT {j o g}:ev E dst V (.len false) [.mref (.row j) o g] K=FH (V.get o g) fun _ _ _ _ rows=>BV rows[j]? fun x=>K (.d (.int .i64 x.2.length)) .none:=by
 simp only[ev,Bool.false_eq_true,if_false,AV.lenL,AV.asList];cases V.get o g with
 |none=>rfl
 |some x=>cases x<;>first|rfl|(simp only[FH];rename_i rows;cases rows[j]?<;>rfl)
theorem bV {off n cap o g}:ev E dst V (.len false) [.mref (.bs off n cap) o g] K=K (.d (.int .i64 n)) .none:=rfl
theorem f8 {o g off k h k' m}:ev E dst V (.slice 1 true true true) [.ptr o g off,.d (.int k h),.d (.int k' m)] K=(0<=h/\h<=m/\K (.mref (.bs off h.toNat m.toNat) o g) .none):=rfl
theorem bP {cs off k h k' m}:ev E dst V (.slice 1 true true true) [.dptr cs off,.d (.int k h),.d (.int k' m)] K=(0<=h/\h<=m/\off+m.toNat<=cs.length/\K (.d (.list false ((cs.drop off).take h.toNat))) .none):=rfl
theorem bO {es l k a k' h k'' m}:ev E dst V (.slice es true true true) [.d (.list false l),.d (.int k a),.d (.int k' h),.d (.int k'' m)] K=(Cv es l/\h=m/\0<=a/\a<h/\h<=l.length/\K (.ex ((l.drop a.toNat).take (h.toNat-a.toNat))) .none):=rfl
theorem WP {es off n cap o g k i}:ev E dst V (.iaddrS es) [.mref (.bs off n cap) o g,.d (.int k i)] K=(es=1/\0<=i/\i<n/\K (.ptr o g (off+i.toNat)) .none):=rfl
theorem gA {n x}:ev E dst V (.eqnil n) [x,.d (.list true [])] K=BV (x.asList V) fun p=>K (.d (.bool (if n then !p.1 else p.1))) .none:=by
 simp only[ev];cases x.asList V<;>rfl
theorem bR {m k a rest}:ev E dst V (.minmax m) (.d (.int k a)::rest) K=BV (Fs m k a rest) fun r=>K (.d (.int k r)) .none:=by
 simp only[ev];cases Fs m k a rest<;>rfl
theorem Ya {ety es z own o g y}:ev E dst V (.app ety es z own) [.own o g,y] K=BV (EG V z y) fun ys=>H' (V.get o g) fun ety' es' nl l=>o<EY/\ety=ety'/\es=es'/\Cv es ys/\l.length+ys.length<=C0 /\
  K (.own o (V.cn o)) (.fresh o (.row ety es (nl && ys.isEmpty) (l++ys))):=by
 simp only[ev];cases EG V z y with
 |none=>rfl
 |some ys =>
  simp only[BV]
  cases V.get o g with
  |none=>rfl
  |some x=>cases x<;>rfl
theorem Yb {ety es z t y}:ev E (some t) V (.app ety es z true) [.d (.list true []),y] K=BV (EG V z y) fun ys=>Cv es ys/\ys.length<=C0/\t<EY/\K (.own t (V.cn t)) (.fresh t (.row ety es ys.isEmpty ys)):=by
 simp only[ev];cases EG V z y<;>rfl
theorem bW {ety es z t l y}:ev E (some t) V (.app ety es z true) [.ex l,y] K=BV (EG V z y) fun ys=>Cv es (l++ys)/\l.length+ys.length<=C0/\(ys=[]->K (.ex l) .none)/\(ys≠[]->t<EY/\K (.own t (V.cn t)) (.fresh t (.row ety es false (l++ys)))):=by
 simp only[ev];cases EG V z y with
 |none=>rfl
 |some ys=>cases ys<;>simp[BV]
theorem Yc {ety es z l y}:ev E dst V (.app ety es z false) [.ex l,y] K=BV (EG V z y) fun ys=>Cv es (l++ys)/\l.length+ys.length<=C0/\K (.d (.list false (l++ys))) .none:=by
 simp only[ev];cases EG V z y<;>rfl
theorem WR {f cs args}:ev E dst V .callv (.fn f cs::args) K=(Bz E.P f=true/\EE E dst V f (args++cs) K):=rfl
theorem YZ {f cs args}:ev E dst V .callv (.d (.fn f cs)::args) K=(Bz E.P f=true/\EE E dst V f (args++cs.map .d) K):=rfl
theorem bk {k k':IntKind}{a b:Int}{C:AV->Prop}:DM .eql k k' a b C=(k=k'/\C (.d (.bool (decide (a=b))))):=rfl
theorem be {k k':IntKind}{a b:Int}{C:AV->Prop}:DM .neq k k' a b C=(k=k'/\C (.d (.bool (!decide (a=b))))):=rfl
theorem bg {k k':IntKind}{a b:Int}{C:AV->Prop}:DM .lss k k' a b C=(k=k'/\C (.d (.bool (decide (a<b))))):=rfl
theorem bh {k k':IntKind}{a b:Int}{C:AV->Prop}:DM .leq k k' a b C=(k=k'/\C (.d (.bool (decide (a<=b))))):=rfl
theorem bi {k k':IntKind}{a b:Int}{C:AV->Prop}:DM .gtr k k' a b C=(k=k'/\C (.d (.bool (decide (b<a))))):=rfl
theorem bj {k k':IntKind}{a b:Int}{C:AV->Prop}:DM .geq k k' a b C=(k=k'/\C (.d (.bool (decide (b<=a))))):=rfl
theorem bm {k k':IntKind}{a b:Int}{C:AV->Prop}:DM .add k k' a b C=(k=k'/\C (.d (.int k (k.wrap (a+b))))):=rfl
theorem bZ {k k':IntKind}{a b:Int}{C:AV->Prop}:DM .sub k k' a b C=(k=k'/\C (.d (.int k (k.wrap (a-b))))):=rfl
theorem bf {k k':IntKind}{a b:Int}{C:AV->Prop}:DM .mul k k' a b C=(k=k'/\C (.d (.int k (k.wrap (a*b))))):=rfl
theorem bd {k k':IntKind}{a b:Int}{C:AV->Prop}:DM .quo k k' a b C=(k=k'/\b≠0/\C (.d (.int k (k.wrap (a.tdiv b))))):=rfl
theorem bc {k k':IntKind}{a b:Int}{C:AV->Prop}:DM .rem k k' a b C=(k=k'/\b≠0/\C (.d (.int k (a.tmod b)))):=rfl
theorem bb {k k':IntKind}{a b:Int}{C:AV->Prop}:DM .shl k k' a b C=(0<=b/\C (.d (.int k (k.wrap (a*2^(min b.toNat k.bits)))))):=rfl
theorem ba {k k':IntKind}{a b:Int}{C:AV->Prop}:DM .shr k k' a b C=(0<=b/\C (.d (.int k (a.fdiv (2^(min b.toNat k.bits)))))):=rfl
theorem bl {k k':IntKind}{a b:Int}{C:AV->Prop}:DM .and k k' a b C=(k=k'/\C (.d (.int k (A4 .and k a b)))):=rfl
theorem gE {k k':IntKind}{a b:Int}{C:AV->Prop}:DM .or k k' a b C=(k=k'/\C (.d (.int k (A4 .or k a b)))):=rfl
theorem bX {k k':IntKind}{a b:Int}{C:AV->Prop}:DM .xor k k' a b C=(k=k'/\C (.d (.int k (A4 .xor k a b)))):=rfl
end
end Go.Pw
end
section
namespace Go.Pw
def Q3 (x:Option Ad) (A:List (List D)->Nat->Prop):Prop:=match x with|some (.hist els n false)=>A els n|_=>False
theorem Vm (els n A):Q3 (some (.hist els n false)) A=A els n:=rfl
section
variable {E:Cr}{Q:B9->Ba->Prop}{s s':Ba}{K:AV->Bw->Prop}{KS:Ba->Prop}
theorem cm {o g:Nat}{xs:List AV}{V:AL}:SA (.own o g) xs V K=Q3 (V.get o g) fun els n=>BV (Fz xs) fun ds=>els[n]?=some ds/\K (.d (.bool true)) (.keep o g (.hist els (n+1) false))/\K (.d (.bool false)) (.keep o g (.hist els (n+1) true)):=by
 simp only[SA,Q3]
 cases V.get o g with
 |none=>rfl
 |some x=>cases x with
  |hist els n st=>cases st<;>(simp only[BV];try (cases Fz xs<;>rfl))
  |_=>rfl
theorem cH {xs:List AV}:Fz xs=BR AV.toD1 xs:=rfl
theorem XG {sl:Nat->AV}{V:AL}:GL [] sl V=true:=rfl
def gm (V:AL) (o:Nat):Bool:=match V.ob o with|some (g,_)=>g == 0|none=>false
theorem Ux {k:Nat}{ks:List Nat}{sl:Nat->AV}{V:AL}:GL (k::ks) sl V=((sl k).sites.all (gm V) && GL ks sl V):=rfl
def gk (x:Option (Nat×Ad)):Bool:=match x with|some (g,_)=>g == 0|none=>false
theorem cK {ob cn o}:gm ⟨ob,cn⟩ o=gk (ob o):=rfl
theorem Wz {g x}:gk (some (g,x))=(g == 0):=rfl
theorem iI {m:List (Nat×(Nat×Ad))}{cn:Nat->Nat}{os:List Nat}:(AL.mk (Bb m) cn).nrm os=⟨Bb (EX ⟨Bb m,cn⟩ os os),fun _=>1⟩:=by
 have:=eM (fun _=>.undef) ⟨Bb m,cn⟩ [] os
 have h2:((Ba.mk (fun _=>.undef) ⟨Bb m,cn⟩).nrm [] os).V=(AL.mk (Bb m) cn).nrm os:=rfl
 rw[←h2,this]
theorem nF {o:Nat}:Pe o=if 900000<=o/\o<5000000 then o else o+5000000:=rfl
def mvL (l:List (Nat×AV)):List (Nat×AV):=l.map fun p=>(p.1,p.2.mv)
theorem jk:mvL []=[]:=rfl
theorem Vs {k v l}:mvL ((k,v)::l)=(k,v.mv)::mvL l:=rfl
def Xu (k:Nat) (g:Nat) (x:Option Ad) (r:List (Nat×(Nat×Ad))):List (Nat×(Nat×Ad)):=match x with
 |some y=>(Pe k,(g,y))::r
 |none=>r.filter fun p=>!(p.1 == Pe k)
def jj:List (Nat×(Nat×Ad))->List (Nat×(Nat×Ad))
 |[]=>[]
 |(k,(g,x))::l=>Xu k g x.mv (jj l)
theorem ji:jj []=[]:=rfl
theorem Vr {k g x l}:jj ((k,(g,x))::l)=Xu k g x.mv (jj l):=rfl
theorem aw {k g y r}:Xu k g (some y) r=(Pe k,(g,y))::r:=rfl
theorem O2 {k g r}:Xu k g none r=r.filter fun p=>!(p.1 == Pe k):=rfl
theorem Ji (k:Nat):∀(l:List (Nat×(Nat×Ad))) (t:Nat),Bb (l.filter fun p=>!(p.1 == k)) t=if t=k then none else Bb l t
 |[],t=>by simp[Bb]
 |p::l,t=>by
  obtain⟨a,b⟩:=p
  have ih:=Ji k l t
  by_cases h:a=k
  ·subst h
   rw[List.filter_cons,if_neg (by simp),ih]
   by_cases ht:t=a
   ·simp[ht]
   ·simp[ht,Bb]
  ·rw[List.filter_cons,if_pos (by simpa using h)]
   simp only[Bb,ih]
   by_cases ht:t=a
   ·subst ht;simp[h]
   ·simp[ht]
theorem Vw:∀(m:List (Nat×(Nat×Ad))) (o:Nat),Bb (jj m) o=if Pe (Oh o)=o then (match Bb m (Oh o) with
   |some (g,x)=>match x.mv with|some y=>some (g,y)|none=>none
   |none=>none) else none
 |[],o=>by simp[jj,Bb]
 |(k,(g,x))::m,o=>by
  have ih:=Vw m o
  rw[Vr]
  by_cases h:o=Pe k
  ·subst h
   rw[H0,if_pos rfl]
   cases hx:x.mv with
   |some y=>simp[Xu,Bb,hx]
   |none=>rw[O2,Ji,if_pos rfl];simp[Bb,hx]
  ·have hk:Pe (Oh o)=o->Oh o≠k:=fun h1 h2=>h (by rw[←h1,h2])
   have hrest:Bb (Xu k g x.mv (jj m)) o=Bb (jj m) o:=by
    cases x.mv with
    |some y=>simp[Xu,Bb,h]
    |none=>rw[O2,Ji,if_neg h]
   rw[hrest,ih]
   by_cases h1:Pe (Oh o)=o
   ·rw[if_pos h1,if_pos h1]
    have:=hk h1
    simp[Bb,this]
   ·rw[if_neg h1,if_neg h1]
theorem o4 {l:List (Nat×AV)}{m:List (Nat×(Nat×Ad))}{cn:Nat->Nat}:(Ba.mk (E9 l) ⟨Bb m,cn⟩).mv=⟨E9 (mvL l),⟨Bb (jj m),fun _=>1⟩⟩:=by
 have h1:(fun t=>(E9 l t).mv)=E9 (mvL l):=by
  funext t
  induction l with
  |nil=>rfl
  |cons p l ih =>
   obtain⟨k,v⟩:=p
   simp only[Vs,E9]
   by_cases h:t=k
   ·simp[h]
   ·simp only[if_neg h];exact ih
 show Ba.mk (fun t=>(E9 l t).mv) _=_
 rw[h1]
 refine congrArg (fun ob=>Ba.mk _ (AL.mk ob _)) ?_
 funext o
 exact(Vw m o).symm
theorem ak {xs}:(Ad.cells xs).mv=some (.cells (xs.map AV.mv)):=rfl
theorem py {x}:(AV.d x).mv=.d x:=rfl
theorem nG {o g f}:(AV.ptr o g f).mv=.ptr (Pe o) g f:=rfl
theorem ae {V:AL} {os a b l}:(Ad.hist a b l).nrm V os=some (.hist a b l):=rfl
theorem T0 {A:Ba->Prop}:Pc A .normal s=A s:=rfl
theorem aA {sl:Nat->AV} {ds}:MD sl [] ds=sl:=by cases ds<;>rfl
theorem XW {sl:Nat->AV} {p ps d ds}:MD sl (p::ps) (d::ds)=MD (CK sl p (.d d)) ps ds:=rfl
def aO {α:Type}(T:α->AL) (Inv:Nat->α->Prop) (PInv:B9->α->Prop) (m:Nat) (gs:List Eu) (ks os:List Nat) (sl:Nat->AV) (e:B9) (s:Ba):Prop :=
 CX gs s fun s'=>GL ks sl (s'.V.nrm os)=true/\∃y,s'.V.nrm os=T y/\(match e with|.normal=>Inv m y|e=>PInv e y)
theorem Vb {α:Type}{T:α->AL} {Inv PInv m gs ks os sl}:aO T Inv PInv m gs ks os sl .normal s=CX gs s fun s'=>GL ks sl (s'.V.nrm os)=true/\∃y,s'.V.nrm os=T y/\Inv m y:=rfl
theorem aN {α:Type}{T:α->AL} {Inv PInv m gs ks os sl i}:aO T Inv PInv m gs ks os sl (.exit i) s=CX gs s fun s'=>GL ks sl (s'.V.nrm os)=true/\∃y,s'.V.nrm os=T y/\PInv (.exit i) y:=rfl
theorem jJ {α:Type}(T:α->AL) (Inv:Nat->α->Prop) (PInv:B9->α->Prop) (x0:α) {ps ks os:List Nat}{b:PC}{gs2:List Eu}{os2:List Nat}{a:PC}{f:FuncId}{pre post:List D}{els:List (List D)}{sl1:Nat->AV}{s1:Ba}
  (h2:(s1.nrm ks os).mv=⟨sl1,T x0⟩) (hr:(b.noR && a.noR)=true) (hs:cO E f pre post els) (hw:GL ks sl1 (T x0)=true) (hI:Inv 0 x0)
  (step:∀n x ds,els[n]?=some ds->Inv n x->ps.length=ds.length/\pw E b (Pc fun s2=>pw E a (aO T Inv PInv (n+1) gs2 ks os2 sl1) s2) ⟨MD sl1 ps ds,T x⟩)
  (hend:∀x,Inv els.length x->Q .normal ⟨sl1,T x⟩) (hjump:∀e x,PInv e x->Q e ⟨sl1,T x⟩) :
  (b.noR && a.noR)=true/\∃els,cO E f pre post els/\∃(JJ:Nat->AL->Prop) (Pd:B9->AL->Prop),
   GL ks (s1.nrm ks os).mv.sl (s1.nrm ks os).mv.V=true/\JJ 0 (s1.nrm ks os).mv.V /\
   (∀n V ds,V.cn=(fun _=>1)->els[n]?=some ds->JJ n V->ps.length=ds.length /\
    pw E b (Pc fun s2=>pw E a (mf JJ Pd (n+1) gs2 ks os2 (s1.nrm ks os).mv.sl) s2) ⟨MD (s1.nrm ks os).mv.sl ps ds,V⟩) /\
   (∀V,V.cn=(fun _=>1)->JJ els.length V->Q .normal ⟨(s1.nrm ks os).mv.sl,V⟩) /\
   ∀e V,V.cn=(fun _=>1)->Pd e V->Q e ⟨(s1.nrm ks os).mv.sl,V⟩:=by
 refine⟨hr,els,hs,fun n V=>∃x,V=T x/\Inv n x,fun e V=>∃x,V=T x/\PInv e x,?_,?_,?_,?_,?_⟩
 ·rw[h2];exact hw
 ·rw[h2];exact⟨x0,rfl,hI⟩
 ·rintro n V ds _ hds ⟨x,rfl,hx⟩
  obtain⟨k1,k2⟩:=step n x ds hds hx
  refine⟨k1,?_⟩
  rw[h2]
  refine GT k2 fun e s2 h3=>?_
  cases e with
  |normal =>
   refine GT h3 fun e s3 h4=>?_
   refine DH (fun s4 h5=>?_) h4
   obtain⟨k3,y,k4,k5⟩:=h5
   refine⟨k3,?_⟩
   cases e with
   |normal=>exact⟨y,k4,k5⟩
   |exit i=>exact⟨y,k4,k5⟩
   |ret=>exact⟨y,k4,k5⟩
  |exit i=>exact h3
  |ret=>exact h3
 ·rintro V _ ⟨x,rfl,hx⟩
  rw[h2];exact hend x hx
 ·rintro e V _ ⟨x,rfl,hx⟩
  rw[h2];exact hjump e x hx
theorem ZE {α:Type}(T:α->AL) (Inv:Nat->α->Prop) (PInv:B9->α->Prop) (x0:α) {gs:List Eu}{g:KF}{ps ks os:List Nat}{b:PC}{gs2:List Eu}{os2:List Nat}{a:PC}{f:FuncId}{pre post:List D}{els:List (List D)}{sl1:Nat->AV}
  (h0:CX gs s fun s1=>(g.val s1.sl=.bnd f pre/\post=[]\/g.val s1.sl=.d (.fn f post)/\pre=[])/\(s1.nrm ks os).mv=⟨sl1,T x0⟩) (hT:∀x,(T x).cn=fun _=>1) (hb:Bz E.P f=true) (hr:(b.noR && a.noR)=true) (hs:cO E f pre post els) (hw:GL ks sl1 (T x0)=true) (hI:Inv 0 x0)
  (step:∀n x ds,els[n]?=some ds->Inv n x->ps.length=ds.length/\pw E b (Pc fun s2=>pw E a (aO T Inv PInv (n+1) gs2 ks os2 sl1) s2) ⟨MD sl1 ps ds,T x⟩)
  (hend:∀x,Inv els.length x->Q .normal ⟨sl1,T x⟩) (hjump:∀e x,PInv e x->Q e ⟨sl1,T x⟩):pw E (.rngF gs g ps ks os b gs2 os2 a) Q s:=by
 refine DH (fun s1 h=>?_) h0
 obtain⟨h1,h2⟩:=h
 suffices hk:Va E (g.val s1.sl) (fun f' pre' post'=>f'=f/\pre'=pre/\post'=post) by
  refine Ss (fun f' pre' post' hk=>?_) hk
  obtain⟨rfl,rfl,rfl⟩:=hk
  exact jJ T Inv PInv x0 h2 hr hs hw hI step hend hjump
 unfold Va
 rcases h1 with⟨h1,rfl⟩|⟨h1,rfl⟩
 ·rw[h1];exact⟨hb,rfl,rfl,rfl⟩
 ·rw[h1];exact⟨hb,rfl,rfl,rfl⟩
end
end Go.Pw
end
