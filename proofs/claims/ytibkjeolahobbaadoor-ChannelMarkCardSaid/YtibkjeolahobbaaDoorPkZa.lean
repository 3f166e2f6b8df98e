/- A part of the proof. -/
import Derived.Test.YtibkjeolahobbaaDoorPwZ
set_option linter.all false
section
namespace Go.Pw
def G1 (x:Option Aa) (A:List AV->Prop):Prop:=match x with|some (.cells cs)=>A cs|_=>False
def H2 (x:Option Aa) (A:Nat->Nat->Bool->List D->Prop):Prop:=match x with|some (.row a b c l)=>A a b c l|_=>False
def ML (x:Option Aa) (A:Nat->Nat->Bool->List D->Prop) (B:Nat->List D->Nat->Nat->Nat->Prop):Prop:=match x with|some (.row a b c l)=>A a b c l|some (.rowH a l i q p)=>B a l i q p|_=>False
def nP (x:Option Aa) (A:Mp->List (D×D)->Prop):Prop:=match x with|some (.map t l)=>A t l|_=>False
def FC (x:Option Aa) (A:Nat->Nat->Bool->List Nat->List (Bool×List D)->Prop):Prop:=match x with|some (.mat a b c d e)=>A a b c d e|_=>False
def BP {α:Type}(x:Option α) (A:α->Prop):Prop:=match x with|some v=>A v|none=>False
def nO {α:Type}(x:Option α) (A:α->Prop) (B:Prop):Prop:=match x with|some v=>A v|none=>B
theorem TG (cs A):G1 (some (.cells cs)) A=A cs:=rfl
theorem Wp (a b c l A):H2 (some (.row a b c l)) A=A a b c l:=rfl
theorem Wq (a b c l A B):ML (some (.row a b c l)) A B=A a b c l:=rfl
theorem Uy {α:Type}(v:α) (A:α->Prop):BP (some v) A=A v:=rfl
section
variable {E:Co}{dst:Option Nat}{V:AJ}{K:AV->Bs->Prop}
theorem kR {α:Type}{n:Nat}{cs:List α}{off:Nat}{mk:List α->AV}{one:α->AV}{C:AV->Prop}:Bx true n cs off mk one C=(off+n<=cs.length/\C (mk ((cs.drop off).take n))):=by simp[Bx]
theorem kS {α:Type}{n:Nat}{cs:List α}{off:Nat}{mk:List α->AV}{one:α->AV}{C:AV->Prop}:Bx false n cs off mk one C=BP cs[off]? fun v=>C (one v):=by
 simp only[Bx,Bool.false_eq_true,if_false];cases cs[off]?<;>rfl
theorem VV {ag n o g off}:ev E dst V (.load ag n) [.ptr o g off] K=G1 (V.get o g) fun cs=>Bx ag n cs off .agg id (K · .none):=by
 simp only[ev];cases V.get o g with
 |none=>rfl
 |some x=>cases x<;>rfl
theorem TV {ag n o g es i off}:ev E dst V (.load ag n) [.rptr o g es i off] K=ML (V.get o g) (fun _ es' _ l=>es=es'/\BP l[i]? fun x=>Bx ag n x.cells off (fun cs=>.d (.agg cs)) .d (K · .none))
  fun _ l k q p=>es=1/\(i=k->Bx ag n [.own q p] off .agg id (K · .none))/\(i≠k->BP l[i]? fun x=>Bx ag n x.cells off (fun cs=>.d (.agg cs)) .d (K · .none)):=by
 simp only[ev];cases V.get o g with
 |none=>rfl
 |some x =>
  cases x with
  |row a b c l=>simp only[ML];cases l[i]?<;>rfl
  |rowH a l k q p=>simp only[ML];cases l[i]?<;>rfl
  |_=>rfl
theorem TW {ag n cs off}:ev E dst V (.load ag n) [.dptr cs off] K=Bx ag n cs off (fun cs=>.d (.agg cs)) .d (K · .none):=rfl
theorem Z3 {ag n cs}:ev E dst V (.load ag n) [.d (.ptr cs)] K=Bx ag n cs 0 (fun cs=>.d (.agg cs)) .d (K · .none):=rfl
theorem TR {n o g off v}:ev E dst V (.store n) [.ptr o g off,v] K=G1 (V.get o g) fun cs=>BP v.cells? fun vs=>vs.length=n/\off+n<=cs.length/\K .undef (.keep o g (.cells (Be cs off vs))):=by
 unfold ev G1 BP;simp only
 cases V.get o g with
 |none=>rfl
 |some x=>cases x<;>cases v.cells?<;>rfl
theorem TY {off o g a}:ev E dst V (.faddr off) [.ptr o g a] K=K (.ptr o g (a+off)) .none:=rfl
theorem RU {off cs a}:ev E dst V (.faddr off) [.dptr cs a] K=K (.dptr cs (a+off)) .none:=rfl
theorem Xb {off cs}:ev E dst V (.faddr off) [.d (.ptr cs)] K=K (.dptr cs off) .none:=rfl
theorem iY {nl:Bool}{l:List D}:ev E dst V (.len false) [.d (.list nl l)] K=K (.d (.int .i64 l.length)) .none:=rfl
theorem Xa {es nl l k i}:ev E dst V (.iaddrS es) [.d (.list nl l),.d (.int k i)] K=(0<=i/\i<l.length/\BP l[i.toNat]? fun x=>x.cells.length=es/\K (.dptr x.cells 0) .none):=by
 simp only[ev];cases l[i.toNat]?<;>rfl
theorem lI {t v}:ev E (some t) V .box [v] K=BP v.cells? fun cs=>t<D6/\K (.ptr t (V.cn t) 0) (.fresh t (.cells cs)):=by
 simp only[ev];cases v.cells?<;>rfl
theorem iZ {k k' n}:ev E dst V (.conv k) [.d (.int k' n)] K=K (.d (.int k (k.wrap n))) .none:=rfl
theorem Xc {i vs}:ev E dst V (.extract i) [.tup vs] K=BP vs[i]? fun v=>K v .none:=by
 simp only[ev];cases vs[i]?<;>rfl
theorem ia {f xs}:ev E dst V (.call f) xs K=Dy E dst V f xs K:=rfl
theorem PS {n o g es0 i off x}:ev E dst V (.store n) [.rptr o g es0 i off,.d x] K=H2 (V.get o g) fun ety es nl l=>BP (AV.d x).toD1 fun y=>es0=es/\BP l[i]? fun x=>y.cells.length=n/\off+n<=x.cells.length/\(n=es\/1<x.cells.length) /\
  K .undef (.keep o g (.row ety es nl (l.set i (if n=es then y else .agg (Be x.cells off y.cells))))):=by
 simp only[ev];cases V.get o g with
 |none=>rfl
 |some x =>
  cases x with
  |row a b c l=>simp only[H2];cases (AV.d x).toD1 with
   |none=>rfl
   |some y=>simp only[BP];cases l[i]?<;>rfl
  |_=>rfl
theorem TS {o g off}:ev E dst V .nilck [.ptr o g off] K=K (.ptr o g off) .none:=rfl
theorem XT {cs}:ev E dst V .nilck [.d (.ptr cs)] K=K (.d (.ptr cs)) .none:=rfl
theorem TX {es o g k i}:ev E dst V (.iaddrS es) [.own o g,.d (.int k i)] K=ML (V.get o g) (fun _ es' _ l=>es=es'/\0<=i/\i<l.length/\K (.rptr o g es i.toNat 0) .none) fun _ l _ _ _=>es=1/\0<=i/\i<l.length/\K (.rptr o g es i.toNat 0) .none:=by
 simp only[ev];cases V.get o g with
 |none=>rfl
 |some x=>cases x<;>rfl
theorem RS {len es o g off k i}:ev E dst V (.iaddrA len es) [.ptr o g off,.d (.int k i)] K=(0<=i/\i<len/\K (.ptr o g (off+i.toNat * es)) .none):=rfl
theorem QY {len es cs off k i}:ev E dst V (.iaddrA len es) [.dptr cs off,.d (.int k i)] K=(0<=i/\i<len/\K (.dptr cs (off+i.toNat * es)) .none):=rfl
theorem VZ {len es cs k i}:ev E dst V (.iaddrA len es) [.d (.ptr cs),.d (.int k i)] K=(0<=i/\i<len/\K (.dptr cs (i.toNat * es)) .none):=rfl
theorem XZ {len es ag cs k i}:ev E dst V (.index len es ag) [.d (.agg cs),.d (.int k i)] K=(0<=i/\i<len/\Bx ag es cs (i.toNat * es) (fun cs=>.d (.agg cs)) .d (K · .none)):=rfl
theorem eI {z pl xs}:ev E dst V (.build z pl) xs K=BP (L1 (z.map .d) (pl.zip xs)) fun cs=>pl.length=xs.length/\K (.agg cs) .none:=by
 simp only[ev];cases L1 (z.map .d) (pl.zip xs)<;>rfl
theorem TU {es z n ix}:ev E dst V (.mkrow es z n ix) [] K=BP (F8 es (List.replicate n z) (ix.zip [])) fun l=>ix.length=0/\K (.ex l) .none:=by
 simp only[ev];cases F8 es (List.replicate n z) (ix.zip [])<;>rfl
theorem XU {es z n ix x xs}:ev E dst V (.mkrow es z n ix) (.d x::xs) K=BP (F8 es (List.replicate n z) (ix.zip (.d x::xs))) fun l=>ix.length=(.d x::xs).length/\K (.ex l) .none:=by
 simp only[ev];cases F8 es (List.replicate n z) (ix.zip (.d x::xs))<;>rfl
theorem VU {es z n ix x xs}:ev E dst V (.mkrow es z n ix) (.ex x::xs) K=BP (F8 es (List.replicate n z) (ix.zip (.ex x::xs))) fun l=>ix.length=(.ex x::xs).length/\K (.ex l) .none:=by
 simp only[ev];cases F8 es (List.replicate n z) (ix.zip (.ex x::xs))<;>rfl
theorem TT {es z n ix q p}:ev E dst V (.mkrow es z n ix) [.own q p] K=(es=1/\n=1/\ix=[0]/\K (.ablk true [.own q p] 0) .none):=rfl
theorem Wr (a b c d e A):FC (some (.mat a b c d e)) A=A a b c d e:=rfl
theorem XV {ag n o g i}:ev E dst V (.load ag n) [.mref (.xp i) o g] K=FC (V.get o g) fun _ _ _ ix _=>BP ix[i]? fun j=>Bx ag n [.mref (.row j) o g] 0 .agg id (K · .none):=by
 simp only[ev];cases V.get o g with
 |none=>rfl
 |some x =>
  cases x with
  |mat a b c ix rows=>simp only[FC];cases ix[i]?<;>rfl
  |_=>rfl
theorem XW {ag n o g j k}:ev E dst V (.load ag n) [.mref (.mp j k) o g] K=FC (V.get o g) fun _ _ _ _ rows=>BP rows[j]? fun x=>BP x.2[k]? fun y=>Bx ag n y.cells 0 (fun cs=>.d (.agg cs)) .d (K · .none):=by
 simp only[ev];cases V.get o g with
 |none=>rfl
 |some x =>
  cases x with
  |mat a b c ix rows=>simp only[FC];cases rows[j]? with
   |none=>rfl
   |some x=>simp only[BP];cases x.2[k]?<;>rfl
  |_=>rfl
theorem XX {ag n cs off}:ev E dst V (.load ag n) [.ablk false cs off] K=Bx ag n cs off .agg id (K · .none):=rfl
theorem VR {n i o g j o' g'}:ev E dst V (.store n) [.mref (.xp i) o g,.mref (.row j) o' g'] K=FC (V.get o g) fun e1 e2 nl ix rows=>n=1/\o'=o/\g'=g/\i<ix.length/\j<rows.length/\K .undef (.keep o g (.mat e1 e2 nl (ix.set i j) rows)):=by
 simp only[ev];cases V.get o g with
 |none=>rfl
 |some x=>cases x<;>rfl
theorem VS {n j k o g v}:ev E dst V (.store n) [.mref (.mp j k) o g,.d v] K=FC (V.get o g) fun e1 e2 nl ix rows=>BP (AV.d v).toD1 fun y=>BP rows[j]? fun x=>n=1/\y.cells.length=1/\k<x.2.length/\K .undef (.keep o g (.mat e1 e2 nl ix (rows.set j (x.1,x.2.set k y)))):=by
 simp only[ev];cases V.get o g with
 |none=>rfl
 |some x =>
  cases x with
  |mat a b c ix rows=>simp only[FC];cases (AV.d v).toD1 with
   |none=>rfl
   |some y=>simp only[BP];cases rows[j]?<;>rfl
  |_=>rfl
theorem VX {es o g k i}:ev E dst V (.iaddrS es) [.mref .out o g,.d (.int k i)] K=FC (V.get o g) fun _ _ _ ix _=>es=1/\0<=i/\i<ix.length/\K (.mref (.xp i.toNat) o g) .none:=by
 simp only[ev];cases V.get o g with
 |none=>rfl
 |some x=>cases x<;>rfl
theorem VW {es j o g k i}:ev E dst V (.iaddrS es) [.mref (.row j) o g,.d (.int k i)] K=FC (V.get o g) fun _ _ _ _ rows=>BP rows[j]? fun x=>es=1/\0<=i/\i<x.2.length/\K (.mref (.mp j i.toNat) o g) .none:=by
 simp only[ev];cases V.get o g with
 |none=>rfl
 |some x =>
  cases x with
  |mat a b c ix rows=>simp only[FC];cases rows[j]?<;>rfl
  |_=>rfl
theorem eJ {ety es z own o g q p}:ev E dst V (.app ety es z own) [.mref .out o g,.ablk true [.own q p] 0] K=FC (V.get o g) fun e1 e2 nl ix rows=>H2 (V.get q p) fun e2' es2 nl2 l2 =>
  z=none/\o<D6/\q<D6/\o≠q/\ety=e1/\es=1/\es2=1/\e2'=e2/\ix.length+1<=Cw /\
   K (.mref .out o (V.cn o)) (.seq (.fresh o (.mat e1 e2 false (ix++[rows.length]) (rows++[(nl2,l2)]))) (.fresh q (.row e2 1 true []))):=by
 simp only[ev];cases V.get o g with
 |none=>rfl
 |some x =>
  cases x with
  |mat a b c ix rows=>simp only[FC];cases V.get q p with
   |none=>rfl
   |some y=>cases y<;>rfl
  |_=>rfl
theorem Z1 {ety es z n ix xs t}:ev E (some t) V (.mkrowO ety es z n ix) xs K=BP (F8 es (List.replicate n z) (ix.zip xs)) fun l=>t<D6/\ix.length=xs.length/\K (.own t (V.cn t)) (.fresh t (.row ety es false l)):=by
 simp only[ev];cases F8 es (List.replicate n z) (ix.zip xs)<;>rfl
theorem iX {f xs}:ev E dst V (.mkfn f) xs K=K (.fn f xs) .none:=rfl
theorem iU {cs t}:ev E (some t) V (.zero cs) [] K=(t<D6/\K (.ptr t (V.cn t) 0) (.fresh t (.cells (cs.map .d)))):=rfl
theorem VT {ety es z t n m}:ev E (some t) V (.mksl ety es z true) [.d (.int .i64 n),.d (.int .i64 m)] K=(n=m/\0<=n/\n<=(Cw:Int)/\t<D6/\K (.own t (V.cn t)) (.fresh t (.row ety es false (List.replicate n.toNat z)))):=rfl
theorem XS {es lo hi nl l rest}:ev E dst V (.slice es lo hi false) (.d (.list nl l)::rest) K=(Cu es l/\MH lo hi l.length rest fun a b=>K (.d (.list nl ((l.drop a).take (b-a)))) .none):=rfl
theorem RR {es lo o g rest}:ev E dst V (.slice es lo true false) (.own o g::rest) K=H2 (V.get o g) fun ety es' nl l=>o<D6/\es=es'/\MH lo true l.length rest fun a b=>K (.own o (V.cn o)) (.fresh o (.row ety es nl ((l.drop a).take (b-a)))):=by
 simp only[ev,Bool.false_eq_true,if_false,if_true];cases V.get o g with
 |none=>rfl
 |some x=>cases x<;>rfl
theorem lH:ev E dst V .cap [.d (.list true [])] K=K (.d (.int .i64 0)) .none:=rfl
theorem kF {len:Nat}{C:Nat->Nat->Prop} {k h}:MH false true len [.d (.int k h)] C=(0<=h/\h<=len/\C 0 h.toNat):=rfl
theorem kE {len:Nat}{C:Nat->Nat->Prop} {k h}:MH true false len [.d (.int k h)] C=(0<=h/\h<=len/\C h.toNat len):=rfl
theorem kD {len:Nat}{C:Nat->Nat->Prop} {k h k' m}:MH true true len [.d (.int k h),.d (.int k' m)] C=(0<=h/\h<=m/\m<=len/\C h.toNat m.toNat):=rfl
theorem XY {o g}:ev E dst V (.len false) [.own o g] K=H2 (V.get o g) fun _ _ _ l=>K (.d (.int .i64 l.length)) .none:=by
 simp only[ev,Bool.false_eq_true,if_false,AV.lenL,AV.asList];cases V.get o g with
 |none=>rfl
 |some x=>cases x<;>rfl
theorem Z5 {o g}:ev E dst V (.len false) [.mref .out o g] K=FC (V.get o g) fun _ _ _ ix _=>K (.d (.int .i64 ix.length)) .none:=by
 simp only[ev,Bool.false_eq_true,if_false,AV.lenL,AV.asList];cases V.get o g with
 |none=>rfl
 |some x=>cases x<;>first|rfl|simp[KF,FC]
theorem Z4 {j o g}:ev E dst V (.len false) [.mref (.row j) o g] K=FC (V.get o g) fun _ _ _ _ rows=>BP rows[j]? fun x=>K (.d (.int .i64 x.2.length)) .none:=by
 simp only[ev,Bool.false_eq_true,if_false,AV.lenL,AV.asList];cases V.get o g with
 |none=>rfl
 |some x=>cases x<;>first|rfl|(simp only[FC];rename_i rows;cases rows[j]?<;>rfl)
theorem Z6 {off n cap o g}:ev E dst V (.len false) [.mref (.bs off n cap) o g] K=K (.d (.int .i64 n)) .none:=rfl
theorem eD {o g off k h k' m}:ev E dst V (.slice 1 true true true) [.ptr o g off,.d (.int k h),.d (.int k' m)] K=(0<=h/\h<=m/\K (.mref (.bs off h.toNat m.toNat) o g) .none):=rfl
theorem Z0 {cs off k h k' m}:ev E dst V (.slice 1 true true true) [.dptr cs off,.d (.int k h),.d (.int k' m)] K=(0<=h/\h<=m/\off+m.toNat<=cs.length/\K (.d (.list false ((cs.drop off).take h.toNat))) .none):=rfl
theorem Zz {es l k a k' h k'' m}:ev E dst V (.slice es true true true) [.d (.list false l),.d (.int k a),.d (.int k' h),.d (.int k'' m)] K=(Cu es l/\h=m/\0<=a/\a<h/\h<=l.length/\K (.ex ((l.drop a.toNat).take (h.toNat-a.toNat))) .none):=rfl
theorem VY {es off n cap o g k i}:ev E dst V (.iaddrS es) [.mref (.bs off n cap) o g,.d (.int k i)] K=(es=1/\0<=i/\i<n/\K (.ptr o g (off+i.toNat)) .none):=rfl
theorem eG {n x}:ev E dst V (.eqnil n) [x,.d (.list true [])] K=BP (x.asList V) fun p=>K (.d (.bool (if n then !p.1 else p.1))) .none:=by
 simp only[ev];cases x.asList V<;>rfl
theorem Z2 {m k a rest}:ev E dst V (.minmax m) (.d (.int k a)::rest) K=BP (Fn m k a rest) fun r=>K (.d (.int k r)) .none:=by
 simp only[ev];cases Fn m k a rest<;>rfl
theorem Xe {ety es z own o g y}:ev E dst V (.app ety es z own) [.own o g,y] K=BP (D8 V z y) fun ys=>H2 (V.get o g) fun ety' es' nl l=>o<D6/\ety=ety'/\es=es'/\Cu es ys/\l.length+ys.length<=Cw /\
  K (.own o (V.cn o)) (.fresh o (.row ety es (nl && ys.isEmpty) (l++ys))):=by
 simp only[ev];cases D8 V z y with
 |none=>rfl
 |some ys =>
  simp only[BP]
  cases V.get o g with
  |none=>rfl
  |some x=>cases x<;>rfl
theorem Xf {ety es z t y}:ev E (some t) V (.app ety es z true) [.d (.list true []),y] K=BP (D8 V z y) fun ys=>Cu es ys/\ys.length<=Cw/\t<D6/\K (.own t (V.cn t)) (.fresh t (.row ety es ys.isEmpty ys)):=by
 simp only[ev];cases D8 V z y<;>rfl
theorem Z7 {ety es z t l y}:ev E (some t) V (.app ety es z true) [.ex l,y] K=BP (D8 V z y) fun ys=>Cu es (l++ys)/\l.length+ys.length<=Cw/\(ys=[]->K (.ex l) .none)/\(ys≠[]->t<D6/\K (.own t (V.cn t)) (.fresh t (.row ety es false (l++ys)))):=by
 simp only[ev];cases D8 V z y with
 |none=>rfl
 |some ys=>cases ys<;>simp[BP]
theorem Xg {ety es z l y}:ev E dst V (.app ety es z false) [.ex l,y] K=BP (D8 V z y) fun ys=>Cu es (l++ys)/\l.length+ys.length<=Cw/\K (.d (.list false (l++ys))) .none:=by
 simp only[ev];cases D8 V z y<;>rfl
theorem Va {f cs args}:ev E dst V .callv (.fn f cs::args) K=(Bu E.P f=true/\Dy E dst V f (args++cs) K):=rfl
theorem Xd {f cs args}:ev E dst V .callv (.d (.fn f cs)::args) K=(Bu E.P f=true/\Dy E dst V f (args++cs.map .d) K):=rfl
theorem aK {k k':IntKind}{a b:Int}{C:AV->Prop}:DD .eql k k' a b C=(k=k'/\C (.d (.bool (decide (a=b))))):=rfl
theorem aD {k k':IntKind}{a b:Int}{C:AV->Prop}:DD .neq k k' a b C=(k=k'/\C (.d (.bool (!decide (a=b))))):=rfl
theorem aF {k k':IntKind}{a b:Int}{C:AV->Prop}:DD .lss k k' a b C=(k=k'/\C (.d (.bool (decide (a<b))))):=rfl
theorem aG {k k':IntKind}{a b:Int}{C:AV->Prop}:DD .leq k k' a b C=(k=k'/\C (.d (.bool (decide (a<=b))))):=rfl
theorem aH {k k':IntKind}{a b:Int}{C:AV->Prop}:DD .gtr k k' a b C=(k=k'/\C (.d (.bool (decide (b<a))))):=rfl
theorem aJ {k k':IntKind}{a b:Int}{C:AV->Prop}:DD .geq k k' a b C=(k=k'/\C (.d (.bool (decide (b<=a))))):=rfl
theorem aM {k k':IntKind}{a b:Int}{C:AV->Prop}:DD .add k k' a b C=(k=k'/\C (.d (.int k (k.wrap (a+b))))):=rfl
theorem Z9 {k k':IntKind}{a b:Int}{C:AV->Prop}:DD .sub k k' a b C=(k=k'/\C (.d (.int k (k.wrap (a-b))))):=rfl
theorem aE {k k':IntKind}{a b:Int}{C:AV->Prop}:DD .mul k k' a b C=(k=k'/\C (.d (.int k (k.wrap (a*b))))):=rfl
theorem aB {k k':IntKind}{a b:Int}{C:AV->Prop}:DD .quo k k' a b C=(k=k'/\b≠0/\C (.d (.int k (k.wrap (a.tdiv b))))):=rfl
theorem aA {k k':IntKind}{a b:Int}{C:AV->Prop}:DD .rem k k' a b C=(k=k'/\b≠0/\C (.d (.int k (a.tmod b)))):=rfl
theorem Z' {k k':IntKind}{a b:Int}{C:AV->Prop}:DD .shl k k' a b C=(0<=b/\C (.d (.int k (k.wrap (a*2^(min b.toNat k.bits)))))):=rfl
theorem Z_ {k k':IntKind}{a b:Int}{C:AV->Prop}:DD .shr k k' a b C=(0<=b/\C (.d (.int k (a.fdiv (2^(min b.toNat k.bits)))))):=rfl
theorem aL {k k':IntKind}{a b:Int}{C:AV->Prop}:DD .and k k' a b C=(k=k'/\C (.d (.int k (A3 .and k a b)))):=rfl
theorem eK {k k':IntKind}{a b:Int}{C:AV->Prop}:DD .or k k' a b C=(k=k'/\C (.d (.int k (A3 .or k a b)))):=rfl
theorem Z8 {k k':IntKind}{a b:Int}{C:AV->Prop}:DD .xor k k' a b C=(k=k'/\C (.d (.int k (A3 .xor k a b)))):=rfl
end
end Go.Pw
end
section
namespace Go.Pw
def QM (x:Option Aa) (A:List (List D)->Nat->Prop):Prop:=match x with|some (.hist els n false)=>A els n|_=>False
theorem U1 (els n A):QM (some (.hist els n false)) A=A els n:=rfl
section
variable {E:Co}{Q:B6->BX->Prop}{s s':BX}{K:AV->Bs->Prop}{KS:BX->Prop}
theorem a7 {o g:Nat}{xs:List AV}{V:AJ}:RI (.own o g) xs V K=QM (V.get o g) fun els n=>BP (Fq xs) fun ds=>els[n]?=some ds/\K (.d (.bool true)) (.keep o g (.hist els (n+1) false))/\K (.d (.bool false)) (.keep o g (.hist els (n+1) true)):=by
 simp only[RI,QM]
 cases V.get o g with
 |none=>rfl
 |some x=>cases x with
  |hist els n st=>cases st<;>(simp only[BP];try (cases Fq xs<;>rfl))
  |_=>rfl
theorem ai {xs:List AV}:Fq xs=A7 AV.toD1 xs:=rfl
theorem WG {sl:Nat->AV}{V:AJ}:GB [] sl V=true:=rfl
def eu (V:AJ) (o:Nat):Bool:=match V.ob o with|some (g,_)=>g == 0|none=>false
theorem T8 {k:Nat}{ks:List Nat}{sl:Nat->AV}{V:AJ}:GB (k::ks) sl V=((sl k).sites.all (eu V) && GB ks sl V):=rfl
def et (x:Option (Nat×Aa)):Bool:=match x with|some (g,_)=>g == 0|none=>false
theorem ak {ob cn o}:eu ⟨ob,cn⟩ o=et (ob o):=rfl
theorem V5 {g x}:et (some (g,x))=(g == 0):=rfl
theorem fG {m:List (Nat×(Nat×Aa))}{cn:Nat->Nat}{os:List Nat}:(AJ.mk (BV m) cn).nrm os=⟨BV (EP ⟨BV m,cn⟩ os os),fun _=>1⟩:=by
 have:=cY (fun _=>.undef) ⟨BV m,cn⟩ [] os
 have h2:((BX.mk (fun _=>.undef) ⟨BV m,cn⟩).nrm [] os).V=(AJ.mk (BV m) cn).nrm os:=rfl
 rw[←h2,this]
theorem ka {o:Nat}:O8 o=if 900000<=o/\o<5000000 then o else o+5000000:=rfl
def mvL (l:List (Nat×AV)):List (Nat×AV):=l.map fun p=>(p.1,p.2.mv)
theorem gd:mvL []=[]:=rfl
theorem U7 {k v l}:mvL ((k,v)::l)=(k,v.mv)::mvL l:=rfl
def Ww (k:Nat) (g:Nat) (x:Option Aa) (r:List (Nat×(Nat×Aa))):List (Nat×(Nat×Aa)):=match x with
 |some y=>(O8 k,(g,y))::r
 |none=>r.filter fun p=>!(p.1 == O8 k)
def gc:List (Nat×(Nat×Aa))->List (Nat×(Nat×Aa))
 |[]=>[]
 |(k,(g,x))::l=>Ww k g x.mv (gc l)
theorem gb:gc []=[]:=rfl
theorem U6 {k g x l}:gc ((k,(g,x))::l)=Ww k g x.mv (gc l):=rfl
theorem Ze {k g y r}:Ww k g (some y) r=(O8 k,(g,y))::r:=rfl
theorem OQ {k g r}:Ww k g none r=r.filter fun p=>!(p.1 == O8 k):=rfl
theorem JP (k:Nat):∀(l:List (Nat×(Nat×Aa))) (t:Nat),BV (l.filter fun p=>!(p.1 == k)) t=if t=k then none else BV l t
 |[],t=>by simp[BV]
 |p::l,t=>by
  obtain⟨a,b⟩:=p
  have ih:=JP k l t
  by_cases h:a=k
  ·subst h
   rw[List.filter_cons,if_neg (by simp),ih]
   by_cases ht:t=a
   ·simp[ht]
   ·simp[ht,BV]
  ·rw[List.filter_cons,if_pos (by simpa using h)]
   simp only[BV,ih]
   by_cases ht:t=a
   ·subst ht;simp[h]
   ·simp[ht]
theorem U':∀(m:List (Nat×(Nat×Aa))) (o:Nat),BV (gc m) o=if O8 (N' o)=o then (match BV m (N' o) with
   |some (g,x)=>match x.mv with|some y=>some (g,y)|none=>none
   |none=>none) else none
 |[],o=>by simp[gc,BV]
 |(k,(g,x))::m,o=>by
  have ih:=U' m o
  rw[U6]
  by_cases h:o=O8 k
  ·subst h
   rw[Hp,if_pos rfl]
   cases hx:x.mv with
   |some y=>simp[Ww,BV,hx]
   |none=>rw[OQ,JP,if_pos rfl];simp[BV,hx]
  ·have hk:O8 (N' o)=o->N' o≠k:=fun h1 h2=>h (by rw[←h1,h2])
   have hrest:BV (Ww k g x.mv (gc m)) o=BV (gc m) o:=by
    cases x.mv with
    |some y=>simp[Ww,BV,h]
    |none=>rw[OQ,JP,if_neg h]
   rw[hrest,ih]
   by_cases h1:O8 (N' o)=o
   ·rw[if_pos h1,if_pos h1]
    have:=hk h1
    simp[BV,this]
   ·rw[if_neg h1,if_neg h1]
theorem mA {l:List (Nat×AV)}{m:List (Nat×(Nat×Aa))}{cn:Nat->Nat}:(BX.mk (E4 l) ⟨BV m,cn⟩).mv=⟨E4 (mvL l),⟨BV (gc m),fun _=>1⟩⟩:=by
 have h1:(fun t=>(E4 l t).mv)=E4 (mvL l):=by
  funext t
  induction l with
  |nil=>rfl
  |cons p l ih =>
   obtain⟨k,v⟩:=p
   simp only[U7,E4]
   by_cases h:t=k
   ·simp[h]
   ·simp only[if_neg h];exact ih
 show BX.mk (fun t=>(E4 l t).mv) _=_
 rw[h1]
 refine congrArg (fun ob=>BX.mk _ (AJ.mk ob _)) ?_
 funext o
 exact(U' m o).symm
theorem ZY {xs}:(Aa.cells xs).mv=some (.cells (xs.map AV.mv)):=rfl
theorem nB {x}:(AV.d x).mv=.d x:=rfl
theorem kb {o g f}:(AV.ptr o g f).mv=.ptr (O8 o) g f:=rfl
theorem ZT {V:AJ} {os a b l}:(Aa.hist a b l).nrm V os=some (.hist a b l):=rfl
theorem TD {A:BX->Prop}:O7 A .normal s=A s:=rfl
theorem Y9 {sl:Nat->AV} {ds}:Lt sl [] ds=sl:=by cases ds<;>rfl
theorem Wa {sl:Nat->AV} {p ps d ds}:Lt sl (p::ps) (d::ds)=Lt (CG sl p (.d d)) ps ds:=rfl
def ZJ {α:Type}(T:α->AJ) (Inv:Nat->α->Prop) (PInv:B6->α->Prop) (m:Nat) (gs:List Em) (ks os:List Nat) (sl:Nat->AV) (e:B6) (s:BX):Prop :=
 CW gs s fun s'=>GB ks sl (s'.V.nrm os)=true/\∃y,s'.V.nrm os=T y/\(match e with|.normal=>Inv m y|e=>PInv e y)
theorem Up {α:Type}{T:α->AJ} {Inv PInv m gs ks os sl}:ZJ T Inv PInv m gs ks os sl .normal s=CW gs s fun s'=>GB ks sl (s'.V.nrm os)=true/\∃y,s'.V.nrm os=T y/\Inv m y:=rfl
theorem ZI {α:Type}{T:α->AJ} {Inv PInv m gs ks os sl i}:ZJ T Inv PInv m gs ks os sl (.exit i) s=CW gs s fun s'=>GB ks sl (s'.V.nrm os)=true/\∃y,s'.V.nrm os=T y/\PInv (.exit i) y:=rfl
theorem gD {α:Type}(T:α->AJ) (Inv:Nat->α->Prop) (PInv:B6->α->Prop) (x0:α) {ps ks os:List Nat}{b:PC}{gs2:List Em}{os2:List Nat}{a:PC}{f:FuncId}{pre post:List D}{els:List (List D)}{sl1:Nat->AV}{s1:BX}
  (h2:(s1.nrm ks os).mv=⟨sl1,T x0⟩) (hr:(b.noR && a.noR)=true) (hs:al E f pre post els) (hw:GB ks sl1 (T x0)=true) (hI:Inv 0 x0)
  (step:∀n x ds,els[n]?=some ds->Inv n x->ps.length=ds.length/\pw E b (O7 fun s2=>pw E a (ZJ T Inv PInv (n+1) gs2 ks os2 sl1) s2) ⟨Lt sl1 ps ds,T x⟩)
  (hend:∀x,Inv els.length x->Q .normal ⟨sl1,T x⟩) (hjump:∀e x,PInv e x->Q e ⟨sl1,T x⟩) :
  (b.noR && a.noR)=true/\∃els,al E f pre post els/\∃(JJ:Nat->AJ->Prop) (Pd:B6->AJ->Prop),
   GB ks (s1.nrm ks os).mv.sl (s1.nrm ks os).mv.V=true/\JJ 0 (s1.nrm ks os).mv.V /\
   (∀n V ds,V.cn=(fun _=>1)->els[n]?=some ds->JJ n V->ps.length=ds.length /\
    pw E b (O7 fun s2=>pw E a (kG JJ Pd (n+1) gs2 ks os2 (s1.nrm ks os).mv.sl) s2) ⟨Lt (s1.nrm ks os).mv.sl ps ds,V⟩) /\
   (∀V,V.cn=(fun _=>1)->JJ els.length V->Q .normal ⟨(s1.nrm ks os).mv.sl,V⟩) /\
   ∀e V,V.cn=(fun _=>1)->Pd e V->Q e ⟨(s1.nrm ks os).mv.sl,V⟩:=by
 refine⟨hr,els,hs,fun n V=>∃x,V=T x/\Inv n x,fun e V=>∃x,V=T x/\PInv e x,?_,?_,?_,?_,?_⟩
 ·rw[h2];exact hw
 ·rw[h2];exact⟨x0,rfl,hI⟩
 ·rintro n V ds _ hds ⟨x,rfl,hx⟩
  obtain⟨k1,k2⟩:=step n x ds hds hx
  refine⟨k1,?_⟩
  rw[h2]
  refine GI k2 fun e s2 h3=>?_
  cases e with
  |normal =>
   refine GI h3 fun e s3 h4=>?_
   refine C9 (fun s4 h5=>?_) h4
   obtain⟨k3,y,k4,k5⟩:=h5
   refine⟨k3,?_⟩
   cases e with
   |normal=>exact⟨y,k4,k5⟩
   |exit i=>exact⟨y,k4,k5⟩
   |ret=>exact⟨y,k4,k5⟩
  |exit i=>exact h3
  |ret=>exact h3
 ·rintro V _ ⟨x,rfl,hx⟩
  rw[h2];exact hend x hx
 ·rintro e V _ ⟨x,rfl,hx⟩
  rw[h2];exact hjump e x hx
theorem YF {α:Type}(T:α->AJ) (Inv:Nat->α->Prop) (PInv:B6->α->Prop) (x0:α) {gs:List Em}{g:J1}{ps ks os:List Nat}{b:PC}{gs2:List Em}{os2:List Nat}{a:PC}{f:FuncId}{pre post:List D}{els:List (List D)}{sl1:Nat->AV}
  (h0:CW gs s fun s1=>(g.val s1.sl=.bnd f pre/\post=[]\/g.val s1.sl=.d (.fn f post)/\pre=[])/\(s1.nrm ks os).mv=⟨sl1,T x0⟩) (hT:∀x,(T x).cn=fun _=>1) (hb:Bu E.P f=true) (hr:(b.noR && a.noR)=true) (hs:al E f pre post els) (hw:GB ks sl1 (T x0)=true) (hI:Inv 0 x0)
  (step:∀n x ds,els[n]?=some ds->Inv n x->ps.length=ds.length/\pw E b (O7 fun s2=>pw E a (ZJ T Inv PInv (n+1) gs2 ks os2 sl1) s2) ⟨Lt sl1 ps ds,T x⟩)
  (hend:∀x,Inv els.length x->Q .normal ⟨sl1,T x⟩) (hjump:∀e x,PInv e x->Q e ⟨sl1,T x⟩):pw E (.rngF gs g ps ks os b gs2 os2 a) Q s:=by
 refine C9 (fun s1 h=>?_) h0
 obtain⟨h1,h2⟩:=h
 suffices hk:Uo E (g.val s1.sl) (fun f' pre' post'=>f'=f/\pre'=pre/\post'=post) by
  refine R6 (fun f' pre' post' hk=>?_) hk
  obtain⟨rfl,rfl,rfl⟩:=hk
  exact gD T Inv PInv x0 h2 hr hs hw hI step hend hjump
 unfold Uo
 rcases h1 with⟨h1,rfl⟩|⟨h1,rfl⟩
 ·rw[h1];exact⟨hb,rfl,rfl,rfl⟩
 ·rw[h1];exact⟨hb,rfl,rfl,rfl⟩
end
end Go.Pw
end
