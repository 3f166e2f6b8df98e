/- A part of the proof. -/
import Derived.Test.YtibkjeolahobbaaGreatDoorPwZ
set_option linter.all false
section
namespace Go.Pw
def HO (x:Option Am) (A:List AV->Prop):Prop:=match x with|some (.cells cs)=>A cs|_=>False
def IV (x:Option Am) (A:Nat->Nat->Bool->List D->Prop):Prop:=match x with|some (.row a b c l)=>A a b c l|_=>False
def NZ (x:Option Am) (A:Nat->Nat->Bool->List D->Prop) (B:Nat->List D->Nat->Nat->Nat->Prop):Prop:=match x with|some (.row a b c l)=>A a b c l|some (.rowH a l i q p)=>B a l i q p|_=>False
def rT (x:Option Am) (A:N4->List (D×D)->Prop):Prop:=match x with|some (.map t l)=>A t l|_=>False
def FI (x:Option Am) (A:Nat->Nat->Bool->List Nat->List (Bool×List D)->Prop):Prop:=match x with|some (.mat a b c d e)=>A a b c d e|_=>False
def BW {α:Type}(x:Option α) (A:α->Prop):Prop:=match x with|some v=>A v|none=>False
def rS {α:Type}(x:Option α) (A:α->Prop) (B:Prop):Prop:=match x with|some v=>A v|none=>B
theorem VS (cs A):HO (some (.cells cs)) A=A cs:=rfl
theorem ZD (a b c l A):IV (some (.row a b c l)) A=A a b c l:=rfl
theorem ZE (a b c l A B):NZ (some (.row a b c l)) A B=A a b c l:=rfl
theorem XG {α:Type}(v:α) (A:α->Prop):BW (some v) A=A v:=rfl
section
variable {E:Cn}{dst:Option Nat}{V:AN}{K:AV->B3->Prop}
theorem oz {α:Type}{n:Nat}{cs:List α}{off:Nat}{mk:List α->AV}{one:α->AV}{C:AV->Prop}:B8 true n cs off mk one C=(off+n<=cs.length/\C (mk ((cs.drop off).take n))):=by simp[B8]
theorem o0 {α:Type}{n:Nat}{cs:List α}{off:Nat}{mk:List α->AV}{one:α->AV}{C:AV->Prop}:B8 false n cs off mk one C=BW cs[off]? fun v=>C (one v):=by
 simp only[B8,Bool.false_eq_true,if_false];cases cs[off]?<;>rfl
theorem Xt {ag n o g off}:ev E dst V (.load ag n) [.ptr o g off] K=HO (V.get o g) fun cs=>B8 ag n cs off .agg id (K · .none):=by
 simp only[ev];cases V.get o g with
 |none=>rfl
 |some x=>cases x<;>rfl
theorem Vm {ag n o g es i off}:ev E dst V (.load ag n) [.rptr o g es i off] K=NZ (V.get o g) (fun _ es' _ l=>es=es'/\BW l[i]? fun x=>B8 ag n x.cells off (fun cs=>.d (.agg cs)) .d (K · .none))
  fun _ l k q p=>es=1/\(i=k->B8 ag n [.own q p] off .agg id (K · .none))/\(i≠k->BW l[i]? fun x=>B8 ag n x.cells off (fun cs=>.d (.agg cs)) .d (K · .none)):=by
 simp only[ev];cases V.get o g with
 |none=>rfl
 |some x =>
  cases x with
  |row a b c l=>simp only[NZ];cases l[i]?<;>rfl
  |rowH a l k q p=>simp only[NZ];cases l[i]?<;>rfl
  |_=>rfl
theorem Vn {ag n cs off}:ev E dst V (.load ag n) [.dptr cs off] K=B8 ag n cs off (fun cs=>.d (.agg cs)) .d (K · .none):=rfl
theorem dZ {ag n cs}:ev E dst V (.load ag n) [.d (.ptr cs)] K=B8 ag n cs 0 (fun cs=>.d (.agg cs)) .d (K · .none):=rfl
theorem Vi {n o g off v}:ev E dst V (.store n) [.ptr o g off,v] K=HO (V.get o g) fun cs=>BW v.cells? fun vs=>vs.length=n/\off+n<=cs.length/\K .undef (.keep o g (.cells (Bo cs off vs))):=by
 unfold ev HO BW;simp only
 cases V.get o g with
 |none=>rfl
 |some x=>cases x<;>cases v.cells?<;>rfl
theorem Vp {off o g a}:ev E dst V (.faddr off) [.ptr o g a] K=K (.ptr o g (a+off)) .none:=rfl
theorem Tr {off cs a}:ev E dst V (.faddr off) [.dptr cs a] K=K (.dptr cs (a+off)) .none:=rfl
theorem Zz {off cs}:ev E dst V (.faddr off) [.d (.ptr cs)] K=K (.dptr cs off) .none:=rfl
theorem mE {nl:Bool}{l:List D}:ev E dst V (.len false) [.d (.list nl l)] K=K (.d (.int .i64 l.length)) .none:=rfl
theorem Zy {es nl l k i}:ev E dst V (.iaddrS es) [.d (.list nl l),.d (.int k i)] K=(0<=i/\i<l.length/\BW l[i.toNat]? fun x=>x.cells.length=es/\K (.dptr x.cells 0) .none):=by
 simp only[ev];cases l[i.toNat]?<;>rfl
theorem ph {t v}:ev E (some t) V .box [v] K=BW v.cells? fun cs=>t<EF/\K (.ptr t (V.cn t) 0) (.fresh t (.cells cs)):=by
 simp only[ev];cases v.cells?<;>rfl
theorem mF {k k' n}:ev E dst V (.conv k) [.d (.int k' n)] K=K (.d (.int k (k.wrap n))) .none:=rfl
theorem Z0 {i vs}:ev E dst V (.extract i) [.tup vs] K=BW vs[i]? fun v=>K v .none:=by
 simp only[ev];cases vs[i]?<;>rfl
theorem mG {f xs}:ev E dst V (.call f) xs K=D3 E dst V f xs K:=rfl
theorem Q5 {n o g es0 i off x}:ev E dst V (.store n) [.rptr o g es0 i off,.d x] K=IV (V.get o g) fun ety es nl l=>BW (AV.d x).toD1 fun y=>es0=es/\BW l[i]? fun x=>y.cells.length=n/\off+n<=x.cells.length/\(n=es\/1<x.cells.length) /\
  K .undef (.keep o g (.row ety es nl (l.set i (if n=es then y else .agg (Bo x.cells off y.cells))))):=by
 simp only[ev];cases V.get o g with
 |none=>rfl
 |some x =>
  cases x with
  |row a b c l=>simp only[IV];cases (AV.d x).toD1 with
   |none=>rfl
   |some y=>simp only[BW];cases l[i]?<;>rfl
  |_=>rfl
theorem Vj {o g off}:ev E dst V .nilck [.ptr o g off] K=K (.ptr o g off) .none:=rfl
theorem Zr {cs}:ev E dst V .nilck [.d (.ptr cs)] K=K (.d (.ptr cs)) .none:=rfl
theorem Vo {es o g k i}:ev E dst V (.iaddrS es) [.own o g,.d (.int k i)] K=NZ (V.get o g) (fun _ es' _ l=>es=es'/\0<=i/\i<l.length/\K (.rptr o g es i.toNat 0) .none) fun _ l _ _ _=>es=1/\0<=i/\i<l.length/\K (.rptr o g es i.toNat 0) .none:=by
 simp only[ev];cases V.get o g with
 |none=>rfl
 |some x=>cases x<;>rfl
theorem Tq {len es o g off k i}:ev E dst V (.iaddrA len es) [.ptr o g off,.d (.int k i)] K=(0<=i/\i<len/\K (.ptr o g (off+i.toNat * es)) .none):=rfl
theorem Sf {len es cs off k i}:ev E dst V (.iaddrA len es) [.dptr cs off,.d (.int k i)] K=(0<=i/\i<len/\K (.dptr cs (off+i.toNat * es)) .none):=rfl
theorem Xx {len es cs k i}:ev E dst V (.iaddrA len es) [.d (.ptr cs),.d (.int k i)] K=(0<=i/\i<len/\K (.dptr cs (i.toNat * es)) .none):=rfl
theorem Zx {len es ag cs k i}:ev E dst V (.index len es ag) [.d (.agg cs),.d (.int k i)] K=(0<=i/\i<len/\B8 ag es cs (i.toNat * es) (fun cs=>.d (.agg cs)) .d (K · .none)):=rfl
theorem ij {z pl xs}:ev E dst V (.build z pl) xs K=BW (M9 (z.map .d) (pl.zip xs)) fun cs=>pl.length=xs.length/\K (.agg cs) .none:=by
 simp only[ev];cases M9 (z.map .d) (pl.zip xs)<;>rfl
theorem Vl {es z n ix}:ev E dst V (.mkrow es z n ix) [] K=BW (GL es (List.replicate n z) (ix.zip [])) fun l=>ix.length=0/\K (.ex l) .none:=by
 simp only[ev];cases GL es (List.replicate n z) (ix.zip [])<;>rfl
theorem Zs {es z n ix x xs}:ev E dst V (.mkrow es z n ix) (.d x::xs) K=BW (GL es (List.replicate n z) (ix.zip (.d x::xs))) fun l=>ix.length=(.d x::xs).length/\K (.ex l) .none:=by
 simp only[ev];cases GL es (List.replicate n z) (ix.zip (.d x::xs))<;>rfl
theorem Xs {es z n ix x xs}:ev E dst V (.mkrow es z n ix) (.ex x::xs) K=BW (GL es (List.replicate n z) (ix.zip (.ex x::xs))) fun l=>ix.length=(.ex x::xs).length/\K (.ex l) .none:=by
 simp only[ev];cases GL es (List.replicate n z) (ix.zip (.ex x::xs))<;>rfl
theorem Vk {es z n ix q p}:ev E dst V (.mkrow es z n ix) [.own q p] K=(es=1/\n=1/\ix=[0]/\K (.ablk true [.own q p] 0) .none):=rfl
theorem ZF (a b c d e A):FI (some (.mat a b c d e)) A=A a b c d e:=rfl
theorem Zt {ag n o g i}:ev E dst V (.load ag n) [.mref (.xp i) o g] K=FI (V.get o g) fun _ _ _ ix _=>BW ix[i]? fun j=>B8 ag n [.mref (.row j) o g] 0 .agg id (K · .none):=by
 simp only[ev];cases V.get o g with
 |none=>rfl
 |some x =>
  cases x with
  |mat a b c ix rows=>simp only[FI];cases ix[i]?<;>rfl
  |_=>rfl
theorem Zu {ag n o g j k}:ev E dst V (.load ag n) [.mref (.mp j k) o g] K=FI (V.get o g) fun _ _ _ _ rows=>BW rows[j]? fun x=>BW x.2[k]? fun y=>B8 ag n y.cells 0 (fun cs=>.d (.agg cs)) .d (K · .none):=by
 simp only[ev];cases V.get o g with
 |none=>rfl
 |some x =>
  cases x with
  |mat a b c ix rows=>simp only[FI];cases rows[j]? with
   |none=>rfl
   |some x=>simp only[BW];cases x.2[k]?<;>rfl
  |_=>rfl
theorem Zv {ag n cs off}:ev E dst V (.load ag n) [.ablk false cs off] K=B8 ag n cs off .agg id (K · .none):=rfl
theorem Xp {n i o g j o' g'}:ev E dst V (.store n) [.mref (.xp i) o g,.mref (.row j) o' g'] K=FI (V.get o g) fun e1 e2 nl ix rows=>n=1/\o'=o/\g'=g/\i<ix.length/\j<rows.length/\K .undef (.keep o g (.mat e1 e2 nl (ix.set i j) rows)):=by
 simp only[ev];cases V.get o g with
 |none=>rfl
 |some x=>cases x<;>rfl
theorem Xq {n j k o g v}:ev E dst V (.store n) [.mref (.mp j k) o g,.d v] K=FI (V.get o g) fun e1 e2 nl ix rows=>BW (AV.d v).toD1 fun y=>BW rows[j]? fun x=>n=1/\y.cells.length=1/\k<x.2.length/\K .undef (.keep o g (.mat e1 e2 nl ix (rows.set j (x.1,x.2.set k y)))):=by
 simp only[ev];cases V.get o g with
 |none=>rfl
 |some x =>
  cases x with
  |mat a b c ix rows=>simp only[FI];cases (AV.d v).toD1 with
   |none=>rfl
   |some y=>simp only[BW];cases rows[j]?<;>rfl
  |_=>rfl
theorem Xv {es o g k i}:ev E dst V (.iaddrS es) [.mref .out o g,.d (.int k i)] K=FI (V.get o g) fun _ _ _ ix _=>es=1/\0<=i/\i<ix.length/\K (.mref (.xp i.toNat) o g) .none:=by
 simp only[ev];cases V.get o g with
 |none=>rfl
 |some x=>cases x<;>rfl
theorem Xu {es j o g k i}:ev E dst V (.iaddrS es) [.mref (.row j) o g,.d (.int k i)] K=FI (V.get o g) fun _ _ _ _ rows=>BW rows[j]? fun x=>es=1/\0<=i/\i<x.2.length/\K (.mref (.mp j i.toNat) o g) .none:=by
 simp only[ev];cases V.get o g with
 |none=>rfl
 |some x =>
  cases x with
  |mat a b c ix rows=>simp only[FI];cases rows[j]?<;>rfl
  |_=>rfl
theorem ik {ety es z own o g q p}:ev E dst V (.app ety es z own) [.mref .out o g,.ablk true [.own q p] 0] K=FI (V.get o g) fun e1 e2 nl ix rows=>IV (V.get q p) fun e2' es2 nl2 l2 =>
  z=none/\o<EF/\q<EF/\o≠q/\ety=e1/\es=1/\es2=1/\e2'=e2/\ix.length+1<=C4 /\
   K (.mref .out o (V.cn o)) (.seq (.fresh o (.mat e1 e2 false (ix++[rows.length]) (rows++[(nl2,l2)]))) (.fresh q (.row e2 1 true []))):=by
 simp only[ev];cases V.get o g with
 |none=>rfl
 |some x =>
  cases x with
  |mat a b c ix rows=>simp only[FI];cases V.get q p with
   |none=>rfl
   |some y=>cases y<;>rfl
  |_=>rfl
theorem dX {ety es z n ix xs t}:ev E (some t) V (.mkrowO ety es z n ix) xs K=BW (GL es (List.replicate n z) (ix.zip xs)) fun l=>t<EF/\ix.length=xs.length/\K (.own t (V.cn t)) (.fresh t (.row ety es false l)):=by
 simp only[ev];cases GL es (List.replicate n z) (ix.zip xs)<;>rfl
theorem mD {f xs}:ev E dst V (.mkfn f) xs K=K (.fn f xs) .none:=rfl
theorem l_ {cs t}:ev E (some t) V (.zero cs) [] K=(t<EF/\K (.ptr t (V.cn t) 0) (.fresh t (.cells (cs.map .d)))):=rfl
theorem Xr {ety es z t n m}:ev E (some t) V (.mksl ety es z true) [.d (.int .i64 n),.d (.int .i64 m)] K=(n=m/\0<=n/\n<=(C4:Int)/\t<EF/\K (.own t (V.cn t)) (.fresh t (.row ety es false (List.replicate n.toNat z)))):=rfl
theorem dW {ety es z t n m}:ev E (some t) V (.mksl ety es z false) [.d (.int .i64 n),.d (.int .i64 m)] K=(n=m/\0<=n/\n<=(C4:Int)/\K (.d (.list false (List.replicate n.toNat z))) .none):=rfl
theorem Zq {es lo hi nl l rest}:ev E dst V (.slice es lo hi false) (.d (.list nl l)::rest) K=(C6 es l/\NT lo hi l.length rest fun a b=>K (.d (.list nl ((l.drop a).take (b-a)))) .none):=rfl
theorem Tp {es lo o g rest}:ev E dst V (.slice es lo true false) (.own o g::rest) K=IV (V.get o g) fun ety es' nl l=>o<EF/\es=es'/\NT lo true l.length rest fun a b=>K (.own o (V.cn o)) (.fresh o (.row ety es nl ((l.drop a).take (b-a)))):=by
 simp only[ev,Bool.false_eq_true,if_false,if_true];cases V.get o g with
 |none=>rfl
 |some x=>cases x<;>rfl
theorem pg:ev E dst V .cap [.d (.list true [])] K=K (.d (.int .i64 0)) .none:=rfl
theorem od {len:Nat}{C:Nat->Nat->Prop} {k h}:NT false true len [.d (.int k h)] C=(0<=h/\h<=len/\C 0 h.toNat):=rfl
theorem oc {len:Nat}{C:Nat->Nat->Prop} {k h}:NT true false len [.d (.int k h)] C=(0<=h/\h<=len/\C h.toNat len):=rfl
theorem oa {len:Nat}{C:Nat->Nat->Prop} {k h k' m}:NT true true len [.d (.int k h),.d (.int k' m)] C=(0<=h/\h<=m/\m<=len/\C h.toNat m.toNat):=rfl
theorem dc {l}:ev E dst V (.len false) [.ex l] K=K (.d (.int .i64 l.length)) .none:=rfl
theorem Zw {o g}:ev E dst V (.len false) [.own o g] K=IV (V.get o g) fun _ _ _ l=>K (.d (.int .i64 l.length)) .none:=by
 simp only[ev,Bool.false_eq_true,if_false,AV.lenL,AV.asList];cases V.get o g with
 |none=>rfl
 |some x=>cases x<;>rfl
theorem db {o g}:ev E dst V (.len false) [.mref .out o g] K=FI (V.get o g) fun _ _ _ ix _=>K (.d (.int .i64 ix.length)) .none:=by
 simp only[ev,Bool.false_eq_true,if_false,AV.lenL,AV.asList];cases V.get o g with
 |none=>rfl
 |some x=>cases x<;>first|rfl|simp[Il,FI]
theorem da {j o g}:ev E dst V (.len false) [.mref (.row j) o g] K=FI (V.get o g) fun _ _ _ _ rows=>BW rows[j]? fun x=>K (.d (.int .i64 x.2.length)) .none:=by
 simp only[ev,Bool.false_eq_true,if_false,AV.lenL,AV.asList];cases V.get o g with
 |none=>rfl
 |some x=>cases x<;>first|rfl|(simp only[FI];rename_i rows;cases rows[j]?<;>rfl)
theorem de {off n cap o g}:ev E dst V (.len false) [.mref (.bs off n cap) o g] K=K (.d (.int .i64 n)) .none:=rfl
theorem ia {o g off k h k' m}:ev E dst V (.slice 1 true true true) [.ptr o g off,.d (.int k h),.d (.int k' m)] K=(0<=h/\h<=m/\K (.mref (.bs off h.toNat m.toNat) o g) .none):=rfl
theorem dV {cs off k h k' m}:ev E dst V (.slice 1 true true true) [.dptr cs off,.d (.int k h),.d (.int k' m)] K=(0<=h/\h<=m/\off+m.toNat<=cs.length/\K (.d (.list false ((cs.drop off).take h.toNat))) .none):=rfl
theorem dU {es l k a k' h k'' m}:ev E dst V (.slice es true true true) [.d (.list false l),.d (.int k a),.d (.int k' h),.d (.int k'' m)] K=(C6 es l/\h=m/\0<=a/\a<h/\h<=l.length/\K (.ex ((l.drop a.toNat).take (h.toNat-a.toNat))) .none):=rfl
theorem Xw {es off n cap o g k i}:ev E dst V (.iaddrS es) [.mref (.bs off n cap) o g,.d (.int k i)] K=(es=1/\0<=i/\i<n/\K (.ptr o g (off+i.toNat)) .none):=rfl
theorem ig {n x}:ev E dst V (.eqnil n) [x,.d (.list true [])] K=BW (x.asList V) fun p=>K (.d (.bool (if n then !p.1 else p.1))) .none:=by
 simp only[ev];cases x.asList V<;>rfl
theorem dY {m k a rest}:ev E dst V (.minmax m) (.d (.int k a)::rest) K=BW (Fw m k a rest) fun r=>K (.d (.int k r)) .none:=by
 simp only[ev];cases Fw m k a rest<;>rfl
theorem Z2 {ety es z own o g y}:ev E dst V (.app ety es z own) [.own o g,y] K=BW (ED V z y) fun ys=>IV (V.get o g) fun ety' es' nl l=>o<EF/\ety=ety'/\es=es'/\C6 es ys/\l.length+ys.length<=C4 /\
  K (.own o (V.cn o)) (.fresh o (.row ety es (nl && ys.isEmpty) (l++ys))):=by
 simp only[ev];cases ED V z y with
 |none=>rfl
 |some ys =>
  simp only[BW]
  cases V.get o g with
  |none=>rfl
  |some x=>cases x<;>rfl
theorem Z3 {ety es z t y}:ev E (some t) V (.app ety es z true) [.d (.list true []),y] K=BW (ED V z y) fun ys=>C6 es ys/\ys.length<=C4/\t<EF/\K (.own t (V.cn t)) (.fresh t (.row ety es ys.isEmpty ys)):=by
 simp only[ev];cases ED V z y<;>rfl
theorem df {ety es z t l y}:ev E (some t) V (.app ety es z true) [.ex l,y] K=BW (ED V z y) fun ys=>C6 es (l++ys)/\l.length+ys.length<=C4/\(ys=[]->K (.ex l) .none)/\(ys≠[]->t<EF/\K (.own t (V.cn t)) (.fresh t (.row ety es false (l++ys)))):=by
 simp only[ev];cases ED V z y with
 |none=>rfl
 |some ys=>cases ys<;>simp[BW]
theorem Z4 {ety es z l y}:ev E dst V (.app ety es z false) [.ex l,y] K=BW (ED V z y) fun ys=>C6 es (l++ys)/\l.length+ys.length<=C4/\K (.d (.list false (l++ys))) .none:=by
 simp only[ev];cases ED V z y<;>rfl
theorem Xy {f cs args}:ev E dst V .callv (.fn f cs::args) K=(B5 E.P f=true/\D3 E dst V f (args++cs) K):=rfl
theorem Z1 {f cs args}:ev E dst V .callv (.d (.fn f cs)::args) K=(B5 E.P f=true/\D3 E dst V f (args++cs.map .d) K):=rfl
theorem dw {k k':IntKind}{a b:Int}{C:AV->Prop}:DP .eql k k' a b C=(k=k'/\C (.d (.bool (decide (a=b))))):=rfl
theorem dn {k k':IntKind}{a b:Int}{C:AV->Prop}:DP .neq k k' a b C=(k=k'/\C (.d (.bool (!decide (a=b))))):=rfl
theorem dq {k k':IntKind}{a b:Int}{C:AV->Prop}:DP .lss k k' a b C=(k=k'/\C (.d (.bool (decide (a<b))))):=rfl
theorem dr {k k':IntKind}{a b:Int}{C:AV->Prop}:DP .leq k k' a b C=(k=k'/\C (.d (.bool (decide (a<=b))))):=rfl
theorem dt {k k':IntKind}{a b:Int}{C:AV->Prop}:DP .gtr k k' a b C=(k=k'/\C (.d (.bool (decide (b<a))))):=rfl
theorem du {k k':IntKind}{a b:Int}{C:AV->Prop}:DP .geq k k' a b C=(k=k'/\C (.d (.bool (decide (b<=a))))):=rfl
theorem dz {k k':IntKind}{a b:Int}{C:AV->Prop}:DP .add k k' a b C=(k=k'/\C (.d (.int k (k.wrap (a+b))))):=rfl
theorem dh {k k':IntKind}{a b:Int}{C:AV->Prop}:DP .sub k k' a b C=(k=k'/\C (.d (.int k (k.wrap (a-b))))):=rfl
theorem dp {k k':IntKind}{a b:Int}{C:AV->Prop}:DP .mul k k' a b C=(k=k'/\C (.d (.int k (k.wrap (a*b))))):=rfl
theorem dm {k k':IntKind}{a b:Int}{C:AV->Prop}:DP .quo k k' a b C=(k=k'/\b≠0/\C (.d (.int k (k.wrap (a.tdiv b))))):=rfl
theorem dl {k k':IntKind}{a b:Int}{C:AV->Prop}:DP .rem k k' a b C=(k=k'/\b≠0/\C (.d (.int k (a.tmod b)))):=rfl
theorem dk {k k':IntKind}{a b:Int}{C:AV->Prop}:DP .shl k k' a b C=(0<=b/\C (.d (.int k (k.wrap (a*2^(min b.toNat k.bits)))))):=rfl
theorem di {k k':IntKind}{a b:Int}{C:AV->Prop}:DP .shr k k' a b C=(0<=b/\C (.d (.int k (a.fdiv (2^(min b.toNat k.bits)))))):=rfl
theorem dx {k k':IntKind}{a b:Int}{C:AV->Prop}:DP .and k k' a b C=(k=k'/\C (.d (.int k (A3 .and k a b)))):=rfl
theorem il {k k':IntKind}{a b:Int}{C:AV->Prop}:DP .or k k' a b C=(k=k'/\C (.d (.int k (A3 .or k a b)))):=rfl
theorem dg {k k':IntKind}{a b:Int}{C:AV->Prop}:DP .xor k k' a b C=(k=k'/\C (.d (.int k (A3 .xor k a b)))):=rfl
end
end Go.Pw
end
section
namespace Go.Pw
def SQ (x:Option Am) (A:List (List D)->Nat->Prop):Prop:=match x with|some (.hist els n false)=>A els n|_=>False
theorem XJ (els n A):SQ (some (.hist els n false)) A=A els n:=rfl
section
variable {E:Cn}{Q:B_->Bd->Prop}{s s':Bd}{K:AV->B3->Prop}{KS:Bd->Prop}
theorem eU {o g:Nat}{xs:List AV}{V:AN}:TZ (.own o g) xs V K=SQ (V.get o g) fun els n=>BW (FT xs) fun ds=>els[n]?=some ds/\K (.d (.bool true)) (.keep o g (.hist els (n+1) false))/\K (.d (.bool false)) (.keep o g (.hist els (n+1) true)):=by
 simp only[TZ,SQ]
 cases V.get o g with
 |none=>rfl
 |some x=>cases x with
  |hist els n st=>cases st<;>(simp only[BW];try (cases FT xs<;>rfl))
  |_=>rfl
theorem eK {xs:List AV}:FT xs=BV AV.toD1 xs:=rfl
theorem Yj {sl:Nat->AV}{V:AN}:GQ [] sl V=true:=rfl
def ja (V:AN) (o:Nat):Bool:=match V.ob o with|some (g,_)=>g == 0|none=>false
theorem WS {k:Nat}{ks:List Nat}{sl:Nat->AV}{V:AN}:GQ (k::ks) sl V=((sl k).sites.all (ja V) && GQ ks sl V):=rfl
def jZ (x:Option (Nat×Am)):Bool:=match x with|some (g,_)=>g == 0|none=>false
theorem eM {ob cn o}:ja ⟨ob,cn⟩ o=jZ (ob o):=rfl
theorem YT {g x}:jZ (some (g,x))=(g == 0):=rfl
theorem jl {m:List (Nat×(Nat×Am))}{cn:Nat->Nat}{os:List Nat}:(AN.mk (Be m) cn).nrm os=⟨Be (EX ⟨Be m,cn⟩ os os),fun _=>1⟩:=by
 have:=gB (fun _=>.undef) ⟨Be m,cn⟩ [] os
 have h2:((Bd.mk (fun _=>.undef) ⟨Be m,cn⟩).nrm [] os).V=(AN.mk (Be m) cn).nrm os:=rfl
 rw[←h2,this]
theorem pA {o:Nat}:Qi o=if 900000<=o/\o<5000000 then o else o+5000000:=rfl
def mvL (l:List (Nat×AV)):List (Nat×AV):=l.map fun p=>(p.1,p.2.mv)
theorem k_:mvL []=[]:=rfl
theorem XN {k v l}:mvL ((k,v)::l)=(k,v.mv)::mvL l:=rfl
def ZL (k:Nat) (g:Nat) (x:Option Am) (r:List (Nat×(Nat×Am))):List (Nat×(Nat×Am)):=match x with
 |some y=>(Qi k,(g,y))::r
 |none=>r.filter fun p=>!(p.1 == Qi k)
def k9:List (Nat×(Nat×Am))->List (Nat×(Nat×Am))
 |[]=>[]
 |(k,(g,x))::l=>ZL k g x.mv (k9 l)
theorem k8:k9 []=[]:=rfl
theorem XM {k g x l}:k9 ((k,(g,x))::l)=ZL k g x.mv (k9 l):=rfl
theorem cx {k g y r}:ZL k g (some y) r=(Qi k,(g,y))::r:=rfl
theorem Px {k g r}:ZL k g none r=r.filter fun p=>!(p.1 == Qi k):=rfl
theorem J2 (k:Nat):∀(l:List (Nat×(Nat×Am))) (t:Nat),Be (l.filter fun p=>!(p.1 == k)) t=if t=k then none else Be l t
 |[],t=>by simp[Be]
 |p::l,t=>by
  obtain⟨a,b⟩:=p
  have ih:=J2 k l t
  by_cases h:a=k
  ·subst h
   rw[List.filter_cons,if_neg (by simp),ih]
   by_cases ht:t=a
   ·simp[ht]
   ·simp[ht,Be]
  ·rw[List.filter_cons,if_pos (by simpa using h)]
   simp only[Be,ih]
   by_cases ht:t=a
   ·subst ht;simp[h]
   ·simp[ht]
theorem XU:∀(m:List (Nat×(Nat×Am))) (o:Nat),Be (k9 m) o=if Qi (PZ o)=o then (match Be m (PZ o) with
   |some (g,x)=>match x.mv with|some y=>some (g,y)|none=>none
   |none=>none) else none
 |[],o=>by simp[k9,Be]
 |(k,(g,x))::m,o=>by
  have ih:=XU m o
  rw[XM]
  by_cases h:o=Qi k
  ·subst h
   rw[IC,if_pos rfl]
   cases hx:x.mv with
   |some y=>simp[ZL,Be,hx]
   |none=>rw[Px,J2,if_pos rfl];simp[Be,hx]
  ·have hk:Qi (PZ o)=o->PZ o≠k:=fun h1 h2=>h (by rw[←h1,h2])
   have hrest:Be (ZL k g x.mv (k9 m)) o=Be (k9 m) o:=by
    cases x.mv with
    |some y=>simp[ZL,Be,h]
    |none=>rw[Px,J2,if_neg h]
   rw[hrest,ih]
   by_cases h1:Qi (PZ o)=o
   ·rw[if_pos h1,if_pos h1]
    have:=hk h1
    simp[Be,this]
   ·rw[if_neg h1,if_neg h1]
theorem qN {l:List (Nat×AV)}{m:List (Nat×(Nat×Am))}{cn:Nat->Nat}:(Bd.mk (E_ l) ⟨Be m,cn⟩).mv=⟨E_ (mvL l),⟨Be (k9 m),fun _=>1⟩⟩:=by
 have h1:(fun t=>(E_ l t).mv)=E_ (mvL l):=by
  funext t
  induction l with
  |nil=>rfl
  |cons p l ih =>
   obtain⟨k,v⟩:=p
   simp only[XN,E_]
   by_cases h:t=k
   ·simp[h]
   ·simp only[if_neg h];exact ih
 show Bd.mk (fun t=>(E_ l t).mv) _=_
 rw[h1]
 refine congrArg (fun ob=>Bd.mk _ (AN.mk ob _)) ?_
 funext o
 exact(XU m o).symm
theorem cm {xs}:(Am.cells xs).mv=some (.cells (xs.map AV.mv)):=rfl
theorem rA {x}:(AV.d x).mv=.d x:=rfl
theorem pB {o g f}:(AV.ptr o g f).mv=.ptr (Qi o) g f:=rfl
theorem cY {V:AN} {os a b l}:(Am.hist a b l).nrm V os=some (.hist a b l):=rfl
theorem VO {A:Bd->Prop}:Qf A .normal s=A s:=rfl
theorem bv {sl:Nat->AV} {ds}:Mr sl [] ds=sl:=by cases ds<;>rfl
theorem Yz {sl:Nat->AV} {p ps d ds}:Mr sl (p::ps) (d::ds)=Mr (CU sl p (.d d)) ps ds:=rfl
def cO {α:Type}(T:α->AN) (Inv:Nat->α->Prop) (PInv:B_->α->Prop) (m:Nat) (gs:List Eu) (ks os:List Nat) (sl:Nat->AV) (e:B_) (s:Bd):Prop :=
 Ce gs s fun s'=>GQ ks sl (s'.V.nrm os)=true/\∃y,s'.V.nrm os=T y/\(match e with|.normal=>Inv m y|e=>PInv e y)
theorem XB {α:Type}{T:α->AN} {Inv PInv m gs ks os sl}:cO T Inv PInv m gs ks os sl .normal s=Ce gs s fun s'=>GQ ks sl (s'.V.nrm os)=true/\∃y,s'.V.nrm os=T y/\Inv m y:=rfl
theorem cN {α:Type}{T:α->AN} {Inv PInv m gs ks os sl i}:cO T Inv PInv m gs ks os sl (.exit i) s=Ce gs s fun s'=>GQ ks sl (s'.V.nrm os)=true/\∃y,s'.V.nrm os=T y/\PInv (.exit i) y:=rfl
theorem ka {α:Type}(T:α->AN) (Inv:Nat->α->Prop) (PInv:B_->α->Prop) (x0:α) {ps ks os:List Nat}{b:PC}{gs2:List Eu}{os2:List Nat}{a:PC}{f:FuncId}{pre post:List D}{els:List (List D)}{sl1:Nat->AV}{s1:Bd}
  (h2:(s1.nrm ks os).mv=⟨sl1,T x0⟩) (hr:(b.noR && a.noR)=true) (hs:eN E f pre post els) (hw:GQ ks sl1 (T x0)=true) (hI:Inv 0 x0)
  (step:∀n x ds,els[n]?=some ds->Inv n x->ps.length=ds.length/\pw E b (Qf fun s2=>pw E a (cO T Inv PInv (n+1) gs2 ks os2 sl1) s2) ⟨Mr sl1 ps ds,T x⟩)
  (hend:∀x,Inv els.length x->Q .normal ⟨sl1,T x⟩) (hjump:∀e x,PInv e x->Q e ⟨sl1,T x⟩) :
  (b.noR && a.noR)=true/\∃els,eN E f pre post els/\∃(JJ:Nat->AN->Prop) (Pd:B_->AN->Prop),
   GQ ks (s1.nrm ks os).mv.sl (s1.nrm ks os).mv.V=true/\JJ 0 (s1.nrm ks os).mv.V /\
   (∀n V ds,V.cn=(fun _=>1)->els[n]?=some ds->JJ n V->ps.length=ds.length /\
    pw E b (Qf fun s2=>pw E a (oe JJ Pd (n+1) gs2 ks os2 (s1.nrm ks os).mv.sl) s2) ⟨Mr (s1.nrm ks os).mv.sl ps ds,V⟩) /\
   (∀V,V.cn=(fun _=>1)->JJ els.length V->Q .normal ⟨(s1.nrm ks os).mv.sl,V⟩) /\
   ∀e V,V.cn=(fun _=>1)->Pd e V->Q e ⟨(s1.nrm ks os).mv.sl,V⟩:=by
 refine⟨hr,els,hs,fun n V=>∃x,V=T x/\Inv n x,fun e V=>∃x,V=T x/\PInv e x,?_,?_,?_,?_,?_⟩
 ·rw[h2];exact hw
 ·rw[h2];exact⟨x0,rfl,hI⟩
 ·rintro n V ds _ hds ⟨x,rfl,hx⟩
  obtain⟨k1,k2⟩:=step n x ds hds hx
  refine⟨k1,?_⟩
  rw[h2]
  refine GZ k2 fun e s2 h3=>?_
  cases e with
  |normal =>
   refine GZ h3 fun e s3 h4=>?_
   refine DK (fun s4 h5=>?_) h4
   obtain⟨k3,y,k4,k5⟩:=h5
   refine⟨k3,?_⟩
   cases e with
   |normal=>exact⟨y,k4,k5⟩
   |exit i=>exact⟨y,k4,k5⟩
   |ret=>exact⟨y,k4,k5⟩
  |exit i=>exact h3
  |ret=>exact h3
 ·rintro V _ ⟨x,rfl,hx⟩
  rw[h2];exact hend x hx
 ·rintro e V _ ⟨x,rfl,hx⟩
  rw[h2];exact hjump e x hx
theorem aj {α:Type}(T:α->AN) (Inv:Nat->α->Prop) (PInv:B_->α->Prop) (x0:α) {gs:List Eu}{g:Kj}{ps ks os:List Nat}{b:PC}{gs2:List Eu}{os2:List Nat}{a:PC}{f:FuncId}{pre post:List D}{els:List (List D)}{sl1:Nat->AV}
  (h0:Ce gs s fun s1=>(g.val s1.sl=.bnd f pre/\post=[]\/g.val s1.sl=.d (.fn f post)/\pre=[])/\(s1.nrm ks os).mv=⟨sl1,T x0⟩) (hT:∀x,(T x).cn=fun _=>1) (hb:B5 E.P f=true) (hr:(b.noR && a.noR)=true) (hs:eN E f pre post els) (hw:GQ ks sl1 (T x0)=true) (hI:Inv 0 x0)
  (step:∀n x ds,els[n]?=some ds->Inv n x->ps.length=ds.length/\pw E b (Qf fun s2=>pw E a (cO T Inv PInv (n+1) gs2 ks os2 sl1) s2) ⟨Mr sl1 ps ds,T x⟩)
  (hend:∀x,Inv els.length x->Q .normal ⟨sl1,T x⟩) (hjump:∀e x,PInv e x->Q e ⟨sl1,T x⟩):pw E (.rngF gs g ps ks os b gs2 os2 a) Q s:=by
 refine DK (fun s1 h=>?_) h0
 obtain⟨h1,h2⟩:=h
 suffices hk:XA E (g.val s1.sl) (fun f' pre' post'=>f'=f/\pre'=pre/\post'=post) by
  refine UI (fun f' pre' post' hk=>?_) hk
  obtain⟨rfl,rfl,rfl⟩:=hk
  exact ka T Inv PInv x0 h2 hr hs hw hI step hend hjump
 unfold XA
 rcases h1 with⟨h1,rfl⟩|⟨h1,rfl⟩
 ·rw[h1];exact⟨hb,rfl,rfl,rfl⟩
 ·rw[h1];exact⟨hb,rfl,rfl,rfl⟩
end
end Go.Pw
end
