/- A part of the proof. -/
import Derived.Test.YtpcpcjbbdgmohaaDoorPwZ
set_option linter.all false
section
namespace Go.Pw
def GM (x:Option AW) (A:List AV->Prop):Prop:=match x with|some (.cells cs)=>A cs|_=>False
def HA (x:Option AW) (A:Nat->Nat->Bool->List D->Prop):Prop:=match x with|some (.row a b c l)=>A a b c l|_=>False
def Kp (x:Option AW) (A:Nat->Nat->Bool->List D->Prop) (B:Nat->List D->Nat->Nat->Nat->Prop):Prop:=match x with|some (.row a b c l)=>A a b c l|some (.rowH a l i q p)=>B a l i q p|_=>False
def LS (x:Option AW) (A:K_->List (D×D)->Prop):Prop:=match x with|some (.map t l)=>A t l|_=>False
def Ek (x:Option AW) (A:Nat->Nat->Bool->List Nat->List (Bool×List D)->Prop):Prop:=match x with|some (.mat a b c d e)=>A a b c d e|_=>False
def Aq {α:Type}(x:Option α) (A:α->Prop):Prop:=match x with|some v=>A v|none=>False
def Ph {α:Type}(x:Option α) (A:α->Prop) (B:Prop):Prop:=match x with|some v=>A v|none=>B
theorem QX (cs A):GM (some (.cells cs)) A=A cs:=rfl
theorem TT (a b c l A):HA (some (.row a b c l)) A=A a b c l:=rfl
theorem TU (a b c l A B):Kp (some (.row a b c l)) A B=A a b c l:=rfl
theorem TY (t l A):LS (some (.map t l)) A=A t l:=rfl
theorem Ry {α:Type}(v:α) (A:α->Prop):Aq (some v) A=A v:=rfl
theorem TV {α:Type}(v:α) (A:α->Prop) (B:Prop):Ph (some v) A B=A v:=rfl
theorem TW {α:Type}(A:α->Prop) (B:Prop):Ph none A B=B:=rfl
section
variable {E:Co}{dst:Option Nat}{V:AI}{K:AV->Bh->Prop}
theorem db {α:Type}{n:Nat}{cs:List α}{off:Nat}{mk:List α->AV}{one:α->AV}{C:AV->Prop}:Bp true n cs off mk one C=(off+n<=cs.length/\C (mk ((cs.drop off).take n))):=by simp[Bp]
theorem dc {α:Type}{n:Nat}{cs:List α}{off:Nat}{mk:List α->AV}{one:α->AV}{C:AV->Prop}:Bp false n cs off mk one C=Aq cs[off]? fun v=>C (one v):=by
 simp only[Bp,Bool.false_eq_true,if_false];cases cs[off]?<;>rfl
theorem SP {ag n o g off}:ev E dst V (.load ag n) [.ptr o g off] K=GM (V.get o g) fun cs=>Bp ag n cs off .agg id (K · .none):=by
 simp only[ev];cases V.get o g with
 |none=>rfl
 |some x=>cases x<;>rfl
theorem Qj {ag n o g es i off}:ev E dst V (.load ag n) [.rptr o g es i off] K=Kp (V.get o g) (fun _ es' _ l=>es=es'/\Aq l[i]? fun x=>Bp ag n x.cells off (fun cs=>.d (.agg cs)) .d (K · .none))
  fun _ l k q p=>es=1/\(i=k->Bp ag n [.own q p] off .agg id (K · .none))/\(i≠k->Aq l[i]? fun x=>Bp ag n x.cells off (fun cs=>.d (.agg cs)) .d (K · .none)):=by
 simp only[ev];cases V.get o g with
 |none=>rfl
 |some x =>
  cases x with
  |row a b c l=>simp only[Kp];cases l[i]?<;>rfl
  |rowH a l k q p=>simp only[Kp];cases l[i]?<;>rfl
  |_=>rfl
theorem Qk {ag n cs off}:ev E dst V (.load ag n) [.dptr cs off] K=Bp ag n cs off (fun cs=>.d (.agg cs)) .d (K · .none):=rfl
theorem WO {ag n cs}:ev E dst V (.load ag n) [.d (.ptr cs)] K=Bp ag n cs 0 (fun cs=>.d (.agg cs)) .d (K · .none):=rfl
theorem Qf {n o g off v}:ev E dst V (.store n) [.ptr o g off,v] K=GM (V.get o g) fun cs=>Aq v.cells? fun vs=>vs.length=n/\off+n<=cs.length/\K .undef (.keep o g (.cells (BS cs off vs))):=by
 unfold ev GM Aq;simp only
 cases V.get o g with
 |none=>rfl
 |some x=>cases x<;>cases v.cells?<;>rfl
theorem Qm {off o g a}:ev E dst V (.faddr off) [.ptr o g a] K=K (.ptr o g (a+off)) .none:=rfl
theorem O_ {off cs a}:ev E dst V (.faddr off) [.dptr cs a] K=K (.dptr cs (a+off)) .none:=rfl
theorem UG {off cs}:ev E dst V (.faddr off) [.d (.ptr cs)] K=K (.dptr cs off) .none:=rfl
theorem bi {nl:Bool}{l:List D}:ev E dst V (.len false) [.d (.list nl l)] K=K (.d (.int .i64 l.length)) .none:=rfl
theorem UF {es nl l k i}:ev E dst V (.iaddrS es) [.d (.list nl l),.d (.int k i)] K=(0<=i/\i<l.length/\Aq l[i.toNat]? fun x=>x.cells.length=es/\K (.dptr x.cells 0) .none):=by
 simp only[ev];cases l[i.toNat]?<;>rfl
theorem eJ {t v}:ev E (some t) V .box [v] K=Aq v.cells? fun cs=>t<Dv/\K (.ptr t (V.cn t) 0) (.fresh t (.cells cs)):=by
 simp only[ev];cases v.cells?<;>rfl
theorem bk {k k' n}:ev E dst V (.conv k) [.d (.int k' n)] K=K (.d (.int k (k.wrap n))) .none:=rfl
theorem UH {i vs}:ev E dst V (.extract i) [.tup vs] K=Aq vs[i]? fun v=>K v .none:=by
 simp only[ev];cases vs[i]?<;>rfl
theorem bl {f xs}:ev E dst V (.call f) xs K=Dl E dst V f xs K:=rfl
theorem M8 {n o g es0 i off x}:ev E dst V (.store n) [.rptr o g es0 i off,.d x] K=HA (V.get o g) fun ety es nl l=>Aq (AV.d x).toD1 fun y=>es0=es/\Aq l[i]? fun x=>y.cells.length=n/\off+n<=x.cells.length/\(n=es\/1<x.cells.length) /\
  K .undef (.keep o g (.row ety es nl (l.set i (if n=es then y else .agg (BS x.cells off y.cells))))):=by
 simp only[ev];cases V.get o g with
 |none=>rfl
 |some x =>
  cases x with
  |row a b c l=>simp only[HA];cases (AV.d x).toD1 with
   |none=>rfl
   |some y=>simp only[Aq];cases l[i]?<;>rfl
  |_=>rfl
theorem Ql {es o g k i}:ev E dst V (.iaddrS es) [.own o g,.d (.int k i)] K=Kp (V.get o g) (fun _ es' _ l=>es=es'/\0<=i/\i<l.length/\K (.rptr o g es i.toNat 0) .none) fun _ l _ _ _=>es=1/\0<=i/\i<l.length/\K (.rptr o g es i.toNat 0) .none:=by
 simp only[ev];cases V.get o g with
 |none=>rfl
 |some x=>cases x<;>rfl
theorem O9 {len es o g off k i}:ev E dst V (.iaddrA len es) [.ptr o g off,.d (.int k i)] K=(0<=i/\i<len/\K (.ptr o g (off+i.toNat * es)) .none):=rfl
theorem SS {len es cs k i}:ev E dst V (.iaddrA len es) [.d (.ptr cs),.d (.int k i)] K=(0<=i/\i<len/\K (.dptr cs (i.toNat * es)) .none):=rfl
theorem ZD {z pl xs}:ev E dst V (.build z pl) xs K=Aq (KT (z.map .d) (pl.zip xs)) fun cs=>pl.length=xs.length/\K (.agg cs) .none:=by
 simp only[ev];cases KT (z.map .d) (pl.zip xs)<;>rfl
theorem Qh {es z n ix}:ev E dst V (.mkrow es z n ix) [] K=Aq (E5 es (List.replicate n z) (ix.zip [])) fun l=>ix.length=0/\K (.ex l) .none:=by
 simp only[ev];cases E5 es (List.replicate n z) (ix.zip [])<;>rfl
theorem T_ {es z n ix x xs}:ev E dst V (.mkrow es z n ix) (.d x::xs) K=Aq (E5 es (List.replicate n z) (ix.zip (.d x::xs))) fun l=>ix.length=(.d x::xs).length/\K (.ex l) .none:=by
 simp only[ev];cases E5 es (List.replicate n z) (ix.zip (.d x::xs))<;>rfl
theorem Qi {es z n ix x xs}:ev E dst V (.mkrow es z n ix) (.agg x::xs) K=Aq (E5 es (List.replicate n z) (ix.zip (.agg x::xs))) fun l=>ix.length=(.agg x::xs).length/\K (.ex l) .none:=by
 simp only[ev];cases E5 es (List.replicate n z) (ix.zip (.agg x::xs))<;>rfl
theorem SO {es z n ix x xs}:ev E dst V (.mkrow es z n ix) (.ex x::xs) K=Aq (E5 es (List.replicate n z) (ix.zip (.ex x::xs))) fun l=>ix.length=(.ex x::xs).length/\K (.ex l) .none:=by
 simp only[ev];cases E5 es (List.replicate n z) (ix.zip (.ex x::xs))<;>rfl
theorem Qg {es z n ix q p}:ev E dst V (.mkrow es z n ix) [.own q p] K=(es=1/\n=1/\ix=[0]/\K (.ablk true [.own q p] 0) .none):=rfl
theorem TX (a b c d e A):Ek (some (.mat a b c d e)) A=A a b c d e:=rfl
theorem UB {ag n o g i}:ev E dst V (.load ag n) [.mref (.xp i) o g] K=Ek (V.get o g) fun _ _ _ ix _=>Aq ix[i]? fun j=>Bp ag n [.mref (.row j) o g] 0 .agg id (K · .none):=by
 simp only[ev];cases V.get o g with
 |none=>rfl
 |some x =>
  cases x with
  |mat a b c ix rows=>simp only[Ek];cases ix[i]?<;>rfl
  |_=>rfl
theorem UC {ag n o g j k}:ev E dst V (.load ag n) [.mref (.mp j k) o g] K=Ek (V.get o g) fun _ _ _ _ rows=>Aq rows[j]? fun x=>Aq x.2[k]? fun y=>Bp ag n y.cells 0 (fun cs=>.d (.agg cs)) .d (K · .none):=by
 simp only[ev];cases V.get o g with
 |none=>rfl
 |some x =>
  cases x with
  |mat a b c ix rows=>simp only[Ek];cases rows[j]? with
   |none=>rfl
   |some x=>simp only[Aq];cases x.2[k]?<;>rfl
  |_=>rfl
theorem UD {ag n cs off}:ev E dst V (.load ag n) [.ablk false cs off] K=Bp ag n cs off .agg id (K · .none):=rfl
theorem SL {n i o g j o' g'}:ev E dst V (.store n) [.mref (.xp i) o g,.mref (.row j) o' g'] K=Ek (V.get o g) fun e1 e2 nl ix rows=>n=1/\o'=o/\g'=g/\i<ix.length/\j<rows.length/\K .undef (.keep o g (.mat e1 e2 nl (ix.set i j) rows)):=by
 simp only[ev];cases V.get o g with
 |none=>rfl
 |some x=>cases x<;>rfl
theorem SM {n j k o g v}:ev E dst V (.store n) [.mref (.mp j k) o g,.d v] K=Ek (V.get o g) fun e1 e2 nl ix rows=>Aq (AV.d v).toD1 fun y=>Aq rows[j]? fun x=>n=1/\y.cells.length=1/\k<x.2.length/\K .undef (.keep o g (.mat e1 e2 nl ix (rows.set j (x.1,x.2.set k y)))):=by
 simp only[ev];cases V.get o g with
 |none=>rfl
 |some x =>
  cases x with
  |mat a b c ix rows=>simp only[Ek];cases (AV.d v).toD1 with
   |none=>rfl
   |some y=>simp only[Aq];cases rows[j]?<;>rfl
  |_=>rfl
theorem SR {es o g k i}:ev E dst V (.iaddrS es) [.mref .out o g,.d (.int k i)] K=Ek (V.get o g) fun _ _ _ ix _=>es=1/\0<=i/\i<ix.length/\K (.mref (.xp i.toNat) o g) .none:=by
 simp only[ev];cases V.get o g with
 |none=>rfl
 |some x=>cases x<;>rfl
theorem SQ {es j o g k i}:ev E dst V (.iaddrS es) [.mref (.row j) o g,.d (.int k i)] K=Ek (V.get o g) fun _ _ _ _ rows=>Aq rows[j]? fun x=>es=1/\0<=i/\i<x.2.length/\K (.mref (.mp j i.toNat) o g) .none:=by
 simp only[ev];cases V.get o g with
 |none=>rfl
 |some x =>
  cases x with
  |mat a b c ix rows=>simp only[Ek];cases rows[j]?<;>rfl
  |_=>rfl
theorem ZE {ety es z own o g q p}:ev E dst V (.app ety es z own) [.mref .out o g,.ablk true [.own q p] 0] K=Ek (V.get o g) fun e1 e2 nl ix rows=>HA (V.get q p) fun e2' es2 nl2 l2 =>
  z=none/\o<Dv/\q<Dv/\o≠q/\ety=e1/\es=1/\es2=1/\e2'=e2/\ix.length+1<=Ce /\
   K (.mref .out o (V.cn o)) (.seq (.fresh o (.mat e1 e2 false (ix++[rows.length]) (rows++[(nl2,l2)]))) (.fresh q (.row e2 1 true []))):=by
 simp only[ev];cases V.get o g with
 |none=>rfl
 |some x =>
  cases x with
  |mat a b c ix rows=>simp only[Ek];cases V.get q p with
   |none=>rfl
   |some y=>cases y<;>rfl
  |_=>rfl
theorem WM {ety es z n ix xs t}:ev E (some t) V (.mkrowO ety es z n ix) xs K=Aq (E5 es (List.replicate n z) (ix.zip xs)) fun l=>t<Dv/\ix.length=xs.length/\K (.own t (V.cn t)) (.fresh t (.row ety es false l)):=by
 simp only[ev];cases E5 es (List.replicate n z) (ix.zip xs)<;>rfl
theorem bh {f xs}:ev E dst V (.mkfn f) xs K=K (.fn f xs) .none:=rfl
theorem be {cs t}:ev E (some t) V (.zero cs) [] K=(t<Dv/\K (.ptr t (V.cn t) 0) (.fresh t (.cells (cs.map .d)))):=rfl
theorem Y_ {tys t}:ev E (some t) V (.mkmap tys) [] K=(t<Dv/\K (.map t (V.cn t)) (.fresh t (.map tys []))):=rfl
theorem SN {ety es z t n m}:ev E (some t) V (.mksl ety es z true) [.d (.int .i64 n),.d (.int .i64 m)] K=(n=m/\0<=n/\n<=(Ce:Int)/\t<Dv/\K (.own t (V.cn t)) (.fresh t (.row ety es false (List.replicate n.toNat z)))):=rfl
theorem T9 {es lo hi nl l rest}:ev E dst V (.slice es lo hi false) (.d (.list nl l)::rest) K=(Cn es l/\LM lo hi l.length rest fun a b=>K (.d (.list nl ((l.drop a).take (b-a)))) .none):=rfl
theorem O8 {es lo o g rest}:ev E dst V (.slice es lo true false) (.own o g::rest) K=HA (V.get o g) fun ety es' nl l=>o<Dv/\es=es'/\LM lo true l.length rest fun a b=>K (.own o (V.cn o)) (.fresh o (.row ety es nl ((l.drop a).take (b-a)))):=by
 simp only[ev,Bool.false_eq_true,if_false,if_true];cases V.get o g with
 |none=>rfl
 |some x=>cases x<;>rfl
theorem eI:ev E dst V .cap [.d (.list true [])] K=K (.d (.int .i64 0)) .none:=rfl
theorem dQ {len:Nat}{C:Nat->Nat->Prop} {k h}:LM false true len [.d (.int k h)] C=(0<=h/\h<=len/\C 0 h.toNat):=rfl
theorem dP {len:Nat}{C:Nat->Nat->Prop} {k h}:LM true false len [.d (.int k h)] C=(0<=h/\h<=len/\C h.toNat len):=rfl
theorem UE {o g}:ev E dst V (.len false) [.own o g] K=HA (V.get o g) fun _ _ _ l=>K (.d (.int .i64 l.length)) .none:=by
 simp only[ev,Bool.false_eq_true,if_false,AV.lenL,AV.asList];cases V.get o g with
 |none=>rfl
 |some x=>cases x<;>rfl
theorem WQ {o g}:ev E dst V (.len false) [.mref .out o g] K=Ek (V.get o g) fun _ _ _ ix _=>K (.d (.int .i64 ix.length)) .none:=by
 simp only[ev,Bool.false_eq_true,if_false,AV.lenL,AV.asList];cases V.get o g with
 |none=>rfl
 |some x=>cases x<;>first|rfl|simp[I5,Ek]
theorem WP {j o g}:ev E dst V (.len false) [.mref (.row j) o g] K=Ek (V.get o g) fun _ _ _ _ rows=>Aq rows[j]? fun x=>K (.d (.int .i64 x.2.length)) .none:=by
 simp only[ev,Bool.false_eq_true,if_false,AV.lenL,AV.asList];cases V.get o g with
 |none=>rfl
 |some x=>cases x<;>first|rfl|(simp only[Ek];rename_i rows;cases rows[j]?<;>rfl)
theorem ZA {n x}:ev E dst V (.eqnil n) [x,.d (.list true [])] K=Aq (x.asList V) fun p=>K (.d (.bool (if n then !p.1 else p.1))) .none:=by
 simp only[ev];cases x.asList V<;>rfl
theorem eH {n tys x y}:ev E dst V (.eqv n tys) [x,y] K=Aq x.toD1 fun a=>Aq y.toD1 fun b=>IX tys a=true/\IX tys b=true/\K (.d (.bool (if n then !Cp a b else Cp a b))) .none:=by
 simp only[ev];cases x.toD1<;>cases y.toD1<;>rfl
theorem UA {tys z o g key}:ev E dst V (.lookup false tys z) [.map o g,key] K=LS (V.get o g) fun tys' kvs=>Aq key.toD1 fun k=>tys=tys'/\IX tys k=true/\Ph (Fv k kvs) (fun v=>K (.d v) .none) (K (.d z) .none):=by
 simp only[ev];cases V.get o g with
 |none=>rfl
 |some x =>
  cases x with
  |map t l=>simp only[LS];cases key.toD1 with
   |none=>rfl
   |some k=>simp only[Aq];cases Fv k l<;>rfl
  |_=>rfl
theorem WN {tys z o g key}:ev E dst V (.mapent tys z) [.map o g,key] K=LS (V.get o g) fun tys' kvs=>Aq key.toD1 fun k=>tys=tys'/\IX tys k=true/\kvs.length<=Ce /\
  Ph (E_ k kvs) (fun i=>K (.tup [.undef,.d (.int .i64 i)]) .none) (K (.tup [.undef,.d (.int .i64 kvs.length)]) (.keep o g (.map tys (kvs++[(k,z)])))):=by
 simp only[ev];cases V.get o g with
 |none=>rfl
 |some x =>
  cases x with
  |map t l=>simp only[LS];cases key.toD1 with
   |none=>rfl
   |some k=>simp only[Aq];cases E_ k l<;>rfl
  |_=>rfl
theorem ZB {o g k i val}:ev E dst V .entst [.map o g,.d (.int k i),val] K=LS (V.get o g) fun tys kvs=>Aq val.toD1 fun v=>0<=i/\v.one=true/\Aq kvs[i.toNat]? fun e=>K .undef (.keep o g (.map tys (kvs.set i.toNat (e.1,v)))):=by
 simp only[ev];cases V.get o g with
 |none=>rfl
 |some x =>
  cases x with
  |map t l=>simp only[LS];cases val.toD1 with
   |none=>rfl
   |some v=>simp only[Aq];cases l[i.toNat]?<;>rfl
  |_=>rfl
theorem UJ {ety es z own o g y}:ev E dst V (.app ety es z own) [.own o g,y] K=Aq (Dw V z y) fun ys=>HA (V.get o g) fun ety' es' nl l=>o<Dv/\ety=ety'/\es=es'/\Cn es ys/\l.length+ys.length<=Ce /\
  K (.own o (V.cn o)) (.fresh o (.row ety es (nl && ys.isEmpty) (l++ys))):=by
 simp only[ev];cases Dw V z y with
 |none=>rfl
 |some ys =>
  simp only[Aq]
  cases V.get o g with
  |none=>rfl
  |some x=>cases x<;>rfl
theorem UK {ety es z t y}:ev E (some t) V (.app ety es z true) [.d (.list true []),y] K=Aq (Dw V z y) fun ys=>Cn es ys/\ys.length<=Ce/\t<Dv/\K (.own t (V.cn t)) (.fresh t (.row ety es ys.isEmpty ys)):=by
 simp only[ev];cases Dw V z y<;>rfl
theorem WR {ety es z t l y}:ev E (some t) V (.app ety es z true) [.ex l,y] K=Aq (Dw V z y) fun ys=>Cn es (l++ys)/\l.length+ys.length<=Ce/\(ys=[]->K (.ex l) .none)/\(ys≠[]->t<Dv/\K (.own t (V.cn t)) (.fresh t (.row ety es false (l++ys)))):=by
 simp only[ev];cases Dw V z y with
 |none=>rfl
 |some ys=>cases ys<;>simp[Aq]
theorem UL {ety es z l y}:ev E dst V (.app ety es z false) [.ex l,y] K=Aq (Dw V z y) fun ys=>Cn es (l++ys)/\l.length+ys.length<=Ce/\K (.d (.list false (l++ys))) .none:=by
 simp only[ev];cases Dw V z y<;>rfl
theorem ST {f cs args}:ev E dst V .callv (.fn f cs::args) K=(Bq E.P f=true/\Dl E dst V f (args++cs) K):=rfl
theorem UI {f cs args}:ev E dst V .callv (.d (.fn f cs)::args) K=(Bq E.P f=true/\Dl E dst V f (args++cs.map .d) K):=rfl
theorem We {k k':IntKind}{a b:Int}{C:AV->Prop}:DH .eql k k' a b C=(k=k'/\C (.d (.bool (decide (a=b))))):=rfl
theorem WY {k k':IntKind}{a b:Int}{C:AV->Prop}:DH .neq k k' a b C=(k=k'/\C (.d (.bool (!decide (a=b))))):=rfl
theorem Wa {k k':IntKind}{a b:Int}{C:AV->Prop}:DH .lss k k' a b C=(k=k'/\C (.d (.bool (decide (a<b))))):=rfl
theorem Wb {k k':IntKind}{a b:Int}{C:AV->Prop}:DH .leq k k' a b C=(k=k'/\C (.d (.bool (decide (a<=b))))):=rfl
theorem Wc {k k':IntKind}{a b:Int}{C:AV->Prop}:DH .gtr k k' a b C=(k=k'/\C (.d (.bool (decide (b<a))))):=rfl
theorem Wd {k k':IntKind}{a b:Int}{C:AV->Prop}:DH .geq k k' a b C=(k=k'/\C (.d (.bool (decide (b<=a))))):=rfl
theorem Wg {k k':IntKind}{a b:Int}{C:AV->Prop}:DH .add k k' a b C=(k=k'/\C (.d (.int k (k.wrap (a+b))))):=rfl
theorem WT {k k':IntKind}{a b:Int}{C:AV->Prop}:DH .sub k k' a b C=(k=k'/\C (.d (.int k (k.wrap (a-b))))):=rfl
theorem WZ {k k':IntKind}{a b:Int}{C:AV->Prop}:DH .mul k k' a b C=(k=k'/\C (.d (.int k (k.wrap (a*b))))):=rfl
theorem WX {k k':IntKind}{a b:Int}{C:AV->Prop}:DH .quo k k' a b C=(k=k'/\b≠0/\C (.d (.int k (k.wrap (a.tdiv b))))):=rfl
theorem WW {k k':IntKind}{a b:Int}{C:AV->Prop}:DH .rem k k' a b C=(k=k'/\b≠0/\C (.d (.int k (a.tmod b)))):=rfl
theorem WV {k k':IntKind}{a b:Int}{C:AV->Prop}:DH .shl k k' a b C=(0<=b/\C (.d (.int k (k.wrap (a*2^(min b.toNat k.bits)))))):=rfl
theorem WU {k k':IntKind}{a b:Int}{C:AV->Prop}:DH .shr k k' a b C=(0<=b/\C (.d (.int k (a.fdiv (2^(min b.toNat k.bits)))))):=rfl
theorem Wf {k k':IntKind}{a b:Int}{C:AV->Prop}:DH .and k k' a b C=(k=k'/\C (.d (.int k (BM .and k a b)))):=rfl
theorem WS {k k':IntKind}{a b:Int}{C:AV->Prop}:DH .xor k k' a b C=(k=k'/\C (.d (.int k (BM .xor k a b)))):=rfl
end
end Go.Pw
end
section
namespace Go.Pw
def fx (x:Option AW) (A:List (List D)->Nat->Prop):Prop:=match x with|some (.hist els n false)=>A els n|_=>False
section
variable {E:Co}{Q:B7->BO->Prop}{s s':BO}{K:AV->Bh->Prop}{KS:BO->Prop}
def f_ (V:AI) (o:Nat):Bool:=match V.ob o with|some (g,_)=>g == 0|none=>false
def f9 (x:Option (Nat×AW)):Bool:=match x with|some (g,_)=>g == 0|none=>false
def mvL (l:List (Nat×AV)):List (Nat×AV):=l.map fun p=>(p.1,p.2.mv)
def f5 (k:Nat) (g:Nat) (x:Option AW) (r:List (Nat×(Nat×AW))):List (Nat×(Nat×AW)):=match x with
 |some y=>(RE k,(g,y))::r
 |none=>r.filter fun p=>!(p.1 == RE k)
def gc:List (Nat×(Nat×AW))->List (Nat×(Nat×AW))
 |[]=>[]
 |(k,(g,x))::l=>f5 k g x.mv (gc l)
def gW {α:Type}(T:α->AI) (Inv:Nat->α->Prop) (PInv:B7->α->Prop) (m:Nat) (gs:List E8) (ks os:List Nat) (sl:Nat->AV) (e:B7) (s:BO):Prop :=
 Cd gs s fun s'=>Nc ks sl (s'.V.nrm os)=true/\∃y,s'.V.nrm os=T y/\(match e with|.normal=>Inv m y|e=>PInv e y)
end
end Go.Pw
end
