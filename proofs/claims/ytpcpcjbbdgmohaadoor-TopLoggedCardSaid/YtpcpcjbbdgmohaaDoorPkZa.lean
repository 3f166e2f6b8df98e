/- A part of the proof. -/
import Derived.Test.YtpcpcjbbdgmohaaDoorPwZ
set_option linter.all false
section
namespace Go.Pw
def GU (x:Option AI) (A:List AV->Prop):Prop:=match x with|some (.cells cs)=>A cs|_=>False
def FR (x:Option AI) (A:Nat->Nat->Bool->List D->Prop):Prop:=match x with|some (.row a b c l)=>A a b c l|_=>False
def Kj (x:Option AI) (A:Nat->Nat->Bool->List D->Prop) (B:Nat->List D->Nat->Nat->Nat->Prop):Prop:=match x with|some (.row a b c l)=>A a b c l|some (.rowH a l i q p)=>B a l i q p|_=>False
def df (x:Option AI) (A:Lv->List (D×D)->Prop):Prop:=match x with|some (.map t l)=>A t l|_=>False
def cG (x:Option AI) (A:Nat->Nat->Bool->List Nat->List (Bool×List D)->Prop):Prop:=match x with|some (.mat a b c d e)=>A a b c d e|_=>False
def Bc {α:Type}(x:Option α) (A:α->Prop):Prop:=match x with|some v=>A v|none=>False
def de {α:Type}(x:Option α) (A:α->Prop) (B:Prop):Prop:=match x with|some v=>A v|none=>B
theorem Qa (cs A):GU (some (.cells cs)) A=A cs:=rfl
theorem TL (a b c l A):FR (some (.row a b c l)) A=A a b c l:=rfl
theorem TM (a b c l A B):Kj (some (.row a b c l)) A B=A a b c l:=rfl
theorem Rq {α:Type}(v:α) (A:α->Prop):Bc (some v) A=A v:=rfl
section
variable {E:C2}{dst:Option Nat}{V:AB}{K:AV->B6->Prop}
theorem ap {α:Type}{n:Nat}{cs:List α}{off:Nat}{mk:List α->AV}{one:α->AV}{C:AV->Prop}:CZ true n cs off mk one C=(off+n<=cs.length/\C (mk ((cs.drop off).take n))):=by simp[CZ]
theorem aq {α:Type}{n:Nat}{cs:List α}{off:Nat}{mk:List α->AV}{one:α->AV}{C:AV->Prop}:CZ false n cs off mk one C=Bc cs[off]? fun v=>C (one v):=by
 simp only[CZ,Bool.false_eq_true,if_false];cases cs[off]?<;>rfl
theorem SK {ag n o g off}:ev E dst V (.load ag n) [.ptr o g off] K=GU (V.get o g) fun cs=>CZ ag n cs off .agg id (K · .none):=by
 simp only[ev];cases V.get o g with
 |none=>rfl
 |some x=>cases x<;>rfl
theorem Qo {ag n o g es i off}:ev E dst V (.load ag n) [.rptr o g es i off] K=Kj (V.get o g) (fun _ es' _ l=>es=es'/\Bc l[i]? fun x=>CZ ag n x.cells off (fun cs=>.d (.agg cs)) .d (K · .none))
  fun _ l k q p=>es=1/\(i=k->CZ ag n [.own q p] off .agg id (K · .none))/\(i≠k->Bc l[i]? fun x=>CZ ag n x.cells off (fun cs=>.d (.agg cs)) .d (K · .none)):=by
 simp only[ev];cases V.get o g with
 |none=>rfl
 |some x =>
  cases x with
  |row a b c l=>simp only[Kj];cases l[i]?<;>rfl
  |rowH a l k q p=>simp only[Kj];cases l[i]?<;>rfl
  |_=>rfl
theorem Qp {ag n cs off}:ev E dst V (.load ag n) [.dptr cs off] K=CZ ag n cs off (fun cs=>.d (.agg cs)) .d (K · .none):=rfl
theorem Vu {ag n cs}:ev E dst V (.load ag n) [.d (.ptr cs)] K=CZ ag n cs 0 (fun cs=>.d (.agg cs)) .d (K · .none):=rfl
theorem Qk {n o g off v}:ev E dst V (.store n) [.ptr o g off,v] K=GU (V.get o g) fun cs=>Bc v.cells? fun vs=>vs.length=n/\off+n<=cs.length/\K .undef (.keep o g (.cells (Ba cs off vs))):=by
 unfold ev GU Bc;simp only
 cases V.get o g with
 |none=>rfl
 |some x=>cases x<;>cases v.cells?<;>rfl
theorem Qr {off o g a}:ev E dst V (.faddr off) [.ptr o g a] K=K (.ptr o g (a+off)) .none:=rfl
theorem O_ {off cs a}:ev E dst V (.faddr off) [.dptr cs a] K=K (.dptr cs (a+off)) .none:=rfl
theorem Tu {off cs}:ev E dst V (.faddr off) [.d (.ptr cs)] K=K (.dptr cs off) .none:=rfl
theorem ZY {nl:Bool}{l:List D}:ev E dst V (.len false) [.d (.list nl l)] K=K (.d (.int .i64 l.length)) .none:=rfl
theorem Tr {es nl l k i}:ev E dst V (.iaddrS es) [.d (.list nl l),.d (.int k i)] K=(0<=i/\i<l.length/\Bc l[i.toNat]? fun x=>x.cells.length=es/\K (.dptr x.cells 0) .none):=by
 simp only[ev];cases l[i.toNat]?<;>rfl
theorem ba {t v}:ev E (some t) V .box [v] K=Bc v.cells? fun cs=>t<BH/\K (.ptr t (V.cn t) 0) (.fresh t (.cells cs)):=by
 simp only[ev];cases v.cells?<;>rfl
theorem Za {k k' n}:ev E dst V (.conv k) [.d (.int k' n)] K=K (.d (.int k (k.wrap n))) .none:=rfl
theorem Tv {i vs}:ev E dst V (.extract i) [.tup vs] K=Bc vs[i]? fun v=>K v .none:=by
 simp only[ev];cases vs[i]?<;>rfl
theorem Zb {f xs}:ev E dst V (.call f) xs K=D2 E dst V f xs K:=rfl
theorem M_ {n o g es0 i off x}:ev E dst V (.store n) [.rptr o g es0 i off,.d x] K=FR (V.get o g) fun ety es nl l=>Bc (AV.d x).toD1 fun y=>es0=es/\Bc l[i]? fun x=>y.cells.length=n/\off+n<=x.cells.length/\(n=es\/1<x.cells.length) /\
  K .undef (.keep o g (.row ety es nl (l.set i (if n=es then y else .agg (Ba x.cells off y.cells))))):=by
 simp only[ev];cases V.get o g with
 |none=>rfl
 |some x =>
  cases x with
  |row a b c l=>simp only[FR];cases (AV.d x).toD1 with
   |none=>rfl
   |some y=>simp only[Bc];cases l[i]?<;>rfl
  |_=>rfl
theorem Lc {n o g es0 i off x}:ev E dst V (.store n) [.rptr o g es0 i off,.agg x] K=FR (V.get o g) fun ety es nl l=>Bc (AV.agg x).toD1 fun y=>es0=es/\Bc l[i]? fun x=>y.cells.length=n/\off+n<=x.cells.length/\(n=es\/1<x.cells.length) /\
  K .undef (.keep o g (.row ety es nl (l.set i (if n=es then y else .agg (Ba x.cells off y.cells))))):=by
 simp only[ev];cases V.get o g with
 |none=>rfl
 |some x =>
  cases x with
  |row a b c l=>simp only[FR];cases (AV.agg x).toD1 with
   |none=>rfl
   |some y=>simp only[Bc];cases l[i]?<;>rfl
  |_=>rfl
theorem Ql {o g off}:ev E dst V .nilck [.ptr o g off] K=K (.ptr o g off) .none:=rfl
theorem O8 {o g es i off}:ev E dst V .nilck [.rptr o g es i off] K=K (.rptr o g es i off) .none:=rfl
theorem Tn {cs}:ev E dst V .nilck [.d (.ptr cs)] K=K (.d (.ptr cs)) .none:=rfl
theorem Tt {ag off n cs}:ev E dst V (.field ag off n) [.d (.agg cs)] K=CZ ag n cs off (fun cs=>.d (.agg cs)) .d (K · .none):=rfl
theorem Qq {es o g k i}:ev E dst V (.iaddrS es) [.own o g,.d (.int k i)] K=Kj (V.get o g) (fun _ es' _ l=>es=es'/\0<=i/\i<l.length/\K (.rptr o g es i.toNat 0) .none) fun _ l _ _ _=>es=1/\0<=i/\i<l.length/\K (.rptr o g es i.toNat 0) .none:=by
 simp only[ev];cases V.get o g with
 |none=>rfl
 |some x=>cases x<;>rfl
theorem O9 {len es o g off k i}:ev E dst V (.iaddrA len es) [.ptr o g off,.d (.int k i)] K=(0<=i/\i<len/\K (.ptr o g (off+i.toNat * es)) .none):=rfl
theorem X0 {z pl xs}:ev E dst V (.build z pl) xs K=Bc (KO (z.map .d) (pl.zip xs)) fun cs=>pl.length=xs.length/\K (.agg cs) .none:=by
 simp only[ev];cases KO (z.map .d) (pl.zip xs)<;>rfl
theorem Qm {es z n ix}:ev E dst V (.mkrow es z n ix) [] K=Bc (Fk es (List.replicate n z) (ix.zip [])) fun l=>ix.length=0/\K (.ex l) .none:=by
 simp only[ev];cases Fk es (List.replicate n z) (ix.zip [])<;>rfl
theorem Tp {es z n ix x xs}:ev E dst V (.mkrow es z n ix) (.d x::xs) K=Bc (Fk es (List.replicate n z) (ix.zip (.d x::xs))) fun l=>ix.length=(.d x::xs).length/\K (.ex l) .none:=by
 simp only[ev];cases Fk es (List.replicate n z) (ix.zip (.d x::xs))<;>rfl
theorem Qn {es z n ix x xs}:ev E dst V (.mkrow es z n ix) (.agg x::xs) K=Bc (Fk es (List.replicate n z) (ix.zip (.agg x::xs))) fun l=>ix.length=(.agg x::xs).length/\K (.ex l) .none:=by
 simp only[ev];cases Fk es (List.replicate n z) (ix.zip (.agg x::xs))<;>rfl
theorem bT {es o g k i}:ev E dst V (.sub es) [.own o g,.d (.int k i)] K=FR (V.get o g) fun _ es' nl l=>nl=false/\es=es'/\0<=i/\i<=l.length/\K (.mref (.rs i.toNat es) o g) .none:=by
 simp only[ev];cases V.get o g with
 |none=>rfl
 |some x=>cases x<;>rfl
theorem bU {o g k i}:ev E dst V .pre [.own o g,.d (.int k i)] K=FR (V.get o g) fun _ _ nl l=>nl=false/\0<=i/\i<=l.length/\K (.mref (.rp i.toNat) o g) .none:=by
 simp only[ev];cases V.get o g with
 |none=>rfl
 |some x=>cases x<;>rfl
theorem Xz {o g nl ys}:ev E dst V .cpy [.own o g,.d (.list nl ys)] K=FR (V.get o g) fun ety es n2 l=>n2=false/\es=1/\C9 1 ys /\
  K (.d (.int .i64 ((min ys.length l.length:Nat):Int))) (.keep o g (.row ety 1 false (ys.take l.length++l.drop (min ys.length l.length)))):=by
 simp only[ev,AV.toD0];cases V.get o g with
 |none=>rfl
 |some x=>cases x<;>rfl
theorem Xy {a es o g n o' g'}:ev E dst V .cpy [.mref (.rs a es) o g,.mref (.rp n) o' g'] K=FR (V.get o g) fun ety es' nl l=>nl=false/\es=1/\es'=1/\o'=o/\g'=g/\n<=a/\a<=l.length /\
  K (.d (.int .i64 ((min n (l.length-a):Nat):Int))) (.keep o g (.row ety 1 false (l.take a++l.take (min n (l.length-a))++l.drop (a+min n (l.length-a))))):=by
 simp only[ev];cases V.get o g with
 |none=>rfl
 |some x=>cases x<;>rfl
theorem bZ {zs a es o g}:ev E dst V (.clr zs) [.mref (.rs a es) o g] K=FR (V.get o g) fun ety es' nl l=>es=es'/\zs.length=es/\a<=l.length/\K (.tup []) (.keep o g (.row ety es nl (l.take a++List.replicate (l.length-a) (.agg zs)))):=by
 simp only[ev];cases V.get o g with
 |none=>rfl
 |some x=>cases x<;>rfl
theorem Vs {ety es z n ix xs t}:ev E (some t) V (.mkrowO ety es z n ix) xs K=Bc (Fk es (List.replicate n z) (ix.zip xs)) fun l=>t<BH/\ix.length=xs.length/\K (.own t (V.cn t)) (.fresh t (.row ety es false l)):=by
 simp only[ev];cases Fk es (List.replicate n z) (ix.zip xs)<;>rfl
theorem ZX {f xs}:ev E dst V (.mkfn f) xs K=K (.fn f xs) .none:=rfl
theorem ZV {cs t}:ev E (some t) V (.zero cs) [] K=(t<BH/\K (.ptr t (V.cn t) 0) (.fresh t (.cells (cs.map .d)))):=rfl
theorem SJ {ety es z t n m}:ev E (some t) V (.mksl ety es z true) [.d (.int .i64 n),.d (.int .i64 m)] K=(n=m/\0<=n/\n<=(DS:Int)/\t<BH/\K (.own t (V.cn t)) (.fresh t (.row ety es false (List.replicate n.toNat z)))):=rfl
theorem Vr {ety es z t n m}:ev E (some t) V (.mksl ety es z false) [.d (.int .i64 n),.d (.int .i64 m)] K=(n=m/\0<=n/\n<=(DS:Int)/\K (.d (.list false (List.replicate n.toNat z))) .none):=rfl
theorem Tm {es lo hi nl l rest}:ev E dst V (.slice es lo hi false) (.d (.list nl l)::rest) K=(C9 es l/\MB lo hi l.length rest fun a b=>K (.d (.list nl ((l.drop a).take (b-a)))) .none):=rfl
theorem O7 {es lo o g rest}:ev E dst V (.slice es lo true false) (.own o g::rest) K=FR (V.get o g) fun ety es' nl l=>o<BH/\es=es'/\MB lo true l.length rest fun a b=>K (.own o (V.cn o)) (.fresh o (.row ety es nl ((l.drop a).take (b-a)))):=by
 simp only[ev,Bool.false_eq_true,if_false,if_true];cases V.get o g with
 |none=>rfl
 |some x=>cases x<;>rfl
theorem aY {len:Nat}{C:Nat->Nat->Prop} {k h}:MB false true len [.d (.int k h)] C=(0<=h/\h<=len/\C 0 h.toNat):=rfl
theorem Tq {o g}:ev E dst V (.len false) [.own o g] K=FR (V.get o g) fun _ _ _ l=>K (.d (.int .i64 l.length)) .none:=by
 simp only[ev,Bool.false_eq_true,if_false,AV.lenL,AV.asList];cases V.get o g with
 |none=>rfl
 |some x=>cases x<;>rfl
theorem Xu {o g off k h k' m}:ev E dst V (.slice 1 true true true) [.ptr o g off,.d (.int k h),.d (.int k' m)] K=(0<=h/\h<=m/\K (.mref (.bs off h.toNat m.toNat) o g) .none):=rfl
theorem OK {len es o g es' j off k i}:ev E dst V (.iaddrA len es) [.rptr o g es' j off,.d (.int k i)] K=(0<=i/\i<len/\K (.rptr o g es' j (off+i.toNat * es)) .none):=rfl
theorem Xx {n x}:ev E dst V (.eqnil n) [x,.d (.list true [])] K=Bc (x.asList V) fun p=>K (.d (.bool (if n then !p.1 else p.1))) .none:=by
 simp only[ev];cases x.asList V<;>rfl
theorem bX {n tys x y}:ev E dst V (.eqv n tys) [x,y] K=Bc x.toD1 fun a=>Bc y.toD1 fun b=>Iz tys a=true/\Iz tys b=true/\K (.d (.bool (if n then !Df a b else Df a b))) .none:=by
 simp only[ev];cases x.toD1<;>cases y.toD1<;>rfl
theorem Vt {m k a rest}:ev E dst V (.minmax m) (.d (.int k a)::rest) K=Bc (Gp m k a rest) fun r=>K (.d (.int k r)) .none:=by
 simp only[ev];cases Gp m k a rest<;>rfl
theorem Tx {ety es z own o g y}:ev E dst V (.app ety es z own) [.own o g,y] K=Bc (Eh V z y) fun ys=>FR (V.get o g) fun ety' es' nl l=>o<BH/\ety=ety'/\es=es'/\C9 es ys/\l.length+ys.length<=DS /\
  K (.own o (V.cn o)) (.fresh o (.row ety es (nl && ys.isEmpty) (l++ys))):=by
 simp only[ev];cases Eh V z y with
 |none=>rfl
 |some ys =>
  simp only[Bc]
  cases V.get o g with
  |none=>rfl
  |some x=>cases x<;>rfl
theorem Vv {ety es z t l y}:ev E (some t) V (.app ety es z true) [.ex l,y] K=Bc (Eh V z y) fun ys=>C9 es (l++ys)/\l.length+ys.length<=DS/\(ys=[]->K (.ex l) .none)/\(ys≠[]->t<BH/\K (.own t (V.cn t)) (.fresh t (.row ety es false (l++ys)))):=by
 simp only[ev];cases Eh V z y with
 |none=>rfl
 |some ys=>cases ys<;>simp[Bc]
theorem Tz {ety es z l y}:ev E dst V (.app ety es z false) [.ex l,y] K=Bc (Eh V z y) fun ys=>C9 es (l++ys)/\l.length+ys.length<=DS/\K (.d (.list false (l++ys))) .none:=by
 simp only[ev];cases Eh V z y<;>rfl
theorem SL {f cs args}:ev E dst V .callv (.fn f cs::args) K=(Cl E.P f=true/\D2 E dst V f (args++cs) K):=rfl
theorem Tw {f cs args}:ev E dst V .callv (.d (.fn f cs)::args) K=(Cl E.P f=true/\D2 E dst V f (args++cs.map .d) K):=rfl
theorem V8 {k k':IntKind}{a b:Int}{C:AV->Prop}:D3 .eql k k' a b C=(k=k'/\C (.d (.bool (decide (a=b))))):=rfl
theorem Vz {k k':IntKind}{a b:Int}{C:AV->Prop}:D3 .neq k k' a b C=(k=k'/\C (.d (.bool (!decide (a=b))))):=rfl
theorem V4 {k k':IntKind}{a b:Int}{C:AV->Prop}:D3 .lss k k' a b C=(k=k'/\C (.d (.bool (decide (a<b))))):=rfl
theorem V5 {k k':IntKind}{a b:Int}{C:AV->Prop}:D3 .leq k k' a b C=(k=k'/\C (.d (.bool (decide (a<=b))))):=rfl
theorem V6 {k k':IntKind}{a b:Int}{C:AV->Prop}:D3 .gtr k k' a b C=(k=k'/\C (.d (.bool (decide (b<a))))):=rfl
theorem V7 {k k':IntKind}{a b:Int}{C:AV->Prop}:D3 .geq k k' a b C=(k=k'/\C (.d (.bool (decide (b<=a))))):=rfl
theorem V_ {k k':IntKind}{a b:Int}{C:AV->Prop}:D3 .add k k' a b C=(k=k'/\C (.d (.int k (k.wrap (a+b))))):=rfl
theorem Vw {k k':IntKind}{a b:Int}{C:AV->Prop}:D3 .sub k k' a b C=(k=k'/\C (.d (.int k (k.wrap (a-b))))):=rfl
theorem V3 {k k':IntKind}{a b:Int}{C:AV->Prop}:D3 .mul k k' a b C=(k=k'/\C (.d (.int k (k.wrap (a*b))))):=rfl
theorem Vy {k k':IntKind}{a b:Int}{C:AV->Prop}:D3 .rem k k' a b C=(k=k'/\b≠0/\C (.d (.int k (a.tmod b)))):=rfl
theorem Vx {k k':IntKind}{a b:Int}{C:AV->Prop}:D3 .shr k k' a b C=(0<=b/\C (.d (.int k (a.fdiv (2^(min b.toNat k.bits)))))):=rfl
theorem V9 {k k':IntKind}{a b:Int}{C:AV->Prop}:D3 .and k k' a b C=(k=k'/\C (.d (.int k (CG .and k a b)))):=rfl
end
end Go.Pw
end
section
namespace Go.Pw
def N8 (x:Option AI) (A:List (List D)->Nat->Prop):Prop:=match x with|some (.hist els n false)=>A els n|_=>False
theorem Rs (els n A):N8 (some (.hist els n false)) A=A els n:=rfl
section
variable {E:C2}{Q:CO->BP->Prop}{s s':BP}{K:AV->B6->Prop}{KS:BP->Prop}
theorem WX {o g:Nat}{xs:List AV}{V:AB}:Ov (.own o g) xs V K=N8 (V.get o g) fun els n=>Bc (E1 xs) fun ds=>els[n]?=some ds/\K (.d (.bool true)) (.keep o g (.hist els (n+1) false))/\K (.d (.bool false)) (.keep o g (.hist els (n+1) true)):=by
 simp only[Ov,N8]
 cases V.get o g with
 |none=>rfl
 |some x=>cases x with
  |hist els n st=>cases st<;>(simp only[Bc];try (cases E1 xs<;>rfl))
  |_=>rfl
theorem WN {xs:List AV}:E1 xs=BD AV.toD1 xs:=rfl
theorem Xv {dst:Option Nat}{V:AB}{f:FuncId}{xs:List AV}:ev E dst V (.mkbnd f) xs K=Bc (E1 xs) fun cs=>K (.bnd f cs) .none:=by
 simp only[ev,Bc];cases E1 xs<;>rfl
theorem So {sl:Nat->AV}{V:AB}:Fn [] sl V=true:=rfl
def YF (V:AB) (o:Nat):Bool:=match V.ob o with|some (g,_)=>g == 0|none=>false
theorem Q9 {k:Nat}{ks:List Nat}{sl:Nat->AV}{V:AB}:Fn (k::ks) sl V=((sl k).sites.all (YF V) && Fn ks sl V):=rfl
def YE (x:Option (Nat×AI)):Bool:=match x with|some (g,_)=>g == 0|none=>false
theorem WQ {ob cn o}:YF ⟨ob,cn⟩ o=YE (ob o):=rfl
theorem Sf {g x}:YE (some (g,x))=(g == 0):=rfl
theorem YJ {m:List (Nat×(Nat×AI))}{cn:Nat->Nat}{os:List Nat}:(AB.mk (Af m) cn).nrm os=⟨Af (ES ⟨Af m,cn⟩ os os),fun _=>1⟩:=by
 have:=XL (fun _=>.undef) ⟨Af m,cn⟩ [] os
 have h2:((BP.mk (fun _=>.undef) ⟨Af m,cn⟩).nrm [] os).V=(AB.mk (Af m) cn).nrm os:=rfl
 rw[←h2,this]
theorem av {o:Nat}:Mp o=if 900000<=o/\o<5000000 then o else o+5000000:=rfl
def mvL (l:List (Nat×AV)):List (Nat×AV):=l.map fun p=>(p.1,p.2.mv)
theorem Y9:mvL []=[]:=rfl
theorem R2 {k v l}:mvL ((k,v)::l)=(k,v.mv)::mvL l:=rfl
def TR (k:Nat) (g:Nat) (x:Option AI) (r:List (Nat×(Nat×AI))):List (Nat×(Nat×AI)):=match x with
 |some y=>(Mp k,(g,y))::r
 |none=>r.filter fun p=>!(p.1 == Mp k)
def Y8:List (Nat×(Nat×AI))->List (Nat×(Nat×AI))
 |[]=>[]
 |(k,(g,x))::l=>TR k g x.mv (Y8 l)
theorem Y7:Y8 []=[]:=rfl
theorem R1 {k g x l}:Y8 ((k,(g,x))::l)=TR k g x.mv (Y8 l):=rfl
theorem VV {k g y r}:TR k g (some y) r=(Mp k,(g,y))::r:=rfl
theorem MH {k g r}:TR k g none r=r.filter fun p=>!(p.1 == Mp k):=rfl
theorem H6 (k:Nat):∀(l:List (Nat×(Nat×AI))) (t:Nat),Af (l.filter fun p=>!(p.1 == k)) t=if t=k then none else Af l t
 |[],t=>by simp[Af]
 |p::l,t=>by
  obtain⟨a,b⟩:=p
  have ih:=H6 k l t
  by_cases h:a=k
  ·subst h
   rw[List.filter_cons,if_neg (by simp),ih]
   by_cases ht:t=a
   ·simp[ht]
   ·simp[ht,Af]
  ·rw[List.filter_cons,if_pos (by simpa using h)]
   simp only[Af,ih]
   by_cases ht:t=a
   ·subst ht;simp[h]
   ·simp[ht]
theorem R4:∀(m:List (Nat×(Nat×AI))) (o:Nat),Af (Y8 m) o=if Mp (L8 o)=o then (match Af m (L8 o) with
   |some (g,x)=>match x.mv with|some y=>some (g,y)|none=>none
   |none=>none) else none
 |[],o=>by simp[Y8,Af]
 |(k,(g,x))::m,o=>by
  have ih:=R4 m o
  rw[R1]
  by_cases h:o=Mp k
  ·subst h
   rw[G7,if_pos rfl]
   cases hx:x.mv with
   |some y=>simp[TR,Af,hx]
   |none=>rw[MH,H6,if_pos rfl];simp[Af,hx]
  ·have hk:Mp (L8 o)=o->L8 o≠k:=fun h1 h2=>h (by rw[←h1,h2])
   have hrest:Af (TR k g x.mv (Y8 m)) o=Af (Y8 m) o:=by
    cases x.mv with
    |some y=>simp[TR,Af,h]
    |none=>rw[MH,H6,if_neg h]
   rw[hrest,ih]
   by_cases h1:Mp (L8 o)=o
   ·rw[if_pos h1,if_pos h1]
    have:=hk h1
    simp[Af,this]
   ·rw[if_neg h1,if_neg h1]
theorem cJ {l:List (Nat×AV)}{m:List (Nat×(Nat×AI))}{cn:Nat->Nat}:(BP.mk (ET l) ⟨Af m,cn⟩).mv=⟨ET (mvL l),⟨Af (Y8 m),fun _=>1⟩⟩:=by
 have h1:(fun t=>(ET l t).mv)=ET (mvL l):=by
  funext t
  induction l with
  |nil=>rfl
  |cons p l ih =>
   obtain⟨k,v⟩:=p
   simp only[R2,ET]
   by_cases h:t=k
   ·simp[h]
   ·simp only[if_neg h];exact ih
 show BP.mk (fun t=>(ET l t).mv) _=_
 rw[h1]
 refine congrArg (fun ob=>BP.mk _ (AB.mk ob _)) ?_
 funext o
 exact(R4 m o).symm
theorem VO {xs}:(AI.cells xs).mv=some (.cells (xs.map AV.mv)):=rfl
theorem dS {x}:(AV.d x).mv=.d x:=rfl
theorem aw {o g f}:(AV.ptr o g f).mv=.ptr (Mp o) g f:=rfl
theorem VN {V:AB} {os a b l}:(AI.hist a b l).nrm V os=some (.hist a b l):=rfl
theorem QZ {A:BP->Prop}:LO A .normal s=A s:=rfl
theorem U_ {sl:Nat->AV} {ds}:I5 sl [] ds=sl:=by cases ds<;>rfl
theorem S7 {sl:Nat->AV} {p ps d ds}:I5 sl (p::ps) (d::ds)=I5 (BJ sl p (.d d)) ps ds:=rfl
def VH {α:Type}(T:α->AB) (Inv:Nat->α->Prop) (PInv:CO->α->Prop) (m:Nat) (gs:List EJ) (ks os:List Nat) (sl:Nat->AV) (e:CO) (s:BP):Prop :=
 Cv gs s fun s'=>Fn ks sl (s'.V.nrm os)=true/\∃y,s'.V.nrm os=T y/\(match e with|.normal=>Inv m y|e=>PInv e y)
theorem Re {α:Type}{T:α->AB} {Inv PInv m gs ks os sl}:VH T Inv PInv m gs ks os sl .normal s=Cv gs s fun s'=>Fn ks sl (s'.V.nrm os)=true/\∃y,s'.V.nrm os=T y/\Inv m y:=rfl
theorem Yo {α:Type}(T:α->AB) (Inv:Nat->α->Prop) (PInv:CO->α->Prop) (x0:α) {ps ks os:List Nat}{b:PC}{gs2:List EJ}{os2:List Nat}{a:PC}{f:FuncId}{pre post:List D}{els:List (List D)}{sl1:Nat->AV}{s1:BP}
  (h2:(s1.nrm ks os).mv=⟨sl1,T x0⟩) (hr:(b.noR && a.noR)=true) (hs:UD E f pre post els) (hw:Fn ks sl1 (T x0)=true) (hI:Inv 0 x0)
  (step:∀n x ds,els[n]?=some ds->Inv n x->ps.length=ds.length/\pw E b (LO fun s2=>pw E a (VH T Inv PInv (n+1) gs2 ks os2 sl1) s2) ⟨I5 sl1 ps ds,T x⟩)
  (hend:∀x,Inv els.length x->Q .normal ⟨sl1,T x⟩) (hjump:∀e x,PInv e x->Q e ⟨sl1,T x⟩) :
  (b.noR && a.noR)=true/\∃els,UD E f pre post els/\∃(JJ:Nat->AB->Prop) (Pd:CO->AB->Prop),
   Fn ks (s1.nrm ks os).mv.sl (s1.nrm ks os).mv.V=true/\JJ 0 (s1.nrm ks os).mv.V /\
   (∀n V ds,V.cn=(fun _=>1)->els[n]?=some ds->JJ n V->ps.length=ds.length /\
    pw E b (LO fun s2=>pw E a (aZ JJ Pd (n+1) gs2 ks os2 (s1.nrm ks os).mv.sl) s2) ⟨I5 (s1.nrm ks os).mv.sl ps ds,V⟩) /\
   (∀V,V.cn=(fun _=>1)->JJ els.length V->Q .normal ⟨(s1.nrm ks os).mv.sl,V⟩) /\
   ∀e V,V.cn=(fun _=>1)->Pd e V->Q e ⟨(s1.nrm ks os).mv.sl,V⟩:=by
 refine⟨hr,els,hs,fun n V=>∃x,V=T x/\Inv n x,fun e V=>∃x,V=T x/\PInv e x,?_,?_,?_,?_,?_⟩
 ·rw[h2];exact hw
 ·rw[h2];exact⟨x0,rfl,hI⟩
 ·rintro n V ds _ hds ⟨x,rfl,hx⟩
  obtain⟨k1,k2⟩:=step n x ds hds hx
  refine⟨k1,?_⟩
  rw[h2]
  refine Fv k2 fun e s2 h3=>?_
  cases e with
  |normal =>
   refine Fv h3 fun e s3 h4=>?_
   refine DM (fun s4 h5=>?_) h4
   obtain⟨k3,y,k4,k5⟩:=h5
   refine⟨k3,?_⟩
   cases e with
   |normal=>exact⟨y,k4,k5⟩
   |exit i=>exact⟨y,k4,k5⟩
   |ret=>exact⟨y,k4,k5⟩
  |exit i=>exact h3
  |ret=>exact h3
 ·rintro V _ ⟨x,rfl,hx⟩
  rw[h2];exact hend x hx
 ·rintro e V _ ⟨x,rfl,hx⟩
  rw[h2];exact hjump e x hx
theorem Yp {α:Type}(T:α->AB) (Inv:Nat->α->Prop) (PInv:CO->α->Prop) (x0:α) {gs:List EJ}{g:IJ}{ps ks os:List Nat}{b:PC}{gs2:List EJ}{os2:List Nat}{a:PC}{f:FuncId}{pre post:List D}{els:List (List D)}{sl1:Nat->AV}
  (h0:Cv gs s fun s1=>(g.val s1.sl=.bnd f pre/\post=[]\/g.val s1.sl=.d (.fn f post)/\pre=[])/\(s1.nrm ks os).mv=⟨sl1,T x0⟩) (hT:∀x,(T x).cn=fun _=>1) (hb:Cl E.P f=true) (hr:(b.noR && a.noR)=true) (hs:UD E f pre post els) (hw:Fn ks sl1 (T x0)=true) (hI:Inv 0 x0)
  (step:∀n x ds,els[n]?=some ds->Inv n x->ps.length=ds.length/\pw E b (LO fun s2=>pw E a (VH T Inv PInv (n+1) gs2 ks os2 sl1) s2) ⟨I5 sl1 ps ds,T x⟩)
  (hend:∀x,Inv els.length x->Q .normal ⟨sl1,T x⟩) (hjump:∀e x,PInv e x->Q e ⟨sl1,T x⟩):pw E (.rngF gs g ps ks os b gs2 os2 a) Q s:=by
 refine DM (fun s1 h=>?_) h0
 obtain⟨h1,h2⟩:=h
 suffices hk:Rd E (g.val s1.sl) (fun f' pre' post'=>f'=f/\pre'=pre/\post'=post) by
  refine Pa (fun f' pre' post' hk=>?_) hk
  obtain⟨rfl,rfl,rfl⟩:=hk
  exact Yo T Inv PInv x0 h2 hr hs hw hI step hend hjump
 unfold Rd
 rcases h1 with⟨h1,rfl⟩|⟨h1,rfl⟩
 ·rw[h1];exact⟨hb,rfl,rfl,rfl⟩
 ·rw[h1];exact⟨hb,rfl,rfl,rfl⟩
theorem Yn {α:Type}(uo:α->List (Nat×AI)) (Inv:Nat->α->Prop) (PInv:CO->α->Prop) (x0:α) {so:List (Nat×(Nat×AI))->List (Nat×AI)->List (Nat×(Nat×AI))}{gs:List EJ}{g:IJ}{ps ks os:List Nat}{b:PC}{gs2:List EJ}{os2:List Nat}{a:PC}{f:FuncId}{pre post:List D}{els:List (List D)}{l0:List (Nat×AV)}{m0:List (Nat×(Nat×AI))}
  (hs:UD E f pre post els) (hb:Cl E.P f=true) (h0:Cv gs s fun s1=>(g.val s1.sl=.bnd f pre/\post=[]\/g.val s1.sl=.d (.fn f post)/\pre=[])/\(s1.nrm ks os).mv=⟨ET l0,⟨Af m0,fun _=>1⟩⟩) (he:so m0 (uo x0)=m0) (hr:(b.noR && a.noR)=true) (hw:Fn ks (ET l0) ⟨Af m0,fun _=>1⟩=true) (hI:Inv 0 x0)
  (step:∀n x ds,els[n]?=some ds->Inv n x->ps.length=ds.length/\pw E b (LO fun s2=>pw E a (VH (fun x=>⟨Af (so m0 (uo x)),fun _=>1⟩) Inv PInv (n+1) gs2 ks os2 (ET l0)) s2) ⟨I5 (ET l0) ps ds,⟨Af (so m0 (uo x)),fun _=>1⟩⟩)
  (hend:∀x,Inv els.length x->Q .normal ⟨ET l0,⟨Af (so m0 (uo x)),fun _=>1⟩⟩) (hjump:∀e x,PInv e x->Q e ⟨ET l0,⟨Af (so m0 (uo x)),fun _=>1⟩⟩):pw E (.rngF gs g ps ks os b gs2 os2 a) Q s :=
 Yp (fun x=>⟨Af (so m0 (uo x)),fun _=>1⟩) Inv PInv x0 (by rw[he];exact h0) (fun _=>rfl) hb hr hs (by rw[he];exact hw) hI step hend hjump
end
theorem bF {α:Type}{S:AB}{T:α->AB}{I:α->Prop}(h:∃y,S=T y/\I y):∃y,S=T y/\I y:=h
end Go.Pw
end
