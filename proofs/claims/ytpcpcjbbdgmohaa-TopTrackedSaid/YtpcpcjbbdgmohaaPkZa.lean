/- A part of the proof. -/
import Derived.Test.YtpcpcjbbdgmohaaPwZ
set_option linter.all false
section
namespace Go.Pw
def FH (x:Option AR) (A:List AV->Prop):Prop:=match x with|some (.cells cs)=>A cs|_=>False
def HQ (x:Option AR) (A:Nat->Nat->Bool->List D->Prop):Prop:=match x with|some (.row a b c l)=>A a b c l|_=>False
def Jr (x:Option AR) (A:Nat->Nat->Bool->List D->Prop) (B:Nat->List D->Nat->Nat->Nat->Prop):Prop:=match x with|some (.row a b c l)=>A a b c l|some (.rowH a l i q p)=>B a l i q p|_=>False
def bo (x:Option AR) (A:Fm->List (D×D)->Prop):Prop:=match x with|some (.map t l)=>A t l|_=>False
def ab (x:Option AR) (A:Nat->Nat->Bool->List Nat->List (Bool×List D)->Prop):Prop:=match x with|some (.mat a b c d e)=>A a b c d e|_=>False
def An {α:Type}(x:Option α) (A:α->Prop):Prop:=match x with|some v=>A v|none=>False
def Lr {α:Type}(x:Option α) (A:α->Prop) (B:Prop):Prop:=match x with|some v=>A v|none=>B
theorem PL (cs A):FH (some (.cells cs)) A=A cs:=rfl
theorem Rp (a b c l A):HQ (some (.row a b c l)) A=A a b c l:=rfl
theorem Rq (a b c l A B):Jr (some (.row a b c l)) A B=A a b c l:=rfl
def Fa (x:Option AR) (A:Fm->List (D×D)->Prop) (B:Fm->List (Nat×D×D)->Nat->Prop):Prop:=match x with
 |some (.map t l)=>A t l
 |some (.mapB t l c)=>B t l c
 |_=>False
theorem QO (t l c A B):Fa (some (.mapB t l c)) A B=B t l c:=rfl
def H3 (x:Option AR) (A:List (Nat×D×D)->Nat->Prop):Prop:=match x with
 |some (.map _ l)=>A (l.zipIdx.map fun p=>(p.2,p.1)) l.length
 |some (.mapB _ l c)=>A l c
 |_=>False
theorem QQ (t l c A):H3 (some (.mapB t l c)) A=A l c:=rfl
def Ls (x:Option AR) (A:Nat->Nat->Nat->List Nat->Prop) (B:Fm->List (D×D)->List Nat->Prop):Prop:=match x with
 |some (.mitO o g n l)=>A o g n l
 |some (.mitD t k l)=>B t k l
 |_=>False
theorem Xj (o g n l A B):Ls (some (.mitO o g n l)) A B=A o g n l:=rfl
def Xk (es:List (Nat×D×D)) (seen:List Nat) (A:Nat->Prop) (B:Prop):Prop:=(∀e,e∈es->seen.contains e.1=false->A e.1)/\((∀e,e∈es->seen.contains e.1=true)->B)
def bW (kvs:List (D×D)) (seen:List Nat) (A:Nat->Prop) (B:Prop):Prop:=(∀i,i<kvs.length->seen.contains i=false->A i)/\((∀i,i<kvs.length->seen.contains i=true)->B)
theorem Zb {es:List (Nat×D×D)}{seen:List Nat}{A:Nat->Prop}{B:Prop}(h1:∀e,e∈es->seen.contains e.1=false->A e.1) (h2:(∀e,e∈es->seen.contains e.1=true)->B):Xk es seen A B:=⟨h1,h2⟩
def W7 (k v:D) (es:List (Nat×D×D)) (cl:Nat):List (Nat×D×D):=match Db k (es.map (·.2)) with
 |some i=>(match es[i]? with|some e=>es.set i (e.1,k,v)|none=>es)
 |none=>es++[(cl,k,v)]
def W8 (k:D) (es:List (Nat×D×D)) (cl:Nat):Nat:=match Db k (es.map (·.2)) with
 |some _=>cl
 |none=>cl+1
def YU (k:D) (es:List (Nat×D×D)):List (Nat×D×D):=match Db k (es.map (·.2)) with
 |some i=>es.eraseIdx i
 |none=>es
theorem QM {α:Type}(v:α) (A:α->Prop):An (some v) A=A v:=rfl
theorem Rr {α:Type}(v:α) (A:α->Prop) (B:Prop):Lr (some v) A B=A v:=rfl
theorem Rs {α:Type}(A:α->Prop) (B:Prop):Lr none A B=B:=rfl
section
variable {E:CI}{dst:Option Nat}{V:AK}{K:AV->BM->Prop}
theorem ZX {α:Type}{n:Nat}{cs:List α}{off:Nat}{mk:List α->AV}{one:α->AV}{C:AV->Prop}:Bt true n cs off mk one C=(off+n<=cs.length/\C (mk ((cs.drop off).take n))):=by simp[Bt]
theorem ZY {α:Type}{n:Nat}{cs:List α}{off:Nat}{mk:List α->AV}{one:α->AV}{C:AV->Prop}:Bt false n cs off mk one C=An cs[off]? fun v=>C (one v):=by
 simp only[Bt,Bool.false_eq_true,if_false];cases cs[off]?<;>rfl
theorem Qo {ag n o g off}:ev E dst V (.load ag n) [.ptr o g off] K=FH (V.get o g) fun cs=>Bt ag n cs off .agg id (K · .none):=by
 simp only[ev];cases V.get o g with
 |none=>rfl
 |some x=>cases x<;>rfl
theorem PU {ag n o g es i off}:ev E dst V (.load ag n) [.rptr o g es i off] K=Jr (V.get o g) (fun _ es' _ l=>es=es'/\An l[i]? fun x=>Bt ag n x.cells off (fun cs=>.d (.agg cs)) .d (K · .none))
  fun _ l k q p=>es=1/\(i=k->Bt ag n [.own q p] off .agg id (K · .none))/\(i≠k->An l[i]? fun x=>Bt ag n x.cells off (fun cs=>.d (.agg cs)) .d (K · .none)):=by
 simp only[ev];cases V.get o g with
 |none=>rfl
 |some x =>
  cases x with
  |row a b c l=>simp only[Jr];cases l[i]?<;>rfl
  |rowH a l k q p=>simp only[Jr];cases l[i]?<;>rfl
  |_=>rfl
theorem PV {ag n cs off}:ev E dst V (.load ag n) [.dptr cs off] K=Bt ag n cs off (fun cs=>.d (.agg cs)) .d (K · .none):=rfl
theorem UX {ag n cs}:ev E dst V (.load ag n) [.d (.ptr cs)] K=Bt ag n cs 0 (fun cs=>.d (.agg cs)) .d (K · .none):=rfl
theorem PQ {n o g off v}:ev E dst V (.store n) [.ptr o g off,v] K=FH (V.get o g) fun cs=>An v.cells? fun vs=>vs.length=n/\off+n<=cs.length/\K .undef (.keep o g (.cells (Az cs off vs))):=by
 unfold ev FH An;simp only
 cases V.get o g with
 |none=>rfl
 |some x=>cases x<;>cases v.cells?<;>rfl
theorem PX {off o g a}:ev E dst V (.faddr off) [.ptr o g a] K=K (.ptr o g (a+off)) .none:=rfl
theorem Nk {off o g es i a}:ev E dst V (.faddr off) [.rptr o g es i a] K=K (.rptr o g es i (a+off)) .none:=rfl
theorem Nl {off cs a}:ev E dst V (.faddr off) [.dptr cs a] K=K (.dptr cs (a+off)) .none:=rfl
theorem SO {off cs}:ev E dst V (.faddr off) [.d (.ptr cs)] K=K (.dptr cs off) .none:=rfl
theorem YK {nl:Bool}{l:List D}:ev E dst V (.len false) [.d (.list nl l)] K=K (.d (.int .i64 l.length)) .none:=rfl
theorem SN {es nl l k i}:ev E dst V (.iaddrS es) [.d (.list nl l),.d (.int k i)] K=(0<=i/\i<l.length/\An l[i.toNat]? fun x=>x.cells.length=es/\K (.dptr x.cells 0) .none):=by
 simp only[ev];cases l[i.toNat]?<;>rfl
theorem Z4 {t v}:ev E (some t) V .box [v] K=An v.cells? fun cs=>t<C5/\K (.ptr t (V.cn t) 0) (.fresh t (.cells cs)):=by
 simp only[ev];cases v.cells?<;>rfl
theorem SP {i vs}:ev E dst V (.extract i) [.tup vs] K=An vs[i]? fun v=>K v .none:=by
 simp only[ev];cases vs[i]?<;>rfl
theorem YM {f xs}:ev E dst V (.call f) xs K=Cr E dst V f xs K:=rfl
theorem MH {n o g es0 i off x}:ev E dst V (.store n) [.rptr o g es0 i off,.d x] K=HQ (V.get o g) fun ety es nl l=>An (AV.d x).toD1 fun y=>es0=es/\An l[i]? fun x=>y.cells.length=n/\off+n<=x.cells.length/\(n=es\/1<x.cells.length) /\
  K .undef (.keep o g (.row ety es nl (l.set i (if n=es then y else .agg (Az x.cells off y.cells))))):=by
 simp only[ev];cases V.get o g with
 |none=>rfl
 |some x =>
  cases x with
  |row a b c l=>simp only[HQ];cases (AV.d x).toD1 with
   |none=>rfl
   |some y=>simp only[An];cases l[i]?<;>rfl
  |_=>rfl
theorem SK {cs}:ev E dst V .nilck [.d (.ptr cs)] K=K (.d (.ptr cs)) .none:=rfl
theorem PW {es o g k i}:ev E dst V (.iaddrS es) [.own o g,.d (.int k i)] K=Jr (V.get o g) (fun _ es' _ l=>es=es'/\0<=i/\i<l.length/\K (.rptr o g es i.toNat 0) .none) fun _ l _ _ _=>es=1/\0<=i/\i<l.length/\K (.rptr o g es i.toNat 0) .none:=by
 simp only[ev];cases V.get o g with
 |none=>rfl
 |some x=>cases x<;>rfl
theorem Wg {z pl xs}:ev E dst V (.build z pl) xs K=An (JU (z.map .d) (pl.zip xs)) fun cs=>pl.length=xs.length/\K (.agg cs) .none:=by
 simp only[ev];cases JU (z.map .d) (pl.zip xs)<;>rfl
theorem PR {es z n ix}:ev E dst V (.mkrow es z n ix) [] K=An (EY es (List.replicate n z) (ix.zip [])) fun l=>ix.length=0/\K (.ex l) .none:=by
 simp only[ev];cases EY es (List.replicate n z) (ix.zip [])<;>rfl
theorem SL {es z n ix x xs}:ev E dst V (.mkrow es z n ix) (.d x::xs) K=An (EY es (List.replicate n z) (ix.zip (.d x::xs))) fun l=>ix.length=(.d x::xs).length/\K (.ex l) .none:=by
 simp only[ev];cases EY es (List.replicate n z) (ix.zip (.d x::xs))<;>rfl
theorem PS {es z n ix x xs}:ev E dst V (.mkrow es z n ix) (.agg x::xs) K=An (EY es (List.replicate n z) (ix.zip (.agg x::xs))) fun l=>ix.length=(.agg x::xs).length/\K (.ex l) .none:=by
 simp only[ev];cases EY es (List.replicate n z) (ix.zip (.agg x::xs))<;>rfl
theorem US {ety es z n ix xs t}:ev E (some t) V (.mkrowO ety es z n ix) xs K=An (EY es (List.replicate n z) (ix.zip xs)) fun l=>t<C5/\ix.length=xs.length/\K (.own t (V.cn t)) (.fresh t (.row ety es false l)):=by
 simp only[ev];cases EY es (List.replicate n z) (ix.zip xs)<;>rfl
theorem YJ {f xs}:ev E dst V (.mkfn f) xs K=K (.fn f xs) .none:=rfl
theorem YH {cs t}:ev E (some t) V (.zero cs) [] K=(t<C5/\K (.ptr t (V.cn t) 0) (.fresh t (.cells (cs.map .d)))):=rfl
theorem Ql {ety es z t n m}:ev E (some t) V (.mksl ety es z true) [.d (.int .i64 n),.d (.int .i64 m)] K=(n=m/\0<=n/\n<=(CY:Int)/\t<C5/\K (.own t (V.cn t)) (.fresh t (.row ety es false (List.replicate n.toNat z)))):=rfl
theorem SJ {es lo hi nl l rest}:ev E dst V (.slice es lo hi false) (.d (.list nl l)::rest) K=(Ci es l/\LB lo hi l.length rest fun a b=>K (.d (.list nl ((l.drop a).take (b-a)))) .none):=rfl
theorem ZH {len:Nat}{C:Nat->Nat->Prop} {k h}:LB false true len [.d (.int k h)] C=(0<=h/\h<=len/\C 0 h.toNat):=rfl
theorem ZG {len:Nat}{C:Nat->Nat->Prop} {k h k' m}:LB true true len [.d (.int k h),.d (.int k' m)] C=(0<=h/\h<=m/\m<=len/\C h.toNat m.toNat):=rfl
theorem SM {o g}:ev E dst V (.len false) [.own o g] K=HQ (V.get o g) fun _ _ _ l=>K (.d (.int .i64 l.length)) .none:=by
 simp only[ev,Bool.false_eq_true,if_false,AV.lenL,AV.asList];cases V.get o g with
 |none=>rfl
 |some x=>cases x<;>rfl
theorem Wf {n x}:ev E dst V (.eqnil n) [x,.d (.list true [])] K=An (x.asList V) fun p=>K (.d (.bool (if n then !p.1 else p.1))) .none:=by
 simp only[ev];cases x.asList V<;>rfl
theorem Z3 {n tys x y}:ev E dst V (.eqv n tys) [x,y] K=An x.toD1 fun a=>An y.toD1 fun b=>Ea tys a=true/\Ea tys b=true/\K (.d (.bool (if n then !Cd a b else Cd a b))) .none:=by
 simp only[ev];cases x.toD1<;>cases y.toD1<;>rfl
theorem Z1 {k n}:ev E dst V (.un .neg) [.d (.int k n)] K=K (.d (.int k (k.wrap (0-n)))) .none:=rfl
theorem UU {m k a rest}:ev E dst V (.minmax m) (.d (.int k a)::rest) K=An (ER m k a rest) fun r=>K (.d (.int k r)) .none:=by
 simp only[ev];cases ER m k a rest<;>rfl
theorem Qm {tys z tys' kvs key}:ev E dst V (.lookup false tys z) [.d (.map tys' kvs),key] K=An key.toD1 fun k=>tys=tys'/\Ea tys k=true/\Lr (EQ k kvs) (fun v=>K (.d v) .none) (K (.d z) .none):=by
 simp only[ev];cases key.toD1 with
 |none=>rfl
 |some k=>simp only[An];cases EQ k kvs<;>rfl
theorem Qn {tys z o g key}:ev E dst V (.lookup true tys z) [.map o g,key] K=Fa (V.get o g) (fun tys' kvs=>An key.toD1 fun k=>tys=tys'/\Ea tys k=true/\Lr (EQ k kvs) (fun v=>K (.tup [.d v,.d (.bool true)]) .none) (K (.tup [.d z,.d (.bool false)]) .none))
  fun tys' es _=>An key.toD1 fun k=>tys=tys'/\Ea tys k=true/\Lr (EQ k (es.map (·.2))) (fun v=>K (.tup [.d v,.d (.bool true)]) .none) (K (.tup [.d z,.d (.bool false)]) .none):=by
 simp only[ev];cases V.get o g with
 |none=>rfl
 |some x =>
  cases x with
  |map t l=>simp only[Fa];cases key.toD1 with
   |none=>rfl
   |some k=>simp only[An];cases EQ k l<;>rfl
  |mapB t l c=>simp only[Fa];cases key.toD1 with
   |none=>rfl
   |some k=>simp only[An];cases EQ k (l.map (·.2))<;>rfl
  |_=>rfl
theorem PT {tys z tys' kvs key}:ev E dst V (.lookup true tys z) [.d (.map tys' kvs),key] K=An key.toD1 fun k=>tys=tys'/\Ea tys k=true/\Lr (EQ k kvs) (fun v=>K (.tup [.d v,.d (.bool true)]) .none) (K (.tup [.d z,.d (.bool false)]) .none):=by
 simp only[ev];cases key.toD1 with
 |none=>rfl
 |some k=>simp only[An];cases EQ k kvs<;>rfl
theorem UW {tys o g key val}:ev E dst V (.mapupd tys) [.map o g,key,val] K=Fa (V.get o g) (fun tys' kvs=>An key.toD1 fun k=>An val.toD1 fun v=>tys=tys'/\v.one=true/\Ea tys k=true/\K .undef (.keep o g (.map tys (VP k v kvs))))
  fun tys' es cl=>An key.toD1 fun k=>An val.toD1 fun v=>tys=tys'/\v.one=true/\Ea tys k=true/\K .undef (.keep o g (.mapB tys (W7 k v es cl) (W8 k es cl))):=by
 simp only[ev];cases V.get o g with
 |none=>rfl
 |some x =>
  cases x with
  |map t l=>simp only[Fa];cases key.toD1<;>cases val.toD1<;>rfl
  |mapB t l c =>
   simp only[Fa]
   cases key.toD1 with
   |none=>cases val.toD1<;>rfl
   |some k =>
    cases val.toD1 with
    |none=>rfl
    |some v=>simp only[An,W7,W8];cases Db k (l.map (·.2))<;>rfl
  |_=>rfl
theorem UY {tys o g key}:ev E dst V (.delete tys) [.map o g,key] K=Fa (V.get o g) (fun _ _=>False) fun tys' es cl=>An key.toD1 fun k=>tys=tys'/\Ea tys k=true/\K (.tup []) (.keep o g (.mapB tys (YU k es) cl)):=by
 simp only[ev];cases V.get o g with
 |none=>rfl
 |some x =>
  cases x with
  |mapB t l c=>simp only[Fa];cases key.toD1<;>rfl
  |_=>rfl
theorem UT {t tys}:ev E (some t) V (.mkmapB tys) [] K=(t<C5/\K (.map t (V.cn t)) (.fresh t (.mapB tys [] 0))):=rfl
theorem Qk {t o g}:ev E (some t) V .mrange [.map o g] K=H3 (V.get o g) fun _ cl=>t<C5/\K (.ptr t (V.cn t) 0) (.fresh t (.mitO o g cl [])):=by
 simp only[ev];cases V.get o g with
 |none=>rfl
 |some x=>cases x<;>rfl
theorem UV {o g}:ev E dst V .mentry [.ptr o g 0] K=Ls (V.get o g) (fun mo mg n seen=>H3 (V.get mo mg) fun es cl=>cl=n/\An seen.getLast? fun b=>An (es.find? fun e=>e.1 == b) fun e=>K (.tup [.d e.2.1,.d e.2.2]) .none)
  fun _ kvs seen=>An seen.getLast? fun i=>An kvs[i]? fun kv=>K (.tup [.d kv.1,.d kv.2]) .none:=by
 simp only[ev];cases V.get o g with
 |none=>rfl
 |some x =>
  cases x with
  |mitO mo mg n seen =>
   simp only[Ls]
   cases V.get mo mg with
   |none=>rfl
   |some y =>
    cases y with
    |map t l =>
     simp only[AR.ents,H3]
     cases seen.getLast? with
     |none=>simp[An]
     |some b=>simp only[An];cases (l.zipIdx.map fun p=>(p.2,p.1)).find? (fun e=>e.1 == b)<;>rfl
    |mapB t l c =>
     simp only[AR.ents,H3]
     cases seen.getLast? with
     |none=>simp[An]
     |some b=>simp only[An];cases l.find? (fun e=>e.1 == b)<;>rfl
    |_=>rfl
  |mitD t k seen =>
   simp only[Ls]
   cases seen.getLast? with
   |none=>rfl
   |some i=>simp only[An];cases k[i]?<;>rfl
  |_=>rfl
theorem V7 {o g}:KZ (.ptr o g 0) V K=Ls (V.get o g) (fun mo mg n seen=>H3 (V.get mo mg) fun es cl=>cl=n/\Xk es seen (fun b=>K (.tup [.d (.bool true),.undef,.undef]) (.keep o g (.mitO mo mg n (seen++[b])))) (K (.tup [.d (.bool false)]) .none))
  fun tys kvs seen=>bW kvs seen (fun i=>K (.tup [.d (.bool true),.undef,.undef]) (.keep o g (.mitD tys kvs (seen++[i])))) (K (.tup [.d (.bool false)]) .none):=by
 simp only[KZ];cases V.get o g with
 |none=>rfl
 |some x =>
  cases x with
  |mitO mo mg n seen =>
   simp only[Ls]
   cases V.get mo mg with
   |none=>rfl
   |some y=>cases y<;>rfl
  |_=>rfl
theorem SR {ety es z own o g y}:ev E dst V (.app ety es z own) [.own o g,y] K=An (D3 V z y) fun ys=>HQ (V.get o g) fun ety' es' nl l=>o<C5/\ety=ety'/\es=es'/\Ci es ys/\l.length+ys.length<=CY /\
  K (.own o (V.cn o)) (.fresh o (.row ety es (nl && ys.isEmpty) (l++ys))):=by
 simp only[ev];cases D3 V z y with
 |none=>rfl
 |some ys =>
  simp only[An]
  cases V.get o g with
  |none=>rfl
  |some x=>cases x<;>rfl
theorem SS {ety es z t y}:ev E (some t) V (.app ety es z true) [.d (.list true []),y] K=An (D3 V z y) fun ys=>Ci es ys/\ys.length<=CY/\t<C5/\K (.own t (V.cn t)) (.fresh t (.row ety es ys.isEmpty ys)):=by
 simp only[ev];cases D3 V z y<;>rfl
theorem UZ {ety es z t l y}:ev E (some t) V (.app ety es z true) [.ex l,y] K=An (D3 V z y) fun ys=>Ci es (l++ys)/\l.length+ys.length<=CY/\(ys=[]->K (.ex l) .none)/\(ys≠[]->t<C5/\K (.own t (V.cn t)) (.fresh t (.row ety es false (l++ys)))):=by
 simp only[ev];cases D3 V z y with
 |none=>rfl
 |some ys=>cases ys<;>simp[An]
theorem Qp {f cs args}:ev E dst V .callv (.fn f cs::args) K=(BK E.P f=true/\Cr E dst V f (args++cs) K):=rfl
theorem Nm {f cs args}:ev E dst V .callv (.d (.bnd f cs)::args) K=(BK E.P f=true/\Cr E dst V f (cs.map .d++args) K):=rfl
theorem SQ {f cs args}:ev E dst V .callv (.d (.fn f cs)::args) K=(BK E.P f=true/\Cr E dst V f (args++cs.map .d) K):=rfl
theorem Ul {k k':IntKind}{a b:Int}{C:AV->Prop}:C3 .eql k k' a b C=(k=k'/\C (.d (.bool (decide (a=b))))):=rfl
theorem Uf {k k':IntKind}{a b:Int}{C:AV->Prop}:C3 .neq k k' a b C=(k=k'/\C (.d (.bool (!decide (a=b))))):=rfl
theorem Uh {k k':IntKind}{a b:Int}{C:AV->Prop}:C3 .lss k k' a b C=(k=k'/\C (.d (.bool (decide (a<b))))):=rfl
theorem Ui {k k':IntKind}{a b:Int}{C:AV->Prop}:C3 .leq k k' a b C=(k=k'/\C (.d (.bool (decide (a<=b))))):=rfl
theorem Uj {k k':IntKind}{a b:Int}{C:AV->Prop}:C3 .gtr k k' a b C=(k=k'/\C (.d (.bool (decide (b<a))))):=rfl
theorem Uk {k k':IntKind}{a b:Int}{C:AV->Prop}:C3 .geq k k' a b C=(k=k'/\C (.d (.bool (decide (b<=a))))):=rfl
theorem Um {k k':IntKind}{a b:Int}{C:AV->Prop}:C3 .add k k' a b C=(k=k'/\C (.d (.int k (k.wrap (a+b))))):=rfl
theorem Ub {k k':IntKind}{a b:Int}{C:AV->Prop}:C3 .sub k k' a b C=(k=k'/\C (.d (.int k (k.wrap (a-b))))):=rfl
theorem Ug {k k':IntKind}{a b:Int}{C:AV->Prop}:C3 .mul k k' a b C=(k=k'/\C (.d (.int k (k.wrap (a*b))))):=rfl
theorem Ue {k k':IntKind}{a b:Int}{C:AV->Prop}:C3 .quo k k' a b C=(k=k'/\b≠0/\C (.d (.int k (k.wrap (a.tdiv b))))):=rfl
theorem Ud {k k':IntKind}{a b:Int}{C:AV->Prop}:C3 .rem k k' a b C=(k=k'/\b≠0/\C (.d (.int k (a.tmod b)))):=rfl
theorem Uc {k k':IntKind}{a b:Int}{C:AV->Prop}:C3 .shr k k' a b C=(0<=b/\C (.d (.int k (a.fdiv (2^(min b.toNat k.bits)))))):=rfl
theorem Ua {k k':IntKind}{a b:Int}{C:AV->Prop}:C3 .xor k k' a b C=(k=k'/\C (.d (.int k (BR .xor k a b)))):=rfl
end
end Go.Pw
end
section
namespace Go.Pw
def M3 (x:Option AR) (A:List (List D)->Nat->Prop):Prop:=match x with|some (.hist els n false)=>A els n|_=>False
theorem QP (els n A):M3 (some (.hist els n false)) A=A els n:=rfl
section
variable {E:CI}{Q:Bq->Ar->Prop}{s s':Ar}{K:AV->BM->Prop}{KS:Ar->Prop}
theorem U8 {o g:Nat}{xs:List AV}{V:AK}:Na (.own o g) xs V K=M3 (V.get o g) fun els n=>An (Dr xs) fun ds=>els[n]?=some ds/\K (.d (.bool true)) (.keep o g (.hist els (n+1) false))/\K (.d (.bool false)) (.keep o g (.hist els (n+1) true)):=by
 simp only[Na,M3]
 cases V.get o g with
 |none=>rfl
 |some x=>cases x with
  |hist els n st=>cases st<;>(simp only[An];try (cases Dr xs<;>rfl))
  |_=>rfl
theorem U1 {xs:List AV}:Dr xs=Ak AV.toD1 xs:=rfl
theorem Wd {dst:Option Nat}{V:AK}{f:FuncId}{xs:List AV}:ev E dst V (.mkbnd f) xs K=K (.bnd f xs) .none:=by
 rfl
theorem RJ {sl:Nat->AV}{V:AK}:EL [] sl V=true:=rfl
def Wy (V:AK) (o:Nat):Bool:=match V.ob o with|some (g,_)=>g == 0|none=>false
theorem Pn {k:Nat}{ks:List Nat}{sl:Nat->AV}{V:AK}:EL (k::ks) sl V=((sl k).sites.all (Wy V) && EL ks sl V):=rfl
def Wx (x:Option (Nat×AR)):Bool:=match x with|some (g,_)=>g == 0|none=>false
theorem U3 {ob cn o}:Wy ⟨ob,cn⟩ o=Wx (ob o):=rfl
theorem RC {g x}:Wx (some (g,x))=(g == 0):=rfl
theorem W5 {m:List (Nat×(Nat×AR))}{cn:Nat->Nat}{os:List Nat}:(AK.mk (Av m) cn).nrm os=⟨Av (Da ⟨Av m,cn⟩ os os),fun _=>1⟩:=by
 have:=V4 (fun _=>.undef) ⟨Av m,cn⟩ [] os
 have h2:((Ar.mk (fun _=>.undef) ⟨Av m,cn⟩).nrm [] os).V=(AK.mk (Av m) cn).nrm os:=rfl
 rw[←h2,this]
theorem Ze {o:Nat}:LL o=if 900000<=o/\o<5000000 then o else o+5000000:=rfl
def mvL (l:List (Nat×AV)):List (Nat×AV):=l.map fun p=>(p.1,p.2.mv)
theorem Xs:mvL []=[]:=rfl
theorem QW {k v l}:mvL ((k,v)::l)=(k,v.mv)::mvL l:=rfl
def Rz (k:Nat) (g:Nat) (x:Option AR) (r:List (Nat×(Nat×AR))):List (Nat×(Nat×AR)):=match x with
 |some y=>(LL k,(g,y))::r
 |none=>r.filter fun p=>!(p.1 == LL k)
def Xr:List (Nat×(Nat×AR))->List (Nat×(Nat×AR))
 |[]=>[]
 |(k,(g,x))::l=>Rz k g x.mv (Xr l)
theorem Xq:Xr []=[]:=rfl
theorem QV {k g x l}:Xr ((k,(g,x))::l)=Rz k g x.mv (Xr l):=rfl
theorem T2 {k g y r}:Rz k g (some y) r=(LL k,(g,y))::r:=rfl
theorem LM {k g r}:Rz k g none r=r.filter fun p=>!(p.1 == LL k):=rfl
theorem G1 (k:Nat):∀(l:List (Nat×(Nat×AR))) (t:Nat),Av (l.filter fun p=>!(p.1 == k)) t=if t=k then none else Av l t
 |[],t=>by simp[Av]
 |p::l,t=>by
  obtain⟨a,b⟩:=p
  have ih:=G1 k l t
  by_cases h:a=k
  ·subst h
   rw[List.filter_cons,if_neg (by simp),ih]
   by_cases ht:t=a
   ·simp[ht]
   ·simp[ht,Av]
  ·rw[List.filter_cons,if_pos (by simpa using h)]
   simp only[Av,ih]
   by_cases ht:t=a
   ·subst ht;simp[h]
   ·simp[ht]
theorem QZ:∀(m:List (Nat×(Nat×AR))) (o:Nat),Av (Xr m) o=if LL (K9 o)=o then (match Av m (K9 o) with
   |some (g,x)=>match x.mv with|some y=>some (g,y)|none=>none
   |none=>none) else none
 |[],o=>by simp[Xr,Av]
 |(k,(g,x))::m,o=>by
  have ih:=QZ m o
  rw[QV]
  by_cases h:o=LL k
  ·subst h
   rw[Fu,if_pos rfl]
   cases hx:x.mv with
   |some y=>simp[Rz,Av,hx]
   |none=>rw[LM,G1,if_pos rfl];simp[Av,hx]
  ·have hk:LL (K9 o)=o->K9 o≠k:=fun h1 h2=>h (by rw[←h1,h2])
   have hrest:Av (Rz k g x.mv (Xr m)) o=Av (Xr m) o:=by
    cases x.mv with
    |some y=>simp[Rz,Av,h]
    |none=>rw[LM,G1,if_neg h]
   rw[hrest,ih]
   by_cases h1:LL (K9 o)=o
   ·rw[if_pos h1,if_pos h1]
    have:=hk h1
    simp[Av,this]
   ·rw[if_neg h1,if_neg h1]
theorem af {l:List (Nat×AV)}{m:List (Nat×(Nat×AR))}{cn:Nat->Nat}:(Ar.mk (Cy l) ⟨Av m,cn⟩).mv=⟨Cy (mvL l),⟨Av (Xr m),fun _=>1⟩⟩:=by
 have h1:(fun t=>(Cy l t).mv)=Cy (mvL l):=by
  funext t
  induction l with
  |nil=>rfl
  |cons p l ih =>
   obtain⟨k,v⟩:=p
   simp only[QW,Cy]
   by_cases h:t=k
   ·simp[h]
   ·simp only[if_neg h];exact ih
 show Ar.mk (fun t=>(Cy l t).mv) _=_
 rw[h1]
 refine congrArg (fun ob=>Ar.mk _ (AK.mk ob _)) ?_
 funext o
 exact(QZ m o).symm
theorem Y2 {o:Nat}:Gp o=if o<900000 then o+5000000 else if 5000000<=o/\o<5900000 then o-5000000 else o:=rfl
def VF (l:List (Nat×AV)):List (Nat×AV):=l.map fun p=>(p.1,p.2.sw)
theorem VE:VF []=[]:=rfl
theorem N5 {k v l}:VF ((k,v)::l)=(k,v.sw)::VF l:=rfl
def aO (m:List (Nat×(Nat×AR))):List (Nat×(Nat×AR)):=m.map fun p=>(Gp p.1,(p.2.1,p.2.2.sw))
theorem XF:aO []=[]:=rfl
theorem Ps {k g x l}:aO ((k,(g,x))::l)=(Gp k,(g,x.sw))::aO l:=rfl
theorem aM {l:List (Nat×AV)}{m:List (Nat×(Nat×AR))}{cn:Nat->Nat}:(Ar.mk (Cy l) ⟨Av m,cn⟩).sw=⟨Cy (VF l),⟨Av (aO m),fun _=>1⟩⟩:=by
 have h1:(fun t=>(Cy l t).sw)=Cy (VF l):=by
  funext t
  induction l with
  |nil=>rfl
  |cons p l ih =>
   obtain⟨k,v⟩:=p
   simp only[N5,Cy]
   by_cases h:t=k
   ·simp[h]
   ·simp only[if_neg h];exact ih
 have h2:(fun o=>aN (Av m (Gp o)))=Av (aO m):=by
  funext o
  induction m with
  |nil=>rfl
  |cons p m ih =>
   obtain⟨k,g,x⟩:=p
   simp only[Ps,Av]
   by_cases h:Gp o=k
   ·have h':o=Gp k:=by rw[←h,Dd]
    rw[if_pos h,if_pos h'];rfl
   ·have h':o≠Gp k:=fun he=>h (by rw[he,Dd])
    rw[if_neg h,if_neg h'];exact ih
 show Ar.mk (fun t=>(Cy l t).sw) ⟨fun o=>aN (Av m (Gp o)),fun _=>1⟩=_
 rw[h1,h2]
theorem Tr {xs}:(AR.cells xs).sw=.cells (xs.map AV.sw):=rfl
theorem Vs {a l c}:(AR.mapB a l c).sw=.mapB a l c:=rfl
theorem bN {x}:(AV.d x).sw=.d x:=rfl
theorem Y3 {o g f}:(AV.ptr o g f).sw=.ptr (Gp o) g f:=rfl
theorem Y4 {o g}:(AV.map o g).sw=.map (Gp o) g:=rfl
theorem WC {V}:R4 [] V=true:=rfl
theorem T8 {o os V}:R4 (o::os) V=(T7 o (V.ob o) && R4 os V):=rfl
theorem T5 {o}:T7 o none=true:=rfl
theorem R3 {o g l}:T7 o (some (g,.cells l))=decide (900000<=o):=rfl
theorem T6 {o g a b c}:T7 o (some (g,.mapB a b c))=decide (900000<=o):=rfl
theorem YQ {s:Ar}{K:Ar->Prop}:Qr true s K=K s.sw:=rfl
theorem YR {s:Ar}{K:Ar->Prop}:Qr false s K=K s:=rfl
theorem WR {ks os:List Nat}{s:Ar}{K:Ar->Prop}:Fd (.down ks os) s K=Qr (R4 os (s.nrm ks os).V) (s.nrm ks os) K:=rfl
theorem Tz {xs}:(AR.cells xs).mv=some (.cells (xs.map AV.mv)):=rfl
theorem bc {x}:(AV.d x).mv=.d x:=rfl
theorem Vw {a l c}:(AR.mapB a l c).mv=some (.mapB a l c):=rfl
theorem Zf {o g f}:(AV.ptr o g f).mv=.ptr (LL o) g f:=rfl
theorem Zg {o g}:(AV.map o g).mv=.map (LL o) g:=rfl
theorem Tw {V:AK} {os a l c}:(AR.mapB a l c).nrm V os=some (.mapB a l c):=rfl
theorem Tv {V:AK} {os q p n l}:(AR.mitO q p n l).nrm V os=if AV.nrm.live V os q p then some (.mitO q 0 n l) else none:=rfl
theorem Tx {V:AK} {os a b l}:(AR.hist a b l).nrm V os=some (.hist a b l):=rfl
theorem PK {A:Ar->Prop}:KW A .normal s=A s:=rfl
theorem Ta {sl:Nat->AV} {ds}:Hm sl [] ds=sl:=by cases ds<;>rfl
theorem RX {sl:Nat->AV} {p ps d ds}:Hm sl (p::ps) (d::ds)=Hm (CD sl p (.d d)) ps ds:=rfl
def Rg {α:Type}(T:α->AK) (Inv:Nat->α->Prop) (PInv:Bq->α->Prop) (m:Nat) (gs:List DK) (ks os:List Nat) (sl:Nat->AV) (e:Bq) (s:Ar):Prop :=
 B8 gs s fun s'=>EL ks sl (s'.V.nrm os)=true/\∃y,s'.V.nrm os=T y/\(match e with|.normal=>Inv m y|e=>PInv e y)
theorem QF {α:Type}{T:α->AK} {Inv PInv m gs ks os sl}:Rg T Inv PInv m gs ks os sl .normal s=B8 gs s fun s'=>EL ks sl (s'.V.nrm os)=true/\∃y,s'.V.nrm os=T y/\Inv m y:=rfl
theorem Tj {α:Type}{T:α->AK} {Inv PInv m gs ks os sl i}:Rg T Inv PInv m gs ks os sl (.exit i) s=B8 gs s fun s'=>EL ks sl (s'.V.nrm os)=true/\∃y,s'.V.nrm os=T y/\PInv (.exit i) y:=rfl
theorem XX {α:Type}(T:α->AK) (Inv:Nat->α->Prop) (PInv:Bq->α->Prop) (x0:α) {ps ks os:List Nat}{b:PC}{gs2:List DK}{os2:List Nat}{a:PC}{f:FuncId}{pre post:List D}{els:List (List D)}{sl1:Nat->AV}{s1:Ar}
  (h2:(s1.nrm ks os).mv=⟨sl1,T x0⟩) (hr:(b.noR && a.noR)=true) (hs:Sl E f pre post els) (hw:EL ks sl1 (T x0)=true) (hI:Inv 0 x0)
  (step:∀n x ds,els[n]?=some ds->Inv n x->ps.length=ds.length/\pw E b (KW fun s2=>pw E a (Rg T Inv PInv (n+1) gs2 ks os2 sl1) s2) ⟨Hm sl1 ps ds,T x⟩)
  (hend:∀x,Inv els.length x->Q .normal ⟨sl1,T x⟩) (hjump:∀e x,PInv e x->Q e ⟨sl1,T x⟩) :
  (b.noR && a.noR)=true/\∃els,Sl E f pre post els/\∃(JJ:Nat->AK->Prop) (Pd:Bq->AK->Prop),
   EL ks (s1.nrm ks os).mv.sl (s1.nrm ks os).mv.V=true/\JJ 0 (s1.nrm ks os).mv.V /\
   (∀n V ds,V.cn=(fun _=>1)->els[n]?=some ds->JJ n V->ps.length=ds.length /\
    pw E b (KW fun s2=>pw E a (ZI JJ Pd (n+1) gs2 ks os2 (s1.nrm ks os).mv.sl) s2) ⟨Hm (s1.nrm ks os).mv.sl ps ds,V⟩) /\
   (∀V,V.cn=(fun _=>1)->JJ els.length V->Q .normal ⟨(s1.nrm ks os).mv.sl,V⟩) /\
   ∀e V,V.cn=(fun _=>1)->Pd e V->Q e ⟨(s1.nrm ks os).mv.sl,V⟩:=by
 refine⟨hr,els,hs,fun n V=>∃x,V=T x/\Inv n x,fun e V=>∃x,V=T x/\PInv e x,?_,?_,?_,?_,?_⟩
 ·rw[h2];exact hw
 ·rw[h2];exact⟨x0,rfl,hI⟩
 ·rintro n V ds _ hds ⟨x,rfl,hx⟩
  obtain⟨k1,k2⟩:=step n x ds hds hx
  refine⟨k1,?_⟩
  rw[h2]
  refine En k2 fun e s2 h3=>?_
  cases e with
  |normal =>
   refine En h3 fun e s3 h4=>?_
   refine CW (fun s4 h5=>?_) h4
   obtain⟨k3,y,k4,k5⟩:=h5
   refine⟨k3,?_⟩
   cases e with
   |normal=>exact⟨y,k4,k5⟩
   |exit i=>exact⟨y,k4,k5⟩
   |ret=>exact⟨y,k4,k5⟩
  |exit i=>exact h3
  |ret=>exact h3
 ·rintro V _ ⟨x,rfl,hx⟩
  rw[h2];exact hend x hx
 ·rintro e V _ ⟨x,rfl,hx⟩
  rw[h2];exact hjump e x hx
theorem Sy {α:Type}(T:α->AK) (Inv:Nat->α->Prop) (PInv:Bq->α->Prop) (x0:α) {gs:List DK}{g:Gq}{ps ks os:List Nat}{b:PC}{gs2:List DK}{os2:List Nat}{a:PC}{f:FuncId}{pre post:List D}{els:List (List D)}{sl1:Nat->AV}
  (h0:B8 gs s fun s1=>((∃cs,g.val s1.sl=.bnd f cs/\Dr cs=some pre)/\post=[]\/g.val s1.sl=.d (.fn f post)/\pre=[])/\(s1.nrm ks os).mv=⟨sl1,T x0⟩) (hT:∀x,(T x).cn=fun _=>1) (hb:BK E.P f=true) (hr:(b.noR && a.noR)=true) (hs:Sl E f pre post els) (hw:EL ks sl1 (T x0)=true) (hI:Inv 0 x0)
  (step:∀n x ds,els[n]?=some ds->Inv n x->ps.length=ds.length/\pw E b (KW fun s2=>pw E a (Rg T Inv PInv (n+1) gs2 ks os2 sl1) s2) ⟨Hm sl1 ps ds,T x⟩)
  (hend:∀x,Inv els.length x->Q .normal ⟨sl1,T x⟩) (hjump:∀e x,PInv e x->Q e ⟨sl1,T x⟩):pw E (.rngF gs g ps ks os b gs2 os2 a) Q s:=by
 refine CW (fun s1 h=>?_) h0
 obtain⟨h1,h2⟩:=h
 suffices hk:PD E (g.val s1.sl) (fun f' pre' post'=>f'=f/\pre'=pre/\post'=post) by
  refine OG (fun f' pre' post' hk=>?_) hk
  obtain⟨rfl,rfl,rfl⟩:=hk
  exact XX T Inv PInv x0 h2 hr hs hw hI step hend hjump
 unfold PD
 rcases h1 with⟨⟨cs,h1,h1'⟩,rfl⟩|⟨h1,rfl⟩
 ·rw[h1];dsimp only;rw[h1'];exact⟨hb,rfl,rfl,rfl⟩
 ·rw[h1];exact⟨hb,rfl,rfl,rfl⟩
theorem XW {α:Type}(uo:α->List (Nat×AR)) (Inv:Nat->α->Prop) (PInv:Bq->α->Prop) (x0:α) {so:List (Nat×(Nat×AR))->List (Nat×AR)->List (Nat×(Nat×AR))}{gs:List DK}{g:Gq}{ps ks os:List Nat}{b:PC}{gs2:List DK}{os2:List Nat}{a:PC}{f:FuncId}{pre post:List D}{els:List (List D)}{l0:List (Nat×AV)}{m0:List (Nat×(Nat×AR))}
  (hs:Sl E f pre post els) (hb:BK E.P f=true) (h0:B8 gs s fun s1=>((∃cs,g.val s1.sl=.bnd f cs/\Dr cs=some pre)/\post=[]\/g.val s1.sl=.d (.fn f post)/\pre=[])/\(s1.nrm ks os).mv=⟨Cy l0,⟨Av m0,fun _=>1⟩⟩) (he:so m0 (uo x0)=m0) (hr:(b.noR && a.noR)=true) (hw:EL ks (Cy l0) ⟨Av m0,fun _=>1⟩=true) (hI:Inv 0 x0)
  (step:∀n x ds,els[n]?=some ds->Inv n x->ps.length=ds.length/\pw E b (KW fun s2=>pw E a (Rg (fun x=>⟨Av (so m0 (uo x)),fun _=>1⟩) Inv PInv (n+1) gs2 ks os2 (Cy l0)) s2) ⟨Hm (Cy l0) ps ds,⟨Av (so m0 (uo x)),fun _=>1⟩⟩)
  (hend:∀x,Inv els.length x->Q .normal ⟨Cy l0,⟨Av (so m0 (uo x)),fun _=>1⟩⟩) (hjump:∀e x,PInv e x->Q e ⟨Cy l0,⟨Av (so m0 (uo x)),fun _=>1⟩⟩):pw E (.rngF gs g ps ks os b gs2 os2 a) Q s :=
 Sy (fun x=>⟨Av (so m0 (uo x)),fun _=>1⟩) Inv PInv x0 (by rw[he];exact h0) (fun _=>rfl) hb hr hs (by rw[he];exact hw) hI step hend hjump
end
theorem Gh {α β:Type}{S:AK}{T:α×β->AK}{I:α×β->Prop}(h:∃y,S=T y/\I y):∃y,S=T y/\I y:=h
end Go.Pw
end
