/- A part of the proof. -/
import Derived.Test.YtpcpcjbbdgmohaaGreatPwZ
set_option linter.all false
section
namespace Go.Pw
def Ge (x:Option Ae) (A:List AV->Prop):Prop:=match x with|some (.cells cs)=>A cs|_=>False
def HB (x:Option Ae) (A:Nat->Nat->Bool->List D->Prop):Prop:=match x with|some (.row a b c l)=>A a b c l|_=>False
def MU (x:Option Ae) (A:Nat->Nat->Bool->List D->Prop) (B:Nat->List D->Nat->Nat->Nat->Prop):Prop:=match x with|some (.row a b c l)=>A a b c l|some (.rowH a l i q p)=>B a l i q p|_=>False
def mq (x:Option Ae) (A:HK->List (D×D)->Prop):Prop:=match x with|some (.map t l)=>A t l|_=>False
def Hj (x:Option Ae) (A:Nat->Nat->Bool->List Nat->List (Bool×List D)->Prop):Prop:=match x with|some (.mat a b c d e)=>A a b c d e|_=>False
def Ax {α:Type}(x:Option α) (A:α->Prop):Prop:=match x with|some v=>A v|none=>False
def PM {α:Type}(x:Option α) (A:α->Prop) (B:Prop):Prop:=match x with|some v=>A v|none=>B
theorem UR (cs A):Ge (some (.cells cs)) A=A cs:=rfl
theorem Xc (a b c l A):HB (some (.row a b c l)) A=A a b c l:=rfl
theorem Xd (a b c l A B):MU (some (.row a b c l)) A B=A a b c l:=rfl
def HC (x:Option Ae) (A:HK->List (D×D)->Prop) (B:HK->List (Nat×D×D)->Nat->Prop):Prop:=match x with
 |some (.map t l)=>A t l
 |some (.mapB t l c)=>B t l c
 |_=>False
theorem Vh (t l c A B):HC (some (.mapB t l c)) A B=B t l c:=rfl
def Kd (x:Option Ae) (A:List (Nat×D×D)->Nat->Prop):Prop:=match x with
 |some (.map _ l)=>A (l.zipIdx.map fun p=>(p.2,p.1)) l.length
 |some (.mapB _ l c)=>A l c
 |_=>False
theorem Vj (t l c A):Kd (some (.mapB t l c)) A=A l c:=rfl
def PN (x:Option Ae) (A:Nat->Nat->Nat->List Nat->Prop) (B:HK->List (D×D)->List Nat->Prop):Prop:=match x with
 |some (.mitO o g n l)=>A o g n l
 |some (.mitD t k l)=>B t k l
 |_=>False
theorem gQ (o g n l A B):PN (some (.mitO o g n l)) A B=A o g n l:=rfl
def gU (es:List (Nat×D×D)) (seen:List Nat) (A:Nat->Prop) (B:Prop):Prop:=(∀e,e∈es->seen.contains e.1=false->A e.1)/\((∀e,e∈es->seen.contains e.1=true)->B)
def mT (kvs:List (D×D)) (seen:List Nat) (A:Nat->Prop) (B:Prop):Prop:=(∀i,i<kvs.length->seen.contains i=false->A i)/\((∀i,i<kvs.length->seen.contains i=true)->B)
theorem kG {es:List (Nat×D×D)}{seen:List Nat}{A:Nat->Prop}{B:Prop}(h1:∀e,e∈es->seen.contains e.1=false->A e.1) (h2:(∀e,e∈es->seen.contains e.1=true)->B):gU es seen A B:=⟨h1,h2⟩
def fW (k v:D) (es:List (Nat×D×D)) (cl:Nat):List (Nat×D×D):=match EJ k (es.map (·.2)) with
 |some i=>(match es[i]? with|some e=>es.set i (e.1,k,v)|none=>es)
 |none=>es++[(cl,k,v)]
def fX (k:D) (es:List (Nat×D×D)) (cl:Nat):Nat:=match EJ k (es.map (·.2)) with
 |some _=>cl
 |none=>cl+1
def iX (k:D) (es:List (Nat×D×D)):List (Nat×D×D):=match EJ k (es.map (·.2)) with
 |some i=>es.eraseIdx i
 |none=>es
theorem Ve {α:Type}(v:α) (A:α->Prop):Ax (some v) A=A v:=rfl
theorem Xe {α:Type}(v:α) (A:α->Prop) (B:Prop):PM (some v) A B=A v:=rfl
theorem Xf {α:Type}(A:α->Prop) (B:Prop):PM none A B=B:=rfl
section
variable {E:CU}{dst:Option Nat}{V:AO}{K:AV->Bp->Prop}
theorem j8 {α:Type}{n:Nat}{cs:List α}{off:Nat}{mk:List α->AV}{one:α->AV}{C:AV->Prop}:CP true n cs off mk one C=(off+n<=cs.length/\C (mk ((cs.drop off).take n))):=by simp[CP]
theorem j9 {α:Type}{n:Nat}{cs:List α}{off:Nat}{mk:List α->AV}{one:α->AV}{C:AV->Prop}:CP false n cs off mk one C=Ax cs[off]? fun v=>C (one v):=by
 simp only[CP,Bool.false_eq_true,if_false];cases cs[off]?<;>rfl
theorem WG {ag n o g off}:ev E dst V (.load ag n) [.ptr o g off] K=Ge (V.get o g) fun cs=>CP ag n cs off .agg id (K · .none):=by
 simp only[ev];cases V.get o g with
 |none=>rfl
 |some x=>cases x<;>rfl
theorem Uf {ag n o g es i off}:ev E dst V (.load ag n) [.rptr o g es i off] K=MU (V.get o g) (fun _ es' _ l=>es=es'/\Ax l[i]? fun x=>CP ag n x.cells off (fun cs=>.d (.agg cs)) .d (K · .none))
  fun _ l k q p=>es=1/\(i=k->CP ag n [.own q p] off .agg id (K · .none))/\(i≠k->Ax l[i]? fun x=>CP ag n x.cells off (fun cs=>.d (.agg cs)) .d (K · .none)):=by
 simp only[ev];cases V.get o g with
 |none=>rfl
 |some x =>
  cases x with
  |row a b c l=>simp only[MU];cases l[i]?<;>rfl
  |rowH a l k q p=>simp only[MU];cases l[i]?<;>rfl
  |_=>rfl
theorem Ug {ag n cs off}:ev E dst V (.load ag n) [.dptr cs off] K=CP ag n cs off (fun cs=>.d (.agg cs)) .d (K · .none):=rfl
theorem au {ag n cs}:ev E dst V (.load ag n) [.d (.ptr cs)] K=CP ag n cs 0 (fun cs=>.d (.agg cs)) .d (K · .none):=rfl
theorem Ub {n o g off v}:ev E dst V (.store n) [.ptr o g off,v] K=Ge (V.get o g) fun cs=>Ax v.cells? fun vs=>vs.length=n/\off+n<=cs.length/\K .undef (.keep o g (.cells (BO cs off vs))):=by
 unfold ev Ge Ax;simp only
 cases V.get o g with
 |none=>rfl
 |some x=>cases x<;>cases v.cells?<;>rfl
theorem Ui {off o g a}:ev E dst V (.faddr off) [.ptr o g a] K=K (.ptr o g (a+off)) .none:=rfl
theorem SF {off o g es i a}:ev E dst V (.faddr off) [.rptr o g es i a] K=K (.rptr o g es i (a+off)) .none:=rfl
theorem SG {off cs a}:ev E dst V (.faddr off) [.dptr cs a] K=K (.dptr cs (a+off)) .none:=rfl
theorem YD {off cs}:ev E dst V (.faddr off) [.d (.ptr cs)] K=K (.dptr cs off) .none:=rfl
theorem iK {nl:Bool}{l:List D}:ev E dst V (.len false) [.d (.list nl l)] K=K (.d (.int .i64 l.length)) .none:=rfl
theorem YC {es nl l k i}:ev E dst V (.iaddrS es) [.d (.list nl l),.d (.int k i)] K=(0<=i/\i<l.length/\Ax l[i.toNat]? fun x=>x.cells.length=es/\K (.dptr x.cells 0) .none):=by
 simp only[ev];cases l[i.toNat]?<;>rfl
theorem kj {t v}:ev E (some t) V .box [v] K=Ax v.cells? fun cs=>t<DB/\K (.ptr t (V.cn t) 0) (.fresh t (.cells cs)):=by
 simp only[ev];cases v.cells?<;>rfl
theorem iM {k k' n}:ev E dst V (.conv k) [.d (.int k' n)] K=K (.d (.int k (k.wrap n))) .none:=rfl
theorem YE {i vs}:ev E dst V (.extract i) [.tup vs] K=Ax vs[i]? fun v=>K v .none:=by
 simp only[ev];cases vs[i]?<;>rfl
theorem iO {f xs}:ev E dst V (.call f) xs K=DM E dst V f xs K:=rfl
theorem P5 {n o g es0 i off x}:ev E dst V (.store n) [.rptr o g es0 i off,.d x] K=HB (V.get o g) fun ety es nl l=>Ax (AV.d x).toD1 fun y=>es0=es/\Ax l[i]? fun x=>y.cells.length=n/\off+n<=x.cells.length/\(n=es\/1<x.cells.length) /\
  K .undef (.keep o g (.row ety es nl (l.set i (if n=es then y else .agg (BO x.cells off y.cells))))):=by
 simp only[ev];cases V.get o g with
 |none=>rfl
 |some x =>
  cases x with
  |row a b c l=>simp only[HB];cases (AV.d x).toD1 with
   |none=>rfl
   |some y=>simp only[Ax];cases l[i]?<;>rfl
  |_=>rfl
theorem Nh {n o g es0 i off x}:ev E dst V (.store n) [.rptr o g es0 i off,.agg x] K=HB (V.get o g) fun ety es nl l=>Ax (AV.agg x).toD1 fun y=>es0=es/\Ax l[i]? fun x=>y.cells.length=n/\off+n<=x.cells.length/\(n=es\/1<x.cells.length) /\
  K .undef (.keep o g (.row ety es nl (l.set i (if n=es then y else .agg (BO x.cells off y.cells))))):=by
 simp only[ev];cases V.get o g with
 |none=>rfl
 |some x =>
  cases x with
  |row a b c l=>simp only[HB];cases (AV.agg x).toD1 with
   |none=>rfl
   |some y=>simp only[Ax];cases l[i]?<;>rfl
  |_=>rfl
theorem Uh {es o g k i}:ev E dst V (.iaddrS es) [.own o g,.d (.int k i)] K=MU (V.get o g) (fun _ es' _ l=>es=es'/\0<=i/\i<l.length/\K (.rptr o g es i.toNat 0) .none) fun _ l _ _ _=>es=1/\0<=i/\i<l.length/\K (.rptr o g es i.toNat 0) .none:=by
 simp only[ev];cases V.get o g with
 |none=>rfl
 |some x=>cases x<;>rfl
theorem SE {len es o g off k i}:ev E dst V (.iaddrA len es) [.ptr o g off,.d (.int k i)] K=(0<=i/\i<len/\K (.ptr o g (off+i.toNat * es)) .none):=rfl
theorem iH {sb:ByteArray} {k i}:ev E dst V (.strx sb) [.d (.int k i)] K=(0<=i/\Ax sb[i.toNat]? fun b=>K (.d (.int .u8 b.toNat)) .none):=by
 show (0<=i/\_)=_
 cases sb[i.toNat]?<;>rfl
theorem YB {len es ag cs k i}:ev E dst V (.index len es ag) [.d (.agg cs),.d (.int k i)] K=(0<=i/\i<len/\CP ag es cs (i.toNat * es) (fun cs=>.d (.agg cs)) .d (K · .none)):=rfl
theorem em {z pl xs}:ev E dst V (.build z pl) xs K=Ax (L0 (z.map .d) (pl.zip xs)) fun cs=>pl.length=xs.length/\K (.agg cs) .none:=by
 simp only[ev];cases L0 (z.map .d) (pl.zip xs)<;>rfl
theorem Uc {es z n ix}:ev E dst V (.mkrow es z n ix) [] K=Ax (GY es (List.replicate n z) (ix.zip [])) fun l=>ix.length=0/\K (.ex l) .none:=by
 simp only[ev];cases GY es (List.replicate n z) (ix.zip [])<;>rfl
theorem X9 {es z n ix x xs}:ev E dst V (.mkrow es z n ix) (.d x::xs) K=Ax (GY es (List.replicate n z) (ix.zip (.d x::xs))) fun l=>ix.length=(.d x::xs).length/\K (.ex l) .none:=by
 simp only[ev];cases GY es (List.replicate n z) (ix.zip (.d x::xs))<;>rfl
theorem Ud {es z n ix x xs}:ev E dst V (.mkrow es z n ix) (.agg x::xs) K=Ax (GY es (List.replicate n z) (ix.zip (.agg x::xs))) fun l=>ix.length=(.agg x::xs).length/\K (.ex l) .none:=by
 simp only[ev];cases GY es (List.replicate n z) (ix.zip (.agg x::xs))<;>rfl
theorem Xg (a b c d e A):Hj (some (.mat a b c d e)) A=A a b c d e:=rfl
theorem X_ {ag n o g i}:ev E dst V (.load ag n) [.mref (.xp i) o g] K=Hj (V.get o g) fun _ _ _ ix _=>Ax ix[i]? fun j=>CP ag n [.mref (.row j) o g] 0 .agg id (K · .none):=by
 simp only[ev];cases V.get o g with
 |none=>rfl
 |some x =>
  cases x with
  |mat a b c ix rows=>simp only[Hj];cases ix[i]?<;>rfl
  |_=>rfl
theorem X' {ag n cs off}:ev E dst V (.load ag n) [.ablk false cs off] K=CP ag n cs off .agg id (K · .none):=rfl
theorem WA {n i o g j o' g'}:ev E dst V (.store n) [.mref (.xp i) o g,.mref (.row j) o' g'] K=Hj (V.get o g) fun e1 e2 nl ix rows=>n=1/\o'=o/\g'=g/\i<ix.length/\j<rows.length/\K .undef (.keep o g (.mat e1 e2 nl (ix.set i j) rows)):=by
 simp only[ev];cases V.get o g with
 |none=>rfl
 |some x=>cases x<;>rfl
theorem WH {es o g k i}:ev E dst V (.iaddrS es) [.mref .out o g,.d (.int k i)] K=Hj (V.get o g) fun _ _ _ ix _=>es=1/\0<=i/\i<ix.length/\K (.mref (.xp i.toNat) o g) .none:=by
 simp only[ev];cases V.get o g with
 |none=>rfl
 |some x=>cases x<;>rfl
theorem en {ety es z own j o g y}:ev E dst V (.app ety es z own) [.mref (.row j) o g,y] K=Hj (V.get o g) fun e1 e2 nl ix rows=>Ax rows[j]? fun x=>Ax (DN V z y) fun ys =>
  es=1/\o<DB/\ety=e2/\H9 x=true/\ys≠[]/\Ci es ys/\x.2.length+ys.length<=Ck/\K (.mref (.row rows.length) o g) (.keep o g (.mat e1 e2 nl ix (rows.set j (false,[])++[(false,x.2++ys)]))):=by
 simp only[ev];cases V.get o g with
 |none=>rfl
 |some x =>
  cases x with
  |mat a b c ix rows=>simp only[Hj];cases rows[j]? with
   |none=>rfl
   |some x=>simp only[Ax];cases DN V z y<;>rfl
  |_=>rfl
theorem iJ {f xs}:ev E dst V (.mkfn f) xs K=K (.fn f xs) .none:=rfl
theorem iG {cs t}:ev E (some t) V (.zero cs) [] K=(t<DB/\K (.ptr t (V.cn t) 0) (.fresh t (.cells (cs.map .d)))):=rfl
theorem WC {ety es z t n m}:ev E (some t) V (.mksl ety es z true) [.d (.int .i64 n),.d (.int .i64 m)] K=(n=m/\0<=n/\n<=(Ck:Int)/\t<DB/\K (.own t (V.cn t)) (.fresh t (.row ety es false (List.replicate n.toNat z)))):=rfl
theorem X7 {es lo hi nl l rest}:ev E dst V (.slice es lo hi false) (.d (.list nl l)::rest) K=(Ci es l/\Px lo hi l.length rest fun a b=>K (.d (.list nl ((l.drop a).take (b-a)))) .none):=rfl
theorem an {es l k h k' m}:ev E dst V (.slice es false true true) [.d (.list false l),.d (.int k h),.d (.int k' m)] K=(Ci es l/\h=m/\0<=h/\h<=l.length/\K (.ex (l.take h.toNat)) .none):=rfl
theorem X8 {es k h k' m}:ev E dst V (.slice es false true true) [.d (.list true []),.d (.int k h),.d (.int k' m)] K=(h=0/\m=0/\K (.d (.list true [])) .none):=rfl
theorem jm {len:Nat}{C:Nat->Nat->Prop} {k h}:Px false true len [.d (.int k h)] C=(0<=h/\h<=len/\C 0 h.toNat):=rfl
theorem YA {o g}:ev E dst V (.len false) [.own o g] K=HB (V.get o g) fun _ _ _ l=>K (.d (.int .i64 l.length)) .none:=by
 simp only[ev,Bool.false_eq_true,if_false,AV.lenL,AV.asList];cases V.get o g with
 |none=>rfl
 |some x=>cases x<;>rfl
theorem av {o g}:ev E dst V (.len false) [.mref .out o g] K=Hj (V.get o g) fun _ _ _ ix _=>K (.d (.int .i64 ix.length)) .none:=by
 simp only[ev,Bool.false_eq_true,if_false,AV.lenL,AV.asList];cases V.get o g with
 |none=>rfl
 |some x=>cases x<;>first|rfl|simp[I9,Hj]
theorem el {n x}:ev E dst V (.eqnil n) [x,.d (.list true [])] K=Ax (x.asList V) fun p=>K (.d (.bool (if n then !p.1 else p.1))) .none:=by
 simp only[ev];cases x.asList V<;>rfl
theorem ki {n tys x y}:ev E dst V (.eqv n tys) [x,y] K=Ax x.toD1 fun a=>Ax y.toD1 fun b=>Fo tys a=true/\Fo tys b=true/\K (.d (.bool (if n then !DC a b else DC a b))) .none:=by
 simp only[ev];cases x.toD1<;>cases y.toD1<;>rfl
theorem kg {k n}:ev E dst V (.un .neg) [.d (.int k n)] K=K (.d (.int k (k.wrap (0-n)))) .none:=rfl
theorem ap {m k a rest}:ev E dst V (.minmax m) (.d (.int k a)::rest) K=Ax (FT m k a rest) fun r=>K (.d (.int k r)) .none:=by
 simp only[ev];cases FT m k a rest<;>rfl
theorem WD {tys z tys' kvs key}:ev E dst V (.lookup false tys z) [.d (.map tys' kvs),key] K=Ax key.toD1 fun k=>tys=tys'/\Fo tys k=true/\PM (FP k kvs) (fun v=>K (.d v) .none) (K (.d z) .none):=by
 simp only[ev];cases key.toD1 with
 |none=>rfl
 |some k=>simp only[Ax];cases FP k kvs<;>rfl
theorem WE {tys z o g key}:ev E dst V (.lookup true tys z) [.map o g,key] K=HC (V.get o g) (fun tys' kvs=>Ax key.toD1 fun k=>tys=tys'/\Fo tys k=true/\PM (FP k kvs) (fun v=>K (.tup [.d v,.d (.bool true)]) .none) (K (.tup [.d z,.d (.bool false)]) .none))
  fun tys' es _=>Ax key.toD1 fun k=>tys=tys'/\Fo tys k=true/\PM (FP k (es.map (·.2))) (fun v=>K (.tup [.d v,.d (.bool true)]) .none) (K (.tup [.d z,.d (.bool false)]) .none):=by
 simp only[ev];cases V.get o g with
 |none=>rfl
 |some x =>
  cases x with
  |map t l=>simp only[HC];cases key.toD1 with
   |none=>rfl
   |some k=>simp only[Ax];cases FP k l<;>rfl
  |mapB t l c=>simp only[HC];cases key.toD1 with
   |none=>rfl
   |some k=>simp only[Ax];cases FP k (l.map (·.2))<;>rfl
  |_=>rfl
theorem Ue {tys z tys' kvs key}:ev E dst V (.lookup true tys z) [.d (.map tys' kvs),key] K=Ax key.toD1 fun k=>tys=tys'/\Fo tys k=true/\PM (FP k kvs) (fun v=>K (.tup [.d v,.d (.bool true)]) .none) (K (.tup [.d z,.d (.bool false)]) .none):=by
 simp only[ev];cases key.toD1 with
 |none=>rfl
 |some k=>simp only[Ax];cases FP k kvs<;>rfl
theorem ar {tys o g key val}:ev E dst V (.mapupd tys) [.map o g,key,val] K=HC (V.get o g) (fun tys' kvs=>Ax key.toD1 fun k=>Ax val.toD1 fun v=>tys=tys'/\v.one=true/\Fo tys k=true/\K .undef (.keep o g (.map tys (cj k v kvs))))
  fun tys' es cl=>Ax key.toD1 fun k=>Ax val.toD1 fun v=>tys=tys'/\v.one=true/\Fo tys k=true/\K .undef (.keep o g (.mapB tys (fW k v es cl) (fX k es cl))):=by
 simp only[ev];cases V.get o g with
 |none=>rfl
 |some x =>
  cases x with
  |map t l=>simp only[HC];cases key.toD1<;>cases val.toD1<;>rfl
  |mapB t l c =>
   simp only[HC]
   cases key.toD1 with
   |none=>cases val.toD1<;>rfl
   |some k =>
    cases val.toD1 with
    |none=>rfl
    |some v=>simp only[Ax,fW,fX];cases EJ k (l.map (·.2))<;>rfl
  |_=>rfl
theorem aw {tys o g key}:ev E dst V (.delete tys) [.map o g,key] K=HC (V.get o g) (fun _ _=>False) fun tys' es cl=>Ax key.toD1 fun k=>tys=tys'/\Fo tys k=true/\K (.tup []) (.keep o g (.mapB tys (iX k es) cl)):=by
 simp only[ev];cases V.get o g with
 |none=>rfl
 |some x =>
  cases x with
  |mapB t l c=>simp only[HC];cases key.toD1<;>rfl
  |_=>rfl
theorem ao {t tys}:ev E (some t) V (.mkmapB tys) [] K=(t<DB/\K (.map t (V.cn t)) (.fresh t (.mapB tys [] 0))):=rfl
theorem WB {t o g}:ev E (some t) V .mrange [.map o g] K=Kd (V.get o g) fun _ cl=>t<DB/\K (.ptr t (V.cn t) 0) (.fresh t (.mitO o g cl [])):=by
 simp only[ev];cases V.get o g with
 |none=>rfl
 |some x=>cases x<;>rfl
theorem aq {o g}:ev E dst V .mentry [.ptr o g 0] K=PN (V.get o g) (fun mo mg n seen=>Kd (V.get mo mg) fun es cl=>cl=n/\Ax seen.getLast? fun b=>Ax (es.find? fun e=>e.1 == b) fun e=>K (.tup [.d e.2.1,.d e.2.2]) .none)
  fun _ kvs seen=>Ax seen.getLast? fun i=>Ax kvs[i]? fun kv=>K (.tup [.d kv.1,.d kv.2]) .none:=by
 simp only[ev];cases V.get o g with
 |none=>rfl
 |some x =>
  cases x with
  |mitO mo mg n seen =>
   simp only[PN]
   cases V.get mo mg with
   |none=>rfl
   |some y =>
    cases y with
    |map t l =>
     simp only[Ae.ents,Kd]
     cases seen.getLast? with
     |none=>simp[Ax]
     |some b=>simp only[Ax];cases (l.zipIdx.map fun p=>(p.2,p.1)).find? (fun e=>e.1 == b)<;>rfl
    |mapB t l c =>
     simp only[Ae.ents,Kd]
     cases seen.getLast? with
     |none=>simp[Ax]
     |some b=>simp only[Ax];cases l.find? (fun e=>e.1 == b)<;>rfl
    |_=>rfl
  |mitD t k seen =>
   simp only[PN]
   cases seen.getLast? with
   |none=>rfl
   |some i=>simp only[Ax];cases k[i]?<;>rfl
  |_=>rfl
theorem dl {o g}:NQ (.ptr o g 0) V K=PN (V.get o g) (fun mo mg n seen=>Kd (V.get mo mg) fun es cl=>cl=n/\gU es seen (fun b=>K (.tup [.d (.bool true),.undef,.undef]) (.keep o g (.mitO mo mg n (seen++[b])))) (K (.tup [.d (.bool false)]) .none))
  fun tys kvs seen=>mT kvs seen (fun i=>K (.tup [.d (.bool true),.undef,.undef]) (.keep o g (.mitD tys kvs (seen++[i])))) (K (.tup [.d (.bool false)]) .none):=by
 simp only[NQ];cases V.get o g with
 |none=>rfl
 |some x =>
  cases x with
  |mitO mo mg n seen =>
   simp only[PN]
   cases V.get mo mg with
   |none=>rfl
   |some y=>cases y<;>rfl
  |_=>rfl
theorem YG {ety es z own o g y}:ev E dst V (.app ety es z own) [.own o g,y] K=Ax (DN V z y) fun ys=>HB (V.get o g) fun ety' es' nl l=>o<DB/\ety=ety'/\es=es'/\Ci es ys/\l.length+ys.length<=Ck /\
  K (.own o (V.cn o)) (.fresh o (.row ety es (nl && ys.isEmpty) (l++ys))):=by
 simp only[ev];cases DN V z y with
 |none=>rfl
 |some ys =>
  simp only[Ax]
  cases V.get o g with
  |none=>rfl
  |some x=>cases x<;>rfl
theorem YH {ety es z t y}:ev E (some t) V (.app ety es z true) [.d (.list true []),y] K=Ax (DN V z y) fun ys=>Ci es ys/\ys.length<=Ck/\t<DB/\K (.own t (V.cn t)) (.fresh t (.row ety es ys.isEmpty ys)):=by
 simp only[ev];cases DN V z y<;>rfl
theorem WJ {ety es z y}:ev E dst V (.app ety es z false) [.d (.list true []),y] K=Ax (DN V z y) fun ys=>Ci es ys/\ys.length<=Ck/\K (.d (.list ys.isEmpty ys)) .none:=by
 simp only[ev];cases DN V z y<;>rfl
theorem YI {ety es z l y}:ev E dst V (.app ety es z false) [.ex l,y] K=Ax (DN V z y) fun ys=>Ci es (l++ys)/\l.length+ys.length<=Ck/\K (.d (.list false (l++ys))) .none:=by
 simp only[ev];cases DN V z y<;>rfl
theorem WI {f cs args}:ev E dst V .callv (.fn f cs::args) K=(BC E.P f=true/\DM E dst V f (args++cs) K):=rfl
theorem SH {f cs args}:ev E dst V .callv (.d (.bnd f cs)::args) K=(BC E.P f=true/\DM E dst V f (cs.map .d++args) K):=rfl
theorem YF {f cs args}:ev E dst V .callv (.d (.fn f cs)::args) K=(BC E.P f=true/\DM E dst V f (args++cs.map .d) K):=rfl
theorem bE {k k':IntKind}{a b:Int}{C:AV->Prop}:Du .eql k k' a b C=(k=k'/\C (.d (.bool (decide (a=b))))):=rfl
theorem a9 {k k':IntKind}{a b:Int}{C:AV->Prop}:Du .neq k k' a b C=(k=k'/\C (.d (.bool (!decide (a=b))))):=rfl
theorem bA {k k':IntKind}{a b:Int}{C:AV->Prop}:Du .lss k k' a b C=(k=k'/\C (.d (.bool (decide (a<b))))):=rfl
theorem bB {k k':IntKind}{a b:Int}{C:AV->Prop}:Du .leq k k' a b C=(k=k'/\C (.d (.bool (decide (a<=b))))):=rfl
theorem bC {k k':IntKind}{a b:Int}{C:AV->Prop}:Du .gtr k k' a b C=(k=k'/\C (.d (.bool (decide (b<a))))):=rfl
theorem bD {k k':IntKind}{a b:Int}{C:AV->Prop}:Du .geq k k' a b C=(k=k'/\C (.d (.bool (decide (b<=a))))):=rfl
theorem bF {k k':IntKind}{a b:Int}{C:AV->Prop}:Du .add k k' a b C=(k=k'/\C (.d (.int k (k.wrap (a+b))))):=rfl
theorem a5 {k k':IntKind}{a b:Int}{C:AV->Prop}:Du .sub k k' a b C=(k=k'/\C (.d (.int k (k.wrap (a-b))))):=rfl
theorem a_ {k k':IntKind}{a b:Int}{C:AV->Prop}:Du .mul k k' a b C=(k=k'/\C (.d (.int k (k.wrap (a*b))))):=rfl
theorem a8 {k k':IntKind}{a b:Int}{C:AV->Prop}:Du .quo k k' a b C=(k=k'/\b≠0/\C (.d (.int k (k.wrap (a.tdiv b))))):=rfl
theorem a7 {k k':IntKind}{a b:Int}{C:AV->Prop}:Du .rem k k' a b C=(k=k'/\b≠0/\C (.d (.int k (a.tmod b)))):=rfl
theorem a6 {k k':IntKind}{a b:Int}{C:AV->Prop}:Du .shr k k' a b C=(0<=b/\C (.d (.int k (a.fdiv (2^(min b.toNat k.bits)))))):=rfl
end
end Go.Pw
end
section
namespace Go.Pw
def Q_ (x:Option Ae) (A:List (List D)->Nat->Prop):Prop:=match x with|some (.hist els n false)=>A els n|_=>False
theorem Vi (els n A):Q_ (some (.hist els n false)) A=A els n:=rfl
section
variable {E:CU}{Q:CG->A3->Prop}{s s':A3}{K:AV->Bp->Prop}{KS:A3->Prop}
theorem bj {o g:Nat}{xs:List AV}{V:AO}:MI E (.own o g) xs V K=Q_ (V.get o g) fun els n=>Ax (Ea xs) fun ds=>els[n]?=some ds/\K (.d (.bool true)) (.keep o g (.hist els (n+1) false))/\K (.d (.bool false)) (.keep o g (.hist els (n+1) true)):=by
 simp only[MI,Q_]
 cases V.get o g with
 |none=>rfl
 |some x=>cases x with
  |hist els n st=>cases st<;>(simp only[Ax];try (cases Ea xs<;>rfl))
  |_=>rfl
theorem ba {xs:List AV}:Ea xs=Aw AV.toD1 xs:=rfl
theorem ej {dst:Option Nat}{V:AO}{f:FuncId}{xs:List AV}:ev E dst V (.mkbnd f) xs K=K (.bnd f xs) .none:=by
 rfl
theorem Ww {sl:Nat->AV}{V:AO}:E7 [] sl V=true:=rfl
def fN (V:AO) (o:Nat):Bool:=match V.ob o with|some (g,_)=>g == 0|none=>false
theorem U0 {k:Nat}{ks:List Nat}{sl:Nat->AV}{V:AO}:E7 (k::ks) sl V=((sl k).sites.all (fN V) && E7 ks sl V):=rfl
def fM (x:Option (Nat×Ae)):Bool:=match x with|some (g,_)=>g == 0|none=>false
theorem bd {ob cn o}:fN ⟨ob,cn⟩ o=fM (ob o):=rfl
theorem Wo {g x}:fM (some (g,x))=(g == 0):=rfl
theorem fU {m:List (Nat×(Nat×Ae))}{cn:Nat->Nat}{os:List Nat}:(AO.mk (A7 m) cn).nrm os=⟨A7 (EI ⟨A7 m,cn⟩ os os),fun _=>1⟩:=by
 have:=dh (fun _=>.undef) ⟨A7 m,cn⟩ [] os
 have h2:((A3.mk (fun _=>.undef) ⟨A7 m,cn⟩).nrm [] os).V=(AO.mk (A7 m) cn).nrm os:=rfl
 rw[←h2,this]
theorem kI {o:Nat}:Oc o=if 900000<=o/\o<5000000 then o else o+5000000:=rfl
def mvL (l:List (Nat×AV)):List (Nat×AV):=l.map fun p=>(p.1,p.2.mv)
theorem ge:mvL []=[]:=rfl
theorem Vn {k v l}:mvL ((k,v)::l)=(k,v.mv)::mvL l:=rfl
def Xl (k:Nat) (g:Nat) (x:Option Ae) (r:List (Nat×(Nat×Ae))):List (Nat×(Nat×Ae)):=match x with
 |some y=>(Oc k,(g,y))::r
 |none=>r.filter fun p=>!(p.1 == Oc k)
def gc:List (Nat×(Nat×Ae))->List (Nat×(Nat×Ae))
 |[]=>[]
 |(k,(g,x))::l=>Xl k g x.mv (gc l)
theorem gb:gc []=[]:=rfl
theorem Vm {k g x l}:gc ((k,(g,x))::l)=Xl k g x.mv (gc l):=rfl
theorem Z_ {k g y r}:Xl k g (some y) r=(Oc k,(g,y))::r:=rfl
theorem Od {k g r}:Xl k g none r=r.filter fun p=>!(p.1 == Oc k):=rfl
theorem I_ (k:Nat):∀(l:List (Nat×(Nat×Ae))) (t:Nat),A7 (l.filter fun p=>!(p.1 == k)) t=if t=k then none else A7 l t
 |[],t=>by simp[A7]
 |p::l,t=>by
  obtain⟨a,b⟩:=p
  have ih:=I_ k l t
  by_cases h:a=k
  ·subst h
   rw[List.filter_cons,if_neg (by simp),ih]
   by_cases ht:t=a
   ·simp[ht]
   ·simp[ht,A7]
  ·rw[List.filter_cons,if_pos (by simpa using h)]
   simp only[A7,ih]
   by_cases ht:t=a
   ·subst ht;simp[h]
   ·simp[ht]
theorem Vq:∀(m:List (Nat×(Nat×Ae))) (o:Nat),A7 (gc m) o=if Oc (unr o)=o then (match A7 m (unr o) with
   |some (g,x)=>match x.mv with|some y=>some (g,y)|none=>none
   |none=>none) else none
 |[],o=>by simp[gc,A7]
 |(k,(g,x))::m,o=>by
  have ih:=Vq m o
  rw[Vm]
  by_cases h:o=Oc k
  ·subst h
   rw[HR,if_pos rfl]
   cases hx:x.mv with
   |some y=>simp[Xl,A7,hx]
   |none=>rw[Od,I_,if_pos rfl];simp[A7,hx]
  ·have hk:Oc (unr o)=o->unr o≠k:=fun h1 h2=>h (by rw[←h1,h2])
   have hrest:A7 (Xl k g x.mv (gc m)) o=A7 (gc m) o:=by
    cases x.mv with
    |some y=>simp[Xl,A7,h]
    |none=>rw[Od,I_,if_neg h]
   rw[hrest,ih]
   by_cases h1:Oc (unr o)=o
   ·rw[if_pos h1,if_pos h1]
    have:=hk h1
    simp[A7,this]
   ·rw[if_neg h1,if_neg h1]
theorem lZ {l:List (Nat×AV)}{m:List (Nat×(Nat×Ae))}{cn:Nat->Nat}:(A3.mk (Dc l) ⟨A7 m,cn⟩).mv=⟨Dc (mvL l),⟨A7 (gc m),fun _=>1⟩⟩:=by
 have h1:(fun t=>(Dc l t).mv)=Dc (mvL l):=by
  funext t
  induction l with
  |nil=>rfl
  |cons p l ih =>
   obtain⟨k,v⟩:=p
   simp only[Vn,Dc]
   by_cases h:t=k
   ·simp[h]
   ·simp only[if_neg h];exact ih
 show A3.mk (fun t=>(Dc l t).mv) _=_
 rw[h1]
 refine congrArg (fun ob=>A3.mk _ (AO.mk ob _)) ?_
 funext o
 exact(Vq m o).symm
theorem jQ {o:Nat}:Iu o=if o<900000 then o+5000000 else if 5000000<=o/\o<5900000 then o-5000000 else o:=rfl
def cL (l:List (Nat×AV)):List (Nat×AV):=l.map fun p=>(p.1,p.2.sw)
theorem cJ:cL []=[]:=rfl
theorem Ss {k v l}:cL ((k,v)::l)=(k,v.sw)::cL l:=rfl
def lK (m:List (Nat×(Nat×Ae))):List (Nat×(Nat×Ae)):=m.map fun p=>(Iu p.1,(p.2.1,p.2.2.sw))
theorem fm:lK []=[]:=rfl
theorem U8 {k g x l}:lK ((k,(g,x))::l)=(Iu k,(g,x.sw))::lK l:=rfl
theorem lI {l:List (Nat×AV)}{m:List (Nat×(Nat×Ae))}{cn:Nat->Nat}:(A3.mk (Dc l) ⟨A7 m,cn⟩).sw=⟨Dc (cL l),⟨A7 (lK m),fun _=>1⟩⟩:=by
 have h1:(fun t=>(Dc l t).sw)=Dc (cL l):=by
  funext t
  induction l with
  |nil=>rfl
  |cons p l ih =>
   obtain⟨k,v⟩:=p
   simp only[Ss,Dc]
   by_cases h:t=k
   ·simp[h]
   ·simp only[if_neg h];exact ih
 have h2:(fun o=>lJ (A7 m (Iu o)))=A7 (lK m):=by
  funext o
  induction m with
  |nil=>rfl
  |cons p m ih =>
   obtain⟨k,g,x⟩:=p
   simp only[U8,A7]
   by_cases h:Iu o=k
   ·have h':o=Iu k:=by rw[←h,EM]
    rw[if_pos h,if_pos h'];rfl
   ·have h':o≠Iu k:=fun he=>h (by rw[he,EM])
    rw[if_neg h,if_neg h'];exact ih
 show A3.mk (fun t=>(Dc l t).sw) ⟨fun o=>lJ (A7 m (Iu o)),fun _=>1⟩=_
 rw[h1,h2]
theorem Zz {xs}:(Ae.cells xs).sw=.cells (xs.map AV.sw):=rfl
theorem dT {a l c}:(Ae.mapB a l c).sw=.mapB a l c:=rfl
theorem mI {x}:(AV.d x).sw=.d x:=rfl
theorem jR {o g f}:(AV.ptr o g f).sw=.ptr (Iu o) g f:=rfl
theorem jS {o g}:(AV.map o g).sw=.map (Iu o) g:=rfl
theorem dr {V}:Xo [] V=true:=rfl
theorem aE {o os V}:Xo (o::os) V=(aD o (V.ob o) && Xo os V):=rfl
theorem aA {o}:aD o none=true:=rfl
theorem Xn {o g l}:aD o (some (g,.cells l))=decide (900000<=o):=rfl
theorem aB {o g a b c}:aD o (some (g,.mapB a b c))=decide (900000<=o):=rfl
theorem iT {s:A3}{K:A3->Prop}:WO true s K=K s.sw:=rfl
theorem iU {s:A3}{K:A3->Prop}:WO false s K=K s:=rfl
theorem eP {ks os:List Nat}{s:A3}{K:A3->Prop}:EX (.down ks os) s K=WO (Xo os (s.nrm ks os).V) (s.nrm ks os) K:=rfl
theorem Z5 {xs}:(Ae.cells xs).mv=some (.cells (xs.map AV.mv)):=rfl
theorem mV {x}:(AV.d x).mv=.d x:=rfl
theorem dY {a l c}:(Ae.mapB a l c).mv=some (.mapB a l c):=rfl
theorem kJ {o g f}:(AV.ptr o g f).mv=.ptr (Oc o) g f:=rfl
theorem kK {o g}:(AV.map o g).mv=.map (Oc o) g:=rfl
theorem Z3 {V:AO} {os a l c}:(Ae.mapB a l c).nrm V os=some (.mapB a l c):=rfl
theorem Z2 {V:AO} {os q p n l}:(Ae.mitO q p n l).nrm V os=if AV.nrm.live V os q p then some (.mitO q 0 n l) else none:=rfl
theorem Z4 {V:AO} {os a b l}:(Ae.hist a b l).nrm V os=some (.hist a b l):=rfl
theorem UQ {A:A3->Prop}:NN A .normal s=A s:=rfl
theorem Za {sl:Nat->AV} {ds}:KB sl [] ds=sl:=by cases ds<;>rfl
theorem XK {sl:Nat->AV} {p ps d ds}:KB sl (p::ps) (d::ds)=KB (CN sl p (.d d)) ps ds:=rfl
def VY {α:Type}(T:α->AO) (Inv:Nat->α->Prop) (PInv:CG->α->Prop) (m:Nat) (gs:List Dw) (ks os:List Nat) (sl:Nat->AV) (e:CG) (s:A3):Prop :=
 CS gs s fun s'=>E7 ks sl (s'.V.nrm os)=true/\∃y,s'.V.nrm os=T y/\(match e with|.normal=>Inv m y|e=>PInv e y)
theorem VX {α:Type}{T:α->AO} {Inv PInv m gs ks os sl}:VY T Inv PInv m gs ks os sl .normal s=CS gs s fun s'=>E7 ks sl (s'.V.nrm os)=true/\∃y,s'.V.nrm os=T y/\Inv m y:=rfl
theorem Zn {α:Type}{T:α->AO} {Inv PInv m gs ks os sl i}:VY T Inv PInv m gs ks os sl (.exit i) s=CS gs s fun s'=>E7 ks sl (s'.V.nrm os)=true/\∃y,s'.V.nrm os=T y/\PInv (.exit i) y:=rfl
theorem cv {α:Type}{T:α->AO} {Inv PInv m gs ks os sl}:VY T Inv PInv m gs ks os sl .ret s=CS gs s fun s'=>E7 ks sl (s'.V.nrm os)=true/\∃y,s'.V.nrm os=T y/\PInv .ret y:=rfl
theorem gD {α:Type}(T:α->AO) (Inv:Nat->α->Prop) (PInv:CG->α->Prop) (x0:α) {ps ks os:List Nat}{b:PC}{gs2:List Dw}{os2:List Nat}{a:PC}{f:FuncId}{pre post:List D}{els:List (List D)}{sl1:Nat->AV}{s1:A3}
  (h2:(s1.nrm ks os).mv=⟨sl1,T x0⟩) (hr:(b.noR && a.noR)=true) (hs:Ru E f pre post els) (hw:E7 ks sl1 (T x0)=true) (hI:Inv 0 x0)
  (step:∀n x ds,els[n]?=some ds->Inv n x->ps.length=ds.length/\pw E b (NN fun s2=>pw E a (VY T Inv PInv (n+1) gs2 ks os2 sl1) s2) ⟨KB sl1 ps ds,T x⟩)
  (hend:∀x,Inv els.length x->Q .normal ⟨sl1,T x⟩) (hjump:∀e x,PInv e x->Q e ⟨sl1,T x⟩) :
  (b.noR && a.noR)=true/\∃els,Ru E f pre post els/\∃(JJ:Nat->AO->Prop) (Pd:CG->AO->Prop),
   E7 ks (s1.nrm ks os).mv.sl (s1.nrm ks os).mv.V=true/\JJ 0 (s1.nrm ks os).mv.V /\
   (∀n V ds,V.cn=(fun _=>1)->els[n]?=some ds->JJ n V->ps.length=ds.length /\
    pw E b (NN fun s2=>pw E a (jn JJ Pd (n+1) gs2 ks os2 (s1.nrm ks os).mv.sl) s2) ⟨KB (s1.nrm ks os).mv.sl ps ds,V⟩) /\
   (∀V,V.cn=(fun _=>1)->JJ els.length V->Q .normal ⟨(s1.nrm ks os).mv.sl,V⟩) /\
   ∀e V,V.cn=(fun _=>1)->Pd e V->Q e ⟨(s1.nrm ks os).mv.sl,V⟩:=by
 refine⟨hr,els,hs,fun n V=>∃x,V=T x/\Inv n x,fun e V=>∃x,V=T x/\PInv e x,?_,?_,?_,?_,?_⟩
 ·rw[h2];exact hw
 ·rw[h2];exact⟨x0,rfl,hI⟩
 ·rintro n V ds _ hds ⟨x,rfl,hx⟩
  obtain⟨k1,k2⟩:=step n x ds hds hx
  refine⟨k1,?_⟩
  rw[h2]
  refine F4 k2 fun e s2 h3=>?_
  cases e with
  |normal =>
   refine F4 h3 fun e s3 h4=>?_
   refine Cu (fun s4 h5=>?_) h4
   obtain⟨k3,y,k4,k5⟩:=h5
   refine⟨k3,?_⟩
   cases e with
   |normal=>exact⟨y,k4,k5⟩
   |exit i=>exact⟨y,k4,k5⟩
   |ret=>exact⟨y,k4,k5⟩
  |exit i=>exact h3
  |ret=>exact h3
 ·rintro V _ ⟨x,rfl,hx⟩
  rw[h2];exact hend x hx
 ·rintro e V _ ⟨x,rfl,hx⟩
  rw[h2];exact hjump e x hx
theorem QO {α:Type}(T:α->AO) (Inv:Nat->α->Prop) (PInv:CG->α->Prop) (x0:α) {gs:List Dw}{g:Gh}{ps ks os:List Nat}{b:PC}{gs2:List Dw}{os2:List Nat}{a:PC}{f:FuncId}{pre post:List D}{els:List (List D)}{sl1:Nat->AV}
  (h0:CS gs s fun s1=>((∃cs,g.val s1.sl=.bnd f cs/\Ea cs=some pre)/\post=[]\/g.val s1.sl=.d (.fn f post)/\pre=[])/\(s1.nrm ks os).mv=⟨sl1,T x0⟩) (hT:∀x,(T x).cn=fun _=>1) (hb:BC E.P f=true) (hr:(b.noR && a.noR)=true) (hs:Ru E f pre post els) (hw:E7 ks sl1 (T x0)=true) (hI:Inv 0 x0)
  (step:∀n x ds,els[n]?=some ds->Inv n x->ps.length=ds.length/\pw E b (NN fun s2=>pw E a (VY T Inv PInv (n+1) gs2 ks os2 sl1) s2) ⟨KB sl1 ps ds,T x⟩)
  (hend:∀x,Inv els.length x->Q .normal ⟨sl1,T x⟩) (hjump:∀e x,PInv e x->Q e ⟨sl1,T x⟩):pw E (.rngF gs g ps ks os b gs2 os2 a) Q s:=by
 refine Cu (fun s1 h=>?_) h0
 obtain⟨h1,h2⟩:=h
 suffices hk:UK E (g.val s1.sl) (fun f' pre' post'=>f'=f/\pre'=pre/\post'=post) by
  refine S5 (fun f' pre' post' hk=>?_) hk
  obtain⟨rfl,rfl,rfl⟩:=hk
  exact gD T Inv PInv x0 h2 hr hs hw hI step hend hjump
 unfold UK
 rcases h1 with⟨⟨cs,h1,h1'⟩,rfl⟩|⟨h1,rfl⟩
 ·rw[h1];dsimp only;rw[h1'];exact⟨hb,rfl,rfl,rfl⟩
 ·rw[h1];exact⟨hb,rfl,rfl,rfl⟩
theorem LJ {α:Type}(uo:α->List (Nat×Ae)) (Inv:Nat->α->Prop) (PInv:CG->α->Prop) (x0:α) {so:List (Nat×(Nat×Ae))->List (Nat×Ae)->List (Nat×(Nat×Ae))}{gs:List Dw}{g:Gh}{ps ks os:List Nat}{b:PC}{gs2:List Dw}{os2:List Nat}{a:PC}{f:FuncId}{pre post:List D}{els:List (List D)}{l0:List (Nat×AV)}{m0:List (Nat×(Nat×Ae))}
  (hs:Ru E f pre post els) (hb:BC E.P f=true) (h0:CS gs s fun s1=>((∃cs,g.val s1.sl=.bnd f cs/\Ea cs=some pre)/\post=[]\/g.val s1.sl=.d (.fn f post)/\pre=[])/\(s1.nrm ks os).mv=⟨Dc l0,⟨A7 m0,fun _=>1⟩⟩) (he:so m0 (uo x0)=m0) (hr:(b.noR && a.noR)=true) (hw:E7 ks (Dc l0) ⟨A7 m0,fun _=>1⟩=true) (hI:Inv 0 x0)
  (step:∀n x ds,els[n]?=some ds->Inv n x->ps.length=ds.length/\pw E b (NN fun s2=>pw E a (VY (fun x=>⟨A7 (so m0 (uo x)),fun _=>1⟩) Inv PInv (n+1) gs2 ks os2 (Dc l0)) s2) ⟨KB (Dc l0) ps ds,⟨A7 (so m0 (uo x)),fun _=>1⟩⟩)
  (hend:∀x,Inv els.length x->Q .normal ⟨Dc l0,⟨A7 (so m0 (uo x)),fun _=>1⟩⟩) (hjump:∀e x,PInv e x->Q e ⟨Dc l0,⟨A7 (so m0 (uo x)),fun _=>1⟩⟩):pw E (.rngF gs g ps ks os b gs2 os2 a) Q s :=
 QO (fun x=>⟨A7 (so m0 (uo x)),fun _=>1⟩) Inv PInv x0 (by rw[he];exact h0) (fun _=>rfl) hb hr hs (by rw[he];exact hw) hI step hend hjump
end
theorem d7 {α:Type}{S:AO}{T:α->AO}{I:α->Prop}(h:∃y,S=T y/\I y):∃y,S=T y/\I y:=h
theorem IV {α β:Type}{S:AO}{T:α×β->AO}{I:α×β->Prop}(h:∃y,S=T y/\I y):∃y,S=T y/\I y:=h
theorem Jo {α β γ:Type}{S:AO}{T:α×β×γ->AO}{I:α×β×γ->Prop}(h:∃y,S=T y/\I y):∃y,S=T y/\I y:=h
theorem TN {α β γ δ:Type}{S:AO}{T:α×β×γ×δ->AO}{I:α×β×γ×δ->Prop}(h:∃y,S=T y/\I y):∃y,S=T y/\I y:=h
end Go.Pw
end
