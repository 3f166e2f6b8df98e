/- A part of the proof. -/
import Derived.Test.YtpcpcjbbdgmohaaPwZ
set_option linter.all false
section
namespace Go.Pw
def Gy (x:Option AE) (A:List AV->Prop):Prop:=match x with|some (.cells cs)=>A cs|_=>False
def Fq (x:Option AE) (A:Nat->Nat->Bool->List D->Prop):Prop:=match x with|some (.row a b c l)=>A a b c l|_=>False
def LD (x:Option AE) (A:Nat->Nat->Bool->List D->Prop) (B:Nat->List D->Nat->Nat->Nat->Prop):Prop:=match x with|some (.row a b c l)=>A a b c l|some (.rowH a l i q p)=>B a l i q p|_=>False
def gx (x:Option AE) (A:HQ->List (D×D)->Prop):Prop:=match x with|some (.map t l)=>A t l|_=>False
def Fr (x:Option AE) (A:Nat->Nat->Bool->List Nat->List (Bool×List D)->Prop):Prop:=match x with|some (.mat a b c d e)=>A a b c d e|_=>False
def Ay {α:Type}(x:Option α) (A:α->Prop):Prop:=match x with|some v=>A v|none=>False
def QJ {α:Type}(x:Option α) (A:α->Prop) (B:Prop):Prop:=match x with|some v=>A v|none=>B
theorem RK (cs A):Gy (some (.cells cs)) A=A cs:=rfl
theorem UO (a b c l A):Fq (some (.row a b c l)) A=A a b c l:=rfl
theorem UP (a b c l A B):LD (some (.row a b c l)) A B=A a b c l:=rfl
def Gf (x:Option AE) (A:HQ->List (D×D)->Prop) (B:HQ->List (Nat×D×D)->Nat->Prop):Prop:=match x with
 |some (.map t l)=>A t l
 |some (.mapB t l c)=>B t l c
 |_=>False
theorem Sf (t l c A B):Gf (some (.mapB t l c)) A B=B t l c:=rfl
def Jq (x:Option AE) (A:List (Nat×D×D)->Nat->Prop):Prop:=match x with
 |some (.map _ l)=>A (l.zipIdx.map fun p=>(p.2,p.1)) l.length
 |some (.mapB _ l c)=>A l c
 |_=>False
theorem Sg (t l c A):Jq (some (.mapB t l c)) A=A l c:=rfl
def Lt (x:Option AE) (A:Nat->Nat->Nat->List Nat->Prop) (B:HQ->List (D×D)->List Nat->Prop):Prop:=match x with
 |some (.mitO o g n l)=>A o g n l
 |some (.mitD t k l)=>B t k l
 |_=>False
theorem bZ (o g n l A B):Lt (some (.mitO o g n l)) A B=A o g n l:=rfl
theorem ba (t k l A B):Lt (some (.mitD t k l)) A B=B t k l:=rfl
def be (es:List (Nat×D×D)) (seen:List Nat) (A:Nat->Prop) (B:Prop):Prop:=(∀e,e∈es->seen.contains e.1=false->A e.1)/\((∀e,e∈es->seen.contains e.1=true)->B)
def bf (kvs:List (D×D)) (seen:List Nat) (A:Nat->Prop) (B:Prop):Prop:=(∀i,i<kvs.length->seen.contains i=false->A i)/\((∀i,i<kvs.length->seen.contains i=true)->B)
theorem Y6 {es:List (Nat×D×D)}{seen:List Nat}{A:Nat->Prop}{B:Prop}(h1:∀e,e∈es->seen.contains e.1=false->A e.1) (h2:(∀e,e∈es->seen.contains e.1=true)->B):be es seen A B:=⟨h1,h2⟩
theorem eS {kvs:List (D×D)}{seen:List Nat}{A:Nat->Prop}{B:Prop}(h1:∀i,i<kvs.length->seen.contains i=false->A i) (h2:(∀i,i<kvs.length->seen.contains i=true)->B):bf kvs seen A B:=⟨h1,h2⟩
def YE (k v:D) (es:List (Nat×D×D)) (cl:Nat):List (Nat×D×D):=match Eu k (es.map (·.2)) with
 |some i=>(match es[i]? with|some e=>es.set i (e.1,k,v)|none=>es)
 |none=>es++[(cl,k,v)]
def YF (k:D) (es:List (Nat×D×D)) (cl:Nat):Nat:=match Eu k (es.map (·.2)) with
 |some _=>cl
 |none=>cl+1
def fK (k:D) (es:List (Nat×D×D)):List (Nat×D×D):=match Eu k (es.map (·.2)) with
 |some i=>es.eraseIdx i
 |none=>es
theorem Sc {α:Type}(v:α) (A:α->Prop):Ay (some v) A=A v:=rfl
theorem UQ {α:Type}(v:α) (A:α->Prop) (B:Prop):QJ (some v) A B=A v:=rfl
theorem UR {α:Type}(A:α->Prop) (B:Prop):QJ none A B=B:=rfl
section
variable {E:C3}{dst:Option Nat}{V:AB}{K:AV->Bk->Prop}
theorem eO {α:Type}{n:Nat}{cs:List α}{off:Nat}{mk:List α->AV}{one:α->AV}{C:AV->Prop}:Ca true n cs off mk one C=(off+n<=cs.length/\C (mk ((cs.drop off).take n))):=by simp[Ca]
theorem eP {α:Type}{n:Nat}{cs:List α}{off:Nat}{mk:List α->AV}{one:α->AV}{C:AV->Prop}:Ca false n cs off mk one C=Ay cs[off]? fun v=>C (one v):=by
 simp only[Ca,Bool.false_eq_true,if_false];cases cs[off]?<;>rfl
theorem TG {ag n o g off}:ev E dst V (.load ag n) [.ptr o g off] K=Gy (V.get o g) fun cs=>Ca ag n cs off .agg id (K · .none):=by
 simp only[ev];cases V.get o g with
 |none=>rfl
 |some x=>cases x<;>rfl
theorem RY {ag n o g es i off}:ev E dst V (.load ag n) [.rptr o g es i off] K=LD (V.get o g) (fun _ es' _ l=>es=es'/\Ay l[i]? fun x=>Ca ag n x.cells off (fun cs=>.d (.agg cs)) .d (K · .none))
  fun _ l k q p=>es=1/\(i=k->Ca ag n [.own q p] off .agg id (K · .none))/\(i≠k->Ay l[i]? fun x=>Ca ag n x.cells off (fun cs=>.d (.agg cs)) .d (K · .none)):=by
 simp only[ev];cases V.get o g with
 |none=>rfl
 |some x =>
  cases x with
  |row a b c l=>simp only[LD];cases l[i]?<;>rfl
  |rowH a l k q p=>simp only[LD];cases l[i]?<;>rfl
  |_=>rfl
theorem RZ {ag n cs off}:ev E dst V (.load ag n) [.dptr cs off] K=Ca ag n cs off (fun cs=>.d (.agg cs)) .d (K · .none):=rfl
theorem XV {ag n cs}:ev E dst V (.load ag n) [.d (.ptr cs)] K=Ca ag n cs 0 (fun cs=>.d (.agg cs)) .d (K · .none):=rfl
theorem RR {n o g off v}:ev E dst V (.store n) [.ptr o g off,v] K=Gy (V.get o g) fun cs=>Ay v.cells? fun vs=>vs.length=n/\off+n<=cs.length/\K .undef (.keep o g (.cells (BK cs off vs))):=by
 unfold ev Gy Ay;simp only
 cases V.get o g with
 |none=>rfl
 |some x=>cases x<;>cases v.cells?<;>rfl
theorem Rb {off o g a}:ev E dst V (.faddr off) [.ptr o g a] K=K (.ptr o g (a+off)) .none:=rfl
theorem Pf {off o g es i a}:ev E dst V (.faddr off) [.rptr o g es i a] K=K (.rptr o g es i (a+off)) .none:=rfl
theorem Pg {off cs a}:ev E dst V (.faddr off) [.dptr cs a] K=K (.dptr cs (a+off)) .none:=rfl
theorem U1 {off cs}:ev E dst V (.faddr off) [.d (.ptr cs)] K=K (.dptr cs off) .none:=rfl
theorem co {nl:Bool}{l:List D}:ev E dst V (.len false) [.d (.list nl l)] K=K (.d (.int .i64 l.length)) .none:=rfl
theorem Uz {es nl l k i}:ev E dst V (.iaddrS es) [.d (.list nl l),.d (.int k i)] K=(0<=i/\i<l.length/\Ay l[i.toNat]? fun x=>x.cells.length=es/\K (.dptr x.cells 0) .none):=by
 simp only[ev];cases l[i.toNat]?<;>rfl
theorem fG {t v}:ev E (some t) V .box [v] K=Ay v.cells? fun cs=>t<A2/\K (.ptr t (V.cn t) 0) (.fresh t (.cells cs)):=by
 simp only[ev];cases v.cells?<;>rfl
theorem cq {k k' n}:ev E dst V (.conv k) [.d (.int k' n)] K=K (.d (.int k (k.wrap n))) .none:=rfl
theorem U2 {i vs}:ev E dst V (.extract i) [.tup vs] K=Ay vs[i]? fun v=>K v .none:=by
 simp only[ev];cases vs[i]?<;>rfl
theorem cr {f xs}:ev E dst V (.call f) xs K=Dk E dst V f xs K:=rfl
theorem Ni {n o g es0 i off x}:ev E dst V (.store n) [.rptr o g es0 i off,.d x] K=Fq (V.get o g) fun ety es nl l=>Ay (AV.d x).toD1 fun y=>es0=es/\Ay l[i]? fun x=>y.cells.length=n/\off+n<=x.cells.length/\(n=es\/1<x.cells.length) /\
  K .undef (.keep o g (.row ety es nl (l.set i (if n=es then y else .agg (BK x.cells off y.cells))))):=by
 simp only[ev];cases V.get o g with
 |none=>rfl
 |some x =>
  cases x with
  |row a b c l=>simp only[Fq];cases (AV.d x).toD1 with
   |none=>rfl
   |some y=>simp only[Ay];cases l[i]?<;>rfl
  |_=>rfl
theorem MC {n o g es0 i off x}:ev E dst V (.store n) [.rptr o g es0 i off,.agg x] K=Fq (V.get o g) fun ety es nl l=>Ay (AV.agg x).toD1 fun y=>es0=es/\Ay l[i]? fun x=>y.cells.length=n/\off+n<=x.cells.length/\(n=es\/1<x.cells.length) /\
  K .undef (.keep o g (.row ety es nl (l.set i (if n=es then y else .agg (BK x.cells off y.cells))))):=by
 simp only[ev];cases V.get o g with
 |none=>rfl
 |some x =>
  cases x with
  |row a b c l=>simp only[Fq];cases (AV.agg x).toD1 with
   |none=>rfl
   |some y=>simp only[Ay];cases l[i]?<;>rfl
  |_=>rfl
theorem RS {o g off}:ev E dst V .nilck [.ptr o g off] K=K (.ptr o g off) .none:=rfl
theorem Pc {o g es i off}:ev E dst V .nilck [.rptr o g es i off] K=K (.rptr o g es i off) .none:=rfl
theorem U0 {ag off n cs}:ev E dst V (.field ag off n) [.d (.agg cs)] K=Ca ag n cs off (fun cs=>.d (.agg cs)) .d (K · .none):=rfl
theorem Ra {es o g k i}:ev E dst V (.iaddrS es) [.own o g,.d (.int k i)] K=LD (V.get o g) (fun _ es' _ l=>es=es'/\0<=i/\i<l.length/\K (.rptr o g es i.toNat 0) .none) fun _ l _ _ _=>es=1/\0<=i/\i<l.length/\K (.rptr o g es i.toNat 0) .none:=by
 simp only[ev];cases V.get o g with
 |none=>rfl
 |some x=>cases x<;>rfl
theorem TJ {es l k i}:ev E dst V (.iaddrS es) [.ex l,.d (.int k i)] K=(0<=i/\i<l.length/\Ay l[i.toNat]? fun x=>x.cells.length=es/\K (.dptr x.cells 0) .none):=by
 simp only[ev];cases l[i.toNat]?<;>rfl
theorem Pe {len es o g off k i}:ev E dst V (.iaddrA len es) [.ptr o g off,.d (.int k i)] K=(0<=i/\i<len/\K (.ptr o g (off+i.toNat * es)) .none):=rfl
theorem ci {sb:ByteArray} {k i}:ev E dst V (.strx sb) [.d (.int k i)] K=(0<=i/\Ay sb[i.toNat]? fun b=>K (.d (.int .u8 b.toNat)) .none):=by
 show (0<=i/\_)=_
 cases sb[i.toNat]?<;>rfl
theorem Z1 {z pl xs}:ev E dst V (.build z pl) xs K=Ay (Ku (z.map .d) (pl.zip xs)) fun cs=>pl.length=xs.length/\K (.agg cs) .none:=by
 simp only[ev];cases Ku (z.map .d) (pl.zip xs)<;>rfl
theorem RV {es z n ix}:ev E dst V (.mkrow es z n ix) [] K=Ay (Fd es (List.replicate n z) (ix.zip [])) fun l=>ix.length=0/\K (.ex l) .none:=by
 simp only[ev];cases Fd es (List.replicate n z) (ix.zip [])<;>rfl
theorem Uv {es z n ix x xs}:ev E dst V (.mkrow es z n ix) (.d x::xs) K=Ay (Fd es (List.replicate n z) (ix.zip (.d x::xs))) fun l=>ix.length=(.d x::xs).length/\K (.ex l) .none:=by
 simp only[ev];cases Fd es (List.replicate n z) (ix.zip (.d x::xs))<;>rfl
theorem RX {es z n ix x xs}:ev E dst V (.mkrow es z n ix) (.agg x::xs) K=Ay (Fd es (List.replicate n z) (ix.zip (.agg x::xs))) fun l=>ix.length=(.agg x::xs).length/\K (.ex l) .none:=by
 simp only[ev];cases Fd es (List.replicate n z) (ix.zip (.agg x::xs))<;>rfl
theorem TE {es z n ix x xs}:ev E dst V (.mkrow es z n ix) (.ex x::xs) K=Ay (Fd es (List.replicate n z) (ix.zip (.ex x::xs))) fun l=>ix.length=(.ex x::xs).length/\K (.ex l) .none:=by
 simp only[ev];cases Fd es (List.replicate n z) (ix.zip (.ex x::xs))<;>rfl
theorem RU {es z n ix q p}:ev E dst V (.mkrow es z n ix) [.own q p] K=(es=1/\n=1/\ix=[0]/\K (.ablk true [.own q p] 0) .none):=rfl
theorem US (a b c d e A):Fr (some (.mat a b c d e)) A=A a b c d e:=rfl
theorem Uw {ag n o g i}:ev E dst V (.load ag n) [.mref (.xp i) o g] K=Fr (V.get o g) fun _ _ _ ix _=>Ay ix[i]? fun j=>Ca ag n [.mref (.row j) o g] 0 .agg id (K · .none):=by
 simp only[ev];cases V.get o g with
 |none=>rfl
 |some x =>
  cases x with
  |mat a b c ix rows=>simp only[Fr];cases ix[i]?<;>rfl
  |_=>rfl
theorem Ux {ag n o g j k}:ev E dst V (.load ag n) [.mref (.mp j k) o g] K=Fr (V.get o g) fun _ _ _ _ rows=>Ay rows[j]? fun x=>Ay x.2[k]? fun y=>Ca ag n y.cells 0 (fun cs=>.d (.agg cs)) .d (K · .none):=by
 simp only[ev];cases V.get o g with
 |none=>rfl
 |some x =>
  cases x with
  |mat a b c ix rows=>simp only[Fr];cases rows[j]? with
   |none=>rfl
   |some x=>simp only[Ay];cases x.2[k]?<;>rfl
  |_=>rfl
theorem fB {es o g k i}:ev E dst V (.sub es) [.own o g,.d (.int k i)] K=Fq (V.get o g) fun _ es' nl l=>nl=false/\es=es'/\0<=i/\i<=l.length/\K (.mref (.rs i.toNat es) o g) .none:=by
 simp only[ev];cases V.get o g with
 |none=>rfl
 |some x=>cases x<;>rfl
theorem fF {zs a es o g}:ev E dst V (.clr zs) [.mref (.rs a es) o g] K=Fq (V.get o g) fun ety es' nl l=>es=es'/\zs.length=es/\a<=l.length/\K (.tup []) (.keep o g (.row ety es nl (l.take a++List.replicate (l.length-a) (.agg zs)))):=by
 simp only[ev];cases V.get o g with
 |none=>rfl
 |some x=>cases x<;>rfl
theorem TA {n j k o g v}:ev E dst V (.store n) [.mref (.mp j k) o g,.d v] K=Fr (V.get o g) fun e1 e2 nl ix rows=>Ay (AV.d v).toD1 fun y=>Ay rows[j]? fun x=>n=1/\y.cells.length=1/\k<x.2.length/\K .undef (.keep o g (.mat e1 e2 nl ix (rows.set j (x.1,x.2.set k y)))):=by
 simp only[ev];cases V.get o g with
 |none=>rfl
 |some x =>
  cases x with
  |mat a b c ix rows=>simp only[Fr];cases (AV.d v).toD1 with
   |none=>rfl
   |some y=>simp only[Ay];cases rows[j]?<;>rfl
  |_=>rfl
theorem TI {es o g k i}:ev E dst V (.iaddrS es) [.mref .out o g,.d (.int k i)] K=Fr (V.get o g) fun _ _ _ ix _=>es=1/\0<=i/\i<ix.length/\K (.mref (.xp i.toNat) o g) .none:=by
 simp only[ev];cases V.get o g with
 |none=>rfl
 |some x=>cases x<;>rfl
theorem TH {es j o g k i}:ev E dst V (.iaddrS es) [.mref (.row j) o g,.d (.int k i)] K=Fr (V.get o g) fun _ _ _ _ rows=>Ay rows[j]? fun x=>es=1/\0<=i/\i<x.2.length/\K (.mref (.mp j i.toNat) o g) .none:=by
 simp only[ev];cases V.get o g with
 |none=>rfl
 |some x =>
  cases x with
  |mat a b c ix rows=>simp only[Fr];cases rows[j]?<;>rfl
  |_=>rfl
theorem Z2 {ety es z own o g q p}:ev E dst V (.app ety es z own) [.mref .out o g,.ablk true [.own q p] 0] K=Fr (V.get o g) fun e1 e2 nl ix rows=>Fq (V.get q p) fun e2' es2 nl2 l2 =>
  z=none/\o<A2/\q<A2/\o≠q/\ety=e1/\es=1/\es2=1/\e2'=e2/\ix.length+1<=DE /\
   K (.mref .out o (V.cn o)) (.seq (.fresh o (.mat e1 e2 false (ix++[rows.length]) (rows++[(nl2,l2)]))) (.fresh q (.row e2 1 true []))):=by
 simp only[ev];cases V.get o g with
 |none=>rfl
 |some x =>
  cases x with
  |mat a b c ix rows=>simp only[Fr];cases V.get q p with
   |none=>rfl
   |some y=>cases y<;>rfl
  |_=>rfl
theorem XQ {ety es z n ix xs t}:ev E (some t) V (.mkrowO ety es z n ix) xs K=Ay (Fd es (List.replicate n z) (ix.zip xs)) fun l=>t<A2/\ix.length=xs.length/\K (.own t (V.cn t)) (.fresh t (.row ety es false l)):=by
 simp only[ev];cases Fd es (List.replicate n z) (ix.zip xs)<;>rfl
theorem ck {f xs}:ev E dst V (.mkfn f) xs K=K (.fn f xs) .none:=rfl
theorem cg {cs t}:ev E (some t) V (.zero cs) [] K=(t<A2/\K (.ptr t (V.cn t) 0) (.fresh t (.cells (cs.map .d)))):=rfl
theorem TD {ety es z t n m}:ev E (some t) V (.mksl ety es z true) [.d (.int .i64 n),.d (.int .i64 m)] K=(n=m/\0<=n/\n<=(DE:Int)/\t<A2/\K (.own t (V.cn t)) (.fresh t (.row ety es false (List.replicate n.toNat z)))):=rfl
theorem Pb {es lo o g rest}:ev E dst V (.slice es lo true false) (.own o g::rest) K=Fq (V.get o g) fun ety es' nl l=>o<A2/\es=es'/\Nc lo true l.length rest fun a b=>K (.own o (V.cn o)) (.fresh o (.row ety es nl ((l.drop a).take (b-a)))):=by
 simp only[ev,Bool.false_eq_true,if_false,if_true];cases V.get o g with
 |none=>rfl
 |some x=>cases x<;>rfl
theorem d_ {len:Nat}{C:Nat->Nat->Prop} {k h}:Nc false true len [.d (.int k h)] C=(0<=h/\h<=len/\C 0 h.toNat):=rfl
theorem XX {l}:ev E dst V (.len false) [.ex l] K=K (.d (.int .i64 l.length)) .none:=rfl
theorem Uy {o g}:ev E dst V (.len false) [.own o g] K=Fq (V.get o g) fun _ _ _ l=>K (.d (.int .i64 l.length)) .none:=by
 simp only[ev,Bool.false_eq_true,if_false,AV.lenL,AV.asList];cases V.get o g with
 |none=>rfl
 |some x=>cases x<;>rfl
theorem XW {o g}:ev E dst V (.len false) [.mref .out o g] K=Fr (V.get o g) fun _ _ _ ix _=>K (.d (.int .i64 ix.length)) .none:=by
 simp only[ev,Bool.false_eq_true,if_false,AV.lenL,AV.asList];cases V.get o g with
 |none=>rfl
 |some x=>cases x<;>first|rfl|simp[HU,Fr]
theorem Zy {o g off k h k' m}:ev E dst V (.slice 1 true true true) [.ptr o g off,.d (.int k h),.d (.int k' m)] K=(0<=h/\h<=m/\K (.mref (.bs off h.toNat m.toNat) o g) .none):=rfl
theorem Ov {len es o g es' j off k i}:ev E dst V (.iaddrA len es) [.rptr o g es' j off,.d (.int k i)] K=(0<=i/\i<len/\K (.rptr o g es' j (off+i.toNat * es)) .none):=rfl
theorem cm {o g}:ev E dst V (.len true) [.map o g] K=Gf (V.get o g) (fun _ kvs=>kvs.length<=DE/\K (.d (.int .i64 kvs.length)) .none) fun _ es _=>es.length<=DE/\K (.d (.int .i64 es.length)) .none:=by
 simp only[ev,if_true];cases V.get o g with
 |none=>rfl
 |some x=>cases x<;>rfl
theorem Z0 {n x}:ev E dst V (.eqnil n) [x,.d (.list true [])] K=Ay (x.asList V) fun p=>K (.d (.bool (if n then !p.1 else p.1))) .none:=by
 simp only[ev];cases x.asList V<;>rfl
theorem fE {n tys x y}:ev E dst V (.eqv n tys) [x,y] K=Ay x.toD1 fun a=>Ay y.toD1 fun b=>GJ tys a=true/\GJ tys b=true/\K (.d (.bool (if n then !DT a b else DT a b))) .none:=by
 simp only[ev];cases x.toD1<;>cases y.toD1<;>rfl
theorem XS {m k a rest}:ev E dst V (.minmax m) (.d (.int k a)::rest) K=Ay (HJ m k a rest) fun r=>K (.d (.int k r)) .none:=by
 simp only[ev];cases HJ m k a rest<;>rfl
theorem TF {tys z o g key}:ev E dst V (.lookup true tys z) [.map o g,key] K=Gf (V.get o g) (fun tys' kvs=>Ay key.toD1 fun k=>tys=tys'/\GJ tys k=true/\QJ (HG k kvs) (fun v=>K (.tup [.d v,.d (.bool true)]) .none) (K (.tup [.d z,.d (.bool false)]) .none))
  fun tys' es _=>Ay key.toD1 fun k=>tys=tys'/\GJ tys k=true/\QJ (HG k (es.map (·.2))) (fun v=>K (.tup [.d v,.d (.bool true)]) .none) (K (.tup [.d z,.d (.bool false)]) .none):=by
 simp only[ev];cases V.get o g with
 |none=>rfl
 |some x =>
  cases x with
  |map t l=>simp only[Gf];cases key.toD1 with
   |none=>rfl
   |some k=>simp only[Ay];cases HG k l<;>rfl
  |mapB t l c=>simp only[Gf];cases key.toD1 with
   |none=>rfl
   |some k=>simp only[Ay];cases HG k (l.map (·.2))<;>rfl
  |_=>rfl
theorem XU {tys o g key val}:ev E dst V (.mapupd tys) [.map o g,key,val] K=Gf (V.get o g) (fun tys' kvs=>Ay key.toD1 fun k=>Ay val.toD1 fun v=>tys=tys'/\v.one=true/\GJ tys k=true/\K .undef (.keep o g (.map tys (YZ k v kvs))))
  fun tys' es cl=>Ay key.toD1 fun k=>Ay val.toD1 fun v=>tys=tys'/\v.one=true/\GJ tys k=true/\K .undef (.keep o g (.mapB tys (YE k v es cl) (YF k es cl))):=by
 simp only[ev];cases V.get o g with
 |none=>rfl
 |some x =>
  cases x with
  |map t l=>simp only[Gf];cases key.toD1<;>cases val.toD1<;>rfl
  |mapB t l c =>
   simp only[Gf]
   cases key.toD1 with
   |none=>cases val.toD1<;>rfl
   |some k =>
    cases val.toD1 with
    |none=>rfl
    |some v=>simp only[Ay,YE,YF];cases Eu k (l.map (·.2))<;>rfl
  |_=>rfl
theorem XY {tys o g key}:ev E dst V (.delete tys) [.map o g,key] K=Gf (V.get o g) (fun _ _=>False) fun tys' es cl=>Ay key.toD1 fun k=>tys=tys'/\GJ tys k=true/\K (.tup []) (.keep o g (.mapB tys (fK k es) cl)):=by
 simp only[ev];cases V.get o g with
 |none=>rfl
 |some x =>
  cases x with
  |mapB t l c=>simp only[Gf];cases key.toD1<;>rfl
  |_=>rfl
theorem XR {t tys}:ev E (some t) V (.mkmapB tys) [] K=(t<A2/\K (.map t (V.cn t)) (.fresh t (.mapB tys [] 0))):=rfl
theorem TB {t o g}:ev E (some t) V .mrange [.map o g] K=Jq (V.get o g) fun _ cl=>t<A2/\K (.ptr t (V.cn t) 0) (.fresh t (.mitO o g cl [])):=by
 simp only[ev];cases V.get o g with
 |none=>rfl
 |some x=>cases x<;>rfl
theorem TC {t tys kvs}:ev E (some t) V .mrange [.d (.map tys kvs)] K=(t<A2/\K (.ptr t (V.cn t) 0) (.fresh t (.mitD tys kvs []))):=rfl
theorem XT {o g}:ev E dst V .mentry [.ptr o g 0] K=Lt (V.get o g) (fun mo mg n seen=>Jq (V.get mo mg) fun es cl=>cl=n/\Ay seen.getLast? fun b=>Ay (es.find? fun e=>e.1 == b) fun e=>K (.tup [.d e.2.1,.d e.2.2]) .none)
  fun _ kvs seen=>Ay seen.getLast? fun i=>Ay kvs[i]? fun kv=>K (.tup [.d kv.1,.d kv.2]) .none:=by
 simp only[ev];cases V.get o g with
 |none=>rfl
 |some x =>
  cases x with
  |mitO mo mg n seen =>
   simp only[Lt]
   cases V.get mo mg with
   |none=>rfl
   |some y =>
    cases y with
    |map t l =>
     simp only[AE.ents,Jq]
     cases seen.getLast? with
     |none=>simp[Ay]
     |some b=>simp only[Ay];cases (l.zipIdx.map fun p=>(p.2,p.1)).find? (fun e=>e.1 == b)<;>rfl
    |mapB t l c =>
     simp only[AE.ents,Jq]
     cases seen.getLast? with
     |none=>simp[Ay]
     |some b=>simp only[Ay];cases l.find? (fun e=>e.1 == b)<;>rfl
    |_=>rfl
  |mitD t k seen =>
   simp only[Lt]
   cases seen.getLast? with
   |none=>rfl
   |some i=>simp only[Ay];cases k[i]?<;>rfl
  |_=>rfl
theorem ZA {o g}:Lv (.ptr o g 0) V K=Lt (V.get o g) (fun mo mg n seen=>Jq (V.get mo mg) fun es cl=>cl=n/\be es seen (fun b=>K (.tup [.d (.bool true),.undef,.undef]) (.keep o g (.mitO mo mg n (seen++[b])))) (K (.tup [.d (.bool false)]) .none))
  fun tys kvs seen=>bf kvs seen (fun i=>K (.tup [.d (.bool true),.undef,.undef]) (.keep o g (.mitD tys kvs (seen++[i])))) (K (.tup [.d (.bool false)]) .none):=by
 simp only[Lv];cases V.get o g with
 |none=>rfl
 |some x =>
  cases x with
  |mitO mo mg n seen =>
   simp only[Lt]
   cases V.get mo mg with
   |none=>rfl
   |some y=>cases y<;>rfl
  |_=>rfl
theorem U4 {ety es z own o g y}:ev E dst V (.app ety es z own) [.own o g,y] K=Ay (Fx V z y) fun ys=>Fq (V.get o g) fun ety' es' nl l=>o<A2/\ety=ety'/\es=es'/\DY es ys/\l.length+ys.length<=DE /\
  K (.own o (V.cn o)) (.fresh o (.row ety es (nl && ys.isEmpty) (l++ys))):=by
 simp only[ev];cases Fx V z y with
 |none=>rfl
 |some ys =>
  simp only[Ay]
  cases V.get o g with
  |none=>rfl
  |some x=>cases x<;>rfl
theorem XZ {ety es z t l y}:ev E (some t) V (.app ety es z true) [.ex l,y] K=Ay (Fx V z y) fun ys=>DY es (l++ys)/\l.length+ys.length<=DE/\(ys=[]->K (.ex l) .none)/\(ys≠[]->t<A2/\K (.own t (V.cn t)) (.fresh t (.row ety es false (l++ys)))):=by
 simp only[ev];cases Fx V z y with
 |none=>rfl
 |some ys=>cases ys<;>simp[Ay]
theorem TK {f cs args}:ev E dst V .callv (.fn f cs::args) K=(Ci E.P f=true/\Dk E dst V f (args++cs) K):=rfl
theorem U3 {f cs args}:ev E dst V .callv (.d (.fn f cs)::args) K=(Ci E.P f=true/\Dk E dst V f (args++cs.map .d) K):=rfl
theorem Xk {k k':IntKind}{a b:Int}{C:AV->Prop}:ED .eql k k' a b C=(k=k'/\C (.d (.bool (decide (a=b))))):=rfl
theorem Xe {k k':IntKind}{a b:Int}{C:AV->Prop}:ED .neq k k' a b C=(k=k'/\C (.d (.bool (!decide (a=b))))):=rfl
theorem Xg {k k':IntKind}{a b:Int}{C:AV->Prop}:ED .lss k k' a b C=(k=k'/\C (.d (.bool (decide (a<b))))):=rfl
theorem Xh {k k':IntKind}{a b:Int}{C:AV->Prop}:ED .leq k k' a b C=(k=k'/\C (.d (.bool (decide (a<=b))))):=rfl
theorem Xi {k k':IntKind}{a b:Int}{C:AV->Prop}:ED .gtr k k' a b C=(k=k'/\C (.d (.bool (decide (b<a))))):=rfl
theorem Xj {k k':IntKind}{a b:Int}{C:AV->Prop}:ED .geq k k' a b C=(k=k'/\C (.d (.bool (decide (b<=a))))):=rfl
theorem Xl {k k':IntKind}{a b:Int}{C:AV->Prop}:ED .add k k' a b C=(k=k'/\C (.d (.int k (k.wrap (a+b))))):=rfl
theorem Xa {k k':IntKind}{a b:Int}{C:AV->Prop}:ED .sub k k' a b C=(k=k'/\C (.d (.int k (k.wrap (a-b))))):=rfl
theorem Xf {k k':IntKind}{a b:Int}{C:AV->Prop}:ED .mul k k' a b C=(k=k'/\C (.d (.int k (k.wrap (a*b))))):=rfl
theorem Xd {k k':IntKind}{a b:Int}{C:AV->Prop}:ED .quo k k' a b C=(k=k'/\b≠0/\C (.d (.int k (k.wrap (a.tdiv b))))):=rfl
theorem Xc {k k':IntKind}{a b:Int}{C:AV->Prop}:ED .rem k k' a b C=(k=k'/\b≠0/\C (.d (.int k (a.tmod b)))):=rfl
theorem Xb {k k':IntKind}{a b:Int}{C:AV->Prop}:ED .shr k k' a b C=(0<=b/\C (.d (.int k (a.fdiv (2^(min b.toNat k.bits)))))):=rfl
end
end Go.Pw
end
section
namespace Go.Pw
def gi (x:Option AE) (A:List (List D)->Nat->Prop):Prop:=match x with|some (.hist els n false)=>A els n|_=>False
section
variable {E:C3}{Q:CC->BE->Prop}{s s':BE}{K:AV->Bk->Prop}{KS:BE->Prop}
theorem X1 {xs:List AV}:Fw xs=A6 AV.toD1 xs:=rfl
theorem Tn {sl:Nat->AV}{V:AB}:Gb [] sl V=true:=rfl
def aR (V:AB) (o:Nat):Bool:=match V.ob o with|some (g,_)=>g == 0|none=>false
theorem Rs {k:Nat}{ks:List Nat}{sl:Nat->AV}{V:AB}:Gb (k::ks) sl V=((sl k).sites.all (aR V) && Gb ks sl V):=rfl
def aQ (x:Option (Nat×AE)):Bool:=match x with|some (g,_)=>g == 0|none=>false
theorem X3 {ob cn o}:aR ⟨ob,cn⟩ o=aQ (ob o):=rfl
theorem Tc {g x}:aQ (some (g,x))=(g == 0):=rfl
theorem eW {o:Nat}:NJ o=if 900000<=o/\o<5000000 then o else o+5000000:=rfl
def mvL (l:List (Nat×AV)):List (Nat×AV):=l.map fun p=>(p.1,p.2.mv)
theorem bn:mvL []=[]:=rfl
theorem Sj {k v l}:mvL ((k,v)::l)=(k,v.mv)::mvL l:=rfl
def UY (k:Nat) (g:Nat) (x:Option AE) (r:List (Nat×(Nat×AE))):List (Nat×(Nat×AE)):=match x with
 |some y=>(NJ k,(g,y))::r
 |none=>r.filter fun p=>!(p.1 == NJ k)
def bm:List (Nat×(Nat×AE))->List (Nat×(Nat×AE))
 |[]=>[]
 |(k,(g,x))::l=>UY k g x.mv (bm l)
theorem bj:bm []=[]:=rfl
theorem Si {k g x l}:bm ((k,(g,x))::l)=UY k g x.mv (bm l):=rfl
theorem Wq {k g y r}:UY k g (some y) r=(NJ k,(g,y))::r:=rfl
theorem Mq {k g r}:UY k g none r=r.filter fun p=>!(p.1 == NJ k):=rfl
theorem It (k:Nat):∀(l:List (Nat×(Nat×AE))) (t:Nat),AX (l.filter fun p=>!(p.1 == k)) t=if t=k then none else AX l t
 |[],t=>by simp[AX]
 |p::l,t=>by
  obtain⟨a,b⟩:=p
  have ih:=It k l t
  by_cases h:a=k
  ·subst h
   rw[List.filter_cons,if_neg (by simp),ih]
   by_cases ht:t=a
   ·simp[ht]
   ·simp[ht,AX]
  ·rw[List.filter_cons,if_pos (by simpa using h)]
   simp only[AX,ih]
   by_cases ht:t=a
   ·subst ht;simp[h]
   ·simp[ht]
theorem Sm:∀(m:List (Nat×(Nat×AE))) (o:Nat),AX (bm m) o=if NJ (Me o)=o then (match AX m (Me o) with
   |some (g,x)=>match x.mv with|some y=>some (g,y)|none=>none
   |none=>none) else none
 |[],o=>by simp[bm,AX]
 |(k,(g,x))::m,o=>by
  have ih:=Sm m o
  rw[Si]
  by_cases h:o=NJ k
  ·subst h
   rw[HY,if_pos rfl]
   cases hx:x.mv with
   |some y=>simp[UY,AX,hx]
   |none=>rw[Mq,It,if_pos rfl];simp[AX,hx]
  ·have hk:NJ (Me o)=o->Me o≠k:=fun h1 h2=>h (by rw[←h1,h2])
   have hrest:AX (UY k g x.mv (bm m)) o=AX (bm m) o:=by
    cases x.mv with
    |some y=>simp[UY,AX,h]
    |none=>rw[Mq,It,if_neg h]
   rw[hrest,ih]
   by_cases h1:NJ (Me o)=o
   ·rw[if_pos h1,if_pos h1]
    have:=hk h1
    simp[AX,this]
   ·rw[if_neg h1,if_neg h1]
theorem fv {l:List (Nat×AV)}{m:List (Nat×(Nat×AE))}{cn:Nat->Nat}:(BE.mk (Eg l) ⟨AX m,cn⟩).mv=⟨Eg (mvL l),⟨AX (bm m),fun _=>1⟩⟩:=by
 have h1:(fun t=>(Eg l t).mv)=Eg (mvL l):=by
  funext t
  induction l with
  |nil=>rfl
  |cons p l ih =>
   obtain⟨k,v⟩:=p
   simp only[Sj,Eg]
   by_cases h:t=k
   ·simp[h]
   ·simp only[if_neg h];exact ih
 show BE.mk (fun t=>(Eg l t).mv) _=_
 rw[h1]
 refine congrArg (fun ob=>BE.mk _ (AB.mk ob _)) ?_
 funext o
 exact(Sm m o).symm
def g9 (l:List (Nat×AV)):List (Nat×AV):=l.map fun p=>(p.1,p.2.sw)
def iG (m:List (Nat×(Nat×AE))):List (Nat×(Nat×AE)):=m.map fun p=>(K6 p.1,(p.2.1,p.2.2.sw))
theorem Wj {xs}:(AE.cells xs).mv=some (.cells (xs.map AV.mv)):=rfl
theorem gl {x}:(AV.d x).mv=.d x:=rfl
theorem eX {o g f}:(AV.ptr o g f).mv=.ptr (NJ o) g f:=rfl
theorem Wh {V:AB} {os a l c}:(AE.mapB a l c).nrm V os=some (.mapB a l c):=rfl
theorem Wg {V:AB} {os a b c}:(AE.mitD a b c).nrm V os=some (.mitD a b c):=rfl
theorem Wf {V:AB} {os q p n l}:(AE.mitO q p n l).nrm V os=if AV.nrm.live V os q p then some (.mitO q 0 n l) else none:=rfl
theorem Wi {V:AB} {os a b l}:(AE.hist a b l).nrm V os=some (.hist a b l):=rfl
def eB {α:Type}(T:α->AB) (Inv:Nat->α->Prop) (PInv:CC->α->Prop) (m:Nat) (gs:List EN) (ks os:List Nat) (sl:Nat->AV) (e:CC) (s:BE):Prop :=
 C7 gs s fun s'=>Gb ks sl (s'.V.nrm os)=true/\∃y,s'.V.nrm os=T y/\(match e with|.normal=>Inv m y|e=>PInv e y)
theorem bI {α:Type}(T:α->AB) (Inv:Nat->α->Prop) (PInv:CC->α->Prop) (x0:α) {ps ks os:List Nat}{b:PC}{gs2:List EN}{os2:List Nat}{a:PC}{f:FuncId}{pre post:List D}{els:List (List D)}{sl1:Nat->AV}{s1:BE}
  (h2:(s1.nrm ks os).mv=⟨sl1,T x0⟩) (hr:(b.noR && a.noR)=true) (hs:VO E f pre post els) (hw:Gb ks sl1 (T x0)=true) (hI:Inv 0 x0)
  (step:∀n x ds,els[n]?=some ds->Inv n x->ps.length=ds.length/\pw E b (QI fun s2=>pw E a (eB T Inv PInv (n+1) gs2 ks os2 sl1) s2) ⟨NA sl1 ps ds,T x⟩)
  (hend:∀x,Inv els.length x->Q .normal ⟨sl1,T x⟩) (hjump:∀e x,PInv e x->Q e ⟨sl1,T x⟩) :
  (b.noR && a.noR)=true/\∃els,VO E f pre post els/\∃(JJ:Nat->AB->Prop) (Pd:CC->AB->Prop),
   Gb ks (s1.nrm ks os).mv.sl (s1.nrm ks os).mv.V=true/\JJ 0 (s1.nrm ks os).mv.V /\
   (∀n V ds,V.cn=(fun _=>1)->els[n]?=some ds->JJ n V->ps.length=ds.length /\
    pw E b (QI fun s2=>pw E a (eA JJ Pd (n+1) gs2 ks os2 (s1.nrm ks os).mv.sl) s2) ⟨NA (s1.nrm ks os).mv.sl ps ds,V⟩) /\
   (∀V,V.cn=(fun _=>1)->JJ els.length V->Q .normal ⟨(s1.nrm ks os).mv.sl,V⟩) /\
   ∀e V,V.cn=(fun _=>1)->Pd e V->Q e ⟨(s1.nrm ks os).mv.sl,V⟩:=by
 refine⟨hr,els,hs,fun n V=>∃x,V=T x/\Inv n x,fun e V=>∃x,V=T x/\PInv e x,?_,?_,?_,?_,?_⟩
 ·rw[h2];exact hw
 ·rw[h2];exact⟨x0,rfl,hI⟩
 ·rintro n V ds _ hds ⟨x,rfl,hx⟩
  obtain⟨k1,k2⟩:=step n x ds hds hx
  refine⟨k1,?_⟩
  rw[h2]
  refine GL k2 fun e s2 h3=>?_
  cases e with
  |normal =>
   refine GL h3 fun e s3 h4=>?_
   refine DN (fun s4 h5=>?_) h4
   obtain⟨k3,y,k4,k5⟩:=h5
   refine⟨k3,?_⟩
   cases e with
   |normal=>exact⟨y,k4,k5⟩
   |exit i=>exact⟨y,k4,k5⟩
   |ret=>exact⟨y,k4,k5⟩
  |exit i=>exact h3
  |ret=>exact h3
 ·rintro V _ ⟨x,rfl,hx⟩
  rw[h2];exact hend x hx
 ·rintro e V _ ⟨x,rfl,hx⟩
  rw[h2];exact hjump e x hx
theorem bJ {α:Type}(T:α->AB) (Inv:Nat->α->Prop) (PInv:CC->α->Prop) (x0:α) {gs:List EN}{g:I5}{ps ks os:List Nat}{b:PC}{gs2:List EN}{os2:List Nat}{a:PC}{f:FuncId}{pre post:List D}{els:List (List D)}{sl1:Nat->AV}
  (h0:C7 gs s fun s1=>((∃cs,g.val s1.sl=.bnd f cs/\Fw cs=some pre)/\post=[]\/g.val s1.sl=.d (.fn f post)/\pre=[])/\(s1.nrm ks os).mv=⟨sl1,T x0⟩) (hT:∀x,(T x).cn=fun _=>1) (hb:Ci E.P f=true) (hr:(b.noR && a.noR)=true) (hs:VO E f pre post els) (hw:Gb ks sl1 (T x0)=true) (hI:Inv 0 x0)
  (step:∀n x ds,els[n]?=some ds->Inv n x->ps.length=ds.length/\pw E b (QI fun s2=>pw E a (eB T Inv PInv (n+1) gs2 ks os2 sl1) s2) ⟨NA sl1 ps ds,T x⟩)
  (hend:∀x,Inv els.length x->Q .normal ⟨sl1,T x⟩) (hjump:∀e x,PInv e x->Q e ⟨sl1,T x⟩):pw E (.rngF gs g ps ks os b gs2 os2 a) Q s:=by
 refine DN (fun s1 h=>?_) h0
 obtain⟨h1,h2⟩:=h
 suffices hk:RA E (g.val s1.sl) (fun f' pre' post'=>f'=f/\pre'=pre/\post'=post) by
  refine P9 (fun f' pre' post' hk=>?_) hk
  obtain⟨rfl,rfl,rfl⟩:=hk
  exact bI T Inv PInv x0 h2 hr hs hw hI step hend hjump
 unfold RA
 rcases h1 with⟨⟨cs,h1,h1'⟩,rfl⟩|⟨h1,rfl⟩
 ·rw[h1];dsimp only;rw[h1'];exact⟨hb,rfl,rfl,rfl⟩
 ·rw[h1];exact⟨hb,rfl,rfl,rfl⟩
theorem bH {α:Type}(uo:α->List (Nat×AE)) (Inv:Nat->α->Prop) (PInv:CC->α->Prop) (x0:α) {so:List (Nat×(Nat×AE))->List (Nat×AE)->List (Nat×(Nat×AE))}{gs:List EN}{g:I5}{ps ks os:List Nat}{b:PC}{gs2:List EN}{os2:List Nat}{a:PC}{f:FuncId}{pre post:List D}{els:List (List D)}{l0:List (Nat×AV)}{m0:List (Nat×(Nat×AE))}
  (hs:VO E f pre post els) (hb:Ci E.P f=true) (h0:C7 gs s fun s1=>((∃cs,g.val s1.sl=.bnd f cs/\Fw cs=some pre)/\post=[]\/g.val s1.sl=.d (.fn f post)/\pre=[])/\(s1.nrm ks os).mv=⟨Eg l0,⟨AX m0,fun _=>1⟩⟩) (he:so m0 (uo x0)=m0) (hr:(b.noR && a.noR)=true) (hw:Gb ks (Eg l0) ⟨AX m0,fun _=>1⟩=true) (hI:Inv 0 x0)
  (step:∀n x ds,els[n]?=some ds->Inv n x->ps.length=ds.length/\pw E b (QI fun s2=>pw E a (eB (fun x=>⟨AX (so m0 (uo x)),fun _=>1⟩) Inv PInv (n+1) gs2 ks os2 (Eg l0)) s2) ⟨NA (Eg l0) ps ds,⟨AX (so m0 (uo x)),fun _=>1⟩⟩)
  (hend:∀x,Inv els.length x->Q .normal ⟨Eg l0,⟨AX (so m0 (uo x)),fun _=>1⟩⟩) (hjump:∀e x,PInv e x->Q e ⟨Eg l0,⟨AX (so m0 (uo x)),fun _=>1⟩⟩):pw E (.rngF gs g ps ks os b gs2 os2 a) Q s :=
 bJ (fun x=>⟨AX (so m0 (uo x)),fun _=>1⟩) Inv PInv x0 (by rw[he];exact h0) (fun _=>rfl) hb hr hs (by rw[he];exact hw) hI step hend hjump
end
theorem f8 {α:Type}{S:AB}{T:α->AB}{I:α->Prop}(h:∃y,S=T y/\I y):∃y,S=T y/\I y:=h
end Go.Pw
end
