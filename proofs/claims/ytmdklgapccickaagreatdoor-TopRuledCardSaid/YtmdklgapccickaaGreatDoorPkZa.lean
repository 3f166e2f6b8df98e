/- A part of the proof. -/
import Derived.Test.YtmdklgapccickaaGreatDoorPwZ
set_option linter.all false
section
namespace Go.Pw
def Ha (x:Option AW) (A:List AV->Prop):Prop:=match x with|some (.cells cs)=>A cs|_=>False
def IU (x:Option AW) (A:Nat->Nat->Bool->List D->Prop):Prop:=match x with|some (.row a b c l)=>A a b c l|_=>False
def NK (x:Option AW) (A:Nat->Nat->Bool->List D->Prop) (B:Nat->List D->Nat->Nat->Nat->Prop):Prop:=match x with|some (.row a b c l)=>A a b c l|some (.rowH a l i q p)=>B a l i q p|_=>False
def R6 (x:Option AW) (A:HS->List (D×D)->Prop):Prop:=match x with|some (.map t l)=>A t l|_=>False
def lX (x:Option AW) (A:Nat->Nat->Bool->List Nat->List (Bool×List D)->Prop):Prop:=match x with|some (.mat a b c d e)=>A a b c d e|_=>False
def BW {α:Type}(x:Option α) (A:α->Prop):Prop:=match x with|some v=>A v|none=>False
def R5 {α:Type}(x:Option α) (A:α->Prop) (B:Prop):Prop:=match x with|some v=>A v|none=>B
theorem U0 (cs A):Ha (some (.cells cs)) A=A cs:=rfl
theorem YB (a b c l A):IU (some (.row a b c l)) A=A a b c l:=rfl
theorem YC (a b c l A B):NK (some (.row a b c l)) A B=A a b c l:=rfl
theorem YF (t l A):R6 (some (.map t l)) A=A t l:=rfl
def Ju (x:Option AW) (A:HS->List (D×D)->Prop) (B:HS->List (Nat×D×D)->Nat->Prop):Prop:=match x with
 |some (.map t l)=>A t l
 |some (.mapB t l c)=>B t l c
 |_=>False
theorem YG (t l A B):Ju (some (.map t l)) A B=A t l:=rfl
def Uz (x:Option AW) (A:List (Nat×D×D)->Nat->Prop):Prop:=match x with
 |some (.map _ l)=>A (l.zipIdx.map fun p=>(p.2,p.1)) l.length
 |some (.mapB _ l c)=>A l c
 |_=>False
def QR (x:Option AW) (A:Nat->Nat->Nat->List Nat->Prop) (B:HS->List (D×D)->List Nat->Prop):Prop:=match x with
 |some (.mitO o g n l)=>A o g n l
 |some (.mitD t k l)=>B t k l
 |_=>False
theorem jh (t k l A B):QR (some (.mitD t k l)) A B=B t k l:=rfl
def rB (es:List (Nat×D×D)) (seen:List Nat) (A:Nat->Prop) (B:Prop):Prop:=(∀e,e∈es->seen.contains e.1=false->A e.1)/\((∀e,e∈es->seen.contains e.1=true)->B)
def jl (kvs:List (D×D)) (seen:List Nat) (A:Nat->Prop) (B:Prop):Prop:=(∀i,i<kvs.length->seen.contains i=false->A i)/\((∀i,i<kvs.length->seen.contains i=true)->B)
theorem nO {kvs:List (D×D)}{seen:List Nat}{A:Nat->Prop}{B:Prop}(h1:∀i,i<kvs.length->seen.contains i=false->A i) (h2:(∀i,i<kvs.length->seen.contains i=true)->B):jl kvs seen A B:=⟨h1,h2⟩
def o6 (k v:D) (es:List (Nat×D×D)) (cl:Nat):List (Nat×D×D):=match D6 k (es.map (·.2)) with
 |some i=>(match es[i]? with|some e=>es.set i (e.1,k,v)|none=>es)
 |none=>es++[(cl,k,v)]
def o7 (k:D) (es:List (Nat×D×D)) (cl:Nat):Nat:=match D6 k (es.map (·.2)) with
 |some _=>cl
 |none=>cl+1
def tM (k:D) (es:List (Nat×D×D)):List (Nat×D×D):=match D6 k (es.map (·.2)) with
 |some i=>es.eraseIdx i
 |none=>es
theorem WK {α:Type}(v:α) (A:α->Prop):BW (some v) A=A v:=rfl
theorem YD {α:Type}(v:α) (A:α->Prop) (B:Prop):R5 (some v) A B=A v:=rfl
theorem YE {α:Type}(A:α->Prop) (B:Prop):R5 none A B=B:=rfl
section
variable {E:CW}{dst:Option Nat}{V:AL}{K:AV->B3->Prop}
theorem nI {α:Type}{n:Nat}{cs:List α}{off:Nat}{mk:List α->AV}{one:α->AV}{C:AV->Prop}:Cb true n cs off mk one C=(off+n<=cs.length/\C (mk ((cs.drop off).take n))):=by simp[Cb]
theorem nJ {α:Type}{n:Nat}{cs:List α}{off:Nat}{mk:List α->AV}{one:α->AV}{C:AV->Prop}:Cb false n cs off mk one C=BW cs[off]? fun v=>C (one v):=by
 simp only[Cb,Bool.false_eq_true,if_false];cases cs[off]?<;>rfl
theorem Wm {ag n o g off}:ev E dst V (.load ag n) [.ptr o g off] K=Ha (V.get o g) fun cs=>Cb ag n cs off .agg id (K · .none):=by
 simp only[ev];cases V.get o g with
 |none=>rfl
 |some x=>cases x<;>rfl
theorem VA {ag n o g es i off}:ev E dst V (.load ag n) [.rptr o g es i off] K=NK (V.get o g) (fun _ es' _ l=>es=es'/\BW l[i]? fun x=>Cb ag n x.cells off (fun cs=>.d (.agg cs)) .d (K · .none))
  fun _ l k q p=>es=1/\(i=k->Cb ag n [.own q p] off .agg id (K · .none))/\(i≠k->BW l[i]? fun x=>Cb ag n x.cells off (fun cs=>.d (.agg cs)) .d (K · .none)):=by
 simp only[ev];cases V.get o g with
 |none=>rfl
 |some x =>
  cases x with
  |row a b c l=>simp only[NK];cases l[i]?<;>rfl
  |rowH a l k q p=>simp only[NK];cases l[i]?<;>rfl
  |_=>rfl
theorem VB {ag n cs off}:ev E dst V (.load ag n) [.dptr cs off] K=Cb ag n cs off (fun cs=>.d (.agg cs)) .d (K · .none):=rfl
theorem cA {ag n cs}:ev E dst V (.load ag n) [.d (.ptr cs)] K=Cb ag n cs 0 (fun cs=>.d (.agg cs)) .d (K · .none):=rfl
theorem U7 {n o g off v}:ev E dst V (.store n) [.ptr o g off,v] K=Ha (V.get o g) fun cs=>BW v.cells? fun vs=>vs.length=n/\off+n<=cs.length/\K .undef (.keep o g (.cells (Bs cs off vs))):=by
 unfold ev Ha BW;simp only
 cases V.get o g with
 |none=>rfl
 |some x=>cases x<;>cases v.cells?<;>rfl
theorem VD {off o g a}:ev E dst V (.faddr off) [.ptr o g a] K=K (.ptr o g (a+off)) .none:=rfl
theorem S8 {off cs a}:ev E dst V (.faddr off) [.dptr cs a] K=K (.dptr cs (a+off)) .none:=rfl
theorem Ys {off cs}:ev E dst V (.faddr off) [.d (.ptr cs)] K=K (.dptr cs off) .none:=rfl
theorem ke {nl:Bool}{l:List D}:ev E dst V (.len false) [.d (.list nl l)] K=K (.d (.int .i64 l.length)) .none:=rfl
theorem Yr {es nl l k i}:ev E dst V (.iaddrS es) [.d (.list nl l),.d (.int k i)] K=(0<=i/\i<l.length/\BW l[i.toNat]? fun x=>x.cells.length=es/\K (.dptr x.cells 0) .none):=by
 simp only[ev];cases l[i.toNat]?<;>rfl
theorem oH {t v}:ev E (some t) V .box [v] K=BW v.cells? fun cs=>t<C_/\K (.ptr t (V.cn t) 0) (.fresh t (.cells cs)):=by
 simp only[ev];cases v.cells?<;>rfl
theorem kf {k k' n}:ev E dst V (.conv k) [.d (.int k' n)] K=K (.d (.int k (k.wrap n))) .none:=rfl
theorem Yt {i vs}:ev E dst V (.extract i) [.tup vs] K=BW vs[i]? fun v=>K v .none:=by
 simp only[ev];cases vs[i]?<;>rfl
theorem kg {f xs}:ev E dst V (.call f) xs K=Dk E dst V f xs K:=rfl
theorem Qx {n o g es0 i off x}:ev E dst V (.store n) [.rptr o g es0 i off,.d x] K=IU (V.get o g) fun ety es nl l=>BW (AV.d x).toD1 fun y=>es0=es/\BW l[i]? fun x=>y.cells.length=n/\off+n<=x.cells.length/\(n=es\/1<x.cells.length) /\
  K .undef (.keep o g (.row ety es nl (l.set i (if n=es then y else .agg (Bs x.cells off y.cells))))):=by
 simp only[ev];cases V.get o g with
 |none=>rfl
 |some x =>
  cases x with
  |row a b c l=>simp only[IU];cases (AV.d x).toD1 with
   |none=>rfl
   |some y=>simp only[BW];cases l[i]?<;>rfl
  |_=>rfl
theorem U9 {o g off}:ev E dst V .nilck [.ptr o g off] K=K (.ptr o g off) .none:=rfl
theorem S6 {o g es i off}:ev E dst V .nilck [.rptr o g es i off] K=K (.rptr o g es i off) .none:=rfl
theorem Yn {cs}:ev E dst V .nilck [.d (.ptr cs)] K=K (.d (.ptr cs)) .none:=rfl
theorem VC {es o g k i}:ev E dst V (.iaddrS es) [.own o g,.d (.int k i)] K=NK (V.get o g) (fun _ es' _ l=>es=es'/\0<=i/\i<l.length/\K (.rptr o g es i.toNat 0) .none) fun _ l _ _ _=>es=1/\0<=i/\i<l.length/\K (.rptr o g es i.toNat 0) .none:=by
 simp only[ev];cases V.get o g with
 |none=>rfl
 |some x=>cases x<;>rfl
theorem S7 {len es o g off k i}:ev E dst V (.iaddrA len es) [.ptr o g off,.d (.int k i)] K=(0<=i/\i<len/\K (.ptr o g (off+i.toNat * es)) .none):=rfl
theorem SF {len es cs off k i}:ev E dst V (.iaddrA len es) [.dptr cs off,.d (.int k i)] K=(0<=i/\i<len/\K (.dptr cs (off+i.toNat * es)) .none):=rfl
theorem Wo {len es cs k i}:ev E dst V (.iaddrA len es) [.d (.ptr cs),.d (.int k i)] K=(0<=i/\i<len/\K (.dptr cs (i.toNat * es)) .none):=rfl
theorem kZ {sb:ByteArray} {k i}:ev E dst V (.strx sb) [.d (.int k i)] K=(0<=i/\BW sb[i.toNat]? fun b=>K (.d (.int .u8 b.toNat)) .none):=by
 show (0<=i/\_)=_
 cases sb[i.toNat]?<;>rfl
theorem gW {z pl xs}:ev E dst V (.build z pl) xs K=BW (Mw (z.map .d) (pl.zip xs)) fun cs=>pl.length=xs.length/\K (.agg cs) .none:=by
 simp only[ev];cases Mw (z.map .d) (pl.zip xs)<;>rfl
theorem U_ {es z n ix}:ev E dst V (.mkrow es z n ix) [] K=BW (F_ es (List.replicate n z) (ix.zip [])) fun l=>ix.length=0/\K (.ex l) .none:=by
 simp only[ev];cases F_ es (List.replicate n z) (ix.zip [])<;>rfl
theorem Yo {es z n ix x xs}:ev E dst V (.mkrow es z n ix) (.d x::xs) K=BW (F_ es (List.replicate n z) (ix.zip (.d x::xs))) fun l=>ix.length=(.d x::xs).length/\K (.ex l) .none:=by
 simp only[ev];cases F_ es (List.replicate n z) (ix.zip (.d x::xs))<;>rfl
theorem U' {es z n ix x xs}:ev E dst V (.mkrow es z n ix) (.agg x::xs) K=BW (F_ es (List.replicate n z) (ix.zip (.agg x::xs))) fun l=>ix.length=(.agg x::xs).length/\K (.ex l) .none:=by
 simp only[ev];cases F_ es (List.replicate n z) (ix.zip (.agg x::xs))<;>rfl
theorem Wl {es z n ix x xs}:ev E dst V (.mkrow es z n ix) (.ex x::xs) K=BW (F_ es (List.replicate n z) (ix.zip (.ex x::xs))) fun l=>ix.length=(.ex x::xs).length/\K (.ex l) .none:=by
 simp only[ev];cases F_ es (List.replicate n z) (ix.zip (.ex x::xs))<;>rfl
theorem bx {ety es z n ix xs t}:ev E (some t) V (.mkrowO ety es z n ix) xs K=BW (F_ es (List.replicate n z) (ix.zip xs)) fun l=>t<C_/\ix.length=xs.length/\K (.own t (V.cn t)) (.fresh t (.row ety es false l)):=by
 simp only[ev];cases F_ es (List.replicate n z) (ix.zip xs)<;>rfl
theorem kd {f xs}:ev E dst V (.mkfn f) xs K=K (.fn f xs) .none:=rfl
theorem kY {cs t}:ev E (some t) V (.zero cs) [] K=(t<C_/\K (.ptr t (V.cn t) 0) (.fresh t (.cells (cs.map .d)))):=rfl
theorem gQ {tys t}:ev E (some t) V (.mkmap tys) [] K=(t<C_/\K (.map t (V.cn t)) (.fresh t (.map tys []))):=rfl
theorem Ym {es lo hi nl l rest}:ev E dst V (.slice es lo hi false) (.d (.list nl l)::rest) K=(C0 es l/\MV lo hi l.length rest fun a b=>K (.d (.list nl ((l.drop a).take (b-a)))) .none):=rfl
theorem U8 {es lo o g rest}:ev E dst V (.slice es lo false false) (.own o g::rest) K=IU (V.get o g) fun ety es' nl l=>o<C_/\es=es'/\MV lo false l.length rest fun a _=>K (.own o (V.cn o)) (.fresh o (.row ety es nl (l.drop a))):=by
 simp only[ev,Bool.false_eq_true,if_false];cases V.get o g with
 |none=>rfl
 |some x=>cases x<;>rfl
theorem S5 {es lo o g rest}:ev E dst V (.slice es lo true false) (.own o g::rest) K=IU (V.get o g) fun ety es' nl l=>o<C_/\es=es'/\MV lo true l.length rest fun a b=>K (.own o (V.cn o)) (.fresh o (.row ety es nl ((l.drop a).take (b-a)))):=by
 simp only[ev,Bool.false_eq_true,if_false,if_true];cases V.get o g with
 |none=>rfl
 |some x=>cases x<;>rfl
theorem oG:ev E dst V .cap [.d (.list true [])] K=K (.d (.int .i64 0)) .none:=rfl
theorem mr {len:Nat}{C:Nat->Nat->Prop} {k h}:MV false true len [.d (.int k h)] C=(0<=h/\h<=len/\C 0 h.toNat):=rfl
theorem mq {len:Nat}{C:Nat->Nat->Prop} {k h}:MV true false len [.d (.int k h)] C=(0<=h/\h<=len/\C h.toNat len):=rfl
theorem mn {len:Nat}{C:Nat->Nat->Prop} {k h k' m}:MV true true len [.d (.int k h),.d (.int k' m)] C=(0<=h/\h<=m/\m<=len/\C h.toNat m.toNat):=rfl
theorem Yq {o g}:ev E dst V (.len false) [.own o g] K=IU (V.get o g) fun _ _ _ l=>K (.d (.int .i64 l.length)) .none:=by
 simp only[ev,Bool.false_eq_true,if_false,AV.lenL,AV.asList];cases V.get o g with
 |none=>rfl
 |some x=>cases x<;>rfl
theorem cE {off n cap o g}:ev E dst V (.len false) [.mref (.bs off n cap) o g] K=K (.d (.int .i64 n)) .none:=rfl
theorem gP {o g off k h k' m}:ev E dst V (.slice 1 true true true) [.ptr o g off,.d (.int k h),.d (.int k' m)] K=(0<=h/\h<=m/\K (.mref (.bs off h.toNat m.toNat) o g) .none):=rfl
theorem bw {es l k a k' h k'' m}:ev E dst V (.slice es true true true) [.d (.list false l),.d (.int k a),.d (.int k' h),.d (.int k'' m)] K=(C0 es l/\h=m/\0<=a/\a<h/\h<=l.length/\K (.ex ((l.drop a.toNat).take (h.toNat-a.toNat))) .none):=rfl
theorem Wn {es off n cap o g k i}:ev E dst V (.iaddrS es) [.mref (.bs off n cap) o g,.d (.int k i)] K=(es=1/\0<=i/\i<n/\K (.ptr o g (off+i.toNat)) .none):=rfl
theorem gT {t kvs}:ev E dst V (.len true) [.d (.map t kvs)] K=(kvs.length<=C1/\K (.d (.int .i64 kvs.length)) .none):=rfl
theorem gU {n x}:ev E dst V (.eqnil n) [x,.d (.list true [])] K=BW (x.asList V) fun p=>K (.d (.bool (if n then !p.1 else p.1))) .none:=by
 simp only[ev];cases x.asList V<;>rfl
theorem bz {m k a rest}:ev E dst V (.minmax m) (.d (.int k a)::rest) K=BW (GL m k a rest) fun r=>K (.d (.int k r)) .none:=by
 simp only[ev];cases GL m k a rest<;>rfl
theorem Yp {tys z o g key}:ev E dst V (.lookup false tys z) [.map o g,key] K=Ju (V.get o g) (fun tys' kvs=>BW key.toD1 fun k=>tys=tys'/\Gt tys k=true/\R5 (CG k kvs) (fun v=>K (.d v) .none) (K (.d z) .none))
  fun tys' es _=>BW key.toD1 fun k=>tys=tys'/\Gt tys k=true/\R5 (CG k (es.map (·.2))) (fun v=>K (.d v) .none) (K (.d z) .none):=by
 simp only[ev];cases V.get o g with
 |none=>rfl
 |some x =>
  cases x with
  |map t l=>simp only[Ju];cases key.toD1 with
   |none=>rfl
   |some k=>simp only[BW];cases CG k l<;>rfl
  |mapB t l c=>simp only[Ju];cases key.toD1 with
   |none=>rfl
   |some k=>simp only[BW];cases CG k (l.map (·.2))<;>rfl
  |_=>rfl
theorem b9 {tys o g key val}:ev E dst V (.mapupd tys) [.map o g,key,val] K=Ju (V.get o g) (fun tys' kvs=>BW key.toD1 fun k=>BW val.toD1 fun v=>tys=tys'/\Gt tys k=true/\K .undef (.keep o g (.map tys (Qo k v kvs))))
  fun tys' es cl=>BW key.toD1 fun k=>BW val.toD1 fun v=>tys=tys'/\Gt tys k=true/\K .undef (.keep o g (.mapB tys (o6 k v es cl) (o7 k es cl))):=by
 simp only[ev];cases V.get o g with
 |none=>rfl
 |some x =>
  cases x with
  |map t l=>simp only[Ju];cases key.toD1<;>cases val.toD1<;>rfl
  |mapB t l c =>
   simp only[Ju]
   cases key.toD1 with
   |none=>cases val.toD1<;>rfl
   |some k =>
    cases val.toD1 with
    |none=>rfl
    |some v=>simp only[BW,o6,o7];cases D6 k (l.map (·.2))<;>rfl
  |_=>rfl
theorem Wk {t tys kvs}:ev E (some t) V .mrange [.d (.map tys kvs)] K=(t<C_/\K (.ptr t (V.cn t) 0) (.fresh t (.mitD tys kvs []))):=rfl
theorem b8 {o g}:ev E dst V .mentry [.ptr o g 0] K=QR (V.get o g) (fun mo mg n seen=>Uz (V.get mo mg) fun es cl=>cl=n/\BW seen.getLast? fun b=>BW (es.find? fun e=>e.1 == b) fun e=>K (.tup [.d e.2.1,.d e.2.2]) .none)
  fun _ kvs seen=>BW seen.getLast? fun i=>BW kvs[i]? fun kv=>K (.tup [.d kv.1,.d kv.2]) .none:=by
 simp only[ev];cases V.get o g with
 |none=>rfl
 |some x =>
  cases x with
  |mitO mo mg n seen =>
   simp only[QR]
   cases V.get mo mg with
   |none=>rfl
   |some y =>
    cases y with
    |map t l =>
     simp only[AW.ents,Uz]
     cases seen.getLast? with
     |none=>simp[BW]
     |some b=>simp only[BW];cases (l.zipIdx.map fun p=>(p.2,p.1)).find? (fun e=>e.1 == b)<;>rfl
    |mapB t l c =>
     simp only[AW.ents,Uz]
     cases seen.getLast? with
     |none=>simp[BW]
     |some b=>simp only[BW];cases l.find? (fun e=>e.1 == b)<;>rfl
    |_=>rfl
  |mitD t k seen =>
   simp only[QR]
   cases seen.getLast? with
   |none=>rfl
   |some i=>simp only[BW];cases k[i]?<;>rfl
  |_=>rfl
theorem fU {o g}:N3 (.ptr o g 0) V K=QR (V.get o g) (fun mo mg n seen=>Uz (V.get mo mg) fun es cl=>cl=n/\rB es seen (fun b=>K (.tup [.d (.bool true),.undef,.undef]) (.keep o g (.mitO mo mg n (seen++[b])))) (K (.tup [.d (.bool false)]) .none))
  fun tys kvs seen=>jl kvs seen (fun i=>K (.tup [.d (.bool true),.undef,.undef]) (.keep o g (.mitD tys kvs (seen++[i])))) (K (.tup [.d (.bool false)]) .none):=by
 simp only[N3];cases V.get o g with
 |none=>rfl
 |some x =>
  cases x with
  |mitO mo mg n seen =>
   simp only[QR]
   cases V.get mo mg with
   |none=>rfl
   |some y=>cases y<;>rfl
  |_=>rfl
theorem b_ {tys z o g key}:ev E dst V (.mapent tys z) [.map o g,key] K=R6 (V.get o g) fun tys' kvs=>BW key.toD1 fun k=>tys=tys'/\Gt tys k=true/\kvs.length<=C1 /\
  R5 (D6 k kvs) (fun i=>K (.tup [.undef,.d (.int .i64 i)]) .none) (K (.tup [.undef,.d (.int .i64 kvs.length)]) (.keep o g (.map tys (kvs++[(k,z)])))):=by
 simp only[ev];cases V.get o g with
 |none=>rfl
 |some x =>
  cases x with
  |map t l=>simp only[R6];cases key.toD1 with
   |none=>rfl
   |some k=>simp only[BW];cases D6 k l<;>rfl
  |_=>rfl
theorem gV {o g k i val}:ev E dst V .entst [.map o g,.d (.int k i),val] K=R6 (V.get o g) fun tys kvs=>BW val.toD1 fun v=>0<=i/\v.one=true/\BW kvs[i.toNat]? fun e=>K .undef (.keep o g (.map tys (kvs.set i.toNat (e.1,v)))):=by
 simp only[ev];cases V.get o g with
 |none=>rfl
 |some x =>
  cases x with
  |map t l=>simp only[R6];cases val.toD1 with
   |none=>rfl
   |some v=>simp only[BW];cases l[i.toNat]?<;>rfl
  |_=>rfl
theorem Yv {ety es z own o g y}:ev E dst V (.app ety es z own) [.own o g,y] K=BW (EU V z y) fun ys=>IU (V.get o g) fun ety' es' nl l=>o<C_/\ety=ety'/\es=es'/\C0 es ys/\l.length+ys.length<=C1 /\
  K (.own o (V.cn o)) (.fresh o (.row ety es (nl && ys.isEmpty) (l++ys))):=by
 simp only[ev];cases EU V z y with
 |none=>rfl
 |some ys =>
  simp only[BW]
  cases V.get o g with
  |none=>rfl
  |some x=>cases x<;>rfl
theorem Yw {ety es z t y}:ev E (some t) V (.app ety es z true) [.d (.list true []),y] K=BW (EU V z y) fun ys=>C0 es ys/\ys.length<=C1/\t<C_/\K (.own t (V.cn t)) (.fresh t (.row ety es ys.isEmpty ys)):=by
 simp only[ev];cases EU V z y<;>rfl
theorem cJ {ety es z t l y}:ev E (some t) V (.app ety es z true) [.ex l,y] K=BW (EU V z y) fun ys=>C0 es (l++ys)/\l.length+ys.length<=C1/\(ys=[]->K (.ex l) .none)/\(ys≠[]->t<C_/\K (.own t (V.cn t)) (.fresh t (.row ety es false (l++ys)))):=by
 simp only[ev];cases EU V z y with
 |none=>rfl
 |some ys=>cases ys<;>simp[BW]
theorem Wp {f cs args}:ev E dst V .callv (.fn f cs::args) K=(Bk E.P f=true/\Dk E dst V f (args++cs) K):=rfl
theorem Yu {f cs args}:ev E dst V .callv (.d (.fn f cs)::args) K=(Bk E.P f=true/\Dk E dst V f (args++cs.map .d) K):=rfl
theorem cp {k k':IntKind}{a b:Int}{C:AV->Prop}:D7 .eql k k' a b C=(k=k'/\C (.d (.bool (decide (a=b))))):=rfl
theorem cV {k k':IntKind}{a b:Int}{C:AV->Prop}:D7 .neq k k' a b C=(k=k'/\C (.d (.bool (!decide (a=b))))):=rfl
theorem ce {k k':IntKind}{a b:Int}{C:AV->Prop}:D7 .lss k k' a b C=(k=k'/\C (.d (.bool (decide (a<b))))):=rfl
theorem cg {k k':IntKind}{a b:Int}{C:AV->Prop}:D7 .leq k k' a b C=(k=k'/\C (.d (.bool (decide (a<=b))))):=rfl
theorem cj {k k':IntKind}{a b:Int}{C:AV->Prop}:D7 .gtr k k' a b C=(k=k'/\C (.d (.bool (decide (b<a))))):=rfl
theorem cm {k k':IntKind}{a b:Int}{C:AV->Prop}:D7 .geq k k' a b C=(k=k'/\C (.d (.bool (decide (b<=a))))):=rfl
theorem cr {k k':IntKind}{a b:Int}{C:AV->Prop}:D7 .add k k' a b C=(k=k'/\C (.d (.int k (k.wrap (a+b))))):=rfl
theorem cO {k k':IntKind}{a b:Int}{C:AV->Prop}:D7 .sub k k' a b C=(k=k'/\C (.d (.int k (k.wrap (a-b))))):=rfl
theorem cX {k k':IntKind}{a b:Int}{C:AV->Prop}:D7 .mul k k' a b C=(k=k'/\C (.d (.int k (k.wrap (a*b))))):=rfl
theorem cU {k k':IntKind}{a b:Int}{C:AV->Prop}:D7 .quo k k' a b C=(k=k'/\b≠0/\C (.d (.int k (k.wrap (a.tdiv b))))):=rfl
theorem cR {k k':IntKind}{a b:Int}{C:AV->Prop}:D7 .rem k k' a b C=(k=k'/\b≠0/\C (.d (.int k (a.tmod b)))):=rfl
theorem cQ {k k':IntKind}{a b:Int}{C:AV->Prop}:D7 .shl k k' a b C=(0<=b/\C (.d (.int k (k.wrap (a*2^(min b.toNat k.bits)))))):=rfl
theorem cP {k k':IntKind}{a b:Int}{C:AV->Prop}:D7 .shr k k' a b C=(0<=b/\C (.d (.int k (a.fdiv (2^(min b.toNat k.bits)))))):=rfl
theorem cq {k k':IntKind}{a b:Int}{C:AV->Prop}:D7 .and k k' a b C=(k=k'/\C (.d (.int k (A0 .and k a b)))):=rfl
theorem gX {k k':IntKind}{a b:Int}{C:AV->Prop}:D7 .or k k' a b C=(k=k'/\C (.d (.int k (A0 .or k a b)))):=rfl
theorem cN {k k':IntKind}{a b:Int}{C:AV->Prop}:D7 .xor k k' a b C=(k=k'/\C (.d (.int k (A0 .xor k a b)))):=rfl
end
end Go.Pw
end
section
namespace Go.Pw
def R7 (x:Option AW) (A:RD->Nat->Prop):Prop:=match x with|some (.hist els n false)=>A els n|_=>False
theorem WM (els n A):R7 (some (.hist els n false)) A=A els n:=rfl
def oe (els:RD) (n:Nat) (ds:List D) (A:Nat->Prop):Prop:=∃k,els.nx n ds k/\A k
theorem jm {els:List (List D)} {n ds A}:oe (.ofL els) n ds A=(els[n]?=some ds/\A (n+1)):=by
 apply propext;unfold oe RD.ofL
 constructor
 ·rintro⟨k,⟨h1,rfl⟩,h2⟩;exact⟨h1,h2⟩
 ·rintro⟨h1,h2⟩;exact⟨_,⟨h1,rfl⟩,h2⟩
section
variable {E:CW}{Q:B7->Bg->Prop}{s s':Bg}{K:AV->B3->Prop}{KS:Bg->Prop}
theorem di {o g:Nat}{xs:List AV}{V:AL}:PE E (.own o g) xs V K=R7 (V.get o g) fun els n=>BW (FB xs) fun ds=>oe els n ds fun k=>K (.d (.bool true)) (.keep o g (.hist els k false))/\K (.d (.bool false)) (.keep o g (.hist els k true)):=by
 simp only[PE,R7,oe]
 cases V.get o g with
 |none=>rfl
 |some x=>cases x with
  |hist els n st=>cases st<;>(simp only[BW];try (cases FB xs<;>rfl))
  |_=>rfl
theorem dT {xs:List AV}:FB xs=BV AV.toD1 xs:=rfl
theorem gR {dst:Option Nat}{V:AL}{f:FuncId}{xs:List AV}:ev E dst V (.mkbnd f) xs K=K (.bnd f xs) .none:=by
 rfl
theorem XT {sl:Nat->AV}{V:AL}:Fx [] sl V=true:=rfl
def iB (V:AL) (o:Nat):Bool:=match V.ob o with|some (g,_)=>g == 0|none=>false
theorem Vb {k:Nat}{ks:List Nat}{sl:Nat->AV}{V:AL}:Fx (k::ks) sl V=((sl k).sites.all (iB V) && Fx ks sl V):=rfl
def iA (x:Option (Nat×AW)):Bool:=match x with|some (g,_)=>g == 0|none=>false
theorem dV {ob cn o}:iB ⟨ob,cn⟩ o=iA (ob o):=rfl
theorem XI {g x}:iA (some (g,x))=(g == 0):=rfl
theorem iT {m:List (Nat×(Nat×AW))}{cn:Nat->Nat}{os:List Nat}:(AL.mk (Bt m) cn).nrm os=⟨Bt (FA ⟨Bt m,cn⟩ os os),fun _=>1⟩:=by
 have:=fQ (fun _=>.undef) ⟨Bt m,cn⟩ [] os
 have h2:((Bg.mk (fun _=>.undef) ⟨Bt m,cn⟩).nrm [] os).V=(AL.mk (Bt m) cn).nrm os:=rfl
 rw[←h2,this]
theorem nR {o:Nat}:QS o=if 900000<=o/\o<5000000 then o else o+5000000:=rfl
def mvL (l:List (Nat×AV)):List (Nat×AV):=l.map fun p=>(p.1,p.2.mv)
theorem ju:mvL []=[]:=rfl
theorem WQ {k v l}:mvL ((k,v)::l)=(k,v.mv)::mvL l:=rfl
def YJ (k:Nat) (g:Nat) (x:Option AW) (r:List (Nat×(Nat×AW))):List (Nat×(Nat×AW)):=match x with
 |some y=>(QS k,(g,y))::r
 |none=>r.filter fun p=>!(p.1 == QS k)
def jt:List (Nat×(Nat×AW))->List (Nat×(Nat×AW))
 |[]=>[]
 |(k,(g,x))::l=>YJ k g x.mv (jt l)
theorem jr:jt []=[]:=rfl
theorem WP {k g x l}:jt ((k,(g,x))::l)=YJ k g x.mv (jt l):=rfl
theorem bQ {k g y r}:YJ k g (some y) r=(QS k,(g,y))::r:=rfl
theorem PZ {k g r}:YJ k g none r=r.filter fun p=>!(p.1 == QS k):=rfl
theorem Jx (k:Nat):∀(l:List (Nat×(Nat×AW))) (t:Nat),Bt (l.filter fun p=>!(p.1 == k)) t=if t=k then none else Bt l t
 |[],t=>by simp[Bt]
 |p::l,t=>by
  obtain⟨a,b⟩:=p
  have ih:=Jx k l t
  by_cases h:a=k
  ·subst h
   rw[List.filter_cons,if_neg (by simp),ih]
   by_cases ht:t=a
   ·simp[ht]
   ·simp[ht,Bt]
  ·rw[List.filter_cons,if_pos (by simpa using h)]
   simp only[Bt,ih]
   by_cases ht:t=a
   ·subst ht;simp[h]
   ·simp[ht]
theorem WT:∀(m:List (Nat×(Nat×AW))) (o:Nat),Bt (jt m) o=if QS (unr o)=o then (match Bt m (unr o) with
   |some (g,x)=>match x.mv with|some y=>some (g,y)|none=>none
   |none=>none) else none
 |[],o=>by simp[jt,Bt]
 |(k,(g,x))::m,o=>by
  have ih:=WT m o
  rw[WP]
  by_cases h:o=QS k
  ·subst h
   rw[IG,if_pos rfl]
   cases hx:x.mv with
   |some y=>simp[YJ,Bt,hx]
   |none=>rw[PZ,Jx,if_pos rfl];simp[Bt,hx]
  ·have hk:QS (unr o)=o->unr o≠k:=fun h1 h2=>h (by rw[←h1,h2])
   have hrest:Bt (YJ k g x.mv (jt m)) o=Bt (jt m) o:=by
    cases x.mv with
    |some y=>simp[YJ,Bt,h]
    |none=>rw[PZ,Jx,if_neg h]
   rw[hrest,ih]
   by_cases h1:QS (unr o)=o
   ·rw[if_pos h1,if_pos h1]
    have:=hk h1
    simp[Bt,this]
   ·rw[if_neg h1,if_neg h1]
theorem pY {l:List (Nat×AV)}{m:List (Nat×(Nat×AW))}{cn:Nat->Nat}:(Bg.mk (EC l) ⟨Bt m,cn⟩).mv=⟨EC (mvL l),⟨Bt (jt m),fun _=>1⟩⟩:=by
 have h1:(fun t=>(EC l t).mv)=EC (mvL l):=by
  funext t
  induction l with
  |nil=>rfl
  |cons p l ih =>
   obtain⟨k,v⟩:=p
   simp only[WQ,EC]
   by_cases h:t=k
   ·simp[h]
   ·simp only[if_neg h];exact ih
 show Bg.mk (fun t=>(EC l t).mv) _=_
 rw[h1]
 refine congrArg (fun ob=>Bg.mk _ (AL.mk ob _)) ?_
 funext o
 exact(WT m o).symm
def sR (l:List (Nat×AV)):List (Nat×AV):=l.map fun p=>(p.1,p.2.sw)
def tZ (m:List (Nat×(Nat×AW))):List (Nat×(Nat×AW)):=m.map fun p=>(NC p.1,(p.2.1,p.2.2.sw))
theorem bH {xs}:(AW.cells xs).mv=some (.cells (xs.map AV.mv)):=rfl
theorem rC {x}:(AV.d x).mv=.d x:=rfl
theorem nS {o g f}:(AV.ptr o g f).mv=.ptr (QS o) g f:=rfl
theorem bC {V:AL} {os a b c}:(AW.mitD a b c).nrm V os=some (.mitD a b c):=rfl
theorem bD {V:AL} {os a b l}:(AW.hist a b l).nrm V os=some (.hist a b l):=rfl
theorem Ux {A:Bg->Prop}:Ms A .normal s=A s:=rfl
theorem aX {sl:Nat->AV} {ds}:KE sl [] ds=sl:=by cases ds<;>rfl
theorem Xu {sl:Nat->AV} {p ps d ds}:KE sl (p::ps) (d::ds)=KE (CO sl p (.d d)) ps ds:=rfl
def WA {α:Type}(T:α->AL) (Inv:Nat->α->Prop) (PInv:B7->α->Prop) (m:Nat) (gs:List EE) (ks os:List Nat) (sl:Nat->AV) (e:B7) (s:Bg):Prop :=
 CL gs s fun s'=>Fx ks sl (s'.V.nrm os)=true/\∃y,s'.V.nrm os=T y/\(match e with|.normal=>Inv m y|e=>PInv e y)
theorem V_ {α:Type}{T:α->AL} {Inv PInv m gs ks os sl}:WA T Inv PInv m gs ks os sl .normal s=CL gs s fun s'=>Fx ks sl (s'.V.nrm os)=true/\∃y,s'.V.nrm os=T y/\Inv m y:=rfl
theorem an {α:Type}{T:α->AL} {Inv PInv m gs ks os sl i}:WA T Inv PInv m gs ks os sl (.exit i) s=CL gs s fun s'=>Fx ks sl (s'.V.nrm os)=true/\∃y,s'.V.nrm os=T y/\PInv (.exit i) y:=rfl
theorem jT {α:Type}(T:α->AL) (Inv:Nat->α->Prop) (PInv:B7->α->Prop) (x0:α) {ps ks os:List Nat}{b:PC}{gs2:List EE}{os2:List Nat}{a:PC}{f:FuncId}{pre post:List D}{els:RD}{sl1:Nat->AV}{s1:Bg}
  (h2:(s1.nrm ks os).mv=⟨sl1,T x0⟩) (hr:(b.noR && a.noR)=true) (hs:TG E f pre post els) (hw:Fx ks sl1 (T x0)=true) (hI:Inv 0 x0)
  (step:∀n x ds k,els.nx n ds k->Inv n x->ps.length=ds.length/\pw E b (Ms fun s2=>pw E a (WA T Inv PInv k gs2 ks os2 sl1) s2) ⟨KE sl1 ps ds,T x⟩)
  (hend:∀n x,els.fin n->Inv n x->Q .normal ⟨sl1,T x⟩) (hjump:∀e x,PInv e x->Q e ⟨sl1,T x⟩) :
  (b.noR && a.noR)=true/\∃els,TG E f pre post els/\∃(JJ:Nat->AL->Prop) (Pd:B7->AL->Prop),
   Fx ks (s1.nrm ks os).mv.sl (s1.nrm ks os).mv.V=true/\JJ 0 (s1.nrm ks os).mv.V /\
   (∀n V ds k,V.cn=(fun _=>1)->els.nx n ds k->JJ n V->ps.length=ds.length /\
    pw E b (Ms fun s2=>pw E a (mt JJ Pd k gs2 ks os2 (s1.nrm ks os).mv.sl) s2) ⟨KE (s1.nrm ks os).mv.sl ps ds,V⟩) /\
   (∀n V,V.cn=(fun _=>1)->els.fin n->JJ n V->Q .normal ⟨(s1.nrm ks os).mv.sl,V⟩) /\
   ∀e V,V.cn=(fun _=>1)->Pd e V->Q e ⟨(s1.nrm ks os).mv.sl,V⟩:=by
 refine⟨hr,els,hs,fun n V=>∃x,V=T x/\Inv n x,fun e V=>∃x,V=T x/\PInv e x,?_,?_,?_,?_,?_⟩
 ·rw[h2];exact hw
 ·rw[h2];exact⟨x0,rfl,hI⟩
 ·rintro n V ds k _ hds ⟨x,rfl,hx⟩
  obtain⟨k1,k2⟩:=step n x ds k hds hx
  refine⟨k1,?_⟩
  rw[h2]
  refine Gn k2 fun e s2 h3=>?_
  cases e with
  |normal =>
   refine Gn h3 fun e s3 h4=>?_
   refine DD (fun s4 h5=>?_) h4
   obtain⟨k3,y,k4,k5⟩:=h5
   refine⟨k3,?_⟩
   cases e with
   |normal=>exact⟨y,k4,k5⟩
   |exit i=>exact⟨y,k4,k5⟩
   |ret=>exact⟨y,k4,k5⟩
  |exit i=>exact h3
  |ret=>exact h3
 ·rintro n V _ hn ⟨x,rfl,hx⟩
  rw[h2];exact hend n x hn hx
 ·rintro e V _ ⟨x,rfl,hx⟩
  rw[h2];exact hjump e x hx
theorem ZZ {α:Type}(T:α->AL) (Inv:Nat->α->Prop) (PInv:B7->α->Prop) (x0:α) {gs:List EE}{g:Hd}{ps ks os:List Nat}{b:PC}{gs2:List EE}{os2:List Nat}{a:PC}{f:FuncId}{pre post:List D}{els:RD}{sl1:Nat->AV}
  (h0:CL gs s fun s1=>((∃cs,g.val s1.sl=.bnd f cs/\FB cs=some pre)/\post=[]\/g.val s1.sl=.d (.fn f post)/\pre=[])/\(s1.nrm ks os).mv=⟨sl1,T x0⟩) (hT:∀x,(T x).cn=fun _=>1) (hb:Bk E.P f=true) (hr:(b.noR && a.noR)=true) (hs:TG E f pre post els) (hw:Fx ks sl1 (T x0)=true) (hI:Inv 0 x0)
  (step:∀n x ds k,els.nx n ds k->Inv n x->ps.length=ds.length/\pw E b (Ms fun s2=>pw E a (WA T Inv PInv k gs2 ks os2 sl1) s2) ⟨KE sl1 ps ds,T x⟩)
  (hend:∀n x,els.fin n->Inv n x->Q .normal ⟨sl1,T x⟩) (hjump:∀e x,PInv e x->Q e ⟨sl1,T x⟩):pw E (.rngF gs g ps ks os b gs2 os2 a) Q s:=by
 refine DD (fun s1 h=>?_) h0
 obtain⟨h1,h2⟩:=h
 suffices hk:Up E (g.val s1.sl) (fun f' pre' post'=>f'=f/\pre'=pre/\post'=post) by
  refine Th (fun f' pre' post' hk=>?_) hk
  obtain⟨rfl,rfl,rfl⟩:=hk
  exact jT T Inv PInv x0 h2 hr hs hw hI step hend hjump
 unfold Up
 rcases h1 with⟨⟨cs,h1,h1'⟩,rfl⟩|⟨h1,rfl⟩
 ·rw[h1];dsimp only;rw[h1'];exact⟨hb,rfl,rfl,rfl⟩
 ·rw[h1];exact⟨hb,rfl,rfl,rfl⟩
theorem Za {α:Type}(T:α->AL) (Inv:Nat->α->Prop) (PInv:B7->α->Prop) (x0:α) {gs:List EE}{g:Hd}{ps ks os:List Nat}{b:PC}{gs2:List EE}{os2:List Nat}{a:PC}{f:FuncId}{pre post:List D}{els:List (List D)}{sl1:Nat->AV}
  (h0:CL gs s fun s1=>((∃cs,g.val s1.sl=.bnd f cs/\FB cs=some pre)/\post=[]\/g.val s1.sl=.d (.fn f post)/\pre=[])/\(s1.nrm ks os).mv=⟨sl1,T x0⟩) (hT:∀x,(T x).cn=fun _=>1) (hb:Bk E.P f=true) (hr:(b.noR && a.noR)=true) (hs:TG E f pre post els) (hw:Fx ks sl1 (T x0)=true) (hI:Inv 0 x0)
  (step:∀n x ds,els[n]?=some ds->Inv n x->ps.length=ds.length/\pw E b (Ms fun s2=>pw E a (WA T Inv PInv (n+1) gs2 ks os2 sl1) s2) ⟨KE sl1 ps ds,T x⟩)
  (hend:∀x,Inv els.length x->Q .normal ⟨sl1,T x⟩) (hjump:∀e x,PInv e x->Q e ⟨sl1,T x⟩):pw E (.rngF gs g ps ks os b gs2 os2 a) Q s :=
 ZZ T Inv PInv x0 h0 hT hb hr hs hw hI (fun n x ds k hk hx=>by obtain⟨hk,rfl⟩:=hk;exact step n x ds hk hx) (fun n x hn hx=>by obtain rfl:n=els.length:=hn;exact hend x hx) hjump
theorem jS {α:Type}(uo:α->List (Nat×AW)) (Inv:Nat->α->Prop) (PInv:B7->α->Prop) (x0:α) {so:List (Nat×(Nat×AW))->List (Nat×AW)->List (Nat×(Nat×AW))}{gs:List EE}{g:Hd}{ps ks os:List Nat}{b:PC}{gs2:List EE}{os2:List Nat}{a:PC}{f:FuncId}{pre post:List D}{els:List (List D)}{l0:List (Nat×AV)}{m0:List (Nat×(Nat×AW))}
  (hs:TG E f pre post els) (hb:Bk E.P f=true) (h0:CL gs s fun s1=>((∃cs,g.val s1.sl=.bnd f cs/\FB cs=some pre)/\post=[]\/g.val s1.sl=.d (.fn f post)/\pre=[])/\(s1.nrm ks os).mv=⟨EC l0,⟨Bt m0,fun _=>1⟩⟩) (he:so m0 (uo x0)=m0) (hr:(b.noR && a.noR)=true) (hw:Fx ks (EC l0) ⟨Bt m0,fun _=>1⟩=true) (hI:Inv 0 x0)
  (step:∀n x ds,els[n]?=some ds->Inv n x->ps.length=ds.length/\pw E b (Ms fun s2=>pw E a (WA (fun x=>⟨Bt (so m0 (uo x)),fun _=>1⟩) Inv PInv (n+1) gs2 ks os2 (EC l0)) s2) ⟨KE (EC l0) ps ds,⟨Bt (so m0 (uo x)),fun _=>1⟩⟩)
  (hend:∀x,Inv els.length x->Q .normal ⟨EC l0,⟨Bt (so m0 (uo x)),fun _=>1⟩⟩) (hjump:∀e x,PInv e x->Q e ⟨EC l0,⟨Bt (so m0 (uo x)),fun _=>1⟩⟩):pw E (.rngF gs g ps ks os b gs2 os2 a) Q s :=
 Za (fun x=>⟨Bt (so m0 (uo x)),fun _=>1⟩) Inv PInv x0 (by rw[he];exact h0) (fun _=>rfl) hb hr hs (by rw[he];exact hw) hI step hend hjump
end
theorem po {α:Type}{S:AL}{T:α->AL}{I:α->Prop}(h:∃y,S=T y/\I y):∃y,S=T y/\I y:=h
theorem lk {α β:Type}{S:AL}{T:α×β->AL}{I:α×β->Prop}(h:∃y,S=T y/\I y):∃y,S=T y/\I y:=h
theorem lj {α β γ:Type}{S:AL}{T:α×β×γ->AL}{I:α×β×γ->Prop}(h:∃y,S=T y/\I y):∃y,S=T y/\I y:=h
theorem lh {α β γ δ:Type}{S:AL}{T:α×β×γ×δ->AL}{I:α×β×γ×δ->Prop}(h:∃y,S=T y/\I y):∃y,S=T y/\I y:=h
end Go.Pw
end
