/- Part. -/
import Derived.Test.YtmdklgapccickaaGreatDoorPwZ
set_option linter.all false
open List renaming replicate->aa,filter_cons->ay
open Bool renaming false_eq_true->ax
section
namespace Go.Pw
def Ib(x:Option AY)(A:List AV->Prop):Prop:=match x with|some (.cells cs)=>A cs|_=>False
def Hu(x:Option AY)(A:Nat->Nat->Bool->List D->Prop):Prop:=match x with|some (.row a b c l)=>A a b c l|_=>False
def NW(x:Option AY)(A:LW->List (D×D)->Prop):Prop:=match x with|some (.map t l)=>A t l|_=>False
def F8(x:Option AY)(A:Nat->Nat->Bool->List Nat->List (Bool×List D)->Prop):Prop:=match x with|some (.mat a b c d e)=>A a b c d e|_=>False
def Au{α:Type}(x:Option α)(A:α->Prop):Prop:=match x with|some v=>A v|none=>False
def Xl{α:Type}(x:Option α)(A:α->Prop)(B:Prop):Prop:=match x with|some v=>A v|none=>B
theorem Y6(cs A):Ib (some (.cells cs)) A=A cs:=rfl
theorem fE(a b c l A):Hu (some (.row a b c l)) A=A a b c l:=rfl
theorem fI(t l A):NW (some (.map t l)) A=A t l:=rfl
def Xm(x:Option AY)(B:LW->List (D×D)->List Nat->Prop):Prop:=match x with
 |some (.mitD t k l)=>B t k l
 |_=>False
theorem tz(t k l B):Xm (some (.mitD t k l)) B=B t k l:=rfl
def uB(kvs:List (D×D))(seen:List Nat)(A:Nat->Prop)(B:Prop):Prop:=(∀i,i<kvs.length->seen.contains i=false->A i)/\((∀i,i<kvs.length->seen.contains i=true)->B)
theorem o6{kvs:List (D×D)}{seen:List Nat}{A:Nat->Prop}{B:Prop}(h1:∀i,i<kvs.length->seen.contains i=false->A i)(h2:(∀i,i<kvs.length->seen.contains i=true)->B):uB kvs seen A B:=⟨h1,h2⟩
theorem bb{α:Type}(v:α)(A:α->Prop):Au (some v) A=A v:=rfl
theorem fF{α:Type}(v:α)(A:α->Prop)(B:Prop):Xl (some v) A B=A v:=rfl
theorem fG{α:Type}(A:α->Prop)(B:Prop):Xl none A B=B:=rfl
section
variable {E:CW}{dst:Option Nat}{V:AO}{K:AV->Bs->Prop}
theorem yg{α:Type}{n:Nat}{cs:List α}{off:Nat}{mk:List α->AV}{one:α->AV}{C:AV->Prop}:DI true n cs off mk one C=(off+n<=cs.length/\C (mk ((cs.drop off).take n))):=by simp[DI]
theorem yh{α:Type}{n:Nat}{cs:List α}{off:Nat}{mk:List α->AV}{one:α->AV}{C:AV->Prop}:DI false n cs off mk one C=Au cs[off]? fun v=>C (one v):=by
 simp only[DI,ax,if_false];cases cs[off]?<;>rfl
theorem cy{ag n o g off}:ev E dst V (.load ag n) [.ptr o g off] K=Ib (V.get o g) fun cs=>DI ag n cs off .agg id (K · .none):=by
 simp only[ev];cases V.get o g with
 |none=>rfl
 |some x=>cases x<;>rfl
theorem ZN{ag n o g es i off}:ev E dst V (.load ag n) [.rptr o g es i off] K=Hu (V.get o g) (fun _ es' _ l=>es=es'/\Au l[i]? fun x=>DI ag n x.cells off (fun cs=>.d (.agg cs)) .d (K · .none)):=by
 simp only[ev];cases V.get o g with
 |none=>rfl
 |some x =>
  cases x with
  |row a b c l=>simp only[Hu];cases l[i]?<;>rfl
  |_=>rfl
theorem ZO{ag n cs off}:ev E dst V (.load ag n) [.dptr cs off] K=DI ag n cs off (fun cs=>.d (.agg cs)) .d (K · .none):=rfl
theorem lQ{ag n cs}:ev E dst V (.load ag n) [.d (.ptr cs)] K=DI ag n cs 0 (fun cs=>.d (.agg cs)) .d (K · .none):=rfl
theorem ZH{n o g off v}:ev E dst V (.store n) [.ptr o g off,v] K=Ib (V.get o g) fun cs=>Au v.cells? fun vs=>vs.length=n/\off+n<=cs.length/\K .undef (.keep o g (.cells (BX cs off vs))):=by
 unfold ev Ib Au;simp only
 cases V.get o g with
 |none=>rfl
 |some x=>cases x<;>cases v.cells?<;>rfl
theorem ZQ{off o g a}:ev E dst V (.faddr off) [.ptr o g a] K=K (.ptr o g (a+off)) .none:=rfl
theorem Wz{off cs a}:ev E dst V (.faddr off) [.dptr cs a] K=K (.dptr cs (a+off)) .none:=rfl
theorem gM{off cs}:ev E dst V (.faddr off) [.d (.ptr cs)] K=K (.dptr cs off) .none:=rfl
theorem vR{nl:Bool}{l:List D}:ev E dst V (.len false) [.d (.list nl l)] K=K (.d (.int .i64 l.length)) .none:=rfl
theorem gL{es nl l k i}:ev E dst V (.iaddrS es) [.d (.list nl l),.d (.int k i)] K=(0<=i/\i<l.length/\Au l[i.toNat]? fun x=>x.cells.length=es/\K (.dptr x.cells 0) .none):=by
 simp only[ev];cases l[i.toNat]?<;>rfl
theorem zZ{t v}:ev E (some t) V .box [v] K=Au v.cells? fun cs=>t<Cr/\K (.ptr t (V.cn t) 0) (.fresh t (.cells cs)):=by
 simp only[ev];cases v.cells?<;>rfl
theorem vS{k k' n}:ev E dst V (.conv k) [.d (.int k' n)] K=K (.d (.int k (k.wrap n))) .none:=rfl
theorem gN{i vs}:ev E dst V (.extract i) [.tup vs] K=Au vs[i]? fun v=>K v .none:=by
 simp only[ev];cases vs[i]?<;>rfl
theorem vT{f xs}:ev E dst V (.call f) xs K=DW E dst V f xs K:=rfl
theorem T9{n o g es0 i off x}:ev E dst V (.store n) [.rptr o g es0 i off,.d x] K=Hu (V.get o g) fun ety es nl l=>Au (AV.d x).toD1 fun y=>es0=es/\Au l[i]? fun x=>y.cells.length=n/\off+n<=x.cells.length/\(n=es\/1<x.cells.length) /\
  K .undef (.keep o g (.row ety es nl (l.set i (if n=es then y else .agg (BX x.cells off y.cells))))):=by
 simp only[ev];cases V.get o g with
 |none=>rfl
 |some x =>
  cases x with
  |row a b c l=>simp only[Hu];cases(AV.d x).toD1 with
   |none=>rfl
   |some y=>simp only[Au];cases l[i]?<;>rfl
  |_=>rfl
theorem ZJ{o g off}:ev E dst V .nilck [.ptr o g off] K=K (.ptr o g off) .none:=rfl
theorem Wx{o g es i off}:ev E dst V .nilck [.rptr o g es i off] K=K (.rptr o g es i off) .none:=rfl
theorem gE{cs}:ev E dst V .nilck [.d (.ptr cs)] K=K (.d (.ptr cs)) .none:=rfl
theorem ZP{es o g k i}:ev E dst V (.iaddrS es) [.own o g,.d (.int k i)] K=Hu (V.get o g) (fun _ es' _ l=>es=es'/\0<=i/\i<l.length/\K (.rptr o g es i.toNat 0) .none):=by
 simp only[ev];cases V.get o g with
 |none=>rfl
 |some x=>cases x<;>rfl
theorem Wy{len es o g off k i}:ev E dst V (.iaddrA len es) [.ptr o g off,.d (.int k i)] K=(0<=i/\i<len/\K (.ptr o g (off+i.toNat * es)) .none):=rfl
theorem Vl{len es cs off k i}:ev E dst V (.iaddrA len es) [.dptr cs off,.d (.int k i)] K=(0<=i/\i<len/\K (.dptr cs (off+i.toNat * es)) .none):=rfl
theorem dA{len es cs k i}:ev E dst V (.iaddrA len es) [.d (.ptr cs),.d (.int k i)] K=(0<=i/\i<len/\K (.dptr cs (i.toNat * es)) .none):=rfl
theorem vO{sb:ByteArray}{k i}:ev E dst V (.strx sb) [.d (.int k i)] K=(0<=i/\Au sb[i.toNat]? fun b=>K (.d (.int .u8 b.toNat)) .none):=by
 show(0<=i/\_)=_
 cases sb[i.toNat]?<;>rfl
theorem qp{z pl xs}:ev E dst V (.build z pl) xs K=Au (PO (z.map .d) (pl.zip xs)) fun cs=>pl.length=xs.length/\K (.agg cs) .none:=by
 simp only[ev];cases PO (z.map .d) (pl.zip xs)<;>rfl
theorem ZL{es z n ix}:ev E dst V (.mkrow es z n ix) [] K=Au (Ga es (aa n z) (ix.zip [])) fun l=>ix.length=0/\K (.ex l) .none:=by
 simp only[ev];cases Ga es (aa n z) (ix.zip [])<;>rfl
theorem gF{es z n ix x xs}:ev E dst V (.mkrow es z n ix) (.d x::xs) K=Au (Ga es (aa n z) (ix.zip (.d x::xs))) fun l=>ix.length=(.d x::xs).length/\K (.ex l) .none:=by
 simp only[ev];cases Ga es (aa n z) (ix.zip (.d x::xs))<;>rfl
theorem ZM{es z n ix x xs}:ev E dst V (.mkrow es z n ix) (.agg x::xs) K=Au (Ga es (aa n z) (ix.zip (.agg x::xs))) fun l=>ix.length=(.agg x::xs).length/\K (.ex l) .none:=by
 simp only[ev];cases Ga es (aa n z) (ix.zip (.agg x::xs))<;>rfl
theorem cx{es z n ix x xs}:ev E dst V (.mkrow es z n ix) (.ex x::xs) K=Au (Ga es (aa n z) (ix.zip (.ex x::xs))) fun l=>ix.length=(.ex x::xs).length/\K (.ex l) .none:=by
 simp only[ev];cases Ga es (aa n z) (ix.zip (.ex x::xs))<;>rfl
theorem ZK{es z n ix q p}:ev E dst V (.mkrow es z n ix) [.own q p] K=(es=1/\n=1/\ix=[0]/\K (.ablk true [.own q p] 0) .none):=rfl
theorem fH(a b c d e A):F8 (some (.mat a b c d e)) A=A a b c d e:=rfl
theorem gH{ag n o g i}:ev E dst V (.load ag n) [.mref (.xp i) o g] K=F8 (V.get o g) fun _ _ _ ix _=>Au ix[i]? fun j=>DI ag n [.mref (.row j) o g] 0 .agg id (K · .none):=by
 simp only[ev];cases V.get o g with
 |none=>rfl
 |some x =>
  cases x with
  |mat a b c ix rows=>simp only[F8];cases ix[i]?<;>rfl
  |_=>rfl
theorem gI{ag n o g j k}:ev E dst V (.load ag n) [.mref (.mp j k) o g] K=F8 (V.get o g) fun _ _ _ _ rows=>Au rows[j]? fun x=>Au x.2[k]? fun y=>DI ag n y.cells 0 (fun cs=>.d (.agg cs)) .d (K · .none):=by
 simp only[ev];cases V.get o g with
 |none=>rfl
 |some x =>
  cases x with
  |mat a b c ix rows=>simp only[F8];cases rows[j]? with
   |none=>rfl
   |some x=>simp only[Au];cases x.2[k]?<;>rfl
  |_=>rfl
theorem gJ{ag n cs off}:ev E dst V (.load ag n) [.ablk false cs off] K=DI ag n cs off .agg id (K · .none):=rfl
theorem cq{n i o g j o' g'}:ev E dst V (.store n) [.mref (.xp i) o g,.mref (.row j) o' g'] K=F8 (V.get o g) fun e1 e2 nl ix rows=>n=1/\o'=o/\g'=g/\i<ix.length/\j<rows.length/\K .undef (.keep o g (.mat e1 e2 nl (ix.set i j) rows)):=by
 simp only[ev];cases V.get o g with
 |none=>rfl
 |some x=>cases x<;>rfl
theorem cr{n j k o g v}:ev E dst V (.store n) [.mref (.mp j k) o g,.d v] K=F8 (V.get o g) fun e1 e2 nl ix rows=>Au (AV.d v).toD1 fun y=>Au rows[j]? fun x=>n=1/\y.cells.length=1/\k<x.2.length/\K .undef (.keep o g (.mat e1 e2 nl ix (rows.set j (x.1,x.2.set k y)))):=by
 simp only[ev];cases V.get o g with
 |none=>rfl
 |some x =>
  cases x with
  |mat a b c ix rows=>simp only[F8];cases(AV.d v).toD1 with
   |none=>rfl
   |some y=>simp only[Au];cases rows[j]?<;>rfl
  |_=>rfl
theorem c9{es o g k i}:ev E dst V (.iaddrS es) [.mref .out o g,.d (.int k i)] K=F8 (V.get o g) fun _ _ _ ix _=>es=1/\0<=i/\i<ix.length/\K (.mref (.xp i.toNat) o g) .none:=by
 simp only[ev];cases V.get o g with
 |none=>rfl
 |some x=>cases x<;>rfl
theorem cz{es j o g k i}:ev E dst V (.iaddrS es) [.mref (.row j) o g,.d (.int k i)] K=F8 (V.get o g) fun _ _ _ _ rows=>Au rows[j]? fun x=>es=1/\0<=i/\i<x.2.length/\K (.mref (.mp j i.toNat) o g) .none:=by
 simp only[ev];cases V.get o g with
 |none=>rfl
 |some x =>
  cases x with
  |mat a b c ix rows=>simp only[F8];cases rows[j]?<;>rfl
  |_=>rfl
theorem qq{ety es z own o g q p}:ev E dst V (.app ety es z own) [.mref .out o g,.ablk true [.own q p] 0] K=F8 (V.get o g) fun e1 e2 nl ix rows=>Hu (V.get q p) fun i h e l2 =>
  z=none/\o<Cr/\q<Cr/\o≠q/\ety=e1/\es=1/\h=1/\i=e2/\ix.length+1<=Ch /\
   K (.mref .out o (V.cn o)) (.seq (.fresh o (.mat e1 e2 false (ix++[rows.length]) (rows++[(e,l2)]))) (.fresh q (.row e2 1 true []))):=by
 simp only[ev];cases V.get o g with
 |none=>rfl
 |some x =>
  cases x with
  |mat a b c ix rows=>simp only[F8];cases V.get q p with
   |none=>rfl
   |some y=>cases y<;>rfl
  |_=>rfl
theorem lL{ety es z n ix xs t}:ev E (some t) V (.mkrowO ety es z n ix) xs K=Au (Ga es (aa n z) (ix.zip xs)) fun l=>t<Cr/\ix.length=xs.length/\K (.own t (V.cn t)) (.fresh t (.row ety es false l)):=by
 simp only[ev];cases Ga es (aa n z) (ix.zip xs)<;>rfl
theorem vQ{f xs}:ev E dst V (.mkfn f) xs K=K (.fn f xs) .none:=rfl
theorem vN{cs t}:ev E (some t) V (.zero cs) [] K=(t<Cr/\K (.ptr t (V.cn t) 0) (.fresh t (.cells (cs.map .d)))):=rfl
theorem qh{tys t}:ev E (some t) V (.mkmap tys) [] K=(t<Cr/\K (.map t (V.cn t)) (.fresh t (.map tys []))):=rfl
theorem cv{ety es z t n m}:ev E (some t) V (.mksl ety es z true) [.d (.int .i64 n),.d (.int .i64 m)] K=(n=m/\0<=n/\n<=(Ch:Int)/\t<Cr/\K (.own t (V.cn t)) (.fresh t (.row ety es false (aa n.toNat z)))):=rfl
theorem gD{es lo hi nl l rest}:ev E dst V (.slice es lo hi false) (.d (.list nl l)::rest) K=(Cc es l/\Pt lo hi l.length rest fun a b=>K (.d (.list nl ((l.drop a).take (b-a)))) .none):=rfl
theorem ZI{es lo o g rest}:ev E dst V (.slice es lo false false) (.own o g::rest) K=Hu (V.get o g) fun ety es' nl l=>o<Cr/\es=es'/\Pt lo false l.length rest fun a _=>K (.own o (V.cn o)) (.fresh o (.row ety es nl (l.drop a))):=by
 simp only[ev,ax,if_false];cases V.get o g with
 |none=>rfl
 |some x=>cases x<;>rfl
theorem Ww{es lo o g rest}:ev E dst V (.slice es lo true false) (.own o g::rest) K=Hu (V.get o g) fun ety es' nl l=>o<Cr/\es=es'/\Pt lo true l.length rest fun a b=>K (.own o (V.cn o)) (.fresh o (.row ety es nl ((l.drop a).take (b-a)))):=by
 simp only[ev,ax,if_false,if_true];cases V.get o g with
 |none=>rfl
 |some x=>cases x<;>rfl
theorem zY:ev E dst V .cap [.d (.list true [])] K=K (.d (.int .i64 0)) .none:=rfl
theorem yM{len:Nat}{C:Nat->Nat->Prop}{k h}:Pt false true len [.d (.int k h)] C=(0<=h/\h<=len/\C 0 h.toNat):=rfl
theorem yL{len:Nat}{C:Nat->Nat->Prop}{k h}:Pt true false len [.d (.int k h)] C=(0<=h/\h<=len/\C h.toNat len):=rfl
theorem gK{o g}:ev E dst V (.len false) [.own o g] K=Hu (V.get o g) fun _ _ _ l=>K (.d (.int .i64 l.length)) .none:=by
 simp only[ev,ax,if_false,AV.lenL,AV.asList];cases V.get o g with
 |none=>rfl
 |some x=>cases x<;>rfl
theorem lS{o g}:ev E dst V (.len false) [.mref .out o g] K=F8 (V.get o g) fun _ _ _ ix _=>K (.d (.int .i64 ix.length)) .none:=by
 simp only[ev,ax,if_false,AV.lenL,AV.asList];cases V.get o g with
 |none=>rfl
 |some x=>cases x<;>first|rfl|simp[Mw,F8]
theorem lR{j o g}:ev E dst V (.len false) [.mref (.row j) o g] K=F8 (V.get o g) fun _ _ _ _ rows=>Au rows[j]? fun x=>JS x=true/\K (.d (.int .i64 x.2.length)) .none:=by
 simp only[ev,ax,if_false,AV.lenL,AV.asList];cases V.get o g with
 |none=>rfl
 |some x=>cases x<;>first|rfl|(simp only[F8];rename_i rows;cases rows[j]? with|none=>rfl|some x=>cases hx:JS x<;>simp[Au,Option.filter,hx])
theorem lT{off n cap o g}:ev E dst V (.len false) [.mref (.bs off n cap) o g] K=K (.d (.int .i64 n)) .none:=rfl
theorem qf{o g off k h k' m}:ev E dst V (.slice 1 true true true) [.ptr o g off,.d (.int k h),.d (.int k' m)] K=(0<=h/\h<=m/\K (.mref (.bs off h.toNat m.toNat) o g) .none):=rfl
theorem lK{cs off k h k' m}:ev E dst V (.slice 1 true true true) [.dptr cs off,.d (.int k h),.d (.int k' m)] K=(0<=h/\h<=m/\off+m.toNat<=cs.length/\K (.d (.list false ((cs.drop off).take h.toNat))) .none):=rfl
theorem lJ{es l k a k' h k'' m}:ev E dst V (.slice es true true true) [.d (.list false l),.d (.int k a),.d (.int k' h),.d (.int k'' m)] K=(Cc es l/\h=m/\0<=a/\a<h/\h<=l.length/\K (.ex ((l.drop a.toNat).take (h.toNat-a.toNat))) .none):=rfl
theorem c_{es off n cap o g k i}:ev E dst V (.iaddrS es) [.mref (.bs off n cap) o g,.d (.int k i)] K=(es=1/\0<=i/\i<n/\K (.ptr o g (off+i.toNat)) .none):=rfl
theorem qk{t kvs}:ev E dst V (.len true) [.d (.map t kvs)] K=(kvs.length<=Ch/\K (.d (.int .i64 kvs.length)) .none):=rfl
theorem qm{n x}:ev E dst V (.eqnil n) [x,.d (.list true [])] K=Au (x.asList V) fun p=>K (.d (.bool (if n then !p.1 else p.1))) .none:=by
 simp only[ev];cases x.asList V<;>rfl
theorem lM{m k a rest}:ev E dst V (.minmax m) (.d (.int k a)::rest) K=Au (Gv m k a rest) fun r=>K (.d (.int k r)) .none:=by
 simp only[ev];cases Gv m k a rest<;>rfl
theorem gG{tys z o g key}:ev E dst V (.lookup false tys z) [.map o g,key] K=NW (V.get o g) (fun tys' kvs=>Au key.toD1 fun k=>tys=tys'/\Jo tys k=true/\Xl (C0 k kvs) (fun v=>K (.d v) .none) (K (.d z) .none)):=by
 simp only[ev];cases V.get o g with
 |none=>rfl
 |some x =>
  cases x with
  |map t l=>simp only[NW];cases key.toD1 with
   |none=>rfl
   |some k=>simp only[Au];cases C0 k l<;>rfl
  |_=>rfl
theorem lO{tys o g key val}:ev E dst V (.mapupd tys) [.map o g,key,val] K=NW (V.get o g) (fun tys' kvs=>Au key.toD1 fun k=>Au val.toD1 fun v=>tys=tys'/\Jo tys k=true/\K .undef (.keep o g (.map tys (T0 k v kvs)))):=by
 simp only[ev];cases V.get o g with
 |none=>rfl
 |some x =>
  cases x with
  |map t l=>simp only[NW];cases key.toD1<;>cases val.toD1<;>rfl
  |_=>rfl
theorem cu{t tys kvs}:ev E (some t) V .mrange [.d (.map tys kvs)] K=(t<Cr/\K (.ptr t (V.cn t) 0) (.fresh t (.mitD tys kvs []))):=rfl
theorem lN{o g}:ev E dst V .mentry [.ptr o g 0] K=Xm (V.get o g) fun _ kvs seen=>Au seen.getLast? fun i=>Au kvs[i]? fun kv=>K (.tup [.d kv.1,.d kv.2]) .none:=by
 simp only[ev];cases V.get o g with
 |none=>rfl
 |some x =>
  cases x with
  |mitD t k seen =>
   simp only[Xm]
   cases seen.getLast? with
   |none=>rfl
   |some i=>simp only[Au];cases k[i]?<;>rfl
  |_=>rfl
theorem pH{o g}:Qz (.ptr o g 0) V K=Xm (V.get o g) fun tys kvs seen=>uB kvs seen (fun i=>K (.tup [.d (.bool true),.undef,.undef]) (.keep o g (.mitD tys kvs (seen++[i])))) (K (.tup [.d (.bool false)]) .none):=by
 simp only[Qz];cases V.get o g with
 |none=>rfl
 |some x=>cases x<;>rfl
theorem lP{tys z o g key}:ev E dst V (.mapent tys z) [.map o g,key] K=NW (V.get o g) fun tys' kvs=>Au key.toD1 fun k=>tys=tys'/\Jo tys k=true/\kvs.length<=Ch /\
  Xl (FH k kvs) (fun i=>K (.tup [.undef,.d (.int .i64 i)]) .none) (K (.tup [.undef,.d (.int .i64 kvs.length)]) (.keep o g (.map tys (kvs++[(k,z)])))):=by
 simp only[ev];cases V.get o g with
 |none=>rfl
 |some x =>
  cases x with
  |map t l=>simp only[NW];cases key.toD1 with
   |none=>rfl
   |some k=>simp only[Au];cases FH k l<;>rfl
  |_=>rfl
theorem qn{o g k i val}:ev E dst V .entst [.map o g,.d (.int k i),val] K=NW (V.get o g) fun tys kvs=>Au val.toD1 fun v=>0<=i/\v.one=true/\Au kvs[i.toNat]? fun e=>K .undef (.keep o g (.map tys (kvs.set i.toNat (e.1,v)))):=by
 simp only[ev];cases V.get o g with
 |none=>rfl
 |some x =>
  cases x with
  |map t l=>simp only[NW];cases val.toD1 with
   |none=>rfl
   |some v=>simp only[Au];cases l[i.toNat]?<;>rfl
  |_=>rfl
theorem gP{ety es z own o g y}:ev E dst V (.app ety es z own) [.own o g,y] K=Au (Dq V z y) fun ys=>Hu (V.get o g) fun ety' es' nl l=>o<Cr/\ety=ety'/\es=es'/\Cc es ys/\l.length+ys.length<=Ch /\
  K (.own o (V.cn o)) (.fresh o (.row ety es (nl && ys.isEmpty) (l++ys))):=by
 simp only[ev];cases Dq V z y with
 |none=>rfl
 |some ys =>
  simp only[Au]
  cases V.get o g with
  |none=>rfl
  |some x=>cases x<;>rfl
theorem gQ{ety es z t y}:ev E (some t) V (.app ety es z true) [.d (.list true []),y] K=Au (Dq V z y) fun ys=>Cc es ys/\ys.length<=Ch/\t<Cr/\K (.own t (V.cn t)) (.fresh t (.row ety es ys.isEmpty ys)):=by
 simp only[ev];cases Dq V z y<;>rfl
theorem lU{ety es z t l y}:ev E (some t) V (.app ety es z true) [.ex l,y] K=Au (Dq V z y) fun ys=>Cc es (l++ys)/\l.length+ys.length<=Ch/\(ys=[]->K (.ex l) .none)/\(ys≠[]->t<Cr/\K (.own t (V.cn t)) (.fresh t (.row ety es false (l++ys)))):=by
 simp only[ev];cases Dq V z y with
 |none=>rfl
 |some ys=>cases ys<;>simp[Au]
theorem gR{ety es z l y}:ev E dst V (.app ety es z false) [.ex l,y] K=Au (Dq V z y) fun ys=>Cc es (l++ys)/\l.length+ys.length<=Ch/\K (.d (.list false (l++ys))) .none:=by
 simp only[ev];cases Dq V z y<;>rfl
theorem dB{f cs args}:ev E dst V .callv (.fn f cs::args) K=(BA E.P f=true/\DW E dst V f (args++cs) K):=rfl
theorem gO{f cs args}:ev E dst V .callv (.d (.fn f cs)::args) K=(BA E.P f=true/\DW E dst V f (args++cs.map .d) K):=rfl
theorem lp{k k':IntKind}{a b:Int}{C:AV->Prop}:Dn .eql k k' a b C=(k=k'/\C (.d (.bool (decide (a=b))))):=rfl
theorem ld{k k':IntKind}{a b:Int}{C:AV->Prop}:Dn .neq k k' a b C=(k=k'/\C (.d (.bool (!decide (a=b))))):=rfl
theorem lh{k k':IntKind}{a b:Int}{C:AV->Prop}:Dn .lss k k' a b C=(k=k'/\C (.d (.bool (decide (a<b))))):=rfl
theorem lj{k k':IntKind}{a b:Int}{C:AV->Prop}:Dn .leq k k' a b C=(k=k'/\C (.d (.bool (decide (a<=b))))):=rfl
theorem ll{k k':IntKind}{a b:Int}{C:AV->Prop}:Dn .gtr k k' a b C=(k=k'/\C (.d (.bool (decide (b<a))))):=rfl
theorem ln{k k':IntKind}{a b:Int}{C:AV->Prop}:Dn .geq k k' a b C=(k=k'/\C (.d (.bool (decide (b<=a))))):=rfl
theorem lu{k k':IntKind}{a b:Int}{C:AV->Prop}:Dn .add k k' a b C=(k=k'/\C (.d (.int k (k.wrap (a+b))))):=rfl
theorem lW{k k':IntKind}{a b:Int}{C:AV->Prop}:Dn .sub k k' a b C=(k=k'/\C (.d (.int k (k.wrap (a-b))))):=rfl
theorem lf{k k':IntKind}{a b:Int}{C:AV->Prop}:Dn .mul k k' a b C=(k=k'/\C (.d (.int k (k.wrap (a*b))))):=rfl
theorem lc{k k':IntKind}{a b:Int}{C:AV->Prop}:Dn .quo k k' a b C=(k=k'/\b≠0/\C (.d (.int k (k.wrap (a.tdiv b))))):=rfl
theorem lZ{k k':IntKind}{a b:Int}{C:AV->Prop}:Dn .rem k k' a b C=(k=k'/\b≠0/\C (.d (.int k (a.tmod b)))):=rfl
theorem lY{k k':IntKind}{a b:Int}{C:AV->Prop}:Dn .shl k k' a b C=(0<=b/\C (.d (.int k (k.wrap (a*2^(min b.toNat k.bits)))))):=rfl
theorem lX{k k':IntKind}{a b:Int}{C:AV->Prop}:Dn .shr k k' a b C=(0<=b/\C (.d (.int k (a.fdiv (2^(min b.toNat k.bits)))))):=rfl
theorem lq{k k':IntKind}{a b:Int}{C:AV->Prop}:Dn .and k k' a b C=(k=k'/\C (.d (.int k (Ah .and k a b)))):=rfl
theorem qr{k k':IntKind}{a b:Int}{C:AV->Prop}:Dn .or k k' a b C=(k=k'/\C (.d (.int k (Ah .or k a b)))):=rfl
theorem lV{k k':IntKind}{a b:Int}{C:AV->Prop}:Dn .xor k k' a b C=(k=k'/\C (.d (.int k (Ah .xor k a b)))):=rfl
end
end Go.Pw
end
section
namespace Go.Pw
def VV(x:Option AY)(A:Us->Nat->Prop):Prop:=match x with|some (.hist els n false)=>A els n|_=>False
theorem be(els n A):VV (some (.hist els n false)) A=A els n:=rfl
def zu(els:Us)(n:Nat)(ds:List D)(A:Nat->Prop):Prop:=∃k,els.nx n ds k/\A k
theorem uC{els:List (List D)}{n ds A}:zu (.ofL els) n ds A=(els[n]?=some ds/\A (n+1)):=by
 apply propext;unfold zu Us.ofL;constructor
 ·rintro⟨k,⟨h1,rfl⟩,h2⟩;exact⟨h1,h2⟩
 ·rintro⟨h1,h2⟩;exact⟨_,⟨h1,rfl⟩,h2⟩
section
variable {E:CW}{Q:Bk->BG->Prop}{s s':BG}{K:AV->Bs->Prop}{KS:BG->Prop}
theorem my{o g:Nat}{xs:List AV}{V:AO}:Ux E (.own o g) xs V K=VV (V.get o g) fun els n=>Au (FJ xs) fun ds=>zu els n ds fun k=>K (.d (.bool true)) (.keep o g (.hist els k false))/\K (.d (.bool false)) (.keep o g (.hist els k true)):=by
 simp only[Ux,VV,zu]
 cases V.get o g with
 |none=>rfl
 |some x=>cases x with
  |hist els n st=>cases st<;>(simp only[Au];try(cases FJ xs<;>rfl))
  |_=>rfl
theorem mb{xs:List AV}:FJ xs=Ax AV.toD1 xs:=rfl
theorem qi{dst:Option Nat}{V:AO}{f:FuncId}{xs:List AV}:ev E dst V (.mkbnd f) xs K=K (.bnd f xs) .none:=by
 rfl
theorem d7{sl:Nat->AV}{V:AO}:GJ [] sl V=true:=rfl
def r7(V:AO)(o:Nat):Bool:=match V.ob o with|some (g,_)=>g == 0|none=>false
theorem aL{k:Nat}{ks:List Nat}{sl:Nat->AV}{V:AO}:GJ (k::ks) sl V=((sl k).sites.all (r7 V) && GJ ks sl V):=rfl
def r6(x:Option (Nat×AY)):Bool:=match x with|some (g,_)=>g == 0|none=>false
theorem md{ob cn o}:r7 ⟨ob,cn⟩ o=r6 (ob o):=rfl
theorem dk{g x}:r6 (some (g,x))=(g == 0):=rfl
theorem sK{m:List (Nat×(Nat×AY))}{cn:Nat->Nat}{os:List Nat}:(AO.mk (BH m) cn).nrm os=⟨BH (FG ⟨BH m,cn⟩ os os),fun _=>1⟩:=by
 have:=o_ (fun _=>.undef) ⟨BH m,cn⟩ [] os;have h2:((BG.mk (fun _=>.undef) ⟨BH m,cn⟩).nrm [] os).V=(AO.mk (BH m) cn).nrm os:=rfl;rw[←h2,this]
theorem yq{o:Nat}:TY o=if 900000<=o/\o<5000000 then o else o+5000000:=rfl
def mvL(l:List (Nat×AV)):List (Nat×AV):=l.map fun p=>(p.1,p.2.mv)
theorem uL:mvL []=[]:=rfl
theorem bk{k v l}:mvL ((k,v)::l)=(k,v.mv)::mvL l:=rfl
def fN(k:Nat)(g:Nat)(x:Option AY)(r:List (Nat×(Nat×AY))):List (Nat×(Nat×AY)):=match x with
 |some y=>(TY k,(g,y))::r
 |none=>r.filter fun p=>!(p.1 == TY k)
def uK:List (Nat×(Nat×AY))->List (Nat×(Nat×AY))
 |[]=>[]
 |(k,(g,x))::l=>fN k g x.mv (uK l)
theorem uJ:uK []=[]:=rfl
theorem bj{k g x l}:uK ((k,(g,x))::l)=fN k g x.mv (uK l):=rfl
theorem kh{k g y r}:fN k g (some y) r=(TY k,(g,y))::r:=rfl
theorem Sk{k g r}:fN k g none r=r.filter fun p=>!(p.1 == TY k):=rfl
theorem Lk(k:Nat):∀(l:List (Nat×(Nat×AY))) (t:Nat),BH (l.filter fun p=>!(p.1 == k)) t=if t=k then none else BH l t
 |[],t=>by simp[BH]
 |p::l,t=>by
  obtain⟨a,b⟩:=p;have ih:=Lk k l t
  by_cases h:a=k
  ·subst h;rw[ay,if_neg (by simp),ih]
   by_cases ht:t=a
   ·simp[ht]
   ·simp[ht,BH]
  ·rw[ay,if_pos (by simpa using h)];simp only[BH,ih]
   by_cases ht:t=a
   ·subst ht;simp[h]
   ·simp[ht]
theorem br:∀(m:List (Nat×(Nat×AY))) (o:Nat),BH (uK m) o=if TY (SL o)=o then(match BH m (SL o)with
   |some (g,x)=>match x.mv with|some y=>some (g,y)|none=>none
   |none=>none)else none
 |[],o=>by simp[uK,BH]
 |(k,(g,x))::m,o=>by
  have ih:=br m o;rw[bj]
  by_cases h:o=TY k
  ·subst h;rw[Jn,if_pos rfl]
   cases hx:x.mv with
   |some y=>simp[fN,BH,hx]
   |none=>rw[Sk,Lk,if_pos rfl];simp[BH,hx]
  ·have hk:TY (SL o)=o->SL o≠k:=fun h1 h2=>h (by rw[←h1,h2])
   have e:BH (fN k g x.mv (uK m)) o=BH (uK m) o:=by
    cases x.mv with
    |some y=>simp[fN,BH,h]
    |none=>rw[Sk,Lk,if_neg h]
   rw[e,ih]
   by_cases h1:TY (SL o)=o
   ·rw[if_pos h1,if_pos h1];have:=hk h1;simp[BH,this]
   ·rw[if_neg h1,if_neg h1]
theorem AAh{l:List (Nat×AV)}{m:List (Nat×(Nat×AY))}{cn:Nat->Nat}:(BG.mk (Dm l) ⟨BH m,cn⟩).mv=⟨Dm (mvL l),⟨BH (uK m),fun _=>1⟩⟩:=by
 have h1:(fun t=>(Dm l t).mv)=Dm (mvL l):=by
  funext t
  induction l with
  |nil=>rfl
  |cons p l ih =>
   obtain⟨k,v⟩:=p;simp only[bk,Dm]
   by_cases h:t=k
   ·simp[h]
   ·simp only[if_neg h];exact ih
 show BG.mk (fun t=>(Dm l t).mv) _=_;rw[h1];refine congrArg (fun ob=>BG.mk _ (AO.mk ob _)) ?_;funext o;exact(br m o).symm
theorem kX{xs}:(AY.cells xs).mv=some (.cells (xs.map AV.mv)):=rfl
theorem ABj{x}:(AV.d x).mv=.d x:=rfl
theorem yr{o g f}:(AV.ptr o g f).mv=.ptr (TY o) g f:=rfl
theorem kR{V:AO}{os a b c}:(AY.mitD a b c).nrm V os=some (.mitD a b c):=rfl
theorem kS{V:AO}{os a b l}:(AY.hist a b l).nrm V os=some (.hist a b l):=rfl
theorem Y2{A:BG->Prop}:PK A .normal s=A s:=rfl
theorem jx{sl:Nat->AV}{ds}:L6 sl [] ds=sl:=by cases ds<;>rfl
theorem ed{sl:Nat->AV}{p ps d ds}:L6 sl (p::ps) (d::ds)=L6 (CB sl p (.d d)) ps ds:=rfl
def bQ{α:Type}(T:α->AO)(Inv:Nat->α->Prop)(PInv:Bk->α->Prop)(m:Nat)(gs:List EE)(ks os:List Nat)(sl:Nat->AV)(e:Bk)(s:BG):Prop :=
 B5 gs s fun s'=>GJ ks sl (s'.V.nrm os)=true/\∃y,s'.V.nrm os=T y/\(match e with|.normal=>Inv m y|e=>PInv e y)
theorem bP{α:Type}{T:α->AO}{Inv PInv m gs ks os sl}:bQ T Inv PInv m gs ks os sl .normal s=B5 gs s fun s'=>GJ ks sl (s'.V.nrm os)=true/\∃y,s'.V.nrm os=T y/\Inv m y:=rfl
theorem kF{α:Type}{T:α->AO}{Inv PInv m gs ks os sl i}:bQ T Inv PInv m gs ks os sl (.exit i) s=B5 gs s fun s'=>GJ ks sl (s'.V.nrm os)=true/\∃y,s'.V.nrm os=T y/\PInv (.exit i) y:=rfl
theorem tX{α:Type}(T:α->AO)(Inv:Nat->α->Prop)(PInv:Bk->α->Prop)(o:α){ps ks os:List Nat}{b:PC}{gs2:List EE}{os2:List Nat}{a:PC}{f:FuncId}{pre j:List D}{els:Us}{h:Nat->AV}{s1:BG}
  (h2:(s1.nrm ks os).mv=⟨h,T o⟩) (hr:(b.noR && a.noR)=true) (hs:WY E f pre j els) (u:GJ ks h (T o)=true) (z:Inv 0 o)
  (step:∀n x ds k,els.nx n ds k->Inv n x->ps.length=ds.length/\pw E b (PK fun s2=>pw E a (bQ T Inv PInv k gs2 ks os2 h) s2) ⟨L6 h ps ds,T x⟩)
  (m:∀n x,els.fin n->Inv n x->Q .normal ⟨h,T x⟩) (l:∀e x,PInv e x->Q e ⟨h,T x⟩) :
  (b.noR && a.noR)=true/\∃els,WY E f pre j els/\∃(JJ:Nat->AO->Prop) (Pd:Bk->AO->Prop),
   GJ ks (s1.nrm ks os).mv.sl (s1.nrm ks os).mv.V=true/\JJ 0 (s1.nrm ks os).mv.V /\
   (∀n V ds k,V.cn=(fun _=>1)->els.nx n ds k->JJ n V->ps.length=ds.length /\
    pw E b (PK fun s2=>pw E a (yN JJ Pd k gs2 ks os2 (s1.nrm ks os).mv.sl) s2) ⟨L6 (s1.nrm ks os).mv.sl ps ds,V⟩) /\
   (∀n V,V.cn=(fun _=>1)->els.fin n->JJ n V->Q .normal ⟨(s1.nrm ks os).mv.sl,V⟩) /\
   ∀e V,V.cn=(fun _=>1)->Pd e V->Q e ⟨(s1.nrm ks os).mv.sl,V⟩:=by
 refine⟨hr,els,hs,fun n V=>∃x,V=T x/\Inv n x,fun e V=>∃x,V=T x/\PInv e x,?_,?_,?_,?_,?_⟩
 ·rw[h2];exact u
 ·rw[h2];exact⟨o,rfl,z⟩
 ·rintro n V ds k _ q ⟨x,rfl,hx⟩;obtain⟨k1,k2⟩:=step n x ds k q hx;refine⟨k1,?_⟩;rw[h2];refine Hi k2 fun e s2 t=>?_
  cases e with
  |normal =>
   refine Hi t fun e s3 A=>?_
   refine DH (fun s4 B=>?_) A;obtain⟨G,y,r,p⟩:=B;refine⟨G,?_⟩
   cases e with
   |normal=>exact⟨y,r,p⟩
   |exit i=>exact⟨y,r,p⟩
   |ret=>exact⟨y,r,p⟩
  |exit i=>exact t
  |ret=>exact t
 ·rintro n V _ hn ⟨x,rfl,hx⟩;rw[h2];exact m n x hn hx
 ·rintro e V _ ⟨x,rfl,hx⟩;rw[h2];exact l e x hx
theorem iU{α:Type}(T:α->AO)(Inv:Nat->α->Prop)(PInv:Bk->α->Prop)(m:α){gs:List EE}{g:Jk}{ps ks os:List Nat}{b:PC}{gs2:List EE}{os2:List Nat}{a:PC}{f:FuncId}{pre i:List D}{els:Us}{sl1:Nat->AV}
  (h0:B5 gs s fun s1=>((∃cs,g.val s1.sl=.bnd f cs/\FJ cs=some pre)/\i=[]\/g.val s1.sl=.d (.fn f i)/\pre=[])/\(s1.nrm ks os).mv=⟨sl1,T m⟩) (r:∀x,(T x).cn=fun _=>1) (hb:BA E.P f=true) (hr:(b.noR && a.noR)=true) (hs:WY E f pre i els) (p:GJ ks sl1 (T m)=true) (q:Inv 0 m)
  (step:∀n x ds k,els.nx n ds k->Inv n x->ps.length=ds.length/\pw E b (PK fun s2=>pw E a (bQ T Inv PInv k gs2 ks os2 sl1) s2) ⟨L6 sl1 ps ds,T x⟩)
  (l:∀n x,els.fin n->Inv n x->Q .normal ⟨sl1,T x⟩) (j:∀e x,PInv e x->Q e ⟨sl1,T x⟩):pw E (.rngF gs g ps ks os b gs2 os2 a) Q s:=by
 refine DH (fun s1 h=>?_) h0;obtain⟨h1,h2⟩:=h
 suffices hk:Yv E (g.val s1.sl) (fun o pre' post'=>o=f/\pre'=pre/\post'=i) by
  refine Xe (fun o pre' post' hk=>?_) hk;obtain⟨rfl,rfl,rfl⟩:=hk;exact tX T Inv PInv m h2 hr hs p q step l j
 unfold Yv;rcases h1 with⟨⟨cs,h1,h1'⟩,rfl⟩|⟨h1,rfl⟩
 ·rw[h1];dsimp only;rw[h1'];exact⟨hb,rfl,rfl,rfl⟩
 ·rw[h1];exact⟨hb,rfl,rfl,rfl⟩
theorem Y0{α:Type}(T:α->AO)(Inv:Nat->α->Prop)(PInv:Bk->α->Prop)(l:α){gs:List EE}{g:Jk}{ps ks os:List Nat}{b:PC}{gs2:List EE}{os2:List Nat}{a:PC}{f:FuncId}{pre h:List D}{els:List (List D)}{sl1:Nat->AV}
  (h0:B5 gs s fun s1=>((∃cs,g.val s1.sl=.bnd f cs/\FJ cs=some pre)/\h=[]\/g.val s1.sl=.d (.fn f h)/\pre=[])/\(s1.nrm ks os).mv=⟨sl1,T l⟩) (m:∀x,(T x).cn=fun _=>1) (hb:BA E.P f=true) (hr:(b.noR && a.noR)=true) (hs:WY E f pre h els) (o:GJ ks sl1 (T l)=true) (p:Inv 0 l)
  (step:∀n x ds,els[n]?=some ds->Inv n x->ps.length=ds.length/\pw E b (PK fun s2=>pw E a (bQ T Inv PInv (n+1) gs2 ks os2 sl1) s2) ⟨L6 sl1 ps ds,T x⟩)
  (j:∀x,Inv els.length x->Q .normal ⟨sl1,T x⟩) (i:∀e x,PInv e x->Q e ⟨sl1,T x⟩):pw E (.rngF gs g ps ks os b gs2 os2 a) Q s :=
 iU T Inv PInv l h0 m hb hr hs o p (fun n x ds k hk hx=>by obtain⟨hk,rfl⟩:=hk;exact step n x ds hk hx) (fun n x hn hx=>by obtain rfl:n=els.length:=hn;exact j x hx) i
theorem iT{α:Type}(j:α->List (Nat×AY))(Inv:Nat->α->Prop)(PInv:Bk->α->Prop)(m:α){so:List (Nat×(Nat×AY))->List (Nat×AY)->List (Nat×(Nat×AY))}{gs:List EE}{g:Jk}{ps ks os:List Nat}{b:PC}{gs2:List EE}{os2:List Nat}{a:PC}{f:FuncId}{pre h:List D}{els:List (List D)}{l0:List (Nat×AV)}{m0:List (Nat×(Nat×AY))}
  (hs:WY E f pre h els) (hb:BA E.P f=true) (h0:B5 gs s fun s1=>((∃cs,g.val s1.sl=.bnd f cs/\FJ cs=some pre)/\h=[]\/g.val s1.sl=.d (.fn f h)/\pre=[])/\(s1.nrm ks os).mv=⟨Dm l0,⟨BH m0,fun _=>1⟩⟩) (o:so m0 (j m)=m0) (hr:(b.noR && a.noR)=true) (p:GJ ks (Dm l0) ⟨BH m0,fun _=>1⟩=true) (q:Inv 0 m)
  (step:∀n x ds,els[n]?=some ds->Inv n x->ps.length=ds.length/\pw E b (PK fun s2=>pw E a (bQ (fun x=>⟨BH (so m0 (j x)),fun _=>1⟩) Inv PInv (n+1) gs2 ks os2 (Dm l0)) s2) ⟨L6 (Dm l0) ps ds,⟨BH (so m0 (j x)),fun _=>1⟩⟩)
  (l:∀x,Inv els.length x->Q .normal ⟨Dm l0,⟨BH (so m0 (j x)),fun _=>1⟩⟩) (i:∀e x,PInv e x->Q e ⟨Dm l0,⟨BH (so m0 (j x)),fun _=>1⟩⟩):pw E (.rngF gs g ps ks os b gs2 os2 a) Q s :=
 Y0 (fun x=>⟨BH (so m0 (j x)),fun _=>1⟩) Inv PInv m (by rw[o];exact h0) (fun _=>rfl) hb hr hs (by rw[o];exact p) q step l i
end
theorem AAv{α:Type}{S:AO}{T:α->AO}{I:α->Prop}(h:∃y,S=T y/\I y):∃y,S=T y/\I y:=h
theorem xN{α β:Type}{S:AO}{T:α×β->AO}{I:α×β->Prop}(h:∃y,S=T y/\I y):∃y,S=T y/\I y:=h
theorem xM{α β γ:Type}{S:AO}{T:α×β×γ->AO}{I:α×β×γ->Prop}(h:∃y,S=T y/\I y):∃y,S=T y/\I y:=h
theorem xL{α β γ δ:Type}{S:AO}{T:α×β×γ×δ->AO}{I:α×β×γ×δ->Prop}(h:∃y,S=T y/\I y):∃y,S=T y/\I y:=h
end Go.Pw
end
