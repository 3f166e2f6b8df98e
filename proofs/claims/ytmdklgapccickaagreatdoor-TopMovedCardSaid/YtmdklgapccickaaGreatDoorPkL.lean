/- Part. -/
import Derived.Test.YtmdklgapccickaaGreatDoorPkJ
import Derived.Maps.RangeRun
set_option linter.all false
open List renaming getElem?_eq_some_iff->aa,getElem?_append_left->ay,getElem?_set_ne->ck,getElem?_eq_getElem->ea,getElem?_append_right->eb,replicate->hU,size_toArray->hX,getElem?_toArray->hY,mem_of_getElem?->i5,mem_or_eq_of_mem_set->kk,getElem?_set_self->la,length_append->lb,length_cons->na,flatMap_cons->ox,eq_of_mem_replicate->oy,getElem?_cons_succ->pv,length_nil->rb,getElem?_map->r3,getElem_map->r4,take_append_drop->r5,getElem?_drop->s7,append_assoc->va,getElem?_cons_zero->vb
open Array renaming getElem?_eq_getElem->ax,getElem?_eq_some_iff->et,getElem?_toList->f0,getElem?_modify->no,length_toList->q7,getElem?_push->ro
open Option renaming bind_some->az,map_some->ne,bind_none->ra,getD_some->rz
open Nat renaming le_refl->cp,add_mul->cw,zero_add->i7,mul_le_mul_right->j0,mul_comm->j4,mod_lt->uk,div_add_mod->uv
open Bool renaming and_eq_true->c8
section
namespace Go.Pw
open Go.RowKit
section
variable {E:CW}{c:EG}{β:Nat->Nat->Value}{s:BG}{tm:Array Value}{w:World}{K:AV->Bs->Prop}
def w9(E:CW)(c:EG)(s:BG)(tm:Array Value)(K:AV->Bs->Prop)(r:Result Unit):Prop :=
 ∃w' ch β',r=.ok () w'/\K .undef ch/\BZ E c β' ⟨s.sl,s.V.app ch⟩ tm w'
def World.setObjAt(w:World)(r:Nat)(o:Obj):World:={ w with heap:=w.heap.setIfInBounds r o }
theorem FZ{P:Program}{b:Nat}{es:Array MapEntry}{cl:Nat}{o:Obj}(hb:w.heap[b]?=some (.map es cl)):(setObj b o).run P w=.ok () (World.setObjAt w b o):=by
 simp[setObj,Sem.run,hb,World.setObjAt]
theorem TX{b:Nat}{o:Obj}:Hd (.map (some b)) w (World.setObjAt w b o):=by
 refine⟨rfl,rfl,rfl,by simp[World.setObjAt],fun k hk hne=>?_⟩;simp only[World.setObjAt];rw[Array.getElem?_setIfInBounds_ne];intro h;subst h;exact hne rfl
theorem jz{b:Nat}{o:Obj}(hb:b<w.heap.size):(World.setObjAt w b o).heap[b]?=some o:=by
 simp[World.setObjAt,hb]
theorem Qh{P:Program}{tys:LW}{a k:D}{fb l:Nat->Prop}{u v:Value}(e:Jo tys a=true)(hk:Jo tys k=true)(hu:Ar w fb a u)(hv:Ar w l k v)(G:D2 k a=true) :
  (Instr.keyThatStays u v).run P w=.ok v w:=by
 have prim:∀{ks:Option IntKind}{x y:D}{p q:Value}(n:Nat),Dk [ks] [x]=true->Dk [ks] [y]=true->Ar w fb x p->Ar w l y q->GM y x=true->Instr.sameBits n p q=true:=by
  intro ks x y p q n hx t hp B h
  cases ks with
  |none =>
   cases hp<;>simp[Dk]at hx
   cases B<;>simp[Dk]at t
   simp[GM]at h;subst h;simp[Instr.sameBits]
  |some J =>
   cases hp<;>simp[Dk]at hx
   cases B<;>simp[Dk]at t
   subst hx t;simp[GM]at h;subst h;simp[Instr.sameBits]
 have hs:Instr.sameBits 10000 u v=true:=by
  simp only[Jo,c8,beq_iff_eq]at e hk
  by_cases j:tys.1=true
  ·rw[j]at e hk;obtain⟨cs,rfl⟩:∃cs,a=.agg cs:=by cases a<;>simp_all[D.isAgg]
   obtain⟨ds,rfl⟩:∃cs,k=.agg cs:=by cases k<;>simp_all[D.isAgg]
   cases hu with|agg _ us hl1 _ hr1 =>
   cases hv with|agg _ vs hl2 _ hr2 =>
   simp only[D.cells]at e hk;have e1:=BS e.2;have e2:=BS hk.2;simp only[Instr.sameBits,c8,beq_iff_eq];refine⟨by omega,?_⟩
   have key:∀(ks:List (Option IntKind)) (cs ds:List D) (us vs:List Value),Dk ks cs=true->Dk ks ds=true->Fl ds cs=true->us.length=cs.length->vs.length=ds.length ->
     (∀(i:Nat) c v,cs[i]?=some c->us[i]?=some v->Ar w fb c v)->(∀(i:Nat) c v,ds[i]?=some c->vs[i]?=some v->Ar w l c v)->((us.zip vs).all fun(x,y)=>Instr.sameBits 9999 x y)=true:=by
    intro ks
    induction ks with
    |nil =>
        intro cs ds us vs h1 h2 o m r _ _;have:=BS h1;simp at this;subst this;simp at m;subst m;simp
    |cons k ks ih =>
     intro cs ds us vs h1 h2 o m r A z;have l1:=BS h1;have l2:=BS h2
     match cs,ds,us,vs,l1,l2,m,r with
     |x::cs,y::ds,p::us,q::vs,_,_,m,r =>
      simp only[Fl,c8]at o;simp only[List.zip_cons_cons,List.all_cons,c8]
      exact⟨prim 9999 (Cf h1).1 (Cf h2).1 (A 0 x p (by simp) (by simp)) (z 0 y q (by simp) (by simp)) o.1,
       ih cs ds us vs (Cf h1).2 (Cf h2).2 o.2 (by simpa using m) (by simpa using r) (fun i c v hc hv=>A (i+1) c v (by simpa using hc) (by simpa using hv)) (fun i c v hc hv=>z (i+1) c v (by simpa using hc) (by simpa using hv))⟩
   exact key tys.2 cs ds us.toList vs.toList e.2 hk.2 G (by simpa using hl1) (by simpa using hl2) (fun i c v hc hv=>hr1 i c v hc (by simpa using hv)) (fun i c v hc hv=>hr2 i c v hc (by simpa using hv))
  ·simp only[Bool.not_eq_true]at j;rw[j]at e hk;have e1:a.cells=[a]:=by cases a<;>simp_all[D.cells,D.isAgg]
   have e2:k.cells=[k]:=by cases k<;>simp_all[D.cells,D.isAgg]
   rw[e1]at e;rw[e2]at hk;have:=BS e.2
   match hts:tys.2,this with
   |[J],_ =>
    rw[hts]at e hk;exact prim 10000 e.2 hk.2 hu hv (by simpa[D2,e1,e2,Fl]using G)
 simp[Instr.keyThatStays,hs]
theorem RC{k:D}:∀{kvs:List (D×D)}{j:Nat}{e:D×D},FH k kvs=some j->kvs[j]?=some e->D2 k e.1=true
 |[],j,e,h,he=>by simp at he
 |e0::es,j,e,h,he=>by
  simp only[FH]at h;split at h
  ·rename_i l;simp at h;subst h;simp at he;subst he;exact l
  ·cases hi:FH k es with
   |none=>simp[hi]at h
   |some i=>simp[hi]at h;subst h;simp at he;exact RC hi he
theorem di:∀{ks:List (Option IntKind)}{cs ds:List D},Dk ks cs=true->Dk ks ds=true->Fl ds cs=true->ds=cs
 |[],cs,ds,h1,h2,_=>by have l1:=BS h1;have l2:=BS h2;simp at l1 l2;subst l1 l2;rfl
 |k::ks,cs,ds,h1,h2,h3=>by
  have l1:=BS h1;have l2:=BS h2
  match cs,ds,l1,l2 with
  |x::cs,y::ds,_,_ =>
   simp only[Fl,c8]at h3;rw[di (Cf h1).2 (Cf h2).2 h3.2];have h:=(Cf h1).1;have e:=(Cf h2).1
   have:y=x:=by
    cases k<;>cases x<;>simp[Dk]at h<;>cases y<;>simp[Dk]at e<;>simp_all[GM]
   rw[this]
theorem bz{tys:LW}{a k:D}(e:Jo tys a=true)(hk:Jo tys k=true)(h:D2 k a=true):k=a:=by
 simp only[Jo,c8,beq_iff_eq]at e hk;have:=di e.2 hk.2 h
 cases a<;>cases k<;>simp_all[D.cells,D.isAgg]
theorem Sm(h:BZ E c β s tm w){o g:Nat}{tys:LW}{kvs:List (D×D)}{l:Value}(hg:s.V.get o g=some (.map tys kvs))(hm:AP w (c.bar β s.V) β s.V.cn (.map o g) l) :
  ∃b es,l=.map (some b)/\β o g=.map (some b)/\s.V.ob o=some (g,.map tys kvs)/\w.heap[b]?=some (.map es kvs.length)/\es.size=kvs.length /\
   (∀(i:Nat) (kv:D×D) (e:MapEntry),kvs[i]?=some kv->es[i]?=some e->Jo tys kv.1=true/\Ar w (c.bar β s.V) kv.1 e.key/\Ar w (c.bar β s.V) kv.2 e.val/\e.born=i):=by
 have j:=AO.get_some hg;obtain⟨m,ho⟩:=h.objs _ _ _ j
 cases hm with|map _ _ _ _ =>
 generalize hv:β o g=l at *
 cases ho with|map _ _ b es hb hl hent=>exact⟨b,es,rfl,rfl,j,hb,hl,hent⟩
theorem NY(h:BZ E c β s tm w){o g:Nat}{tys:LW}{kvs kvs':List (D×D)}{b:Nat}{es es':Array MapEntry}(hβ:β o g=.map (some b))(m:s.V.ob o=some (g,.map tys kvs))(hb:w.heap[b]?=some (.map es kvs.length))
  (p:es'.size=kvs'.length) (j:∀(i:Nat) (kv:D×D) (e:MapEntry),kvs'[i]?=some kv->es'[i]?=some e->Jo tys kv.1=true/\Ar w (c.bar β s.V) kv.1 e.key/\Ar w (c.bar β s.V) kv.2 e.val/\e.born=i) :
  BZ E c β ⟨s.sl,s.V.app (.keep o g (.map tys kvs'))⟩ tm (World.setObjAt w b (.map es' kvs'.length)):=by
 have l:b<w.heap.size:=(et.1 hb).1
 have n:Aq (c.bar β s.V) w (World.setObjAt w b (.map es' kvs'.length)):=fun k hk l=>by
  have:=TX (w:=w) (b:=b) (o:=.map es' kvs'.length);refine this.block k l fun y=>hk (.inr ⟨o,g,_,m,by rw[hβ];exact y⟩)
 refine h.kept m (by rw[hβ];exact TX) fun fb' q r=>?_
 rw[hβ];refine .map tys kvs' b es' (jz l) p fun i kv e h1 h2=>?_
 obtain⟨z,u,x,t⟩:=j i kv e h1 h2;exact⟨z,u.mono n q,x.mono n q,t⟩
theorem Yi(h:BZ E c β s tm w){t X e:TypeId}{tys:LW}(ht:E.P.underlying t=some (.map X e))(hk:C5 E.P X=some tys)
  {m key val:AV}{Y O R:Value}{dst:Option Nat}(hm:AP w (c.bar β s.V) β s.V.cn m Y) (B:AP w (c.bar β s.V) β s.V.cn key O) (N:AP w (c.bar β s.V) β s.V.cn val R) (q:ev E dst s.V (.mapupd tys) [m,key,val] K) :
  w9 E c s tm K ((Instr.mapUpdate t Y O R).run E.P w):=by
 unfold ev at q;simp only at q;split at q
 ·rename_i o g key' val' M;simp only[List.cons.injEq,and_true]at M;obtain⟨rfl,rfl,rfl⟩:=M;split at q
  ·rename_i tys' kvs k v hg hd T;obtain⟨rfl,n,q⟩:=q;obtain⟨b,es,rfl,hβ,A,hb,hl,l⟩:=Sm h hg hm;have p:=(B' B hd).1;have J:=(B' N T).1
   have Z:Z4 w (c.bar β s.V) tys kvs es.toList:=⟨by rw[q7];exact hl,fun i kv e h1 h2=>by
    obtain⟨a1,a2,a3,_⟩:=l i kv e h1 (by simpa using h2)
    exact⟨a1,a2,a3⟩⟩
   rw[bG]at q;have r:=Jr hk n p Z
   cases hi:FH k kvs with
   |none =>
    simp only[hi]at q;refine⟨_,_,β,?_,q,NY h hβ A hb (es':=es.push ⟨O,R,kvs.length⟩) (by simp[hl]) ?_⟩
    ·simp only[Instr.mapUpdate,Sem.run_bind,run_underlying ht,Result.andThen_ok,CQ hb,Dp hk n p _ 9998,r,D_,hi,ra,FZ hb,lb,na,rb]
    ·intro i kv e h1 h2;rw[ro]at h2;split at h2
     ·rename_i S;simp at h2;subst h2;rw[S,hl]at h1;simp at h1;subst h1;exact⟨n,p,J,by simp only;omega⟩
     ·have α:i<es.size:=(et.1 h2).1;rw[ay (by omega)]at h1;exact l i kv e h1 h2
   |some j =>
    have U:=Ue hi;have u:kvs[j]?=some kvs[j]:=ea U;have x:es[j]?=some es[j]:=ax (by omega);have G:es.toList[j]?=some es[j]:=by rw[f0];exact x
    simp only[hi,u]at q;obtain⟨b1,b2,b3,b4⟩:=l j _ _ u x;have y:=Qh (P:=E.P) b1 n b2 p (RC hi u);have L:(kvs.set j (kvs[j].1,v)).length=kvs.length:=by simp
    refine⟨_,_,β,?_,q,NY h hβ A hb (es':=es.modify j fun e=>{ e with key:=O,val:=R }) (by simp[hl]) ?_⟩
    ·rw[L];simp only[Instr.mapUpdate,Sem.run_bind,run_underlying ht,Result.andThen_ok,CQ hb,Dp hk n p _ 9998,r,D_,hi,az,G,ne,i7,x,rz,y,FZ hb]
    ·intro i kv e h1 h2;rw[no]at h2
     by_cases z:j=i
     ·subst z;rw[if_pos rfl,x]at h2;simp at h2;subst h2;simp[U]at h1;subst h1;refine⟨b1,?_,J,b4⟩;rw[←bz b1 n (RC hi u)];exact p
     ·rw[if_neg z]at h2;rw[ck z]at h1;exact l i kv e h1 h2
  ·exact q.elim
 ·exact q.elim
theorem Yj(h:BZ E c β s tm w){t kt e:TypeId}{tys:LW}{z:D}(ht:E.P.underlying t=some (.map kt e))(hk:C5 E.P kt=some tys)(hz:F4 E.P e=some z)(α:z.one=true)
  {m key:AV}{um S:Value}{dst:Option Nat}(hm:AP w (c.bar β s.V) β s.V.cn m um) (L:AP w (c.bar β s.V) β s.V.cn key S) (u:ev E dst s.V (.mapent tys z) [m,key] K) :
  JU E c s tm K ((Instr.mapEntry t um S).run E.P w):=by
 obtain⟨Y,X,U⟩:=XH (w:=w) (fb:=c.bar β s.V) hz
 have fin:∀{w':World}{fb:Nat->Prop}{β':Nat->Nat->Value}{cn:Nat->Nat}(v:Value) (n:Nat),n<=maxLen->AP w' fb β' cn (.tup [.undef,.d (.int .i64 n)]) (.tuple #[v,goInt n]):=by
  intro w' fb β' cn v n hn;refine .tup _ _ rfl fun i c v' hc hv=>?_
  match i with
  |0=>simp at hc hv;subst hc hv;exact .undef _
  |1=>simp at hc hv;subst hc hv;exact .d _ _ (.int _ _ (by simp only[N7,maxLen]at *;simp[IntKind.min,IntKind.max,IntKind.signed,IntKind.bits];omega))
  |i+2=>simp at hc
 unfold ev at u;simp only at u;split at u
 ·rename_i o g key' N;simp only[List.cons.injEq,and_true]at N;obtain⟨rfl,rfl⟩:=N;split at u
  ·rename_i tys' kvs k hg hd;obtain⟨rfl,p,M,u⟩:=u;obtain⟨b,es,rfl,hβ,G,hb,hl,l⟩:=Sm h hg hm;have r:=(B' L hd).1
   have hE:Z4 w (c.bar β s.V) tys kvs es.toList:=⟨by rw[q7];exact hl,fun i kv e h1 h2=>by
    obtain⟨a1,a2,a3,_⟩:=l i kv e h1 (by simpa using h2)
    exact⟨a1,a2,a3⟩⟩
   have x:=Jr hk p r hE
   cases hi:FH k kvs with
   |none =>
    simp only[hi]at u;refine⟨_,_,_,_,β,?_,u,NY h hβ G hb (es':=es.push ⟨S,Y,kvs.length⟩) (by simp[hl]) ?_,fin Y kvs.length (by unfold maxLen;unfold Ch at M;omega)⟩
    ·simp only[Instr.mapEntry,Sem.run_bind,run_underlying ht,Result.andThen_ok,CQ hb,Dp hk p r _ 9998,x,D_,hi,ra,FZ hb,lb,na,rb,X,Sem.run_pure]
    ·intro i kv e h1 h2;rw[ro]at h2;split at h2
     ·rename_i T;simp at h2;subst h2;rw[T,hl]at h1;simp at h1;subst h1;exact⟨p,r,U,by simp only;omega⟩
     ·have γ:i<es.size:=(et.1 h2).1;rw[ay (by omega)]at h1;exact l i kv e h1 h2
   |some j =>
    have hj:=Ue hi;have y:kvs[j]?=some kvs[j]:=ea hj;have A:es[j]?=some es[j]:=ax (by omega);have O:es.toList[j]?=some es[j]:=by rw[f0];exact A
    simp only[hi]at u;obtain⟨b1,b2,b3,Z⟩:=l j _ _ y A;have J:=Qh (P:=E.P) b1 p b2 r (RC hi y)
    have B:=NY h hβ G hb (kvs':=kvs) (es':=es.modify j fun e=>{ e with key:=S }) (by simp[hl]) (fun i kv e h1 h2=>by
     rw[no]at h2
     by_cases R:j=i
     ·subst R;rw[if_pos rfl,A]at h2;simp at h2;subst h2;rw[y]at h1;simp at h1;subst h1;exact⟨b1,by rw[←bz b1 p (RC hi y)];exact r,b3,Z⟩
     ·rw[if_neg R]at h2
      exact l i kv e h1 h2)
    have hV:s.V.app (.keep o g (.map tys kvs))=s.V:=by
     simp only[AO.app]
     have:CB s.V.ob o (some (g,AY.map tys kvs))=s.V.ob:=by
      funext q;simp only[CB];split
      ·rename_i hq;rw[hq,G]
      ·rfl
     rw[this]
    rw[hV]at B;refine⟨_,_,_,.none,β,?_,u,B,fin es[j].val j (by unfold maxLen;unfold Ch at M;omega)⟩;simp only[Instr.mapEntry,Sem.run_bind,run_underlying ht,Result.andThen_ok,CQ hb,Dp hk p r _ 9998,x,D_,hi,az,O,ne,i7,A,rz,J,FZ hb,Sem.run_pure,Z]
  ·exact u.elim
 ·exact u.elim
theorem a_(h:BZ E c β s tm w){t:TypeId}
  {m st val:AV}{M us L:Value}{dst:Option Nat}(hm:AP w (c.bar β s.V) β s.V.cn m M) (G:AP w (c.bar β s.V) β s.V.cn st us) (y:AP w (c.bar β s.V) β s.V.cn val L) (l:ev E dst s.V .entst [m,st,val] K) :
  w9 E c s tm K ((Instr.entryStore t M us L).run E.P w):=by
 unfold ev at l;simp only at l;split at l
 ·rename_i o g k i val' x;simp only[List.cons.injEq,and_true]at x;obtain⟨rfl,rfl,rfl⟩:=x;split at l
  ·rename_i tys kvs v hg J;obtain⟨h0,O,l⟩:=l;split at l
   ·rename_i kv n;obtain⟨rfl,_⟩:=BQ G;obtain⟨b,es,rfl,hβ,A,hb,hl,j⟩:=Sm h hg hm;have B:=(B' y J).1;have N:i.toNat<kvs.length:=(aa.1 n).1
    have r:es.findIdx? (fun e=>(e.born:Int) == i)=some i.toNat:=by
     rw[Array.findIdx?_eq_some_iff_getElem];refine⟨by omega,?_,fun q T=>?_⟩
     ·have:=(j i.toNat kv _ n (ax (by omega))).2.2.2;rw[this];simp;omega
     ·have:=(j q kvs[q] _ (ea (by omega)) (ax (by omega))).2.2.2;rw[this];simp;omega
    have u:(kvs.set i.toNat (kv.1,v)).length=kvs.length:=by simp
    refine⟨_,_,β,?_,l,NY h hβ A hb (es':=es.modify i.toNat fun e=>{ e with val:=L }) (by simp[hl]) ?_⟩
    ·rw[u];simp only[Instr.entryStore,Sem.run_bind,Sem.run_pure,CQ hb,asInt,asIntOf,Result.andThen_ok,r,FZ hb]
    ·intro q kv' e h1 h2;rw[no]at h2
     by_cases p:i.toNat=q
     ·subst p;have z:es[i.toNat]?=some es[i.toNat]:=ax (by omega);obtain⟨b1,b2,S,R⟩:=j _ _ _ n z;rw[if_pos rfl,z]at h2;simp at h2;subst h2;simp[N]at h1;subst h1;exact⟨b1,b2,B,R⟩
     ·rw[if_neg p]at h2;rw[ck p]at h1;exact j q kv' e h1 h2
   ·exact l.elim
  ·exact l.elim
 ·exact l.elim
end
end Go.Pw
end
section
namespace Go.Pw
open Go.RowKit
section
variable {E:CW}{c:EG}{β:Nat->Nat->Value}{s:BG}{tm:Array Value}{w:World}{K:AV->Bs->Prop}
theorem CL(w:World)(o:Obj):Below w.heap.size w (w.alloc o):=(Below.refl _ _).alloc (cp _) o
theorem WG(w:World):Below w.heap.size w w.drew:=(Below.refl _ _).drew
theorem LH(w:World)(o:Obj):Below w.heap.size w (w.drew.alloc o):=((Below.refl _ _).drew).alloc (cp _) o
theorem Hc{v:Value}(h:v.oneCell'=true):v.cells=#[v]:=by cases v<;>first|rfl|simp[Value.oneCell']at h
theorem QO{fb β' cn}{x:AV}{u:Value}{cs:List AV}(h:AP w fb β' cn x u)(hc:x.cells?=some cs):CV (AP w fb β' cn) cs u.cells/\∀y,y∈cs->y.one=true:=by
 have one:∀{y:AV},AP w fb β' cn y u->y.one=true->CV (AP w fb β' cn) [y] u.cells/\∀z,z∈[y]->z.one=true:=by
  intro y j h1;rw[Hc (j.oneCell h1)];refine⟨⟨rfl,fun i c v hc hv=>?_⟩,by simpa using h1⟩
  match i with
  |0=>simp at hc hv;subst hc hv;exact j
  |i+1=>simp at hc
 have dcase:∀ds:List D,x=.d (.agg ds)->CV (AP w fb β' cn) (ds.map .d) u.cells/\∀y,y∈ds.map AV.d->y.one=true:=by
  intro ds hx;subst hx;obtain⟨vs,rfl,h2,e⟩:=rE h;refine⟨⟨by simpa[Value.cells]using h2.1,fun i c v hc hv=>?_⟩,by simpa[AV.one]using e⟩;rw[r3]at hc
  cases hd:ds[i]? with
  |none=>simp[hd]at hc
  |some d=>simp[hd]at hc;subst hc;exact .d _ _ (h2.2 i d v hd hv)
 cases x with
 |agg cs' =>
  simp[AV.cells?]at hc;subst hc;obtain⟨vs,rfl,h2,e⟩:=Zq h;exact⟨h2,e⟩
 |d y =>
  cases y<;>simp[AV.cells?]at hc<;>subst hc<;>first|exact dcase _ rfl|exact one h rfl
 |tup=>simp[AV.cells?]at hc
 |undef=>simp[AV.cells?]at hc
 |_=>simp[AV.cells?]at hc;subst hc;exact one h rfl
theorem Td(h:BZ E c β s tm w){t:Nat}(j:t<Cr){cs:List AV}{cur:Array Value}{e:TypeId}(l:CV (AP w (c.bar β s.V) β s.V.cn) cs cur)(h1:∀y,y∈cs->y.one=true) :
  ∃β',BZ E c β' ⟨s.sl,s.V.app (.fresh t (.cells cs))⟩ tm (w.alloc (.cells cur e)) /\
   AP (w.alloc (.cells cur e)) (c.bar β' (s.V.app (.fresh t (.cells cs)))) β' (s.V.app (.fresh t (.cells cs))).cn (.ptr t (s.V.cn t) 0) (.pointer (some ⟨w.heap.size,0,none⟩)):=by
 refine⟨Eh β t (s.V.cn t) (.pointer (some ⟨w.heap.size,0,none⟩)),h.fresh j (.of_below _ (CL w _)) (fun b hb=>?_) (fun β' fb' hβ' m n=>?_),.ptr _ _ _ w.heap.size (G1 _ _ _) (BM _ _ _ _)⟩
 ·simp[C4,A9]at hb;subst hb;exact⟨by simp,.inl (cp _)⟩
 ·refine .cells cs w.heap.size cur e (heap_alloc_new w _) l.1 h1 fun i x u hx hu=>?_
  refine(l.2 i x u hx hu).mono (.of_below (CL w _)) n (fun o g hg=>?_) (fun k=>?_)
  ·rw[hβ'];exact FK o g hg
  ·simp only[AO.app,CB];split<;>simp_all
theorem jp(h:BZ E c β s tm w){t:Nat}{x:AV}{u:Value}{e:TypeId}(hx:AP w (c.bar β s.V) β s.V.cn x u)(i:ev E (some t) s.V .box [x] K) :
  JU E c s tm K ((Instr.box e u).run E.P w):=by
 unfold ev at i;simp only at i;split at i
 ·rename_i cs hc;obtain⟨n,j⟩:=QO hx hc;obtain⟨β',l,m⟩:=Td h (t:=t) i.1 (e:=e) n j;exact⟨_,_,_,_,β',by simp[Instr.box,newVar,newRow],i.2,l,m⟩
 ·exact i.elim
theorem d5{t:TypeId}{z:List D}(h:LY E.P t=some z):∃v,(zeroValue t).run E.P w=.ok v w/\∀fb,CV (Ar w fb) z v.cells/\∀y,y∈z->y.one=true:=by
 unfold LY at h
 cases hi:E.P.info? t with
 |none=>simp[hi]at h
 |some i =>
  simp only[hi,az]at h;split at h
  ·rename_i v l;refine⟨v,by simp[zeroValue,typeInfo,hi,l],fun fb=>⟨⟨by rw[Af h];simp,fun i y u j hu=>?_⟩,fun y j=>?_⟩⟩
   ·obtain⟨x,hx,e⟩:=BC h j;have:x=u:=by simpa[f0,hu]using hx.symm
    subst this;exact JH e
   ·obtain⟨x,_,hx⟩:=D5 h j;unfold Rq at hx;split at hx<;>(try split at hx)<;>simp at hx<;>subst hx<;>rfl
  ·cases h
theorem V_{fb β' cn}{l:List D}{vs:Array Value}(h:CV (Ar w fb) l vs):CV (AP w fb β' cn) (l.map .d) vs:=by
 refine⟨by simpa using h.1,fun i c v hc hv=>?_⟩;rw[r3]at hc
 cases hd:l[i]? with
 |none=>simp[hd]at hc
 |some d=>simp[hd]at hc;subst hc;exact .d _ _ (h.2 i d v hd hv)
theorem eQ(h:BZ E c β s tm w){t:Nat}{e:TypeId}{z:List D}(l:LY E.P e=some z)(i:ev E (some t) s.V (.zero z) [] K) :
  JU E c s tm K ((Instr.alloc e true (.tuple #[])).run E.P w):=by
 unfold ev at i;simp only at i;obtain⟨v,hv,hr⟩:=d5 (w:=w) l;obtain⟨hr,h1⟩:=hr (c.bar β s.V);obtain⟨β',j,m⟩:=Td h (t:=t) i.1 (e:=e) (V_ hr) (by simpa[AV.one]using h1);exact⟨_,_,_,_,β',by simp[Instr.alloc,hv,newVar,newRow],i.2,j,m⟩
theorem av(h:BZ E c β s tm w){t:Nat}{e:TypeId}{tys:LW}(j:ev E (some t) s.V (.mkmap tys) [] K) :
  JU E c s tm K ((Instr.makeMap e none).run E.P w):=by
 unfold ev at j;simp only at j;refine⟨_,_,_,_,Eh β t (s.V.cn t) (.map (some w.heap.size)),run_makeMap _ _,j.2,h.fresh j.1 (.of_below _ (CL w _)) (fun b hb=>?_) (fun β' fb' hβ' l m=>?_),AP.map_new rfl (G1 _ _ _)⟩
 ·simp[C4,A9]at hb;subst hb;exact⟨by simp,.inl (cp _)⟩
 ·exact .map tys [] w.heap.size #[] (heap_alloc_new w _) rfl fun i kv e h1=>by simp at h1
theorem Yf(h:BZ E c β s tm w){t:Nat}{ty G J:TypeId}(ht:E.P.underlying ty=some (.map G J)){x:AV}{u:Value}(hx:AP w (c.bar β s.V) β s.V.cn x u)(r:ev E (some t) s.V .mrange [x] K) :
  JU E c s tm K ((Instr.range ty u).run E.P w):=by
 unfold ev at r;simp only at r;split at r
 ·rename_i L tys kvs j l;simp only[Option.some.injEq]at j;subst j;simp only[List.cons.injEq,and_true]at l;subst l;obtain⟨y,A⟩:=r
  cases hx with|d _ _ hx =>
  cases hx with|map _ _ b es cl hb hh hl hrs htk hkk hvv =>
  have p:(Instr.range ty (.map (some b))).run E.P w=.ok (.pointer (some ⟨w.heap.size,0,none⟩)) (w.alloc (.mapIter (some b) cl #[] cl)):=by
   simp[Instr.range,run_underlying ht,CQ hh,newObj,Sem.run]
  refine⟨_,_,_,_,Eh β t (s.V.cn t) (.pointer (some ⟨w.heap.size,0,none⟩)),p,A,h.fresh y (.of_below _ (CL w (.mapIter (some b) cl #[] cl))) (fun q o=>?_) (fun β' fb' hβ' B z=>?_),?_⟩
  ·simp[C4,A9]at o;subst o;exact⟨by simp,.inl (cp _)⟩
  ·have m:b<w.heap.size:=(et.1 hh).1;have n:Aq (c.bar β s.V) w (w.alloc (.mapIter (some b) cl #[] cl)):=.of_below (CL w _);exact .mitD tys kvs [] w.heap.size b es cl [] (fun o=>hb (z b m o)) ((n b hb m).trans hh) hl hrs (heap_alloc_new w _) rfl (fun q i o=>by simp at o) fun i kv e h1 h2=>⟨(hkk i kv e h1 h2).mono n z,(hvv i kv e h1 h2).mono n z⟩
  ·exact .ptr t _ 0 _ (G1 _ _ _) (BM _ _ _ _)
 ·exact r.elim
theorem bR{es:Array MapEntry}{cl:Nat}(h:Zv es cl):(es.toList.map (·.born)).Nodup:=by
 rw[List.Nodup,List.pairwise_iff_getElem];intro i j hi n l e;have m:j<es.size:=by simpa using n
 rw[r4,r4]at e;have:=h.2 i j _ _ (ax (by omega)) (ax m) l;simp only[Array.getElem_toList]at e;omega
theorem Yh(h:BZ E c β s tm w){dst:Option Nat}{x:AV}{u:Value}(hx:AP w (c.bar β s.V) β s.V.cn x u)(n:ev E dst s.V .mentry [x] K) :
  JU E c s tm K ((Instr.entry u).run E.P w):=by
 have pair:∀{a b:D}{L B:Value},Ar w (c.bar β s.V) a L->Ar w (c.bar β s.V) b B->AP w (c.bar β s.V) β s.V.cn (.tup [.d a,.d b]) (.tuple #[L,B]):=fun {a b L B} O hb =>
  .tup _ _ rfl fun i c v hc hv=>by
   match i with
   |0=>simp at hc hv;subst hc hv;exact .d _ _ O
   |1=>simp at hc hv;subst hc hv;exact .d _ _ hb
   |i+2=>simp at hc
 unfold ev at n;simp only at n;split at n
 ·rename_i o g z;simp only[List.cons.injEq,and_true]at z;subst z;split at n
  ·rename_i tys kvs seen hg;split at n
   ·rename_i i q;split at n
    ·rename_i kv y;obtain⟨_,ho⟩:=h.objs _ _ _ (AO.get_some hg)
     cases hx with|ptr _ _ _ r hgl hβo =>
     rw[hβo]at ho
     cases ho with|mitD _ _ _ _ m es cl sn hm hh hl hrs hr hsl hsn hent =>
     have S:i<kvs.length:=(aa.1 y).1;have t:es[i]?=some es[i]:=ax (by omega);obtain⟨T,N⟩:=hent i kv es[i] y t
     have J:∃j:Array Nat,sn.toArray=j.push es[i].born:=by
      obtain⟨l,rfl⟩:=List.getLast?_eq_some_iff.1 q;have R:(l++[i])[l.length]?=some i:=by simp
      obtain⟨e,k1,k2⟩:=hsn l.length i R;rw[t]at k1;simp at k1;subst k1;have M:sn.length=l.length+1:=by simpa using hsl
      refine⟨(sn.take l.length).toArray,?_⟩
      have:sn=sn.take l.length++[es[i].born]:=by
       rw[←r5 l.length sn];congr 1
       ·rw[r5]
       ·apply List.ext_getElem?;intro p;rw[s7]
        cases p with
        |zero=>simpa using k2
        |succ p=>rw[List.getElem?_eq_none (by omega)];simp
      exact(congrArg List.toArray this).trans (by simp)
     obtain⟨j,G⟩:=J;rw[G]at hr;have A:=run_entry_at (P:=E.P) w r m cl j es cl es[i] hr hh (by simp) (bR hrs);exact CP h n A (pair T N)
    ·exact n.elim
   ·exact n.elim
  ·exact n.elim
 ·exact n.elim
theorem K6(h:BZ E c β s tm w){t:Nat}(e:t<Cr){ety es:Nat}{nl:Bool}{l:List D}{vo:Value}{w':World}(m:Below w.heap.size w w')(h1:vo.oneCell'=true)
  (hb:∀b,C4 vo b->w.heap.size<=b/\b<w'.heap.size) (hr:∀fb',(∀b,b<w.heap.size->fb' b->c.bar β s.V b)->B3 w' fb' ety es nl l vo) :
  ∃β',BZ E c β' ⟨s.sl,s.V.app (.fresh t (.row ety es nl l))⟩ tm w'/\AP w' (c.bar β' (s.V.app (.fresh t (.row ety es nl l)))) β' (s.V.app (.fresh t (.row ety es nl l))).cn (.own t (s.V.cn t)) vo :=
 ⟨Eh β t (s.V.cn t) vo,h.fresh e (.of_below _ m) (fun b i=>⟨(hb b i).2,.inl (hb b i).1⟩) (fun β' fb' hβ' j n=>.row _ _ _ _ _ (hr fb' n)),AP.own_new h1 (G1 _ _ _)⟩
def Ba(l:List D):List D:=l.flatMap D.cells
theorem Ip{es:Nat}:∀{l:List D},Cc es l->∀{i j:Nat}{x c:D},l[i]?=some x->x.cells[j]?=some c->(Ba l)[i*es+j]?=some c
 |[],_,i,j,x,c,hi,_=>by simp at hi
 |y::l,hu,0,j,x,c,hi,hj=>by
  simp at hi;subst hi;simp only[Ba,ox,Nat.zero_mul,i7];rw[ay (aa.1 hj).1];exact hj
 |y::l,hu,i+1,j,x,c,hi,hj=>by
  simp at hi;have:=Ip (l:=l) (fun z h=>hu z (by simp[h])) hi hj;have e:=hu y (by simp);simp only[Ba,ox]at this ⊢;rw[eb (by rw[e,cw];omega),e,show(i+1)*es+j-es=i*es+j by rw[cw];omega];exact this
theorem Bl{es:Nat}:∀{l:List D},Cc es l->(Ba l).length=l.length*es
 |[],_=>by simp[Ba]
 |y::l,hu=>by
  have:=Bl (l:=l) (fun z e=>hu z (by simp[e]));have h:=hu y (by simp);simp only[Ba,ox,lb,na]at this ⊢;rw[this,h,cw];omega
theorem Sa{w':World}{fb:Nat->Prop}{ety es:Nat}{l:List D}{b:Nat}{cap:Nat}{cur:Array Value}(hb:w'.heap[b]?=some (.cells cur ety (0,0)))(e:l.length<=cap)(hm:cap<=maxLen)(m:cap*es<=cur.size)(hes:0<es)
  (hu:Cc es l) (h1:∀x c,x∈l->c∈x.cells->c.one=true) (n:∀(q:Nat) (x:D),(Ba l)[q]?=some x->∃u,cur[q]?=some u/\Ar w' fb x u) :
  B3 w' fb ety es false l (.slice (some ⟨b,0,none⟩) l.length cap) :=
 .inr ⟨rfl,b,0,cap,cur,rfl,hb,e,hm,by omega,hes,hu,h1,fun i x j o hi h=>by rw[i7];exact n _ _ (Ip hu hi h)⟩
theorem PL{z:Array Value}{n es i j:Nat}(h:z.size=es)(hi:i<n)(l:j<es):(madeCells z (n*es))[i*es+j]?=z[j]?:=by
 have e:i*es+j<n*es:=by
  have:(i+1)*es<=n*es:=j0 _ hi;rw[cw]at this;omega
 have hm:(i*es+j)%z.size=j:=by rw[h,j4,Nat.mul_add_mod,Nat.mod_eq_of_lt l]
 simp only[madeCells,Array.getElem?_map,Array.getElem?_range,e,if_true,ne,hm];rw[getElem!_pos z j (by omega),ax (by omega)]
theorem OV{e:TypeId}{z:D}(h:F4 E.P e=some z):∃i v,E.P.info? e=some i/\i.zero=some v/\(∀w fb,Ar w fb z v)/\(∀x,x∈z.cells->x.one=true)/\v.cells.size=z.cells.length /\
  (∀w fb (j:Nat) (x:D),z.cells[j]?=some x->∃u,v.cells[j]?=some u/\Ar w fb x u):=by
 have dec1:∀{v:Value}{d:D},Rq v=some d->d.one=true:=by
  intro v d hx;unfold Rq at hx;split at hx<;>(try split at hx)<;>simp at hx<;>subst hx<;>rfl
 unfold F4 at h
 cases hi:E.P.info? e with
 |none=>simp[hi]at h
 |some i =>
  simp only[hi,az]at h;split at h
  ·rename_i cs q
   cases hl:Ax Rq cs.toList with
   |none=>simp[hl]at h
   |some l =>
    simp[hl]at h;subst h
    have hr:∀w fb (j:Nat) (x:D),l[j]?=some x->∃u,cs[j]?=some u/\Ar w fb x u:=by
     intro w fb j x n;obtain⟨u,hu,hd⟩:=BC hl n;exact⟨u,by rwa [f0]at hu,JH hd⟩
    have h1:∀x,x∈l->x.one=true:=fun x hx=>by
     obtain⟨u,_,hd⟩:=D5 hl hx;exact dec1 hd
    refine⟨i,.agg cs,rfl,q,fun w fb=>.agg l cs (by rw[Af hl];simp) h1 (fun j x u n hu=>?_),h1,by simp[Value.cells,D.cells,Af hl],hr⟩;obtain⟨t,o,hd⟩:=hr w fb j x n;rw[hu]at o;simp at o;subst o;exact hd
  ·rename_i v r q;have h1:=dec1 h;have m:∀w fb,Ar w fb z v:=fun w fb=>JH h
   have p:=(m default (fun _=>False)).oneCell h1;have hc:z.cells=[z]:=by cases z<;>first|rfl|simp[D.one]at h1
   refine⟨i,v,rfl,q,m,by rw[hc];simpa using h1,by rw[hc,Hc p];rfl,fun w fb j x n=>?_⟩;rw[hc]at n
   match j with
   |0=>simp at n;subst n;exact⟨v,by rw[Hc p];rfl,m w fb⟩
   |j+1=>simp at n
  ·cases h
theorem H8{z:D}{n q:Nat}{x:D}{es:Nat}(l:z.cells.length=es)(hes:0<es)(h:(Ba (hU n z))[q]?=some x):q/es<n/\z.cells[q%es]?=some x:=by
 have hu:Cc es (hU n z):=fun y m=>by rw[oy m];exact l
 have e:q<n*es:=by
  have:=(aa.1 h).1;rw[Bl hu]at this;simpa using this
 have hi:q/es<n:=Nat.div_lt_of_lt_mul (by rw[j4];exact e);have o:q%es<es:=uk _ hes;obtain⟨c,hc⟩:∃c,z.cells[q%es]?=some c:=⟨_,ea (by omega)⟩
 have:=Ip hu (i:=q/es) (j:=q%es) (x:=z) (c:=c) (by simp[hi]) hc;rw[j4,uv]at this;rw[h]at this;simp at this;subst this;exact⟨hi,hc⟩
theorem JQ(h:BZ E c β s tm w){b:Nat}(hb:c.bar β s.V b):b<w.heap.size:=by
 rcases hb with hb|⟨o,g,x,h1,h2⟩
 ·exact Nat.lt_of_lt_of_le (h.low b hb).1 h.keep.size
 ·exact(h.home o g x b h1 h2).1
theorem eU(h:BZ E c β s tm w){t:Nat}{ty e:TypeId}{i:TypeInfo}{z:D}{own:Bool}(ht:E.P.underlying ty=some (.slice e))(hi:E.P.info? e=some i)(U:F4 E.P e=some z)
  (o:0<i.size) (X:i.bytes<=131072) (J:z.cells.length=i.size)
  {x y:AV}{u v:Value}(hx:AP w (c.bar β s.V) β s.V.cn x u) (G:AP w (c.bar β s.V) β s.V.cn y v) (j:ev E (some t) s.V (.mksl e i.size z own) [x,y] K) :
  JU E c s tm K ((Instr.makeSlice ty u v).run E.P w):=by
 unfold ev at j;simp only at j;split at j
 ·rename_i t' n m h1 h2;simp only[Option.some.injEq,List.cons.injEq,and_true]at h1 h2;obtain rfl:=h1;obtain⟨rfl,rfl⟩:=h2;obtain⟨rfl,h0,hn,j⟩:=j;obtain⟨rfl,_⟩:=BQ hx;obtain⟨rfl,_⟩:=BQ G;obtain⟨i',B,A,S,Y,T,α,R⟩:=OV U;rw[hi]at A;simp at A;subst A;have O:n<=1073741824:=hn
  have r:=run_make (P:=E.P) w ty e i B ht hi S .i64 .i64 n n h0 (Int.le_refl _) (by
   have h1:(i.bytes:Int)*n<=131072*1073741824:=Int.mul_le_mul (by omega) O h0 (by omega)
   omega) (by omega)
  have L:(hU n.toNat z).length=n.toNat:=by simp
  have p:∀fb',(∀b,b<w.heap.size->fb' b->c.bar β s.V b)->B3 (w.alloc (.cells (madeCells B.cells (n.toNat * i.size)) e)) fb' e i.size false (hU n.toNat z) (.slice (some ⟨w.heap.size,0,none⟩) n.toNat n.toNat):=by
   intro fb' _
   have:=Sa (w':=w.alloc (.cells (madeCells B.cells (n.toNat * i.size)) e)) (fb:=fb') (ety:=e) (es:=i.size) (l:=hU n.toNat z) (b:=w.heap.size) (cap:=n.toNat) (heap_alloc_new w _) (by simp) (by unfold maxLen;omega) (by rw[size_madeCells];omega) o
    (fun y G=>by rw[oy G];exact J) (fun y cc G hc=>by rw[oy G]at hc;exact T _ hc) (fun q y hq=>by
     obtain⟨a1,Z⟩:=H8 J o hq;obtain⟨u,hu,hd⟩:=R (w.alloc (.cells (madeCells B.cells (n.toNat * i.size)) e)) fb' _ _ Z;refine⟨u,?_,hd⟩;have:=PL (z:=B.cells) (n:=n.toNat) (es:=i.size) (by omega) a1 (uk q o);rw[j4 (q/i.size),uv]at this
     rw[this];exact hu)
   rwa [L]at this
  cases own with
  |true =>
   simp only[if_true]at j;obtain⟨β',h5,h6⟩:=K6 h (t:=t) j.1 (CL w _) (vo:=.slice (some ⟨w.heap.size,0,none⟩) n.toNat n.toNat) rfl (fun b hb=>by simp[C4,A9]at hb;subst hb;exact⟨cp _,by simp⟩) p;exact⟨_,_,_,_,β',r,j.2,h5,h6⟩
  |false =>
   simp only[Bool.false_eq_true,if_false]at j;have N:=h.grow (CL w (.cells (madeCells B.cells (n.toNat * i.size)) e));refine⟨_,_,_,.none,β,r,j,N,.d _ _ (Cq (p _ fun b _ hb=>hb) fun b hb M=>?_)⟩;simp[C4,A9]at hb;subst hb;have:=JQ h M;omega
 ·exact j.elim
end
end Go.Pw
end
section
namespace Go.Pw
open Go.RowKit
theorem DA{α:Type}{cs vs:List α}{off:Nat}(h:off+vs.length<=cs.length):(BX cs off vs).length=cs.length:=by
 simp[BX];omega
theorem Dl{α:Type}{cs vs:List α}{off:Nat}(h:off+vs.length<=cs.length)(i:Nat) :
  (BX cs off vs)[i]?=if i<off then cs[i]? else if i<off+vs.length then vs[i-off]? else cs[i]?:=by
 unfold BX;split
 ·rename_i hi;rw[va,ay (by simp;omega),List.getElem?_take,if_pos hi]
 ·rename_i hi;split
  ·rename_i e;rw[va,eb (by simp;omega),List.length_take,Nat.min_eq_left (by omega),ay (by omega)]
  ·rename_i e;rw[eb (by simp;omega),s7];congr 1;simp;omega
theorem Lc{α:Type}{cs vs:List α}{off:Nat}{x:α}(h:x∈BX cs off vs):x∈cs\/x∈vs:=by
 simp only[BX,List.mem_append]at h;rcases h with(h|h)|h
 ·exact .inl (List.mem_of_mem_take h)
 ·exact .inr h
 ·exact .inl (List.mem_of_mem_drop h)
section
variable {E:CW}{c:EG}{β:Nat->Nat->Value}{s:BG}{tm:Array Value}{w:World}{K:AV->Bs->Prop}
theorem Yb{α:Type}{R:α->Value->Prop}{cs vs:List α}{us j:Array Value}{off:Nat}(h1:CV R cs us)(h2:CV R vs j)(h:off+vs.length<=cs.length) :
  CV R (BX cs off vs) (BX us.toList off j.toList).toArray:=by
 have e1:=h1.1;have e2:=h2.1;have hh:off+j.toList.length<=us.toList.length:=by simp;omega
 refine⟨by rw[hX,DA hh,DA h];simp;omega,fun i x v hx hv=>?_⟩;rw[hY]at hv;rw[Dl h]at hx;rw[Dl hh]at hv;have l:j.toList.length=vs.length:=by simp;omega
 rw[l]at hv;split at hx
 ·rename_i hi;rw[if_pos hi]at hv;exact h1.2 i x v hx (by simpa using hv)
 ·rename_i hi;rw[if_neg hi]at hv;split at hx
  ·rename_i e;rw[if_pos e]at hv;exact h2.2 _ x v hx (by simpa using hv)
  ·rename_i e;rw[if_neg e]at hv;exact h1.2 i x v hx (by simpa using hv)
theorem Fg{b:Nat}{cur:Array Value}{v:Value}(hv:C4 v b):Hd v w (w.setRow b cur):=by
 refine⟨rfl,rfl,rfl,by simp[World.setRow],fun k hk hne=>setRow_other w b k _ (fun h=>hne (h▸hv))⟩
theorem Gl{t:TypeId}{n:Nat}(h:HT E.P t=some n){b off:Nat}{cur:Array Value}{e:TypeId}(hb:w.heap[b]?=some (.cells cur e (0,0))){u:Value}(hu:u.cells.size=n)(h1:∀v,v∈u.cells.toList->v.oneCell'=true)(i:off+n<=cur.size) :
  (Instr.storeAt t (.pointer (some ⟨b,off,none⟩)) u).run E.P w=.ok () (w.setRow b (BX cur.toList off u.cells.toList).toArray):=by
 have:=run_storeCells_at E.P b off e u.cells.toList 0 cur w hb (by simp;omega) h1;simp only[Nat.add_zero]at this;simp[Instr.storeAt,Instr.sureAddr,storeVar,CE h,hu,this,BX]
theorem NV{α:Type}{R:α->Value->Prop}{one:α->Bool}{cs:List α}{us:Array Value}(h:CV R cs us)(h1:∀y,y∈cs->one y=true)(h2:∀y v,one y=true->R y v->v.oneCell'=true):∀v,v∈us.toList->v.oneCell'=true:=by
 intro v hv;obtain⟨i,hi⟩:=List.getElem?_of_mem hv;have e:us[i]?=some v:=by simpa using hi
 have l:i<us.size:=(et.1 e).1;obtain⟨y,j⟩:∃y,cs[i]?=some y:=⟨_,ea (by have:=h.1;omega)⟩
 exact h2 y v (h1 y (i5 j)) (h.2 i y v j e)
theorem U6{fb β' cn}{x:AV}{u:Value}{d:D}(h:AP w fb β' cn x u)(hd:x.toD1=some d):CV (Ar w fb) d.cells u.cells/\∀y,y∈d.cells->y.one=true:=by
 obtain⟨hr,_⟩:=B' h hd
 have hne:(∀l,d≠.tup l)/\d≠.junk:=by
  unfold AV.toD1 at hd;split at hd
  ·split at hd<;>simp at hd;subst hd;exact⟨fun _=>by simp,by simp⟩
  ·split at hd<;>simp at hd;subst hd;exact⟨fun _=>by simp,by simp⟩
  ·split at hd<;>simp at hd;subst hd;exact⟨fun _=>by simp,by simp⟩
  ·unfold AV.toD0 at hd;split at hd
   ·cases hd
   ·cases hd
   ·simp at hd;subst hd;exact⟨fun l hl=>by simp_all,fun e=>by simp_all⟩
   ·simp at hd;subst hd;exact⟨fun _=>by simp,by simp⟩
   ·split at hd
    ·cases hd
    ·simp at hd;subst hd;exact⟨fun _=>by simp,by simp⟩
   ·cases hd
 have single:d.one=true->d.cells=[d]->CV (Ar w fb) d.cells u.cells/\∀y,y∈d.cells->y.one=true:=by
  intro h1 hc;rw[hc,Hc (hr.oneCell h1)];refine⟨⟨rfl,fun i c v hc hv=>?_⟩,by simpa using h1⟩
  match i with
  |0=>simp at hc hv;subst hc hv;exact hr
  |i+1=>simp at hc
 cases d with
 |agg cs=>cases hr with|agg _ vs hl h1 hc=>exact⟨⟨hl,hc⟩,h1⟩
 |tup l=>exact absurd rfl (hne.1 l)
 |junk=>exact absurd rfl hne.2
 |_=>exact single rfl rfl
theorem ap(h:BZ E c β s tm w){t:TypeId}{n:Nat}(υ:HT E.P t=some n)(hn:0<n){dst:Option Nat}{p x:AV}{up G:Value}
  (hp:AP w (c.bar β s.V) β s.V.cn p up) (hx:AP w (c.bar β s.V) β s.V.cn x G) (O:ev E dst s.V (.store n) [p,x] K) :
  w9 E c s tm K ((Instr.storeAt t up G).run E.P w):=by
 unfold ev at O;simp only at O;split at O
 ·rename_i o g off x' R;simp only[List.cons.injEq,and_true]at R;obtain⟨rfl,rfl⟩:=R;split at O
  ·rename_i cs vs hg hc;obtain⟨hvn,J,O⟩:=O;have r:=AO.get_some hg;obtain⟨U,ho⟩:=h.objs _ _ _ r
   cases hp with|ptr _ _ _ b U hβ =>
   rw[hβ]at ho
   cases ho with|cells _ _ cur e hb hl h1 hr =>
   obtain⟨h3,h4⟩:=QO hx hc;have Y:=NV (one:=AV.one) h3 h4 fun y v h1 h2=>h2.oneCell h1
   have ρ:G.cells.size=n:=by have:=h3.1;omega
   refine⟨_,_,β,Gl υ hb ρ Y (by omega),O,h.kept r (by rw[hβ];exact Fg rfl) fun fb' hf hfe=>?_⟩
   have N:Aq (c.bar β s.V) w (w.setRow b (BX cur.toList off G.cells.toList).toArray):=fun k hk U=>by
    refine setRow_other w b k _ fun ε=>hk (.inr ⟨o,g,_,r,by rw[hβ,ε];exact rfl⟩)
   rw[hβ];have hsp:=Yb (off:=off) ⟨hl,hr⟩ h3 (by omega);refine .cells _ b _ e (setRow_heap w b cur _ e _ hb) hsp.1 (fun y hy=>(Lc hy).elim (h1 y) (h4 y)) fun i y u hy hu=>?_
   exact(hsp.2 i y u hy hu).mono N hf (fun _ _ _=>rfl) (fun _=>cp _)
  ·exact O.elim
 ·rename_i o g A i off x' R;simp only[List.cons.injEq,and_true]at R;obtain⟨rfl,rfl⟩:=R;split at O
  ·rename_i ety es nl l y hg hd;obtain⟨rfl,O⟩:=O;split at O
   ·rename_i z hz;obtain⟨hyn,J,hcase,O⟩:=O;have r:=AO.get_some hg;obtain⟨U,ho⟩:=h.objs _ _ _ r
    cases hp with|rptr _ _ _ _ _ b b0 len cap U hβ =>
    rw[hβ]at ho
    cases ho with|row _ _ _ _ _ ho =>
    rcases ho with⟨_,_,h3⟩|⟨hnl,b',off',cap',cur,h2,h3,h4,h5,h6,h7,h8,h10,h9⟩
    ·cases h3
    ·simp only[Value.slice.injEq,Option.some.injEq,Addr.mk.injEq]at h2;obtain⟨⟨rfl,rfl,_⟩,rfl,rfl⟩:=h2;obtain⟨θ,hy1⟩:=U6 hx hd;have Y:=NV (one:=D.one) θ hy1 fun y v h1 h2=>h2.oneCell h1
     have ρ:G.cells.size=n:=by have:=θ.1;omega
     have hzl:z.cells.length=A:=h8 z (i5 hz);have hi:i<l.length:=(aa.1 hz).1
     have hbig:b0+i*A+off+n<=cur.size:=by
      have:(i+1)*A<=cap*A:=j0 _ (by omega);rw[cw]at this;omega
     generalize hz':(if n=A then y else D.agg (BX z.cells off y.cells))=z' at O
     have hz'c:z'.cells=BX z.cells off y.cells:=by
      rw[←hz'];split
      ·rename_i hne;have:off=0:=by omega
       subst this;simp[BX,hzl,hyn,hne]
      ·rfl
     have hz'l:z'.cells.length=A:=by rw[hz'c,DA (by omega)];exact hzl
     refine⟨_,_,β,Gl υ h3 ρ Y hbig,O,h.kept r (by rw[hβ];exact Fg rfl) fun fb' hf hfe=>?_⟩
     have N:Aq (c.bar β s.V) w (w.setRow b (BX cur.toList (b0+i*A+off) G.cells.toList).toArray):=fun k hk U=>by
      refine setRow_other w b k _ fun ε=>hk (.inr ⟨o,g,_,r,by rw[hβ,ε];exact rfl⟩)
     rw[hβ];have hfit':(b0+i*A+off)+G.cells.toList.length<=cur.toList.length:=by simp;omega
     refine .row _ _ _ _ _ (.inr ⟨hnl,b,b0,cap,_,by simp,setRow_heap w b cur _ _ _ h3,by simpa using h4,h5,by rw[hX,DA hfit'];simpa using h6,h7,fun q hq=>?_,fun q cc hq hc=>?_,fun k q j cc hk T=>?_⟩)
     ·rcases kk hq with hq|rfl
      ·exact h8 q hq
      ·exact hz'l
     ·rcases kk hq with hq|rfl
      ·exact h10 q cc hq hc
      ·rw[hz'c]at hc;exact(Lc hc).elim (h10 z cc (i5 hz)) (hy1 cc)
     ·rw[hY,Dl hfit'];have S:G.cells.toList.length=n:=by simpa using ρ
      rw[S];have hjlt:j<q.cells.length:=(aa.1 T).1
      by_cases hki:i=k
      ·subst hki;simp[hi]at hk;subst hk;rw[hz'l]at hjlt;rw[hz'c,Dl (by omega),hyn]at T
       by_cases hj1:j<off
       ·rw[if_pos hj1]at T;rw[if_pos (by omega)];obtain⟨u,hu,hd⟩:=h9 i z j cc hz T;exact⟨u,by simpa using hu,hd.mono N hf⟩
       ·rw[if_neg hj1]at T;rw[if_neg (by omega)]
        by_cases hj2:j<off+n
        ·rw[if_pos hj2]at T;rw[if_pos (by omega),show b0+i*A+j-(b0+i*A+off)=j-off by omega];obtain⟨u,hu⟩:∃u,G.cells[j-off]?=some u:=⟨_,ax (by omega)⟩
         exact⟨u,by simpa using hu,(θ.2 _ cc u T hu).mono N hf⟩
        ·rw[if_neg hj2]at T;rw[if_neg (by omega)];obtain⟨u,hu,hd⟩:=h9 i z j cc hz T;exact⟨u,by simpa using hu,hd.mono N hf⟩
      ·rw[ck hki]at hk;rw[h8 q (i5 hk)]at hjlt;obtain⟨u,hu,hd⟩:=h9 k q j cc hk T
       have hout:¬(b0+i*A+off<=b0+k*A+j/\b0+k*A+j<b0+i*A+off+n):=by
        rintro⟨g1,g2⟩;rcases Nat.lt_or_ge k i with U|hge
        ·have:(k+1)*A<=i*A:=j0 _ U;rw[cw]at this;omega
        ·have:(i+1)*A<=k*A:=j0 _ (by omega);rw[cw]at this;omega
       refine⟨u,?_,hd.mono N hf⟩;split
       ·simpa using hu
       ·rw[if_neg (by omega)];simpa using hu
   ·exact O.elim
  ·exact O.elim
 ·rename_i i o g j o' g' R;simp only[List.cons.injEq,and_true]at R;obtain⟨rfl,rfl⟩:=R;split at O
  ·rename_i e1 e2 nl ix rows hg;obtain⟨rfl,rfl,rfl,hi,T,hK⟩:=O;have r:=AO.get_some hg;obtain⟨U,ho⟩:=h.objs _ _ _ r;obtain⟨v,hv⟩:∃v,β o' g'=v:=⟨_,rfl⟩
   cases hp with|mref _ _ _ _ _ hm _ =>
   cases hx with|mref _ _ _ _ _ hmx ζ =>
   rw[hv]at ho
   cases ho with|mat _ _ _ _ _ _ ho =>
   obtain⟨v0,vs,hvv,S,h0,hr,B⟩:=ho;have M:=hv;rw[hvv]at M;rw[M]at hm hmx;simp only[Ei,Bn,pv]at hmx;rcases h0 with⟨_,h01,_⟩|⟨hnl,b,off,cap,cur,h2,h3,h4,h5,h6,h7⟩
   ·rw[h01]at hi;simp at hi
   ·subst h2;simp only[Ei,Bn,vb,az,VC,Option.some.injEq]at hm;subst hm;have α:=Hc ζ;have L:C4 (β o' g') b:=by rw[M];exact⟨0,_,by rw[Bn];rfl,rfl⟩
    refine⟨_,_,β,Gl (n:=1) υ h3 (by rw[α];rfl) (fun v hv=>by rw[α]at hv;simp at hv;subst hv;exact ζ) (by omega),hK,h.kept r (Fg L) fun fb' hf hfe=>?_⟩
    have N:Aq (c.bar β s.V) w (w.setRow b (BX cur.toList (off+i) G.cells.toList).toArray):=fun k hk U=>by
     refine setRow_other w b k _ fun ε=>hk (.inr ⟨_,_,_,r,ε▸L⟩)
    rw[M];have J:off+i+[G].length<=cur.toList.length:=by simp;omega
    refine .mat _ _ _ _ _ _ ⟨_,vs,rfl,S,.inr ⟨hnl,b,off,cap,_,by simp,setRow_heap w b cur _ _ _ h3,by simpa using h4,h5,?_,fun p q hp=>?_⟩,fun q y u hy hu=>?_,B⟩
    ·rw[α,hX,DA (by simpa using J)];simpa using h6
    ·rw[α,hY,show(#[G]:Array Value).toList=[G] from rfl,Dl J];have hpl:p<ix.length:=by have:=(aa.1 hp).1;simpa using this
     by_cases hpi:p=i
     ·subst hpi;rw[la hi]at hp;simp at hp;subst hp;exact⟨G,hmx,by rw[if_neg (by omega),if_pos (by simp)];simp⟩
     ·rw[ck (Ne.symm hpi)]at hp;obtain⟨u,ξ,μ⟩:=h7 p q hp;refine⟨u,ξ,?_⟩
      by_cases hlt2:p<i
      ·rw[if_pos (by omega)];simpa using μ
      ·rw[if_neg (by omega),if_neg (by simp;omega)];simpa using μ
    ·refine⟨(hr q y u hy hu).1,fun ha=>?_⟩;have X:=(hr q y u hy hu).2 ha;refine X.mono N hf fun b' γ _=>setRow_other w b b' _ fun δ=>?_
     have:=B 0 (q+1) _ u b rfl (by simpa using hu) WP (L3 hy ha) rfl (δ▸X.blk γ);omega
  ·exact O.elim
 ·rename_i i o g q p' R;simp only[List.cons.injEq,and_true]at R;obtain⟨rfl,rfl⟩:=R;split at O
  ·rename_i e1 e2 nl ix rows τ es2 nl2 l2 hg hg2;obtain⟨rfl,hol,hql,hoq,he1,he2,hi,hK⟩:=O;subst he1 he2;have r:=AO.get_some hg;have ω:=AO.get_some hg2;obtain⟨U,ho⟩:=h.objs _ _ _ r;obtain⟨hlt2,ν⟩:=h.objs _ _ _ ω;obtain⟨v,hv⟩:∃v,β o g=v:=⟨_,rfl⟩
   obtain⟨uq,hvq⟩:∃u,β q p'=u:=⟨_,rfl⟩
   cases hp with|mref _ _ _ _ _ hm _ =>
   have hux:G=uq/\uq.oneCell'=true:=by cases hx with|own _ _ _ h1=>exact⟨hvq,hvq▸h1⟩
   obtain⟨rfl,ζ⟩:=hux;rw[hvq]at ν
   cases ν with|row _ _ _ _ _ ν =>
   rw[hv]at ho
   cases ho with|mat _ _ _ _ _ _ ho =>
   obtain⟨v0,vs,hvv,S,h0,hr,B⟩:=ho;have M:=hv;rw[hvv]at M;rw[M]at hm;rcases h0 with⟨_,h01,_⟩|⟨hnl,b,off,cap,cur,h2,h3,h4,h5,h6,h7⟩
   ·rw[h01]at hi;simp at hi
   ·subst h2;simp only[Ei,Bn,vb,az,VC,Option.some.injEq]at hm;subst hm;have α:=Hc ζ;have hblk0:C4 (.tuple (.slice (some ⟨b,off,none⟩) ix.length cap::vs).toArray) b:=⟨0,_,by rw[Bn];rfl,rfl⟩
    have L:C4 (β o g) b:=by rw[M];exact hblk0
    have hrun:=Gl (n:=1) υ h3 (off:=off+i) (u:=G) (by rw[α];rfl) (fun v hv=>by rw[α]at hv;simp at hv;subst hv;exact ζ) (by omega);have χ:∀{j u b},vs[j]?=some u->A9 u=some b->C4 (β o g) b:=fun {j u b} T hb=>by rw[M];exact⟨j+1,u,by simpa using T,hb⟩
    have φ:∀{b},A9 G=some b->C4 (β q p') b:=fun {b} hb=>by
     rw[hvq];rcases ν with⟨_,_,h⟩|⟨_,_,_,_,_,h,_⟩
     ·rw[h]at hb;cases hb
     ·rw[h]at hb ⊢;exact hb
    have Z:∀{b},C4 (β o g) b->A9 G=some b->False:=fun {b} hb hq=>hoq (h.sep _ _ _ _ _ _ b r ω hb (φ hq))
    have N:Aq (c.bar β s.V) w (w.setRow b (BX cur.toList (off+i) G.cells.toList).toArray):=fun k hk U=>by
     refine setRow_other w b k _ fun ε=>hk (.inr ⟨_,_,_,r,ε▸L⟩)
    have J:off+i+[G].length<=cur.toList.length:=by simp;omega
    have ψ:∀{j u},(Value.slice (some ⟨b,off,none⟩) ix.length cap::(vs++[G]))[j]?=some u->(j=0/\u=.slice (some ⟨b,off,none⟩) ix.length cap)\/(∃j',j=j'+1/\vs[j']?=some u)\/(j=vs.length+1/\u=G):=fun {j u} T=>by
     cases j with
     |zero=>simp at T;exact .inl ⟨rfl,T.symm⟩
     |succ j =>
      simp only[pv]at T
      by_cases hjl:j<vs.length
      ·rw[ay hjl]at T;exact .inr (.inl ⟨j,rfl,T⟩)
      ·rw[eb (by omega)]at T;have:=(aa.1 T).1;simp at this;have hjj:j=vs.length:=by omega
       subst hjj;simp at T;exact .inr (.inr ⟨rfl,T.symm⟩)
    have hrel1:=h.absorb (us:=[G]) (x:=.mat e1 τ nl (ix.set i rows.length) (rows++[(nl2,l2)])) r ω hoq hol M (Fg (cur:=(BX cur.toList (off+i) G.cells.toList).toArray) hblk0) (fun b' u hu γ=>by
     simp at hu;subst hu;exact φ γ) fun β' fb' hf=>by
      refine .mat _ _ _ _ _ _ ⟨_,vs++[G],rfl,by simp[S],.inr ⟨hnl,b,off,cap,_,by simp,setRow_heap w b cur _ _ _ h3,by simpa using h4,h5,?_,fun p j hp=>?_⟩,fun j x u hx hu=>?_,fun a a' u u' b' ha ha' al al' hu η=>?_⟩
      ·rw[α,hX,DA (by simpa using J)];simpa using h6
      ·rw[α,hY,show(#[G]:Array Value).toList=[G] from rfl,Dl J];have hpl:p<ix.length:=by have:=(aa.1 hp).1;simpa using this
       by_cases hpi:p=i
       ·subst hpi;rw[la hi]at hp;simp at hp;subst hp;exact⟨G,by rw[←S];simp,by rw[if_neg (by omega),if_pos (by simp)];simp⟩
       ·rw[ck (Ne.symm hpi)]at hp;obtain⟨u,ξ,μ⟩:=h7 p j hp;refine⟨u,by rw[ay (aa.1 ξ).1];exact ξ,?_⟩
        by_cases hlt2:p<i
        ·rw[if_pos (by omega)];simpa using μ
        ·rw[if_neg (by omega),if_neg (by simp;omega)];simpa using μ
      ·by_cases hjl:j<vs.length
       ·rw[ay hjl]at hu;rw[ay (by omega)]at hx;refine⟨(hr j x u hx hu).1,fun ha=>?_⟩;have X:=(hr j x u hx hu).2 ha;refine X.mono N hf fun b' γ _=>setRow_other w b b' _ fun δ=>?_
        have:=B 0 (j+1) _ u b rfl (by simpa using hu) WP (L3 hx ha) rfl (δ▸X.blk γ);omega
       ·rw[eb (by omega)]at hu;rw[eb (by omega)]at hx;have:=(aa.1 hu).1;simp at this;have hjj:j=vs.length:=by omega
        subst hjj;simp at hu;subst hu;rw[S]at hx;simp at hx;subst hx;exact⟨ν.one,fun _=>ν.mono N hf fun b' γ _=>setRow_other w b b' _ fun δ=>Z L (δ▸ν.blk γ)⟩
      ·rcases ψ ha with⟨rfl,rfl⟩|⟨j,rfl,T⟩|⟨rfl,rfl⟩<;>rcases ψ ha' with⟨rfl,rfl⟩|⟨j',rfl,hj'⟩|⟨rfl,rfl⟩
       ·rfl
       ·exact B 0 (j'+1) _ u' b' rfl (by simpa using hj') al.left al'.left hu η
       ·simp[A9]at hu;subst hu;exact(Z L η).elim
       ·exact B (j+1) 0 u _ b' (by simpa using T) rfl al.left al'.left hu η
       ·exact B (j+1) (j'+1) u u' b' (by simpa using T) (by simpa using hj') al.left al'.left hu η
       ·exact(Z (χ T hu) η).elim
       ·simp[A9]at η;subst η;exact(Z L hu).elim
       ·exact(Z (χ hj' η) hu).elim
       ·rfl
    have hrel2:=hrel1.fresh (o:=q) (x:=.row τ 1 true []) hql (vo:=.slice none 0 0) (Hd.of_below _ (Below.refl _ _)) (fun b hb=>by simp[C4,A9]at hb) fun β' fb' _ _ _=>.row _ _ _ _ _ (.inl ⟨rfl,rfl,rfl⟩)
    have hV:(AO.app (AO.app (AO.mk (CB s.V.ob q none) s.V.cn) (.keep o g (.mat e1 τ nl (ix.set i rows.length) (rows++[(nl2,l2)])))) (.fresh q (.row τ 1 true [])))=s.V.app (.seq (.keep o g (.mat e1 τ nl (ix.set i rows.length) (rows++[(nl2,l2)]))) (.fresh q (.row τ 1 true []))):=by
     simp only[AO.app];congr 1;funext z
     by_cases h1:z=q<;>by_cases h2:z=o<;>simp[CB,h1,h2]
    exact⟨_,_,_,hrun,hK,hV▸hrel2⟩
  ·exact O.elim
 ·rename_i j k o g x' R;simp only[List.cons.injEq,and_true]at R;obtain⟨rfl,rfl⟩:=R;split at O
  ·rename_i e1 e2 nl ix rows y hg hd;split at O
   ·rename_i x0 ι;obtain⟨rfl,hy1,hk,hK⟩:=O;have r:=AO.get_some hg;obtain⟨U,ho⟩:=h.objs _ _ _ r;obtain⟨v,hv⟩:∃v,β o g=v:=⟨_,rfl⟩
    cases hp with|mref _ _ _ _ _ hm _ =>
    rw[hv]at ho
    cases ho with|mat _ _ _ _ _ _ ho =>
    obtain⟨v0,vs,hvv,S,h0,hr,B⟩:=ho;have M:=hv;rw[hvv]at M;rw[M]at hm;obtain⟨uj,σ⟩:∃u,vs[j]?=some u:=⟨_,ea (by have:=(aa.1 ι).1;omega)⟩
    rcases(hr j x0 uj ι σ).2 (JR (by omega))with⟨_,h01,_⟩|⟨hnl,b,off,cap,cur,h2,h3,h4,h5,h6,h7,h8,h10,h9⟩
    ·rw[h01]at hk;simp at hk
    ·subst h2;simp only[Ei,Bn,pv,σ,az,VC,Option.some.injEq]at hm;subst hm;obtain⟨θ,hyo⟩:=U6 hx hd;have Y:=NV (one:=D.one) θ hyo fun y v h1 h2=>h2.oneCell h1
     have ρ:G.cells.size=1:=by have:=θ.1;omega
     obtain⟨uy,huy⟩:∃uy,G.cells.toList=[uy]:=by
      refine⟨G.cells[0]'(by omega),?_⟩;apply List.ext_getElem
      ·simpa using ρ
      ·intro j h2 h3;simp at h3;subst h3;simp
     have L:C4 (β o g) b:=by rw[M];exact⟨j+1,_,by simpa using σ,rfl⟩
     refine⟨_,_,β,Gl (n:=1) υ h3 ρ Y (by omega),hK,h.kept r (Fg L) fun fb' hf hfe=>?_⟩
     have N:Aq (c.bar β s.V) w (w.setRow b (BX cur.toList (off+k) G.cells.toList).toArray):=fun k hk U=>by
      refine setRow_other w b k _ fun ε=>hk (.inr ⟨_,_,_,r,ε▸L⟩)
     rw[M];have J:off+k+[uy].length<=cur.toList.length:=by simp;omega
     have hkx:JS x0=true:=JR (by omega);refine .mat _ _ _ _ _ _ ⟨_,vs,rfl,by simpa using S,?_,fun q y' u κ hu=>?_,fun a a' u u' b' ha ha' al al'=>B a a' u u' b' ha ha' (al.unset ι fun _=>hkx) (al'.unset ι fun _=>hkx)⟩
     ·rcases h0 with h0|⟨k0,b',off',cap',cur',k2,k3,k4,k5,k6,k7⟩
      ·exact .inl h0
      ·refine .inr ⟨k0,b',off',cap',cur',k2,?_,k4,k5,k6,k7⟩;rw[setRow_other w b b' _ fun δ=>?_];exact k3;subst k2;have:=B 0 (j+1) _ _ b rfl (by simpa using σ) WP (L3 ι hkx) (by rw[←δ];rfl) rfl;omega
     ·by_cases hqj:q=j
      ·subst hqj;rw[la (aa.1 ι).1]at κ;simp at κ;subst κ;rw[σ]at hu;simp at hu;subst hu;refine⟨rfl,fun _=>.inr ⟨hnl,b,off,cap,_,by simp,setRow_heap w b cur _ _ _ h3,by simpa using h4,h5,?_,h7,fun z hz=>?_,fun z cc hz hc=>?_,fun p z m cc hp hm=>?_⟩⟩
       ·rw[huy,hX,DA J];simpa using h6
       ·rcases kk hz with hz|rfl
        ·exact h8 z hz
        ·exact hy1
       ·rcases kk hz with hz|rfl
        ·exact h10 z cc hz hc
        ·exact hyo cc hc
       ·have hget:∀q,(BX cur.toList (off+k) G.cells.toList).toArray[q]?=if q<off+k then cur.toList[q]? else if q<off+k+[uy].length then [uy][q-(off+k)]? else cur.toList[q]?:=fun q=>by
         rw[huy,hY,Dl J]
        rw[hget]
        by_cases hpk:p=k
        ·subst hpk;simp only[la hk,Option.some.injEq]at hp;subst hp;have hm0:m=0:=by have:=(aa.1 hm).1;omega
         subst hm0;refine⟨uy,by rw[if_neg (by omega),if_pos (by simp)];simp,(θ.2 0 cc uy hm ?_).mono N hf⟩;rw[←f0,huy];rfl
        ·simp only[ck (Ne.symm hpk)]at hp;have hm0:m=0:=by have:=(aa.1 hm).1;have:=h8 z (i5 hp);omega
         subst hm0;obtain⟨u,ξ,μ⟩:=h9 p z 0 cc hp hm;refine⟨u,?_,μ.mono N hf⟩
         by_cases hlt2:p<k
         ·rw[if_pos (by omega)];simpa using ξ
         ·rw[if_neg (by omega),if_neg (by simp;omega)];simpa using ξ
      ·rw[ck (Ne.symm hqj)]at κ;refine⟨(hr q y' u κ hu).1,fun ha=>?_⟩;have X:=(hr q y' u κ hu).2 ha;refine X.mono N hf fun b' γ _=>setRow_other w b b' _ fun δ=>?_
       have:=B (j+1) (q+1) _ u b (by simpa using σ) (by simpa using hu) (L3 ι hkx) (L3 κ ha) rfl (δ▸X.blk γ);omega
   ·exact O.elim
  ·exact O.elim
 ·exact O.elim
end
end Go.Pw
end
