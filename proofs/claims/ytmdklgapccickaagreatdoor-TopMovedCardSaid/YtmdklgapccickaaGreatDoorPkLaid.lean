/- Part. -/
import Derived.Test.YtmdklgapccickaaGreatDoorPwLaw
import Derived.OpenShut
import Derived.Handed
import Derived.Test.YtmdklgapccickaaGreatDoorPwInt
set_option linter.all false
open List renaming range->aa,getElem?_map->ax,getElem?_eq_getElem->ay,append_nil->az,flatten_cons->cp,getElem?_eq_some_iff->cw,getElem?_range->c8,getElem?_eq_none->ea,map_append->eb,mem_flatten->et,getElem?_of_mem->f0,getD->hU,map->hX
open Option renaming map_eq_some_iff->ck
section
namespace Go.Pw
open Go.RowKit Go.ChangeShapes Go.WideShapes Go.ChangeAt
section
variable {H:Type}{enc:TypeId×Value->H}{P:Program}{W:World}
theorem fW{E:CW}(T:E.P=P){f:FuncId}{fn:Func}{s:ChangeSpec}{rt:TypeId}{Ts:List Ty}(hl:laidOutB P=true)(n:∀t,t∈fn.params.toList->P.readableRec t=true/\t<P.types.size)
  (B:Ax (U3 P 20) fn.params.toList=some Ts) (J:fn.resultTypes=#[rt]) (L:P.underlying rt=some .bool) (l:s.vars=[])
  (r:∀ds:List (DataW H),ds.length=fn.params.size->s.fn H ds={ results:=[.lit (.bool true)],args:=ds })
  (y:∀xs:List D,Ur Ts xs->BU E f xs (.bool true))
  {args:Array Value}{ds gs:List (DataW H)}{m:List MemPlace}(X:mn E W fun _=>False) (z:∀(j:Nat) t v,fn.params[j]?=some t->args[j]?=some v->Value.okWide P W .any 0 t v)
  (N:DataW.Whole enc P fn.params.toList s.vars false W args.toList ds gs m) :
  Calls P f args W fun e W'=>∃v,e=.returned v/\s.post enc P fn false true false false W args v W':=by
 have u:=N;obtain⟨p,q,G,M,rfl,S,O⟩:=N;rw[l]at M;obtain⟨rfl,rfl⟩:=trodVars_none M;have o:=u.lt;obtain⟨xs,h1,h2,Z⟩:=Xk B (fun j t v ht hv=>z j t v (by simpa using ht) (by simpa using hv)) G;have hc:=y xs h1 W (fun _=>False) args (fun b h=>h.elim) X (by simpa using h2.symm) fun i d v hd hv=>Z i d v hd (by simpa using hv)
 rw[T]at hc;refine hc.mono fun e W' ⟨v,Y,hb,hr⟩=>⟨v,Y,?_⟩
 cases hr
 have A:ds.length=fn.params.size:=by
  have:∀{ts:List TypeId}{vs:List Value}{ds:List (DataW H)}{ps:List MemPlace},DataW.TrodAll enc P W 0 (fun _=>true) true ts vs ds ps->ds.length=ts.length:=by
   intro ts
   induction ts with
   |nil=>intro vs ds ps h;obtain⟨rfl,rfl,rfl⟩:=trodAll_nil h;rfl
   |cons t ts ih=>intro vs ds ps h;obtain⟨v,U,d,R,p,q,rfl,rfl,rfl,h1,h2⟩:=trodAll_cons h;simp[ih h2]
  simpa using this G
 have hs:=r ds A;refine⟨ds,[],_,[],p++[],[],u,?_,?_,?_,?_,fun h=>by cases h⟩
 ·rw[az,hs,J];exact⟨[],[],⟨1,by simp[Value.cells,DataW.trod,L]⟩,rfl,rfl⟩
 ·rw[az,hs];simp only[az]at o ⊢;exact YH hl hb n (fun x hx=>o x hx) (fun x hx=>by simpa using o x hx) G
 ·rw[l,az,hs];exact rfl
 ·exact hb.frame _
end
def Ow:D->Value
 |.int k n=>.int k n
 |.bool b=>.bool b
 |_=>undef
inductive PU:DataW Unit->List D->Prop
 |int (k n) (h:N7 k n):PU (.lit (.int k n)) [.int k n]
 |bool (b):PU (.lit (.bool b)) [.bool b]
 |agg (ps:List (DataW Unit)) (dss:List (List D)) (hl:dss.length=ps.length) (h:∀(i:Nat) p ds,ps[i]?=some p->dss[i]?=some ds->PU p ds):PU (.agg ps) dss.flatten
def RI:Nat->DataW Unit->Option (List D)
 |0,_=>none
 |n+1,d=>match d with
  |.lit (.int k m)=>some [.int k m]
  |.lit (.bool b)=>some [.bool b]
  |.agg ps=>(Ax (RI n) ps).map List.flatten
  |_=>none
theorem qY{d:DataW Unit}{ds:List D}(h:PU d ds):∀(n:Nat) (ds':List D),RI n d=some ds'->ds'=ds:=by
 induction h with
 |int k m h=>intro n ds' hn;cases n<;>simp[RI]at hn;exact hn.symm
 |bool b=>intro n ds' hn;cases n<;>simp[RI]at hn;exact hn.symm
 |agg ps dss hl h ih =>
  intro n ds' hn
  cases n with
  |zero=>simp[RI]at hn
  |succ n =>
   simp only[RI,ck]at hn;obtain⟨dss',h1,rfl⟩:=hn;have l:=Af h1;congr 1;apply List.ext_getElem?;intro i
   by_cases hi:i<ps.length
   ·have e1:ps[i]?=some ps[i]:=ay hi;obtain⟨y,e,j⟩:=C7 h1 e1;have e2:dss[i]?=some dss[i]:=ay (by omega);rw[e,e2,ih i _ _ e1 e2 n y j]
   ·rw[ea (by omega),ea (by omega)]
def Th(P:Program):Nat->TypeId->Bool
 |0,_=>false
 |n+1,t=>match P.underlying t with
  |some (.int _)=>true
  |some .bool=>true
  |some (.struct fs)=>decide (E2 P 0 fs.toList=some (P.cellsOf t)) && fs.toList.all fun f=>Th P n f.type
  |some (.array m e)=>decide (P.cellsOf t=m*P.cellsOf e) && Th P n e
  |_=>false
theorem Tb{P:Program}{cs:List Value}:∀(fs:List Field) (n m:Nat),E2 P n fs=some m->cs.length=m->cs.drop n=(fs.map fun f=>(cs.drop f.offset).take (P.cellsOf f.type)).flatten
 |[],n,m,hl,hc=>by
  simp[E2]at hl;subst hl;rw[List.drop_of_length_le (by omega)];rfl
 |f::fs,n,m,hl,hc=>by
  simp only[E2]at hl;split at hl
  ·rename_i ho;have ih:=Tb fs _ m hl hc;rw[List.map_cons,cp,←ih,ho,←List.drop_drop,List.take_append_drop]
  ·cases hl
theorem gn{cs:List Value}{e:Nat}:∀(m:Nat),cs.length=m*e->cs=((aa m).map fun i=>(cs.drop (i*e)).take e).flatten:=by
 have key:∀(m:Nat),cs.take (m*e)=((aa m).map fun i=>(cs.drop (i*e)).take e).flatten:=by
  intro m
  induction m with
  |zero=>simp
  |succ m ih =>
   rw[List.range_succ,eb,List.flatten_append,←ih,Nat.succ_mul];simp[List.take_add]
 intro m h;rw[←key m,List.take_of_length_le (by omega)]
theorem NZ{e:List (List Value)}{dss:List (List D)}(hl:dss.length=e.length)(h:∀(i:Nat) v ds,e[i]?=some v->dss[i]?=some ds->v=ds.map Ow):e.flatten=dss.flatten.map Ow:=by
 induction e generalizing dss with
 |nil=>cases dss with
  |nil=>rfl
  |cons _ _=>simp at hl
 |cons v e ih =>
  cases dss with
  |nil=>simp at hl
  |cons ds dss =>
   rw[cp,cp,eb,h 0 v ds rfl rfl,ih (by simpa using hl) fun i j l h1 h2=>h (i+1) j l (by simpa using h1) (by simpa using h2)]
section
variable {enc:TypeId×Value->Unit}{P:Program}{w:World}{sp:Nat->Bool}{held:Bool}{base:Nat}
theorem f8:∀(u n:Nat) (t:TypeId) (cs:List Value) (x:DataW Unit×List MemPlace),DataW.trod enc P w base sp held u t cs=some x->Th P n t=true->∃ds,PU x.1 ds/\cs=ds.map Ow/\∀d,d∈ds->d.one=true/\∀w' fb,Ar w' fb d (Ow d):=by
 intro u
 induction u with
 |zero=>intro n t cs x h _;simp[DataW.trod]at h
 |succ u ih =>
  intro n t cs x h A
  cases n with
  |zero=>simp[Th]at A
  |succ n =>
   simp only[Th]at A;split at A
   ·rename_i k hu;obtain⟨m,rfl,rfl,R⟩:=DataW.trod_int hu h;have hk:N7 k m:=by simpa[Lit.wf,N7]using R
    exact⟨[.int k m],.int k m hk,rfl,fun d hd=>by simp at hd;subst hd;exact⟨rfl,fun _ _=>.int k m hk⟩⟩
   ·rename_i hu;obtain⟨b,rfl,rfl⟩:=DataW.trod_bool hu h;exact⟨[.bool b],.bool b,rfl,fun d hd=>by simp at hd;subst hd;exact⟨rfl,fun _ _=>.bool b⟩⟩
   ·rename_i fs hu;rw[Bool.and_eq_true,decide_eq_true_eq]at A;obtain⟨xs,m,hm,rfl,J,G,hx⟩:=DataW.trod_struct hu h;simp at hm;subst hm
    have each:∀i,i<fs.size->∃ds y,xs[i]?=some y/\PU y.1 ds/\(∃f,fs[i]?=some f/\(cs.drop f.offset).take (P.cellsOf f.type)=ds.map Ow)/\∀d,d∈ds->d.one=true/\∀w' fb,Ar w' fb d (Ow d):=fun i hi=>by
     have O:fs[i]?=some fs[i]:=Array.getElem?_eq_getElem hi;have h1:=hx i _ O;rw[ay (by omega)]at h1;obtain⟨ds,h2,M,S⟩:=ih n _ _ _ h1 (List.all_eq_true.1 A.2 fs[i] (by simp));exact⟨ds,_,ay (by omega),h2,⟨_,O,M⟩,S⟩
    obtain⟨q,r⟩:∃q:Nat->List D,∀i,i<fs.size->∃y,xs[i]?=some y/\PU y.1 (q i)/\(∃f,fs[i]?=some f/\(cs.drop f.offset).take (P.cellsOf f.type)=(q i).map Ow)/\∀d,d∈q i->d.one=true/\∀w' fb,Ar w' fb d (Ow d) :=
     ⟨fun i=>if h:i<fs.size then Classical.choose (each i h)else [],fun i hi=>by simp only[dif_pos hi];exact Classical.choose_spec (each i hi)⟩
    have U:((aa fs.size).map q).length=fs.size:=by simp
    have o:∀(i:Nat) ds,((aa fs.size).map q)[i]?=some ds->i<fs.size/\ds=q i:=fun i ds j=>by
     rw[ax]at j;simp only[ck]at j;obtain⟨y,B,rfl⟩:=j;have hi:i<fs.size:=by have:=(cw.1 B).1;simpa using this
     rw[c8 hi]at B;simp at B;subst B;exact⟨hi,rfl⟩
    refine⟨((aa fs.size).map q).flatten,.agg _ _ (by simp[G]) fun i p ds hp j=>?_,?_,fun d hd=>?_⟩
    ·obtain⟨hi,rfl⟩:=o i ds j;obtain⟨y,h1,h2,_⟩:=r i hi;rw[ax,h1]at hp;simp at hp;subst hp;exact h2
    ·have N:=Tb fs.toList 0 _ A.1 J;rw[List.drop_zero]at N;rw[N];refine NZ (by simp) fun i v ds hv j=>?_
     obtain⟨hi,rfl⟩:=o i ds j;obtain⟨y,_,_,⟨f,O,M⟩,_⟩:=r i hi;rw[ax]at hv;simp only[ck]at hv;obtain⟨f',T,rfl⟩:=hv;have:fs[i]?=some f':=by simpa using T
     rw[O]at this;cases this;exact M
    ·obtain⟨l,hl,z⟩:=et.1 hd;obtain⟨i,hi⟩:=f0 hl;obtain⟨L,rfl⟩:=o i l hi;exact(r i L).choose_spec.2.2.2 d z
   ·rename_i m e hu;rw[Bool.and_eq_true,decide_eq_true_eq]at A;obtain⟨xs,X,hm,rfl,J,G,hx⟩:=DataW.trod_array hu h;simp at hm;subst hm
    have each:∀i,i<m->∃ds y,xs[i]?=some y/\PU y.1 ds/\(cs.drop (i*P.cellsOf e)).take (P.cellsOf e)=ds.map Ow/\∀d,d∈ds->d.one=true/\∀w' fb,Ar w' fb d (Ow d):=fun i hi=>by
     have h1:=hx i hi;rw[ay (by omega)]at h1;obtain⟨ds,h2,M,S⟩:=ih n _ _ _ h1 A.2;exact⟨ds,_,ay (by omega),h2,M,S⟩
    obtain⟨q,r⟩:∃q:Nat->List D,∀i,i<m->∃y,xs[i]?=some y/\PU y.1 (q i)/\(cs.drop (i*P.cellsOf e)).take (P.cellsOf e)=(q i).map Ow/\∀d,d∈q i->d.one=true/\∀w' fb,Ar w' fb d (Ow d) :=
     ⟨fun i=>if h:i<m then Classical.choose (each i h)else [],fun i hi=>by simp only[dif_pos hi];exact Classical.choose_spec (each i hi)⟩
    have o:∀(i:Nat) ds,((aa m).map q)[i]?=some ds->i<m/\ds=q i:=fun i ds j=>by
     rw[ax]at j;simp only[ck]at j;obtain⟨y,B,rfl⟩:=j;have hi:i<m:=by have:=(cw.1 B).1;simpa using this
     rw[c8 hi]at B;simp at B;subst B;exact⟨hi,rfl⟩
    refine⟨((aa m).map q).flatten,.agg _ _ (by simp[G]) fun i p ds hp j=>?_,?_,fun d hd=>?_⟩
    ·obtain⟨hi,rfl⟩:=o i ds j;obtain⟨y,h1,h2,_⟩:=r i hi;rw[ax,h1]at hp;simp at hp;subst hp;exact h2
    ·rw[gn (e:=P.cellsOf e) m (J.trans A.1)];refine NZ (by simp) fun i v ds hv j=>?_
     obtain⟨hi,rfl⟩:=o i ds j;obtain⟨y,_,_,M,_⟩:=r i hi;rw[ax,c8 hi]at hv;simp at hv;subst hv;exact M
    ·obtain⟨l,hl,z⟩:=et.1 hd;obtain⟨i,hi⟩:=f0 hl;obtain⟨L,rfl⟩:=o i l hi;exact(r i L).choose_spec.2.2.2 d z
   ·cases A
end
theorem bv{P:Program}{W:World}{l:List (String×DataW Unit)}(h:laidMet P l W){n:String}{d:DataW Unit}(hm:(n,d)∈l){g:Nat}{t:TypeId}{ds:List D}(hg:P.globalNamed n=some g)(ht:(P.globals[g]?).map (·.type)=some t)(G:Th P 20 t=true)(L:RI 20 d=some ds)(hne:ds≠[]) :
  Ar W (fun _=>False) (.ptr ds) (.pointer (some ⟨g,0,none⟩)):=by
 obtain⟨ps,o,_⟩:=h
 have key:∀{l:List (String×DataW Unit)}{ps:List MemPlace},DataW.LaidVars P W l ps->(n,d)∈l->∃g t cs e p,P.globalNamed n=some g/\(P.globals[g]?).map (·.type)=some t/\W.var? P n=some cs/\DataW.trod (fun _=>()) P W 0 (fun _=>true) false e t cs.toList=some (d,p):=by
  intro l
  induction l with
  |nil=>intro ps _ hm;cases hm
  |cons y r ih =>
   intro ps o hm;obtain⟨g,t,cs,e,p,q,h1,h2,z,u,x,_⟩:=o;rcases List.mem_cons.1 hm with rfl|hm
   ·exact⟨g,t,cs,e,p,h1,h2,z,u⟩
   ·exact ih x hm
 obtain⟨g',N,cs,e,p,h1,h2,z,u⟩:=key o hm;obtain rfl:=Option.some.inj (hg.symm.trans h1);obtain rfl:=Option.some.inj (ht.symm.trans h2);obtain⟨ds',k1,k2,B⟩:=f8 e 20 t _ _ u G;obtain rfl:=qY k1 20 ds L;have A:ds.length=cs.size:=by have:=congrArg List.length k2;simpa using this.symm
 have hc:∀(j:Nat) c,ds[j]?=some c->W.cell? ⟨g,0+j,none⟩=some (Ow c):=fun j c i=>by
  have M:j<ds.length:=(cw.1 i).1
  have x:cs[j]?=some (Ow c):=by
   have:cs.toList[j]?=(ds.map Ow)[j]?:=by rw[k2]
   rw[ax,i]at this;simpa using this
  have:=World.var?_cell hg z j;rw[Nat.zero_add,this,x]
 cases ds with
 |nil=>exact absurd rfl hne
 |cons m l0 =>
  exact .ptr (m::l0) g 0 (fun j=>Ow ((m::l0).getD j .junk)) id (by simp) (fun y J=>(B y J).1) (fun j y i=>by
    rw[hc j y i];congr 1;congr 1;rw[hU,i];rfl) fun j y i=>by
   have:(m::l0).getD j .junk=y:=by rw[hU,i];rfl
   rw[this];exact(B y (List.mem_of_getElem? i)).2 _ _
end Go.Pw
end
section
namespace Go.Pw
theorem Bw{k:IntKind}{cs:List D}(h:Ck (.int k) cs):∃n,cs=[.int k n]:=by cases h with|int _ n _=>exact⟨n,rfl⟩
theorem Az{T:Ty}{Ts:List Ty}{cs:List D}(h:Ck (.str (T::Ts)) cs):∃a b,cs=a++b/\Ck T a/\Ck (.str Ts) b:=by
 cases h with|cons _ _ a b h1 h2=>exact⟨a,b,rfl,h1,h2⟩
theorem Fq{cs:List D}(h:Ck (.str []) cs):cs=[]:=by cases h;rfl
theorem Pn{T:Ty}{α:Type}(f:α->D)(i:∀cs,Ck T cs->∃a,T.val cs=f a){cs:List D}(h:Ck (.list T) cs):∃nl l,cs=[.list nl (hX f l)]:=by
 cases h with|list _ nl xs h0 h1 h2 =>
 have:∃l,xs=hX f l:=by
  clear h0
  induction xs with
  |nil=>exact⟨[],rfl⟩
  |cons x xs ih =>
   obtain⟨l,rfl⟩:=ih (fun y e=>h1 y (by simp[e])) fun y e=>h2 y (by simp[e])
   obtain⟨a,j⟩:=i _ (h1 x (by simp));have:=h2 x (by simp);rw[j]at this;exact⟨a::l,by rw[this];rfl⟩
 obtain⟨l,rfl⟩:=this;exact⟨nl,l,rfl⟩
theorem Iq{cs:List D}(h:Ck (.list (.int .i64)) cs):∃nl l,cs=[.list nl (Ad l)] :=
 Pn (D.int .i64) (fun cs h=>by obtain⟨n,rfl⟩:=Bw h;exact⟨n,rfl⟩) h
end Go.Pw
end
