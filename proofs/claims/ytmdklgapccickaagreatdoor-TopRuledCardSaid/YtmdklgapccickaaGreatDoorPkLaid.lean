/- A part of the proof. -/
import Derived.Test.YtmdklgapccickaaGreatDoorPwLaw
import Derived.OpenShut
import Derived.Handed
import Derived.Test.YtmdklgapccickaaGreatDoorPwInt
set_option linter.all false
section
namespace Go.Pw
open Go.RowKit Go.ChangeShapes Go.WideShapes Go.ChangeAt
section
variable {H:Type}{enc:TypeId×Value->H}{P:Program}{W:World}
theorem YQ {E:CW}(hE:E.P=P) {f:FuncId}{fn:Func}{s:ChangeSpec}{rt:TypeId}{Ts:List Ty}(hl:laidOutB P=true) (hread:∀t,t∈fn.params.toList->P.readableRec t=true/\t<P.types.size)
  (hTs:BV (Ra P 20) fn.params.toList=some Ts) (hrt:fn.resultTypes=#[rt]) (hrb:P.underlying rt=some .bool) (hvars:s.vars=[])
  (hspec:∀ds:List (DataW H),ds.length=fn.params.size->s.fn H ds={ results:=[.lit (.bool true)],args:=ds })
  (hret:∀xs:List D,RR Ts xs->Cc E f xs (.bool true))
  {args:Array Value}{ds gs:List (DataW H)}{before:List MemPlace}(hG:db E W fun _=>False) (hval:∀(j:Nat) t v,fn.params[j]?=some t->args[j]?=some v->Value.okWide P W .any 0 t v)
  (hW:DataW.Whole enc P fn.params.toList s.vars false W args.toList ds gs before) :
  Calls P f args W fun e W'=>∃v,e=.returned v/\s.post enc P fn false true false false W args v W':=by
 have hW':=hW
 obtain⟨p,q,hA,hV,rfl,hfz,hnd⟩:=hW
 rw[hvars] at hV
 obtain⟨rfl,rfl⟩:=trodVars_none hV
 have hlt:=hW'.lt
 obtain⟨xs,h1,h2,h3⟩:=Tm hTs (fun j t v ht hv=>hval j t v (by simpa using ht) (by simpa using hv)) hA
 have hc:=hret xs h1 W (fun _=>False) args (fun b h=>h.elim) hG (by simpa using h2.symm) fun i d v hd hv=>h3 i d v hd (by simpa using hv)
 rw[hE] at hc
 refine hc.mono fun e W' ⟨v,he,hb,hr⟩=>⟨v,he,?_⟩
 cases hr
 have hdl:ds.length=fn.params.size:=by
  have:∀{ts:List TypeId}{vs:List Value}{ds:List (DataW H)}{ps:List MemPlace},DataW.TrodAll enc P W 0 (fun _=>true) true ts vs ds ps->ds.length=ts.length:=by
   intro ts
   induction ts with
   |nil=>intro vs ds ps h;obtain⟨rfl,rfl,rfl⟩:=trodAll_nil h;rfl
   |cons t ts ih=>intro vs ds ps h;obtain⟨v,vs1,d,ds1,p,q,rfl,rfl,rfl,h1,h2⟩:=trodAll_cons h;simp[ih h2]
  simpa using this hA
 have hs:=hspec ds hdl
 refine⟨ds,[],_,[],p++[],[],hW',?_,?_,?_,?_,fun h=>by cases h⟩
 ·rw[List.append_nil,hs,hrt]
  exact⟨[],[],⟨1,by simp[Value.cells,DataW.trod,hrb]⟩,rfl,rfl⟩
 ·rw[List.append_nil,hs]
  simp only[List.append_nil] at hlt ⊢
  exact UG hl hb hread (fun x hx=>hlt x hx) (fun x hx=>by simpa using hlt x hx) hA
 ·rw[hvars,List.append_nil,hs]
  exact rfl
 ·exact hb.frame _
end
def MX:D->Value
 |.int k n=>.int k n
 |.bool b=>.bool b
 |_=>undef
inductive Mz:DataW Unit->List D->Prop
 |int (k n) (h:K4 k n):Mz (.lit (.int k n)) [.int k n]
 |bool (b):Mz (.lit (.bool b)) [.bool b]
 |agg (ps:List (DataW Unit)) (dss:List (List D)) (hl:dss.length=ps.length) (h:∀(i:Nat) p ds,ps[i]?=some p->dss[i]?=some ds->Mz p ds):Mz (.agg ps) dss.flatten
def OH:Nat->DataW Unit->Option (List D)
 |0,_=>none
 |n+1,d=>match d with
  |.lit (.int k m)=>some [.int k m]
  |.lit (.bool b)=>some [.bool b]
  |.agg ps=>(BV (OH n) ps).map List.flatten
  |_=>none
theorem gL {d:DataW Unit}{ds:List D}(h:Mz d ds):∀(n:Nat) (ds':List D),OH n d=some ds'->ds'=ds:=by
 induction h with
 |int k m h=>intro n ds' hn;cases n<;>simp[OH] at hn;exact hn.symm
 |bool b=>intro n ds' hn;cases n<;>simp[OH] at hn;exact hn.symm
 |agg ps dss hl h ih =>
  intro n ds' hn
  cases n with
  |zero=>simp[OH] at hn
  |succ n =>
   simp only[OH,Option.map_eq_some_iff] at hn
   obtain⟨dss',h1,rfl⟩:=hn
   have hlen:=Aw h1
   congr 1
   apply List.ext_getElem?
   intro i
   by_cases hi:i<ps.length
   ·have e1:ps[i]?=some ps[i]:=List.getElem?_eq_getElem hi
    obtain⟨y,hy1,hy2⟩:=Cw h1 e1
    have e2:dss[i]?=some dss[i]:=List.getElem?_eq_getElem (by omega)
    rw[hy1,e2,ih i _ _ e1 e2 n y hy2]
   ·rw[List.getElem?_eq_none (by omega),List.getElem?_eq_none (by omega)]
def QZ (P:Program):Nat->TypeId->Bool
 |0,_=>false
 |n+1,t=>match P.underlying t with
  |some (.int _)=>true
  |some .bool=>true
  |some (.struct fs)=>decide (Ez P 0 fs.toList=some (P.cellsOf t)) && fs.toList.all fun f=>QZ P n f.type
  |some (.array m e)=>decide (P.cellsOf t=m*P.cellsOf e) && QZ P n e
  |_=>false
theorem QU {P:Program}{cs:List Value}:∀(fs:List Field) (n m:Nat),Ez P n fs=some m->cs.length=m->cs.drop n=(fs.map fun f=>(cs.drop f.offset).take (P.cellsOf f.type)).flatten
 |[],n,m,hl,hc=>by
  simp[Ez] at hl;subst hl
  rw[List.drop_of_length_le (by omega)];rfl
 |f::fs,n,m,hl,hc=>by
  simp only[Ez] at hl
  split at hl
  ·rename_i ho
   have ih:=QU fs _ m hl hc
   rw[List.map_cons,List.flatten_cons,←ih,ho,←List.drop_drop,List.take_append_drop]
  ·cases hl
theorem ZE {cs:List Value}{e:Nat}:∀(m:Nat),cs.length=m*e->cs=((List.range m).map fun i=>(cs.drop (i*e)).take e).flatten:=by
 have key:∀(m:Nat),cs.take (m*e)=((List.range m).map fun i=>(cs.drop (i*e)).take e).flatten:=by
  intro m
  induction m with
  |zero=>simp
  |succ m ih =>
   rw[List.range_succ,List.map_append,List.flatten_append,←ih,Nat.succ_mul]
   simp[List.take_add]
 intro m h
 rw[←key m,List.take_of_length_le (by omega)]
theorem LV {parts:List (List Value)}{dss:List (List D)}(hl:dss.length=parts.length) (h:∀(i:Nat) v ds,parts[i]?=some v->dss[i]?=some ds->v=ds.map MX):parts.flatten=dss.flatten.map MX:=by
 induction parts generalizing dss with
 |nil=>cases dss with
  |nil=>rfl
  |cons _ _=>simp at hl
 |cons v parts ih =>
  cases dss with
  |nil=>simp at hl
  |cons ds dss =>
   rw[List.flatten_cons,List.flatten_cons,List.map_append,h 0 v ds rfl rfl,ih (by simpa using hl) fun i v' d' h1 h2=>h (i+1) v' d' (by simpa using h1) (by simpa using h2)]
section
variable {enc:TypeId×Value->Unit}{P:Program}{w:World}{sp:Nat->Bool}{held:Bool}{base:Nat}
theorem Yj:∀(fuel n:Nat) (t:TypeId) (cs:List Value) (x:DataW Unit×List MemPlace),DataW.trod enc P w base sp held fuel t cs=some x->QZ P n t=true->∃ds,Mz x.1 ds/\cs=ds.map MX/\∀d,d∈ds->d.one=true/\∀w' fb,Az w' fb d (MX d):=by
 intro fuel
 induction fuel with
 |zero=>intro n t cs x h _;simp[DataW.trod] at h
 |succ fuel ih =>
  intro n t cs x h hT
  cases n with
  |zero=>simp[QZ] at hT
  |succ n =>
   simp only[QZ] at hT
   split at hT
   ·rename_i k hu
    obtain⟨m,rfl,rfl,hwf⟩:=DataW.trod_int hu h
    have hk:K4 k m:=by simpa[Lit.wf,K4] using hwf
    exact⟨[.int k m],.int k m hk,rfl,fun d hd=>by simp at hd;subst hd;exact⟨rfl,fun _ _=>.int k m hk⟩⟩
   ·rename_i hu
    obtain⟨b,rfl,rfl⟩:=DataW.trod_bool hu h
    exact⟨[.bool b],.bool b,rfl,fun d hd=>by simp at hd;subst hd;exact⟨rfl,fun _ _=>.bool b⟩⟩
   ·rename_i fs hu
    rw[Bool.and_eq_true,decide_eq_true_eq] at hT
    obtain⟨xs,m,hm,rfl,hcl,hxl,hx⟩:=DataW.trod_struct hu h
    simp at hm;subst hm
    have each:∀i,i<fs.size->∃ds y,xs[i]?=some y/\Mz y.1 ds/\(∃f,fs[i]?=some f/\(cs.drop f.offset).take (P.cellsOf f.type)=ds.map MX)/\∀d,d∈ds->d.one=true/\∀w' fb,Az w' fb d (MX d):=fun i hi=>by
     have hf:fs[i]?=some fs[i]:=Array.getElem?_eq_getElem hi
     have h1:=hx i _ hf
     rw[List.getElem?_eq_getElem (by omega)] at h1
     obtain⟨ds,h2,h3,h4⟩:=ih n _ _ _ h1 (List.all_eq_true.1 hT.2 fs[i] (by simp))
     exact⟨ds,_,List.getElem?_eq_getElem (by omega),h2,⟨_,hf,h3⟩,h4⟩
    obtain⟨f0,hf0⟩:∃f0:Nat->List D,∀i,i<fs.size->∃y,xs[i]?=some y/\Mz y.1 (f0 i)/\(∃f,fs[i]?=some f/\(cs.drop f.offset).take (P.cellsOf f.type)=(f0 i).map MX)/\∀d,d∈f0 i->d.one=true/\∀w' fb,Az w' fb d (MX d) :=
     ⟨fun i=>if h:i<fs.size then Classical.choose (each i h) else [],fun i hi=>by simp only[dif_pos hi];exact Classical.choose_spec (each i hi)⟩
    have hdl:((List.range fs.size).map f0).length=fs.size:=by simp
    have hget:∀(i:Nat) ds,((List.range fs.size).map f0)[i]?=some ds->i<fs.size/\ds=f0 i:=fun i ds hds=>by
     rw[List.getElem?_map] at hds
     simp only[Option.map_eq_some_iff] at hds
     obtain⟨y,hy,rfl⟩:=hds
     have hi:i<fs.size:=by have:=(List.getElem?_eq_some_iff.1 hy).1;simpa using this
     rw[List.getElem?_range hi] at hy
     simp at hy;subst hy;exact⟨hi,rfl⟩
    refine⟨((List.range fs.size).map f0).flatten,.agg _ _ (by simp[hxl]) fun i p ds hp hds=>?_,?_,fun d hd=>?_⟩
    ·obtain⟨hi,rfl⟩:=hget i ds hds
     obtain⟨y,h1,h2,_⟩:=hf0 i hi
     rw[List.getElem?_map,h1] at hp
     simp at hp;subst hp;exact h2
    ·have hfl:=QU fs.toList 0 _ hT.1 hcl
     rw[List.drop_zero] at hfl
     rw[hfl]
     refine LV (by simp) fun i v ds hv hds=>?_
     obtain⟨hi,rfl⟩:=hget i ds hds
     obtain⟨y,_,_,⟨f,hf,h3⟩,_⟩:=hf0 i hi
     rw[List.getElem?_map] at hv
     simp only[Option.map_eq_some_iff] at hv
     obtain⟨f',hf',rfl⟩:=hv
     have:fs[i]?=some f':=by simpa using hf'
     rw[hf] at this;cases this
     exact h3
    ·obtain⟨l,hl,hdl2⟩:=List.mem_flatten.1 hd
     obtain⟨i,hi⟩:=List.getElem?_of_mem hl
     obtain⟨hlt,rfl⟩:=hget i l hi
     exact(hf0 i hlt).choose_spec.2.2.2 d hdl2
   ·rename_i m e hu
    rw[Bool.and_eq_true,decide_eq_true_eq] at hT
    obtain⟨xs,m',hm,rfl,hcl,hxl,hx⟩:=DataW.trod_array hu h
    simp at hm;subst hm
    have each:∀i,i<m->∃ds y,xs[i]?=some y/\Mz y.1 ds/\(cs.drop (i*P.cellsOf e)).take (P.cellsOf e)=ds.map MX/\∀d,d∈ds->d.one=true/\∀w' fb,Az w' fb d (MX d):=fun i hi=>by
     have h1:=hx i hi
     rw[List.getElem?_eq_getElem (by omega)] at h1
     obtain⟨ds,h2,h3,h4⟩:=ih n _ _ _ h1 hT.2
     exact⟨ds,_,List.getElem?_eq_getElem (by omega),h2,h3,h4⟩
    obtain⟨f0,hf0⟩:∃f0:Nat->List D,∀i,i<m->∃y,xs[i]?=some y/\Mz y.1 (f0 i)/\(cs.drop (i*P.cellsOf e)).take (P.cellsOf e)=(f0 i).map MX/\∀d,d∈f0 i->d.one=true/\∀w' fb,Az w' fb d (MX d) :=
     ⟨fun i=>if h:i<m then Classical.choose (each i h) else [],fun i hi=>by simp only[dif_pos hi];exact Classical.choose_spec (each i hi)⟩
    have hget:∀(i:Nat) ds,((List.range m).map f0)[i]?=some ds->i<m/\ds=f0 i:=fun i ds hds=>by
     rw[List.getElem?_map] at hds
     simp only[Option.map_eq_some_iff] at hds
     obtain⟨y,hy,rfl⟩:=hds
     have hi:i<m:=by have:=(List.getElem?_eq_some_iff.1 hy).1;simpa using this
     rw[List.getElem?_range hi] at hy
     simp at hy;subst hy;exact⟨hi,rfl⟩
    refine⟨((List.range m).map f0).flatten,.agg _ _ (by simp[hxl]) fun i p ds hp hds=>?_,?_,fun d hd=>?_⟩
    ·obtain⟨hi,rfl⟩:=hget i ds hds
     obtain⟨y,h1,h2,_⟩:=hf0 i hi
     rw[List.getElem?_map,h1] at hp
     simp at hp;subst hp;exact h2
    ·rw[ZE (e:=P.cellsOf e) m (hcl.trans hT.1)]
     refine LV (by simp) fun i v ds hv hds=>?_
     obtain⟨hi,rfl⟩:=hget i ds hds
     obtain⟨y,_,_,h3,_⟩:=hf0 i hi
     rw[List.getElem?_map,List.getElem?_range hi] at hv
     simp at hv;subst hv
     exact h3
    ·obtain⟨l,hl,hdl2⟩:=List.mem_flatten.1 hd
     obtain⟨i,hi⟩:=List.getElem?_of_mem hl
     obtain⟨hlt,rfl⟩:=hget i l hi
     exact(hf0 i hlt).choose_spec.2.2.2 d hdl2
   ·cases hT
end
theorem WX {P:Program}{W:World}{l:List (String×DataW Unit)}(h:laidMet P l W) {n:String}{d:DataW Unit}(hm:(n,d)∈l) {g:Nat}{t:TypeId}{ds:List D}(hg:P.globalNamed n=some g) (ht:(P.globals[g]?).map (·.type)=some t) (hT:QZ P 20 t=true) (hf:OH 20 d=some ds) (hne:ds≠[]) :
  Az W (fun _=>False) (.ptr ds) (.pointer (some ⟨g,0,none⟩)):=by
 obtain⟨ps,hV,_⟩:=h
 have key:∀{l:List (String×DataW Unit)}{ps:List MemPlace},DataW.LaidVars P W l ps->(n,d)∈l->∃g t cs fuel p,P.globalNamed n=some g/\(P.globals[g]?).map (·.type)=some t/\W.var? P n=some cs/\DataW.trod (fun _=>()) P W 0 (fun _=>true) false fuel t cs.toList=some (d,p):=by
  intro l
  induction l with
  |nil=>intro ps _ hm;cases hm
  |cons y r ih =>
   intro ps hV hm
   obtain⟨g,t,cs,fuel,p,q,h1,h2,h3,h4,h5,_⟩:=hV
   rcases List.mem_cons.1 hm with rfl|hm
   ·exact⟨g,t,cs,fuel,p,h1,h2,h3,h4⟩
   ·exact ih h5 hm
 obtain⟨g',t',cs,fuel,p,h1,h2,h3,h4⟩:=key hV hm
 obtain rfl:=Option.some.inj (hg.symm.trans h1)
 obtain rfl:=Option.some.inj (ht.symm.trans h2)
 obtain⟨ds',k1,k2,k3⟩:=Yj fuel 20 t _ _ h4 hT
 obtain rfl:=gL k1 20 ds hf
 have hlen:ds.length=cs.size:=by have:=congrArg List.length k2;simpa using this.symm
 have hc:∀(j:Nat) c,ds[j]?=some c->W.cell? ⟨g,0+j,none⟩=some (MX c):=fun j c hj=>by
  have hjl:j<ds.length:=(List.getElem?_eq_some_iff.1 hj).1
  have h5:cs[j]?=some (MX c):=by
   have:cs.toList[j]?=(ds.map MX)[j]?:=by rw[k2]
   rw[List.getElem?_map,hj] at this
   simpa using this
  have:=World.var?_cell hg h3 j
  rw[Nat.zero_add,this,h5]
 cases ds with
 |nil=>exact absurd rfl hne
 |cons c0 l0 =>
  exact .ptr (c0::l0) g 0 (fun j=>MX ((c0::l0).getD j .junk)) id (by simp) (fun y hy=>(k3 y hy).1) (fun j y hj=>by
    rw[hc j y hj];congr 1;congr 1;rw[List.getD,hj];rfl) fun j y hj=>by
   have:(c0::l0).getD j .junk=y:=by rw[List.getD,hj];rfl
   rw[this]
   exact(k3 y (List.mem_of_getElem? hj)).2 _ _
end Go.Pw
end
section
namespace Go.Pw
theorem E6 {k:IntKind}{cs:List D}(h:DT (.int k) cs):∃n,cs=[.int k n]:=by cases h with|int _ n _=>exact⟨n,rfl⟩
theorem Cr {T:Ty}{Ts:List Ty}{cs:List D}(h:DT (.str (T::Ts)) cs):∃a b,cs=a++b/\DT T a/\DT (.str Ts) b:=by
 cases h with|cons _ _ a b h1 h2=>exact⟨a,b,rfl,h1,h2⟩
theorem MG {cs:List D}(h:DT (.str []) cs):cs=[]:=by cases h;rfl
theorem XX {T:Ty}{α:Type}(f:α->D) (hf:∀cs,DT T cs->∃a,T.val cs=f a) {cs:List D}(h:DT (.list T) cs):∃nl l,cs=[.list nl (List.map f l)]:=by
 cases h with|list _ nl xs h0 h1 h2 =>
 have:∃l,xs=List.map f l:=by
  clear h0
  induction xs with
  |nil=>exact⟨[],rfl⟩
  |cons x xs ih =>
   obtain⟨l,rfl⟩:=ih (fun y hy=>h1 y (by simp[hy])) fun y hy=>h2 y (by simp[hy])
   obtain⟨a,ha⟩:=hf _ (h1 x (by simp))
   have:=h2 x (by simp)
   rw[ha] at this
   exact⟨a::l,by rw[this];rfl⟩
 obtain⟨l,rfl⟩:=this
 exact⟨nl,l,rfl⟩
theorem NB {cs:List D}(h:DT (.list (.int .i64)) cs):∃nl l,cs=[.list nl (BU l)] :=
 XX (D.int .i64) (fun cs h=>by obtain⟨n,rfl⟩:=E6 h;exact⟨n,rfl⟩) h
theorem Vc {x:D}(h:So (.list (.int .i64)) x):∃nl l,x=.list nl (BU l):=by
 obtain⟨h,hx⟩:=h
 obtain⟨nl,l,hn⟩:=NB h
 rw[hn] at hx
 exact⟨nl,l,hx⟩
end Go.Pw
end
