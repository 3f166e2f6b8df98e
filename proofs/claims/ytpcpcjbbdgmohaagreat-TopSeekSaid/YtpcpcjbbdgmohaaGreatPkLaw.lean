/- A part of the proof. -/
import Derived.Test.YtpcpcjbbdgmohaaGreatPwOpen
import Derived.ProofKit
import Derived.Test.YtpcpcjbbdgmohaaGreatPwInt
set_option linter.all false
section
namespace Go.Pw
open Go.RowKit Go.ChangeShapes Go.WideShapes Go.ChangeAt
def O4 (T:Ty) (x:D):Prop:=Cw T x.cells/\x=T.val x.cells
def QV:List Ty->List D->Prop
 |[],[]=>True
 |T::Ts,x::xs=>O4 T x/\QV Ts xs
 |_,_=>False
variable {H:Type}{enc:TypeId×Value->H}{P:Program}{W:World}
def mE (P:Program) (t:TypeId):Bool:=match P.underlying t with|some (.struct _)|some (.array _ _)=>true|_=>false
theorem dU {t:TypeId}{v:Value}{d:DataW H}{ps:List MemPlace}{T:Ty}{n:Nat}(hT:Qb P n t=some T) (ho:Value.okWide P W .any 0 t v) (h:DataW.Trod enc P W 0 (fun _=>true) true t v d ps) :
  ∃x,O4 T x/\Ap W (fun _=>False) x v:=by
 obtain⟨fuel,h⟩:=h
 obtain⟨ds,h1,h2⟩:=XY fuel n t _ _ T h hT
 cases n with
 |zero=>simp[Qb] at hT
 |succ n =>
  simp only[Qb] at hT
  have single:∀{c:D},ds=[c]->v.cells.toList.length=1->(∀cs,v≠.agg cs)->Ap W (fun _=>False) c v:=fun {c} hds hl hna=>by
   have hv:v.cells=#[v]:=by
    cases v<;>first|rfl|exact absurd rfl (hna _)
   subst hds
   rw[hv] at h2
   exact(h2.2 0 c v rfl rfl).1
  have hl:=h2.1
  have notAgg:(∀fs,P.underlying t≠some (.struct fs))->(∀m e,P.underlying t≠some (.array m e))->∀cs,v≠.agg cs:=by
   intro n1 n2 cs hv
   subst hv
   unfold Value.okWide at ho
   split at ho
   ·rename_i h;exact n1 _ h
   ·rename_i h;exact n2 _ _ h
   ·simp[Cell.okWide,Cell.ok] at ho
  have fin:∀{c:D},ds=[c]->(∀fs,P.underlying t≠some (.struct fs))->(∀m e,P.underlying t≠some (.array m e))->T.val [c]=c->c.cells=[c]->∃x,O4 T x/\Ap W (fun _=>False) x v:=by
   intro c hds n1 n2 hv hc
   refine⟨c,⟨?_,?_⟩,single hds (by rw[←hl,hds];rfl) (notAgg n1 n2)⟩
   ·rw[hc,←hds];exact h1
   ·rw[hc,hv]
  split at hT
  ·rename_i k hu
   simp at hT;subst hT
   cases h1 with|int _ m hk=>exact fin rfl (fun fs hh=>by rw[hu] at hh;cases hh) (fun m e hh=>by rw[hu] at hh;cases hh) rfl rfl
  ·rename_i hu
   simp at hT;subst hT
   cases h1 with|bool b=>exact fin rfl (fun fs hh=>by rw[hu] at hh;cases hh) (fun m e hh=>by rw[hu] at hh;cases hh) rfl rfl
  ·rename_i e hu
   split at hT
   ·simp only[Option.map_eq_some_iff] at hT
    obtain⟨Te,hTe,rfl⟩:=hT
    cases h1 with|list _ nl xs h0 hx hx'=>exact fin rfl (fun fs hh=>by rw[hu] at hh;cases hh) (fun m e hh=>by rw[hu] at hh;cases hh) rfl rfl
   ·cases hT
  ·rename_i fs hu
   split at hT
   ·simp only[Option.map_eq_some_iff] at hT
    obtain⟨Ts,hTs,rfl⟩:=hT
    unfold Value.okWide at ho
    rw[hu] at ho
    obtain⟨cs,rfl,hcl,_⟩:=ho
    have hcells:(Value.agg cs).cells=cs:=rfl
    rw[hcells] at h2
    refine⟨.agg ds,⟨h1,rfl⟩,.agg ds cs (by rw[h2.1];simp) (fun c hc=>?_) fun i c v hc hv=>(h2.2 i c v hc (by simpa using hv)).1⟩
    obtain⟨i,hi⟩:=List.getElem?_of_mem hc
    have hil:i<cs.toList.length:=by rw[←h2.1];exact(List.getElem?_eq_some_iff.1 hi).1
    exact(h2.2 i c _ hi (List.getElem?_eq_getElem hil)).2
   ·cases hT
  ·cases hT
theorem TA:∀{ts:List TypeId}{vs:List Value}{ds:List (DataW H)}{ps:List MemPlace}{Ts:List Ty},Aw (Qb P 20) ts=some Ts->(∀(j:Nat) t v,ts[j]?=some t->vs[j]?=some v->Value.okWide P W .any 0 t v) ->
  DataW.TrodAll enc P W 0 (fun _=>true) true ts vs ds ps->∃xs:List D,QV Ts xs/\xs.length=vs.length/\∀(i:Nat) (d:D) (v:Value),xs[i]?=some d->vs[i]?=some v->Ap W (fun _=>False) d v
 |[],vs,ds,ps,Ts,hT,ho,h=>by
  obtain⟨rfl,rfl,rfl⟩:=trodAll_nil h
  simp[Aw] at hT;subst hT
  exact⟨[],trivial,rfl,fun i d v hd=>by simp at hd⟩
 |t::ts,vs,ds,ps,Ts,hT,ho,h=>by
  obtain⟨v,vs1,d,ds1,p,q,rfl,rfl,rfl,h1,h2⟩:=trodAll_cons h
  simp only[Aw] at hT
  split at hT
  ·cases hT
  ·rename_i T hT1
   split at hT
   ·cases hT
   ·rename_i Ts' hT2
    simp at hT;subst hT
    obtain⟨x,hx1,hx2⟩:=dU hT1 (ho 0 t v rfl rfl) h1
    obtain⟨xs,hxs1,hxs2,hxs3⟩:=TA hT2 (fun j t' v' ht hv=>ho (j+1) t' v' (by simpa using ht) (by simpa using hv)) h2
    refine⟨x::xs,⟨hx1,hxs1⟩,by simp[hxs2],fun i d' v' hd hv=>?_⟩
    cases i with
    |zero=>simp at hd hv;subst hd hv;exact hx2
    |succ i=>exact hxs3 i d' v' (by simpa using hd) (by simpa using hv)
theorem Ti (hl:laidOutB P=true) {W':World}(hb:Below W.heap.size W W') {sp:Nat->Bool}:∀{ts:List TypeId}{vs:List Value}{ds:List (DataW H)}{ps:List MemPlace},(∀t,t∈ts->P.readableRec t=true/\t<P.types.size)->(∀p,p∈ps->p.block<W.heap.size)->(∀p,p∈ps->sp p.block=true) ->
  DataW.TrodAll enc P W 0 (fun _=>true) true ts vs ds ps->DataW.TrodAll enc P W' 0 sp true ts vs ds ps
 |[],vs,ds,ps,hr,hlt,hsp,h=>by
  obtain⟨rfl,rfl,rfl⟩:=trodAll_nil h
  exact rfl
 |t::ts,vs,ds,ps,hr,hlt,hsp,h=>by
  obtain⟨v,vs1,d,ds1,p,q,rfl,rfl,rfl,h1,h2⟩:=trodAll_cons h
  exact⟨p,q,WideElems.Trod_stays hl (hr t (by simp)).1 (hr t (by simp)).2 h1 (fun x hx=>hb.same (hlt x (by simp[hx]))) (fun x hx=>hsp x (by simp[hx])),
   Ti hl hb (fun t' ht=>hr t' (by simp[ht])) (fun x hx=>hlt x (by simp[hx])) (fun x hx=>hsp x (by simp[hx])) h2,rfl⟩
theorem aK {E:CU}(hE:E.P=P) (hG:∀g,E.G g=none) {f:FuncId}{fn:Func}{s:ChangeSpec}{rt:TypeId}{Ts:List Ty}(hl:laidOutB P=true) (hread:∀t,t∈fn.params.toList->P.readableRec t=true/\t<P.types.size)
  (hTs:Aw (Qb P 20) fn.params.toList=some Ts) (hrt:fn.resultTypes=#[rt]) (hrb:P.underlying rt=some .bool) (hvars:s.vars=[])
  (hspec:∀ds:List (DataW H),ds.length=fn.params.size->s.fn H ds={ results:=[.lit (.bool true)],args:=ds })
  (hret:∀xs:List D,QV Ts xs->Ca E f xs (.bool true))
  {args:Array Value}{ds gs:List (DataW H)}{before:List MemPlace}(hval:∀(j:Nat) t v,fn.params[j]?=some t->args[j]?=some v->Value.okWide P W .any 0 t v)
  (hW:DataW.Whole enc P fn.params.toList s.vars false W args.toList ds gs before) :
  Calls P f args W fun e W'=>∃v,e=.returned v/\s.post enc P fn false true false false W args v W':=by
 have hW':=hW
 obtain⟨p,q,hA,hV,rfl,hfz,hnd⟩:=hW
 rw[hvars] at hV
 obtain⟨rfl,rfl⟩:=trodVars_none hV
 have hlt:=hW'.lt
 obtain⟨xs,h1,h2,h3⟩:=TA hTs (fun j t v ht hv=>hval j t v (by simpa using ht) (by simpa using hv)) hA
 have hc:=hret xs h1 W (fun _=>False) args (fun b h=>h.elim) (fun g cs h=>by rw[hG] at h;cases h) (by simpa using h2.symm) fun i d v hd hv=>h3 i d v hd (by simpa using hv)
 rw[hE] at hc
 refine hc.mono fun e W' ⟨v,he,hb,hr⟩=>⟨v,he,?_⟩
 cases hr
 have hdl:ds.length=fn.params.size:=by
  have:∀{ts:List TypeId}{vs:List Value}{ds:List (DataW H)}{ps:List MemPlace},DataW.TrodAll enc P W 0 (fun _=>true) true ts vs ds ps->ds.length=ts.length:=by
   intro ts
   induction ts with
   |nil=>intro vs ds ps h;obtain⟨rfl,rfl,rfl⟩:=trodAll_nil h;rfl
   |cons t ts ih=>intro vs ds ps h;obtain⟨v,vs1,d,ds1,p,q,rfl,rfl,rfl,h1,h2⟩:=trodAll_cons h;simp[ih h2]
  simpa using this hA
 have hs:=hspec ds hdl
 refine⟨ds,[],_,[],p++[],[],hW',?_,?_,?_,?_,fun h=>by cases h⟩
 ·rw[List.append_nil,hs,hrt]
  exact⟨[],[],⟨1,by simp[Value.cells,DataW.trod,hrb]⟩,rfl,rfl⟩
 ·rw[List.append_nil,hs]
  simp only[List.append_nil] at hlt ⊢
  exact Ti hl hb hread (fun x hx=>hlt x hx) (fun x hx=>by simpa using hlt x hx) hA
 ·rw[hvars,List.append_nil,hs]
  exact rfl
 ·exact hb.frame _
end Go.Pw
end
section
namespace Go.Pw
theorem CQ {k:IntKind}{cs:List D}(h:Cw (.int k) cs):∃n,cs=[.int k n]:=by cases h with|int _ n _=>exact⟨n,rfl⟩
theorem A8 {T:Ty}{Ts:List Ty}{cs:List D}(h:Cw (.str (T::Ts)) cs):∃a b,cs=a++b/\Cw T a/\Cw (.str Ts) b:=by
 cases h with|cons _ _ a b h1 h2=>exact⟨a,b,rfl,h1,h2⟩
theorem Gi {cs:List D}(h:Cw (.str []) cs):cs=[]:=by cases h;rfl
theorem Ix {T:Ty}{α:Type}(f:α->D) (hf:∀cs,Cw T cs->∃a,T.val cs=f a) {cs:List D}(h:Cw (.list T) cs):∃nl l,cs=[.list nl (List.map f l)]:=by
 cases h with|list _ nl xs h0 h1 h2 =>
 have:∃l,xs=List.map f l:=by
  clear h0
  induction xs with
  |nil=>exact⟨[],rfl⟩
  |cons x xs ih =>
   obtain⟨l,rfl⟩:=ih (fun y hy=>h1 y (by simp[hy])) fun y hy=>h2 y (by simp[hy])
   obtain⟨a,ha⟩:=hf _ (h1 x (by simp))
   have:=h2 x (by simp)
   rw[ha] at this
   exact⟨a::l,by rw[this];rfl⟩
 obtain⟨l,rfl⟩:=this
 exact⟨nl,l,rfl⟩
theorem MN {cs:List D}(h:Cw (.list (.int .i64)) cs):∃nl l,cs=[.list nl (Bs l)] :=
 Ix (D.int .i64) (fun cs h=>by obtain⟨n,rfl⟩:=CQ h;exact⟨n,rfl⟩) h
end Go.Pw
end
