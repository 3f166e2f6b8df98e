/- Part. -/
import Derived.Test.YtmdklgapccickaaGreatDoorPwOpen
import Derived.ProofKit
set_option linter.all false
namespace Go.Pw
open Go.RowKit Go.ChangeShapes Go.WideShapes Go.ChangeAt
def TK(T:Ty)(x:D):Prop:=Ck T x.cells/\x=T.val x.cells
def Ur:List Ty->List D->Prop
 |[],[]=>True
 |T::Ts,x::xs=>TK T x/\Ur Ts xs
 |_,_=>False
variable {H:Type}{enc:TypeId×Value->H}{P:Program}{W:World}
theorem ov{t:TypeId}{v:Value}{d:DataW H}{ps:List MemPlace}{T:Ty}{n:Nat}(j:U3 P n t=some T)(ho:Value.okWide P W .any 0 t v)(h:DataW.Trod enc P W 0 (fun _=>true) true t v d ps) :
  ∃x,TK T x/\Ar W (fun _=>False) x v:=by
 obtain⟨fuel,h⟩:=h;obtain⟨ds,h1,h2⟩:=ez fuel n t _ _ T h j
 cases n with
 |zero=>simp[U3]at j
 |succ n =>
  simp only[U3]at j
  have single:∀{c:D},ds=[c]->v.cells.toList.length=1->(∀cs,v≠.agg cs)->Ar W (fun _=>False) c v:=fun {c} l hl o=>by
   have hv:v.cells=#[v]:=by
    cases v<;>first|rfl|exact absurd rfl (o _)
   subst l;rw[hv]at h2;exact(h2.2 0 c v rfl rfl).1
  have hl:=h2.1
  have notAgg:(∀fs,P.underlying t≠some (.struct fs))->(∀m e,P.underlying t≠some (.array m e))->∀cs,v≠.agg cs:=by
   intro n1 n2 cs hv;subst hv;unfold Value.okWide at ho;split at ho
   ·rename_i h;exact n1 _ h
   ·rename_i h;exact n2 _ _ h
   ·simp[Cell.okWide,Cell.ok]at ho
  have fin:∀{c:D},ds=[c]->(∀fs,P.underlying t≠some (.struct fs))->(∀m e,P.underlying t≠some (.array m e))->T.val [c]=c->c.cells=[c]->∃x,TK T x/\Ar W (fun _=>False) x v:=by
   intro c l n1 n2 hv hc;refine⟨c,⟨?_,?_⟩,single l (by rw[←hl,l];rfl) (notAgg n1 n2)⟩
   ·rw[hc,←l];exact h1
   ·rw[hc,hv]
  split at j
  ·rename_i k hu;simp at j;subst j
   cases h1 with|int _ m hk=>exact fin rfl (fun fs hh=>by rw[hu]at hh;cases hh) (fun m e hh=>by rw[hu]at hh;cases hh) rfl rfl
  ·rename_i hu;simp at j;subst j
   cases h1 with|bool b=>exact fin rfl (fun fs hh=>by rw[hu]at hh;cases hh) (fun m e hh=>by rw[hu]at hh;cases hh) rfl rfl
  ·rename_i e hu;split at j
   ·simp only[Option.map_eq_some_iff]at j;obtain⟨Te,q,rfl⟩:=j
    cases h1 with|list _ nl xs h0 hx hx'=>exact fin rfl (fun fs hh=>by rw[hu]at hh;cases hh) (fun m e hh=>by rw[hu]at hh;cases hh) rfl rfl
   ·cases j
  ·rename_i fs hu;split at j
   ·simp only[Option.map_eq_some_iff]at j;obtain⟨Ts,u,rfl⟩:=j;unfold Value.okWide at ho;rw[hu]at ho;obtain⟨cs,rfl,r,_⟩:=ho;have hcells:(Value.agg cs).cells=cs:=rfl;rw[hcells]at h2;refine⟨.agg ds,⟨h1,rfl⟩,.agg ds cs (by rw[h2.1];simp) (fun c hc=>?_) fun i c v hc hv=>(h2.2 i c v hc (by simpa using hv)).1⟩;obtain⟨i,hi⟩:=List.getElem?_of_mem hc;have p:i<cs.toList.length:=by rw[←h2.1];exact(List.getElem?_eq_some_iff.1 hi).1
    exact(h2.2 i c _ hi (List.getElem?_eq_getElem p)).2
   ·cases j
  ·cases j
theorem Xk:∀{ts:List TypeId}{vs:List Value}{ds:List (DataW H)}{ps:List MemPlace}{Ts:List Ty},Ax (U3 P 20) ts=some Ts->(∀(j:Nat) t v,ts[j]?=some t->vs[j]?=some v->Value.okWide P W .any 0 t v) ->
  DataW.TrodAll enc P W 0 (fun _=>true) true ts vs ds ps->∃xs:List D,Ur Ts xs/\xs.length=vs.length/\∀(i:Nat) (d:D) (v:Value),xs[i]?=some d->vs[i]?=some v->Ar W (fun _=>False) d v
 |[],vs,ds,ps,Ts,hT,ho,h=>by
  obtain⟨rfl,rfl,rfl⟩:=trodAll_nil h;simp[Ax]at hT;subst hT;exact⟨[],trivial,rfl,fun i d v hd=>by simp at hd⟩
 |t::ts,vs,ds,ps,Ts,hT,ho,h=>by
  obtain⟨v,G,d,A,p,q,rfl,rfl,rfl,h1,h2⟩:=trodAll_cons h;simp only[Ax]at hT;split at hT
  ·cases hT
  ·rename_i T n;split at hT
   ·cases hT
   ·rename_i Ts' u;simp at hT;subst hT;obtain⟨x,y,r⟩:=ov n (ho 0 t v rfl rfl) h1;obtain⟨xs,l,m,e⟩:=Xk u (fun j z o ht hv=>ho (j+1) z o (by simpa using ht) (by simpa using hv)) h2;refine⟨x::xs,⟨y,l⟩,by simp[m],fun i B o hd hv=>?_⟩
    cases i with
    |zero=>simp at hd hv;subst hd hv;exact r
    |succ i=>exact e i B o (by simpa using hd) (by simpa using hv)
theorem YH(hl:laidOutB P=true){W':World}(hb:Below W.heap.size W W'){sp:Nat->Bool}:∀{ts:List TypeId}{vs:List Value}{ds:List (DataW H)}{ps:List MemPlace},(∀t,t∈ts->P.readableRec t=true/\t<P.types.size)->(∀p,p∈ps->p.block<W.heap.size)->(∀p,p∈ps->sp p.block=true) ->
  DataW.TrodAll enc P W 0 (fun _=>true) true ts vs ds ps->DataW.TrodAll enc P W' 0 sp true ts vs ds ps
 |[],vs,ds,ps,hr,hlt,hsp,h=>by
  obtain⟨rfl,rfl,rfl⟩:=trodAll_nil h;exact rfl
 |t::ts,vs,ds,ps,hr,hlt,hsp,h=>by
  obtain⟨v,j,d,i,p,q,rfl,rfl,rfl,h1,h2⟩:=trodAll_cons h
  exact⟨p,q,WideElems.Trod_stays hl (hr t (by simp)).1 (hr t (by simp)).2 h1 (fun x hx=>hb.same (hlt x (by simp[hx]))) (fun x hx=>hsp x (by simp[hx])),
   YH hl hb (fun e ht=>hr e (by simp[ht])) (fun x hx=>hlt x (by simp[hx])) (fun x hx=>hsp x (by simp[hx])) h2,rfl⟩
end Go.Pw
