/- A part of the proof. -/
import Derived.Test.YtpcpcjbbdgmohaaDoorPwOpen
import Derived.ProofKit
import Derived.Test.YtpcpcjbbdgmohaaDoorPwVC
set_option linter.all false
section
namespace Go.Pw
open Go.RowKit Go.ChangeShapes Go.WideShapes Go.ChangeAt
def Md (T:Ty) (x:D):Prop:=C7 T x.cells/\x=T.val x.cells
def NZ:List Ty->List D->Prop
 |[],[]=>True
 |T::Ts,x::xs=>Md T x/\NZ Ts xs
 |_,_=>False
variable {H:Type}{enc:TypeId×Value->H}{P:Program}{W:World}
def dF (P:Program) (t:TypeId):Bool:=match P.underlying t with|some (.struct _)|some (.array _ _)=>true|_=>false
theorem XF {t:TypeId}{v:Value}{d:DataW H}{ps:List MemPlace}{T:Ty}{n:Nat}(hT:Nh P n t=some T) (ho:Value.okWide P W .any 0 t v) (h:DataW.Trod enc P W 0 (fun _=>true) true t v d ps) :
  ∃x,Md T x/\A4 W (fun _=>False) x v:=by
 obtain⟨fuel,h⟩:=h
 obtain⟨ds,h1,h2⟩:=TI fuel n t _ _ T h hT
 cases n with
 |zero=>simp[Nh] at hT
 |succ n =>
  simp only[Nh] at hT
  have single:∀{c:D},ds=[c]->v.cells.toList.length=1->(∀cs,v≠.agg cs)->A4 W (fun _=>False) c v:=fun {c} hds hl hna=>by
   have hv:v.cells=#[v]:=by
    cases v<;>first|rfl|exact absurd rfl (hna _)
   subst hds
   rw[hv] at h2
   exact(h2.2 0 c v rfl rfl).1
  have hl:=h2.1
  have notAgg:(∀fs,P.underlying t≠some (.struct fs))->(∀m e,P.underlying t≠some (.array m e))->∀cs,v≠.agg cs:=by
   intro n1 n2 cs hv
   subst hv
   unfold Value.okWide at ho
   split at ho
   ·rename_i h;exact n1 _ h
   ·rename_i h;exact n2 _ _ h
   ·simp[Cell.okWide,Cell.ok] at ho
  have fin:∀{c:D},ds=[c]->(∀fs,P.underlying t≠some (.struct fs))->(∀m e,P.underlying t≠some (.array m e))->T.val [c]=c->c.cells=[c]->∃x,Md T x/\A4 W (fun _=>False) x v:=by
   intro c hds n1 n2 hv hc
   refine⟨c,⟨?_,?_⟩,single hds (by rw[←hl,hds];rfl) (notAgg n1 n2)⟩
   ·rw[hc,←hds];exact h1
   ·rw[hc,hv]
  split at hT
  ·rename_i k hu
   simp at hT;subst hT
   cases h1 with|int _ m hk=>exact fin rfl (fun fs hh=>by rw[hu] at hh;cases hh) (fun m e hh=>by rw[hu] at hh;cases hh) rfl rfl
  ·rename_i hu
   simp at hT;subst hT
   cases h1 with|bool b=>exact fin rfl (fun fs hh=>by rw[hu] at hh;cases hh) (fun m e hh=>by rw[hu] at hh;cases hh) rfl rfl
  ·rename_i e hu
   split at hT
   ·simp only[Option.map_eq_some_iff] at hT
    obtain⟨Te,hTe,rfl⟩:=hT
    cases h1 with|list _ nl xs h0 hx hx'=>exact fin rfl (fun fs hh=>by rw[hu] at hh;cases hh) (fun m e hh=>by rw[hu] at hh;cases hh) rfl rfl
   ·cases hT
  ·rename_i fs hu
   split at hT
   ·simp only[Option.map_eq_some_iff] at hT
    obtain⟨Ts,hTs,rfl⟩:=hT
    unfold Value.okWide at ho
    rw[hu] at ho
    obtain⟨cs,rfl,hcl,_⟩:=ho
    have hcells:(Value.agg cs).cells=cs:=rfl
    rw[hcells] at h2
    refine⟨.agg ds,⟨h1,rfl⟩,.agg ds cs (by rw[h2.1];simp) (fun c hc=>?_) fun i c v hc hv=>(h2.2 i c v hc (by simpa using hv)).1⟩
    obtain⟨i,hi⟩:=List.getElem?_of_mem hc
    have hil:i<cs.toList.length:=by rw[←h2.1];exact(List.getElem?_eq_some_iff.1 hi).1
    exact(h2.2 i c _ hi (List.getElem?_eq_getElem hil)).2
   ·cases hT
  ·cases hT
theorem Pn:∀{ts:List TypeId}{vs:List Value}{ds:List (DataW H)}{ps:List MemPlace}{Ts:List Ty},BD (Nh P 20) ts=some Ts->(∀(j:Nat) t v,ts[j]?=some t->vs[j]?=some v->Value.okWide P W .any 0 t v) ->
  DataW.TrodAll enc P W 0 (fun _=>true) true ts vs ds ps->∃xs:List D,NZ Ts xs/\xs.length=vs.length/\∀(i:Nat) (d:D) (v:Value),xs[i]?=some d->vs[i]?=some v->A4 W (fun _=>False) d v
 |[],vs,ds,ps,Ts,hT,ho,h=>by
  obtain⟨rfl,rfl,rfl⟩:=trodAll_nil h
  simp[BD] at hT;subst hT
  exact⟨[],trivial,rfl,fun i d v hd=>by simp at hd⟩
 |t::ts,vs,ds,ps,Ts,hT,ho,h=>by
  obtain⟨v,vs1,d,ds1,p,q,rfl,rfl,rfl,h1,h2⟩:=trodAll_cons h
  simp only[BD] at hT
  split at hT
  ·cases hT
  ·rename_i T hT1
   split at hT
   ·cases hT
   ·rename_i Ts' hT2
    simp at hT;subst hT
    obtain⟨x,hx1,hx2⟩:=XF hT1 (ho 0 t v rfl rfl) h1
    obtain⟨xs,hxs1,hxs2,hxs3⟩:=Pn hT2 (fun j t' v' ht hv=>ho (j+1) t' v' (by simpa using ht) (by simpa using hv)) h2
    refine⟨x::xs,⟨hx1,hxs1⟩,by simp[hxs2],fun i d' v' hd hv=>?_⟩
    cases i with
    |zero=>simp at hd hv;subst hd hv;exact hx2
    |succ i=>exact hxs3 i d' v' (by simpa using hd) (by simpa using hv)
theorem P9 (hl:laidOutB P=true) {W':World}(hb:Below W.heap.size W W') {sp:Nat->Bool}:∀{ts:List TypeId}{vs:List Value}{ds:List (DataW H)}{ps:List MemPlace},(∀t,t∈ts->P.readableRec t=true/\t<P.types.size)->(∀p,p∈ps->p.block<W.heap.size)->(∀p,p∈ps->sp p.block=true) ->
  DataW.TrodAll enc P W 0 (fun _=>true) true ts vs ds ps->DataW.TrodAll enc P W' 0 sp true ts vs ds ps
 |[],vs,ds,ps,hr,hlt,hsp,h=>by
  obtain⟨rfl,rfl,rfl⟩:=trodAll_nil h
  exact rfl
 |t::ts,vs,ds,ps,hr,hlt,hsp,h=>by
  obtain⟨v,vs1,d,ds1,p,q,rfl,rfl,rfl,h1,h2⟩:=trodAll_cons h
  exact⟨p,q,WideElems.Trod_stays hl (hr t (by simp)).1 (hr t (by simp)).2 h1 (fun x hx=>hb.same (hlt x (by simp[hx]))) (fun x hx=>hsp x (by simp[hx])),
   P9 hl hb (fun t' ht=>hr t' (by simp[ht])) (fun x hx=>hlt x (by simp[hx])) (fun x hx=>hsp x (by simp[hx])) h2,rfl⟩
end Go.Pw
end
section
namespace Go.Pw
theorem aP (a:Int) (k:Nat):a.fdiv (2^k)=a/2^k:=by
 rw[Int.fdiv_eq_ediv_of_nonneg]
 exact Int.pow_nonneg (by omega)
theorem Zu (x:Int):CG .and .i64 x 1=x%2:=by
 have h:(BitVec.ofInt 64 x &&& BitVec.ofInt 64 1).toNat=(x%2).toNat:=by
  have h1:(BitVec.ofInt 64 (1:Int)).toNat=1:=by decide
  rw[BitVec.toNat_and,h1,Nat.and_one_is_mod,BitVec.toNat_ofInt]
  omega
 show IntKind.i64.wrap (((BitVec.ofInt 64 x &&& BitVec.ofInt 64 1).toNat:Nat):Int)=_
 rw[h,BN]<;>omega
theorem WY (n:Int) (h:0<=n/\n<=18446744073709551615):IntKind.u64.wrap n=n:=by rw[IntKind.wrap_u64];omega
theorem XA {k:Nat}(h:k<=62):(2:Int)^k<=4611686018427387904:=by
 have:(2:Nat)^k<=2^62:=Nat.pow_le_pow_right (by omega) h
 have h2:((2^k:Nat):Int)=(2:Int)^k:=by simp
 have h3:(2:Nat)^62=4611686018427387904:=by decide
 omega
theorem W_ (k:Nat):(1:Int)<=(2:Int)^k:=by
 have:0<(2:Int)^k:=Int.pow_pos (by omega)
 omega
theorem aR (b:Int) (h:0<=b/\b<=62):IntKind.i64.wrap (1*2^min b.toNat IntKind.i64.bits)=2^b.toNat:=by
 have hm:min b.toNat IntKind.i64.bits=b.toNat:=by
  have:IntKind.i64.bits=64:=rfl
  rw[this];omega
 rw[hm,Int.one_mul,BN]
 have:=XA (k:=b.toNat) (by omega)
 have:=W_ b.toNat
 omega
theorem b5 (a b:Int) (h:0<=b/\b<=64):a.fdiv (2^min b.toNat IntKind.i64.bits)=a/2^b.toNat:=by
 have hm:min b.toNat IntKind.i64.bits=b.toNat:=by
  have:IntKind.i64.bits=64:=rfl
  rw[this];omega
 rw[hm,aP]
theorem b6 (b:Int) (h:0<=b/\b<=62):IntKind.i64.wrap (1*2^min b.toNat 64)=2^b.toNat:=aR b h
theorem aQ (b:Int) (h:0<=b/\b<=62):IntKind.i64.wrap (2^min b.toNat 64)=2^b.toNat:=by
 have:=aR b h;rwa [Int.one_mul] at this
theorem bz (a b:Int) (h:0<=b/\b<=64):a.fdiv (2^min b.toNat 64)=a/2^b.toNat:=b5 a b h
theorem A7:(∀(n:Int),-9223372036854775808<=n/\n<=9223372036854775807->IntKind.i64.wrap n=n)/\(∀(n:Int),0<=n/\n<=18446744073709551615->IntKind.u64.wrap n=n)/\(∀(b:Int),0<=b/\b<=62->IntKind.i64.wrap (1*2^min b.toNat IntKind.i64.bits)=2^b.toNat)/\(∀(b:Int),0<=b/\b<=62->IntKind.i64.wrap (1*2^min b.toNat 64)=2^b.toNat)/\(∀(b:Int),0<=b/\b<=62->IntKind.i64.wrap (2^min b.toNat 64)=2^b.toNat)/\(∀(a b:Int),0<=b/\b<=64->a.fdiv (2^min b.toNat IntKind.i64.bits)=a/2^b.toNat)/\(∀(a b:Int),0<=b/\b<=64->a.fdiv (2^min b.toNat 64)=a/2^b.toNat)/\∀(x:Int),CG .and .i64 x 1=x%2:=⟨BN,WY,aR,b6,aQ,b5,bz,Zu⟩
end Go.Pw
end
section
namespace Go.Pw
theorem DT {k:IntKind}{cs:List D}(h:C7 (.int k) cs):∃n,cs=[.int k n]:=by cases h with|int _ n _=>exact⟨n,rfl⟩
theorem Bt {T:Ty}{Ts:List Ty}{cs:List D}(h:C7 (.str (T::Ts)) cs):∃a b,cs=a++b/\C7 T a/\C7 (.str Ts) b:=by
 cases h with|cons _ _ a b h1 h2=>exact⟨a,b,rfl,h1,h2⟩
theorem GY {cs:List D}(h:C7 (.str []) cs):cs=[]:=by cases h;rfl
end Go.Pw
end
