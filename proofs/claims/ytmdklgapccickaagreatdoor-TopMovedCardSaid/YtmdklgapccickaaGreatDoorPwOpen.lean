/- Part. -/
import Derived.Test.YtmdklgapccickaaGreatDoorPwY
import Derived.Carry
import Derived.ChangeSame
import Derived.ChangeArms
set_option linter.all false
open List renaming getElem?_eq_getElem->aa,getElem?_eq_some_iff->ax,range->ay,getElem?_of_mem->ck,getElem?_append_left->cp,getElem?_append_right->cw,mem_map->c8,mem_range->ea,getD->eb
open Option renaming map_eq_some_iff->az,bind_eq_some_iff->et
namespace Go.Pw
open Go.RowKit Go.ChangeShapes
inductive Ty where
 |int (k:IntKind)
 |bool
 |list (T:Ty)
 |str (Ts:List Ty)
def Ty.val:Ty->List D->D
 |.str _,cs=>.agg cs
 |_,[c]=>c
 |_,_=>.junk
inductive Ck:Ty->List D->Prop
 |int (k n) (h:N7 k n):Ck (.int k) [.int k n]
 |bool (b):Ck .bool [.bool b]
 |list (T nl xs) (h0:nl=true->xs=[]) (h:∀x,x∈xs->Ck T x.cells) (h':∀x,x∈xs->x=T.val x.cells):Ck (.list T) [.list nl xs]
 |nil:Ck (.str []) []
 |cons (T Ts a b) (h:Ck T a) (h':Ck (.str Ts) b):Ck (.str (T::Ts)) (a++b)
def E2(P:Program):Nat->List Field->Option Nat
 |n,[]=>some n
 |n,f::fs=>if f.offset=n then E2 P (n+P.cellsOf f.type) fs else none
def U3(P:Program):Nat->TypeId->Option Ty
 |0,_=>none
 |n+1,t=>match P.underlying t with
  |some (.int k)=>some (.int k)
  |some .bool=>some .bool
  |some (.slice e)=>if 0<P.cellsOf e then(U3 P n e).map .list else none
  |some (.struct fs)=>if E2 P 0 fs.toList=some (P.cellsOf t)then(Ax (fun f:Field=>U3 P n f.type) fs.toList).map .str else none
  |_=>none
def JT(w:World)(ds:List D)(cs:List Value):Prop :=
 ds.length=cs.length/\∀(i:Nat) (d:D) (v:Value),ds[i]?=some d->cs[i]?=some v->Ar w (fun _=>False) d v/\d.one=true
theorem JT.append{w:World}{a b:List D}{cs ds:List Value}(h:JT w a cs)(h':JT w b ds):JT w (a++b) (cs++ds):=by
 refine⟨by simp[h.1,h'.1],fun i d v hd hv=>?_⟩
 by_cases hi:i<a.length
 ·rw[cp hi]at hd;rw[cp (by rw[←h.1];exact hi)]at hv;exact h.2 i d v hd hv
 ·rw[cw (by omega)]at hd;rw[cw (by rw[←h.1];omega),←h.1]at hv;exact h'.2 _ d v hd hv
theorem JT.one{w:World}{d:D}{v:Value}(hd:Ar w (fun _=>False) d v)(h1:d.one=true):JT w [d] [v]:=⟨rfl,fun i l j e h=>by
 cases i with
 |zero=>simp at e h;subst e h;exact⟨hd,h1⟩
 |succ i=>simp at e⟩
theorem Ck.val_cells{T:Ty}{cs:List D}(h:Ck T cs):(T.val cs).cells=cs:=by
 cases h with
 |int=>rfl
 |bool=>rfl
 |list=>rfl
 |nil=>rfl
 |cons=>rfl
theorem QP{w:World}{a:Addr}{n:Nat}{cs:List Value}(h:w.cells? 0 a n=some cs):cs.length=n/\∀j,j<n->w.cell? (a.add j)=cs[j]?:=by
 simp only[World.cells?,Nat.zero_le,if_true]at h;have h1:=mapM_some_length h;refine⟨by simpa using h1,fun j e=>?_⟩;exact mapM_some_get h j j (by simp[e])
theorem wx(b o x y:Nat):(((⟨b,o,none⟩:Addr).add x).add y)=⟨b,o+x+y,none⟩:=by
 simp only[Addr.add];split<;>split<;>simp_all
theorem Q4{P:Program}{w:World}:∀(fs:List Field) (n m:Nat) (cs:List Value) (Ts:List Ty) ,E2 P n fs=some m->cs.length=m->n<=m ->
  fs.length=Ts.length->(∀(i:Nat) (f:Field) (T:Ty),fs[i]?=some f->Ts[i]?=some T->∃ds,Ck T ds/\JT w ds ((cs.drop f.offset).take (P.cellsOf f.type))) ->
  ∃ds,Ck (.str Ts) ds/\JT w ds (cs.drop n)
 |[],n,m,cs,Ts,hl,hc,hn,hlen,h=>by
  simp[E2]at hl;subst hl;have:Ts=[]:=by cases Ts<;>simp_all
  subst this;refine⟨[],.nil,?_⟩;rw[List.drop_of_length_le (by omega)];exact⟨rfl,fun i d v hd=>by simp at hd⟩
 |f::fs,n,m,cs,[],hl,hc,hn,hlen,h=>by simp at hlen
 |f::fs,n,m,cs,T::Ts,hl,hc,hn,hlen,h=>by
  simp only[E2]at hl;split at hl
  ·rename_i ho;obtain⟨a,q,e⟩:=h 0 f T rfl rfl
   have o:n+P.cellsOf f.type<=m:=by
    have:∀(l:List Field) (n m:Nat),E2 P n l=some m->n<=m:=by
     intro l
     induction l with
     |nil=>intro n m h;simp[E2]at h;omega
     |cons g l ih =>
      intro n m h;simp only[E2]at h;split at h
      ·have:=ih _ _ h;omega
      ·cases h
    exact this _ _ _ hl
   obtain⟨b,hb,j⟩:=Q4 fs (n+P.cellsOf f.type) m cs Ts hl hc o (by simpa using hlen) fun i g T' hg p=>h (i+1) g T' (by simpa using hg) (by simpa using p)
   refine⟨a++b,.cons _ _ _ _ q hb,?_⟩
   have hsplit:cs.drop n=(cs.drop n).take (P.cellsOf f.type)++cs.drop (n+P.cellsOf f.type):=by
    rw[←List.drop_drop,List.take_append_drop]
   rw[hsplit];rw[ho]at e;exact e.append j
  ·cases hl
variable {H:Type}{enc:TypeId×Value->H}{P:Program}{w:World}{sp:Nat->Bool}{held:Bool}
theorem ez:∀(q n:Nat) (t:TypeId) (cs:List Value) (x:DataW H×List MemPlace) (T:Ty),DataW.trod enc P w 0 sp held q t cs=some x->U3 P n t=some T->∃ds,Ck T ds/\JT w ds cs:=by
 intro q
 induction q with
 |zero=>intro n t cs x T h _;simp[DataW.trod]at h
 |succ q ih =>
  intro n t cs x T h o
  cases n with
  |zero=>simp[U3]at o
  |succ n =>
   simp only[U3]at o;split at o
   ·rename_i k hu;simp at o;subst o;obtain⟨m,rfl,_,R⟩:=DataW.trod_int hu h;have hk:N7 k m:=by simpa[Lit.wf,N7]using R
    exact⟨_,.int k m hk,.one (.int k m hk) rfl⟩
   ·rename_i hu;simp at o;subst o;obtain⟨b,rfl,_⟩:=DataW.trod_bool hu h;exact⟨_,.bool b,.one (.bool b) rfl⟩
   ·rename_i e hu;split at o
    ·rename_i G;simp only[az]at o;obtain⟨Te,S,rfl⟩:=o;rcases DataW.trod_slice hu h with⟨rfl,_⟩|⟨a,len,cap,elems,rest,m,hm,rfl,_,hb,hlc,hcm,hel,hget,_,_⟩
     ·exact⟨_,.list Te true [] (fun _=>rfl) (fun x hx=>by simp at hx) (fun x hx=>by simp at hx),.one .nil rfl⟩
     ·simp at hm;subst hm
      have each:∀i,i<len->∃ds vs,Ck Te ds/\w.cells? 0 (a.add (i*P.cellsOf e)) (P.cellsOf e)=some vs/\JT w ds vs:=fun i hi=>by
       have:=hget i hi;rw[aa (by omega)]at this;simp only[et]at this;obtain⟨vs,h1,h2⟩:=this;obtain⟨ds,r,z⟩:=ih n e vs _ Te h2 S;exact⟨ds,vs,r,h1,z⟩
      cases len with
      |zero=>exact⟨_,.list Te false [] (fun h=>by cases h) (fun x hx=>by simp at hx) (fun x hx=>by simp at hx),.one (.empty a cap hcm) rfl⟩
      |succ len =>
       have A:a=⟨a.block,a.off,none⟩:=by
        obtain⟨ds,vs,_,h1,_⟩:=each 0 (by omega);obtain⟨h2,r⟩:=QP h1;have z:=r 0 G;rw[aa (by omega)]at z;have U:((a.add (0*P.cellsOf e)).add 0)=a:=by simp[Addr.add]
        rw[U]at z;unfold World.cell? at z;split at z
        ·split at z
         ·cases z
         ·rename_i hs;cases a;simp_all
        ·cases z
       have ch:∃(ds:Nat->List D) (vs:Nat->List Value),∀i,i<len+1->Ck Te (ds i)/\w.cells? 0 (a.add (i*P.cellsOf e)) (P.cellsOf e)=some (vs i)/\JT w (ds i) (vs i):=by
        refine⟨fun i=>if h:i<len+1 then Classical.choose (each i h)else [],fun i=>if h:i<len+1 then Classical.choose (Classical.choose_spec (each i h))else [],fun i hi=>?_⟩;simp only[dif_pos hi];exact Classical.choose_spec (Classical.choose_spec (each i hi))
       obtain⟨ds,vs,p⟩:=ch
       have B:∀i,i<len+1->(ds i).length=P.cellsOf e:=fun i hi=>by
        have:=p i hi;rw[this.2.2.1];exact(QP this.2.1).1
       refine⟨_,.list Te false ((ay (len+1)).map fun i=>Te.val (ds i)) (fun h=>by cases h) (fun x hx=>?_) (fun x hx=>?_),.one ?_ rfl⟩
       ·simp only[c8,ea]at hx;obtain⟨i,hi,rfl⟩:=hx;rw[(p i hi).1.val_cells];exact(p i hi).1
       ·simp only[c8,ea]at hx;obtain⟨i,hi,rfl⟩:=hx;rw[(p i hi).1.val_cells]
       ·have l:∀(i:Nat) (x:D),((ay (len+1)).map fun i=>Te.val (ds i))[i]?=some x->i<len+1/\x.cells=ds i:=fun i x hx=>by
         rw[List.getElem?_map]at hx;simp only[az]at hx;obtain⟨y,N,rfl⟩:=hx;have hi:i<len+1:=by have:=(ax.1 N).1;simpa using this
         rw[List.getElem?_range hi]at N;simp at N;subst N;exact⟨hi,(p i hi).1.val_cells⟩
        have L:((ay (len+1)).map fun i=>Te.val (ds i)).length=len+1:=by simp
        rw[A];have key:=Ar.list (w:=w) (fb:=fun _=>False) ((ay (len+1)).map fun i=>Te.val (ds i)) (P.cellsOf e) a.block a.off cap (fun i j=>(vs i).getD j undef) (by rw[L];exact hlc) hcm id G (fun x hx=>?_) (fun x c hx hc=>?_) (fun i x j c hx hc=>?_) (fun i x j c hx hc=>?_)
        ·rw[L]at key;exact key
        ·obtain⟨i,hi⟩:=ck hx;obtain⟨h1,h2⟩:=l i x hi;rw[h2];exact B i h1
        ·obtain⟨i,hi⟩:=ck hx;obtain⟨h1,h2⟩:=l i x hi;rw[h2]at hc;obtain⟨j,hj⟩:=ck hc;have r:=(p i h1).2.2;have u:j<(vs i).length:=by rw[←r.1];exact(ax.1 hj).1
         exact(r.2 j c _ hj (aa u)).2
        ·obtain⟨h1,h2⟩:=l i x hx;rw[h2]at hc;have r:=(p i h1).2;obtain⟨z,U⟩:=QP r.1;have u:j<P.cellsOf e:=by rw[←B i h1];exact(ax.1 hc).1
         have h6:=U j u
         have h7:((a.add (i*P.cellsOf e)).add j)=⟨a.block,a.off+i*P.cellsOf e+j,none⟩:=by
          rw[A];exact wx _ _ _ _
         rw[h7]at h6;rw[h6,aa (by omega)];simp[eb,aa (show j<(vs i).length by omega)]
        ·obtain⟨h1,h2⟩:=l i x hx;rw[h2]at hc;have r:=(p i h1).2.2;have u:j<(vs i).length:=by rw[←r.1];exact(ax.1 hc).1
         have:=(r.2 j c _ hc (aa u)).1;simpa[eb,aa u]using this
    ·cases o
   ·rename_i fs hu;split at o
    ·rename_i J;simp only[az]at o;obtain⟨Ts,M,rfl⟩:=o;obtain⟨xs,m,hm,_,X,O,hx⟩:=DataW.trod_struct hu h;simp at hm;subst hm;have:=Q4 (P:=P) (w:=w) fs.toList 0 _ cs Ts J X (Nat.zero_le _) (Af M).symm fun i f T Y o=>?_
     ·simpa using this
     ·have α:fs[i]?=some f:=by simpa using Y
      have h1:=hx i f α;have Z:i<xs.length:=by rw[O];have:=(ax.1 Y).1;simpa using this
      rw[aa Z]at h1;obtain⟨T',r,z⟩:=C7 M Y;rw[o]at r;cases r;exact ih n f.type _ _ T h1 z
    ·cases o
   ·cases o
end Go.Pw
