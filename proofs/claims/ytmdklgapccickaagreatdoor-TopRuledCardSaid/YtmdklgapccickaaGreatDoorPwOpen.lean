/- A part of the proof. -/
import Derived.Test.YtmdklgapccickaaGreatDoorPwY
import Derived.Carry
import Derived.ChangeSame
import Derived.ChangeArms
set_option linter.all false
namespace Go.Pw
open Go.RowKit Go.ChangeShapes
inductive Ty where
 |int (k:IntKind)
 |bool
 |list (T:Ty)
 |str (Ts:List Ty)
def Ty.val:Ty->List D->D
 |.str _,cs=>.agg cs
 |_,[c]=>c
 |_,_=>.junk
inductive DT:Ty->List D->Prop
 |int (k n) (h:K4 k n):DT (.int k) [.int k n]
 |bool (b):DT .bool [.bool b]
 |list (T nl xs) (h0:nl=true->xs=[]) (h:∀x,x∈xs->DT T x.cells) (h':∀x,x∈xs->x=T.val x.cells):DT (.list T) [.list nl xs]
 |nil:DT (.str []) []
 |cons (T Ts a b) (h:DT T a) (h':DT (.str Ts) b):DT (.str (T::Ts)) (a++b)
def Ez (P:Program):Nat->List Field->Option Nat
 |n,[]=>some n
 |n,f::fs=>if f.offset=n then Ez P (n+P.cellsOf f.type) fs else none
def Ra (P:Program):Nat->TypeId->Option Ty
 |0,_=>none
 |n+1,t=>match P.underlying t with
  |some (.int k)=>some (.int k)
  |some .bool=>some .bool
  |some (.slice e)=>if 0<P.cellsOf e then (Ra P n e).map .list else none
  |some (.struct fs)=>if Ez P 0 fs.toList=some (P.cellsOf t) then (BV (fun f:Field=>Ra P n f.type) fs.toList).map .str else none
  |_=>none
def H2 (w:World) (ds:List D) (cs:List Value):Prop :=
 ds.length=cs.length/\∀(i:Nat) (d:D) (v:Value),ds[i]?=some d->cs[i]?=some v->Az w (fun _=>False) d v/\d.one=true
theorem H2.append {w:World}{a b:List D}{cs ds:List Value}(h:H2 w a cs) (h':H2 w b ds):H2 w (a++b) (cs++ds):=by
 refine⟨by simp[h.1,h'.1],fun i d v hd hv=>?_⟩
 by_cases hi:i<a.length
 ·rw[List.getElem?_append_left hi] at hd
  rw[List.getElem?_append_left (by rw[←h.1];exact hi)] at hv
  exact h.2 i d v hd hv
 ·rw[List.getElem?_append_right (by omega)] at hd
  rw[List.getElem?_append_right (by rw[←h.1];omega),←h.1] at hv
  exact h'.2 _ d v hd hv
theorem H2.one {w:World}{d:D}{v:Value}(hd:Az w (fun _=>False) d v) (h1:d.one=true):H2 w [d] [v]:=⟨rfl,fun i d' v' hd' hv'=>by
 cases i with
 |zero=>simp at hd' hv';subst hd' hv';exact⟨hd,h1⟩
 |succ i=>simp at hd'⟩
theorem DT.val_cells {T:Ty}{cs:List D}(h:DT T cs):(T.val cs).cells=cs:=by
 cases h with
 |int=>rfl
 |bool=>rfl
 |list=>rfl
 |nil=>rfl
 |cons=>rfl
theorem Ng {w:World}{a:Addr}{n:Nat}{cs:List Value}(h:w.cells? 0 a n=some cs):cs.length=n/\∀j,j<n->w.cell? (a.add j)=cs[j]?:=by
 simp only[World.cells?,Nat.zero_le,if_true] at h
 have h1:=mapM_some_length h
 refine⟨by simpa using h1,fun j hj=>?_⟩
 exact mapM_some_get h j j (by simp[hj])
theorem lN (b o x y:Nat):(((⟨b,o,none⟩:Addr).add x).add y)=⟨b,o+x+y,none⟩:=by
 simp only[Addr.add];split<;>split<;>simp_all
theorem N6 {P:Program}{w:World}:∀(fs:List Field) (n m:Nat) (cs:List Value) (Ts:List Ty) ,Ez P n fs=some m->cs.length=m->n<=m ->
  fs.length=Ts.length->(∀(i:Nat) (f:Field) (T:Ty),fs[i]?=some f->Ts[i]?=some T->∃ds,DT T ds/\H2 w ds ((cs.drop f.offset).take (P.cellsOf f.type))) ->
  ∃ds,DT (.str Ts) ds/\H2 w ds (cs.drop n)
 |[],n,m,cs,Ts,hl,hc,hn,hlen,h=>by
  simp[Ez] at hl;subst hl
  have:Ts=[]:=by cases Ts<;>simp_all
  subst this
  refine⟨[],.nil,?_⟩
  rw[List.drop_of_length_le (by omega)]
  exact⟨rfl,fun i d v hd=>by simp at hd⟩
 |f::fs,n,m,cs,[],hl,hc,hn,hlen,h=>by simp at hlen
 |f::fs,n,m,cs,T::Ts,hl,hc,hn,hlen,h=>by
  simp only[Ez] at hl
  split at hl
  ·rename_i ho
   obtain⟨a,ha,hoa⟩:=h 0 f T rfl rfl
   have hnm:n+P.cellsOf f.type<=m:=by
    have:∀(l:List Field) (n m:Nat),Ez P n l=some m->n<=m:=by
     intro l
     induction l with
     |nil=>intro n m h;simp[Ez] at h;omega
     |cons g l ih =>
      intro n m h
      simp only[Ez] at h
      split at h
      ·have:=ih _ _ h;omega
      ·cases h
    exact this _ _ _ hl
   obtain⟨b,hb,hob⟩:=N6 fs (n+P.cellsOf f.type) m cs Ts hl hc hnm (by simpa using hlen) fun i g T' hg hT=>h (i+1) g T' (by simpa using hg) (by simpa using hT)
   refine⟨a++b,.cons _ _ _ _ ha hb,?_⟩
   have hsplit:cs.drop n=(cs.drop n).take (P.cellsOf f.type)++cs.drop (n+P.cellsOf f.type):=by
    rw[←List.drop_drop,List.take_append_drop]
   rw[hsplit]
   rw[ho] at hoa
   exact hoa.append hob
  ·cases hl
variable {H:Type}{enc:TypeId×Value->H}{P:Program}{w:World}{sp:Nat->Bool}{held:Bool}
theorem X9:∀(fuel n:Nat) (t:TypeId) (cs:List Value) (x:DataW H×List MemPlace) (T:Ty),DataW.trod enc P w 0 sp held fuel t cs=some x->Ra P n t=some T->∃ds,DT T ds/\H2 w ds cs:=by
 intro fuel
 induction fuel with
 |zero=>intro n t cs x T h _;simp[DataW.trod] at h
 |succ fuel ih =>
  intro n t cs x T h hT
  cases n with
  |zero=>simp[Ra] at hT
  |succ n =>
   simp only[Ra] at hT
   split at hT
   ·rename_i k hu
    simp at hT;subst hT
    obtain⟨m,rfl,_,hwf⟩:=DataW.trod_int hu h
    have hk:K4 k m:=by simpa[Lit.wf,K4] using hwf
    exact⟨_,.int k m hk,.one (.int k m hk) rfl⟩
   ·rename_i hu
    simp at hT;subst hT
    obtain⟨b,rfl,_⟩:=DataW.trod_bool hu h
    exact⟨_,.bool b,.one (.bool b) rfl⟩
   ·rename_i e hu
    split at hT
    ·rename_i hpos
     simp only[Option.map_eq_some_iff] at hT
     obtain⟨Te,hTe,rfl⟩:=hT
     rcases DataW.trod_slice hu h with⟨rfl,_⟩|⟨a,len,cap,elems,rest,m,hm,rfl,_,hb,hlc,hcm,hel,hget,_,_⟩
     ·exact⟨_,.list Te true [] (fun _=>rfl) (fun x hx=>by simp at hx) (fun x hx=>by simp at hx),.one .nil rfl⟩
     ·simp at hm;subst hm
      have each:∀i,i<len->∃ds vs,DT Te ds/\w.cells? 0 (a.add (i*P.cellsOf e)) (P.cellsOf e)=some vs/\H2 w ds vs:=fun i hi=>by
       have:=hget i hi
       rw[List.getElem?_eq_getElem (by omega)] at this
       simp only[Option.bind_eq_some_iff] at this
       obtain⟨vs,h1,h2⟩:=this
       obtain⟨ds,h3,h4⟩:=ih n e vs _ Te h2 hTe
       exact⟨ds,vs,h3,h1,h4⟩
      cases len with
      |zero=>exact⟨_,.list Te false [] (fun h=>by cases h) (fun x hx=>by simp at hx) (fun x hx=>by simp at hx),.one (.empty a cap hcm) rfl⟩
      |succ len =>
       have hspot:a=⟨a.block,a.off,none⟩:=by
        obtain⟨ds,vs,_,h1,_⟩:=each 0 (by omega)
        obtain⟨h2,h3⟩:=Ng h1
        have h4:=h3 0 hpos
        rw[List.getElem?_eq_getElem (by omega)] at h4
        have h5:((a.add (0*P.cellsOf e)).add 0)=a:=by simp[Addr.add]
        rw[h5] at h4
        unfold World.cell? at h4
        split at h4
        ·split at h4
         ·cases h4
         ·rename_i hs;cases a;simp_all
        ·cases h4
       have ch:∃(ds:Nat->List D) (vs:Nat->List Value),∀i,i<len+1->DT Te (ds i)/\w.cells? 0 (a.add (i*P.cellsOf e)) (P.cellsOf e)=some (vs i)/\H2 w (ds i) (vs i):=by
        refine⟨fun i=>if h:i<len+1 then Classical.choose (each i h) else [],fun i=>if h:i<len+1 then Classical.choose (Classical.choose_spec (each i h)) else [],fun i hi=>?_⟩
        simp only[dif_pos hi]
        exact Classical.choose_spec (Classical.choose_spec (each i hi))
       obtain⟨ds,vs,hch⟩:=ch
       have hlen:∀i,i<len+1->(ds i).length=P.cellsOf e:=fun i hi=>by
        have:=hch i hi
        rw[this.2.2.1];exact(Ng this.2.1).1
       refine⟨_,.list Te false ((List.range (len+1)).map fun i=>Te.val (ds i)) (fun h=>by cases h) (fun x hx=>?_) (fun x hx=>?_),.one ?_ rfl⟩
       ·simp only[List.mem_map,List.mem_range] at hx
        obtain⟨i,hi,rfl⟩:=hx
        rw[(hch i hi).1.val_cells];exact(hch i hi).1
       ·simp only[List.mem_map,List.mem_range] at hx
        obtain⟨i,hi,rfl⟩:=hx
        rw[(hch i hi).1.val_cells]
       ·have hget2:∀(i:Nat) (x:D),((List.range (len+1)).map fun i=>Te.val (ds i))[i]?=some x->i<len+1/\x.cells=ds i:=fun i x hx=>by
         rw[List.getElem?_map] at hx
         simp only[Option.map_eq_some_iff] at hx
         obtain⟨y,hy,rfl⟩:=hx
         have hi:i<len+1:=by have:=(List.getElem?_eq_some_iff.1 hy).1;simpa using this
         rw[List.getElem?_range hi] at hy
         simp at hy;subst hy
         exact⟨hi,(hch i hi).1.val_cells⟩
        have hlx:((List.range (len+1)).map fun i=>Te.val (ds i)).length=len+1:=by simp
        rw[hspot]
        have key:=Az.list (w:=w) (fb:=fun _=>False) ((List.range (len+1)).map fun i=>Te.val (ds i)) (P.cellsOf e) a.block a.off cap (fun i j=>(vs i).getD j undef) (by rw[hlx];exact hlc) hcm id hpos (fun x hx=>?_) (fun x c hx hc=>?_) (fun i x j c hx hc=>?_) (fun i x j c hx hc=>?_)
        ·rw[hlx] at key;exact key
        ·obtain⟨i,hi⟩:=List.getElem?_of_mem hx
         obtain⟨h1,h2⟩:=hget2 i x hi
         rw[h2];exact hlen i h1
        ·obtain⟨i,hi⟩:=List.getElem?_of_mem hx
         obtain⟨h1,h2⟩:=hget2 i x hi
         rw[h2] at hc
         obtain⟨j,hj⟩:=List.getElem?_of_mem hc
         have h3:=(hch i h1).2.2
         have hjl:j<(vs i).length:=by rw[←h3.1];exact(List.getElem?_eq_some_iff.1 hj).1
         exact(h3.2 j c _ hj (List.getElem?_eq_getElem hjl)).2
        ·obtain⟨h1,h2⟩:=hget2 i x hx
         rw[h2] at hc
         have h3:=(hch i h1).2
         obtain⟨h4,h5⟩:=Ng h3.1
         have hjl:j<P.cellsOf e:=by rw[←hlen i h1];exact(List.getElem?_eq_some_iff.1 hc).1
         have h6:=h5 j hjl
         have h7:((a.add (i*P.cellsOf e)).add j)=⟨a.block,a.off+i*P.cellsOf e+j,none⟩:=by
          rw[hspot];exact lN _ _ _ _
         rw[h7] at h6
         rw[h6,List.getElem?_eq_getElem (by omega)]
         simp[List.getD,List.getElem?_eq_getElem (show j<(vs i).length by omega)]
        ·obtain⟨h1,h2⟩:=hget2 i x hx
         rw[h2] at hc
         have h3:=(hch i h1).2.2
         have hjl:j<(vs i).length:=by rw[←h3.1];exact(List.getElem?_eq_some_iff.1 hc).1
         have:=(h3.2 j c _ hc (List.getElem?_eq_getElem hjl)).1
         simpa[List.getD,List.getElem?_eq_getElem hjl] using this
    ·cases hT
   ·rename_i fs hu
    split at hT
    ·rename_i hlay
     simp only[Option.map_eq_some_iff] at hT
     obtain⟨Ts,hTs,rfl⟩:=hT
     obtain⟨xs,m,hm,_,hcl,hxl,hx⟩:=DataW.trod_struct hu h
     simp at hm;subst hm
     have:=N6 (P:=P) (w:=w) fs.toList 0 _ cs Ts hlay hcl (Nat.zero_le _) (Aw hTs).symm fun i f T hf hT=>?_
     ·simpa using this
     ·have hf':fs[i]?=some f:=by simpa using hf
      have h1:=hx i f hf'
      have hil:i<xs.length:=by rw[hxl];have:=(List.getElem?_eq_some_iff.1 hf).1;simpa using this
      rw[List.getElem?_eq_getElem hil] at h1
      obtain⟨T',h3,h4⟩:=Cw hTs hf
      rw[hT] at h3;cases h3
      exact ih n f.type _ _ T h1 h4
    ·cases hT
   ·cases hT
end Go.Pw
