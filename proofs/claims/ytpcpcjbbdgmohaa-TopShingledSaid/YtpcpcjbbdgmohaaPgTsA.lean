/- A part of the proof. -/
import Derived.Test.YtpcpcjbbdgmohaaPkVC
set_option linter.all false
section
open Go Go.Pw
namespace Go.Pw
structure GB where
 bands:Int
 tracks:Int
 blocks:Int
 cache:Int
 limit:Int
structure GB.Good (b:GB):Prop where
 n:1<=b.bands/\b.bands<=6
 t:1<=b.tracks/\b.tracks<=6
 k:1<=b.blocks/\b.blocks<=4
 c:1<=b.cache/\b.cache<=12
 l:1<=b.limit/\b.limit<=20
def GB.many (b:GB):Int:=b.bands*b.tracks*b.blocks
def GB.band (b:GB) (x:Int):Int:=(x.tdiv b.blocks).tdiv b.tracks
def GB.track (b:GB) (x:Int):Int:=(x.tdiv b.blocks).tmod b.tracks
abbrev Be:=Nat×Int×Int
def D7 (es:List Be) (x:Int):Option Int:=(es.find? fun e=>decide (e.2.1=x)).map (·.2.2)
def Co (es:List Be):Prop:=(es.map (·.2.1)).Nodup
theorem N' {es:List Be}{x v:Int}(h:D7 es x=some v):∃e,e∈es/\e.2.1=x/\e.2.2=v:=by
 unfold D7 at h
 simp only[Option.map_eq_some_iff] at h
 obtain⟨e,h1,h2⟩:=h
 have:=List.find?_some h1
 exact⟨e,List.mem_of_find?_eq_some h1,by simpa using this,h2⟩
theorem G2 {es:List Be}{x:Int}:D7 es x=none↔∀e,e∈es->e.2.1≠x:=by
 unfold D7
 rw[Option.map_eq_none_iff,List.find?_eq_none]
 simp
theorem Qm {es:List Be}(hd:Co es) {e:Be}(he:e∈es):D7 es e.2.1=some e.2.2:=by
 induction es with
 |nil=>cases he
 |cons y ys ih =>
  unfold Co at hd
  rw[List.map_cons,List.nodup_cons] at hd
  unfold D7
  rw[List.find?_cons]
  rcases List.mem_cons.1 he with rfl|he
  ·simp
  ·have hne:y.2.1≠e.2.1:=fun h=>hd.1 (by rw[h];exact List.mem_map_of_mem (f:=fun e:Be=>e.2.1) he)
   rw[decide_eq_false hne]
   exact ih hd.2 he
structure D5 where
 med:List Int
 cnt:List Int
 cost:Int
 cleaned:Int
 refr:Int
 es:List Be
 cl:Nat
structure Ck where
 band:Int
 cost:Int
 blocks:Int
instance:Inhabited Ck:=⟨⟨0,0,0⟩⟩
def Mr (b:GB):List Be->Int
 |[]=>0
 |e::es=>max (b.tracks-b.track e.2.1) (Mr b es)
def Sy (b:GB) (es:List Be) (p:Be->Bool) (k:Int):List Be:=es.filter fun e=>p e && decide (b.band e.2.1=k)
def LG (b:GB) (es:List Be) (p:Be->Bool) (k:Nat):Ck:=if (Sy b es p k).isEmpty then ⟨0,0,0⟩ else ⟨(k:Int),Mr b (Sy b es p k),((Sy b es p k).length:Int)⟩
def DJ (b:GB) (es:List Be) (p:Be->Bool):List Ck:=(List.range b.bands.toNat).map (LG b es p)
def Fa (b:GB) (es:List Be):List Ck:=(DJ b es fun _=>true).filter fun j=>!decide (j.blocks=0)
theorem Wx {b:GB}{es:List Be}{j:Ck}(h:j∈Fa b es):∃k:Nat,k<b.bands.toNat/\j.band=k/\∃e,e∈es/\b.band e.2.1=k:=by
 obtain⟨h1,h2⟩:=List.mem_filter.1 h
 obtain⟨k,hk,rfl⟩:=List.mem_map.1 h1
 rw[List.mem_range] at hk
 unfold LG at h2 ⊢
 cases hl:Sy b es (fun _=>true) k with
 |nil=>rw[hl] at h2;simp at h2
 |cons e l =>
  refine⟨k,hk,by simp,e,?_⟩
  have:e∈Sy b es (fun _=>true) k:=by rw[hl];exact List.mem_cons_self
  have:=List.mem_filter.1 this
  exact⟨this.1,by simpa using this.2⟩
theorem NK {b:GB}{es:List Be}{e:Be}(he:e∈es) {k:Nat}(hk:k<b.bands.toNat) (hb:b.band e.2.1=k):∃j,j∈Fa b es/\j.band=k:=by
 have hm:e∈Sy b es (fun _=>true) k:=List.mem_filter.2 ⟨he,by simp[hb]⟩
 have hne:(Sy b es (fun _=>true) k).isEmpty=false:=by
  cases hl:Sy b es (fun _=>true) k with
  |nil=>rw[hl] at hm;cases hm
  |cons _ _=>rfl
 have hp:0<(Sy b es (fun _=>true) k).length:=List.length_pos_of_mem hm
 refine⟨LG b es (fun _=>true) k,List.mem_filter.2 ⟨List.mem_map.2 ⟨k,List.mem_range.2 hk,rfl⟩,?_⟩,?_⟩
 ·unfold LG
  rw[hne,if_neg (by simp),Bool.not_eq_true',decide_eq_false_iff_not]
  show ¬(((Sy b es (fun _=>true) k).length:Nat):Int)=0
  omega
 ·unfold LG;rw[hne];rfl
def R4 (b:GB):Nat->Nat->D5->D5
 |0,_,d=>d
 |f+1,k,d=>if k<d.cnt.length then
  (
   if d.cnt[k]?.getD 0+1<b.limit then { d with cnt:=d.cnt.set k (d.cnt[k]?.getD 0+1) }
   else R4 b f (k+1) { d with cnt:=d.cnt.set k 0,refr:=d.refr+1,cost:=d.cost+b.tracks }) else d
theorem LZ (b:GB):∀(f k:Nat) (d:D5),(R4 b f k d).med=d.med/\(R4 b f k d).es=d.es/\(R4 b f k d).cl=d.cl/\(R4 b f k d).cnt.length=d.cnt.length
 |0,_,_=>⟨rfl,rfl,rfl,rfl⟩
 |f+1,k,d=>by
  rw[R4]
  split
  ·split
   ·exact⟨rfl,rfl,rfl,by simp⟩
   ·obtain⟨h1,h2,h3,h4⟩:=LZ b f (k+1) { d with cnt:=d.cnt.set k 0,refr:=d.refr+1,cost:=d.cost+b.tracks }
    exact⟨h1,h2,h3,by rw[h4];simp⟩
  ·exact⟨rfl,rfl,rfl,rfl⟩
def HT (med:List Int) (es:List Be) (q:Be->Bool):List Int:=(List.range med.length).map fun(i:Nat)=>match es.find? fun e=>q e && decide (e.2.1=(i:Int)) with
 |some e=>e.2.2
 |none=>med[i]?.getD 0
theorem EV (med:List Int) (es:List Be) (q:Be->Bool):(HT med es q).length=med.length:=by simp[HT]
theorem Lx {med:List Int}{es:List Be}{q:Be->Bool}{i:Nat}(h:i<med.length):(HT med es q)[i]?.getD 0=match es.find? fun e=>q e && decide (e.2.1=(i:Int)) with
 |some e=>e.2.2
 |none=>med[i]?.getD 0:=by
 unfold HT
 rw[List.getElem?_map,List.getElem?_range h];rfl
def CZ (b:GB) (k:Int) (e:Be):Bool:=decide (b.band e.2.1=k)
def Ei (b:GB) (j:Ck) (d:D5):D5 :=
 let d1:D5:={ d with cleaned:=d.cleaned+1,cost:=d.cost+j.cost,med:=HT d.med d.es (CZ b j.band),es:=d.es.filter fun e=>!CZ b j.band e,cnt:=if j.cost=b.tracks then d.cnt.set j.band.toNat 0 else d.cnt }
 R4 b d.cnt.length (j.band.toNat+1) d1
def E8 (d:D5) (i:Nat):Int:=(D7 d.es (i:Int)).getD (d.med[i]?.getD 0)
theorem EX (b:GB) (j:Ck) (d:D5):(Ei b j d).es=d.es.filter fun e=>!CZ b j.band e:=(LZ b _ _ _).2.1
theorem IZ (b:GB) (j:Ck) (d:D5):(Ei b j d).med=HT d.med d.es (CZ b j.band):=(LZ b _ _ _).1
theorem E6 {es:List Be}(h:Co es) (q:Be->Bool):Co (es.filter q):=List.Nodup.sublist (List.Sublist.map _ List.filter_sublist) h
theorem S9 {es:List Be}(hd:Co es) {q:Be->Bool}{x:Int}{e:Be}(h:es.find? (fun e=>q e && decide (e.2.1=x))=some e):D7 es x=some e.2.2:=by
 have h1:=List.find?_some h
 rw[Bool.and_eq_true,decide_eq_true_eq] at h1
 rw[←h1.2]
 exact Qm hd (List.mem_of_find?_eq_some h)
theorem PA {b:GB}{j:Ck}{d:D5}(hd:Co d.es) {i:Nat}(hi:i<d.med.length):E8 (Ei b j d) i=E8 d i:=by
 unfold E8
 rw[EX,IZ,Lx hi]
 by_cases hb:b.band (i:Int)=j.band
 ·have hv:D7 (d.es.filter fun e=>!CZ b j.band e) (i:Int)=none:=by
   rw[G2]
   intro e he hx
   have:=(List.mem_filter.1 he).2
   unfold CZ at this
   rw[hx,decide_eq_true hb] at this
   cases this
  rw[hv,Option.getD_none]
  cases hf:d.es.find? fun e=>CZ b j.band e && decide (e.2.1=(i:Int)) with
  |some e=>rw[S9 hd hf];rfl
  |none =>
   have hn:D7 d.es (i:Int)=none:=by
    rw[G2]
    intro e he hx
    have:=List.find?_eq_none.1 hf e he
    unfold CZ at this
    rw[hx,decide_eq_true hb] at this
    simp at this
   rw[hn];rfl
 ·have hf:(d.es.find? fun e=>CZ b j.band e && decide (e.2.1=(i:Int)))=none:=by
   rw[List.find?_eq_none]
   intro e he
   by_cases hx:e.2.1=(i:Int)
   ·unfold CZ;rw[hx,decide_eq_false hb];simp
   ·rw[decide_eq_false hx];simp
  rw[hf]
  cases hv:D7 d.es (i:Int) with
  |none =>
   have:D7 (d.es.filter fun e=>!CZ b j.band e) (i:Int)=none:=by
    rw[G2] at hv ⊢
    exact fun e he=>hv e (List.mem_filter.1 he).1
   rw[this]
  |some v =>
   obtain⟨e,he,hx,hv2⟩:=N' hv
   have hk:e∈d.es.filter fun e=>!CZ b j.band e:=List.mem_filter.2 ⟨he,by unfold CZ;rw[hx,decide_eq_false hb];rfl⟩
   have:=Qm (E6 hd _) hk
   rw[hx,hv2] at this
   rw[this]
def VE (x y:Ck):Int:=if x.cost*y.blocks-y.cost*x.blocks≠0 then x.cost*y.blocks-y.cost*x.blocks else x.band-y.band
def II (m:Ck):List Ck->Ck
 |[]=>m
 |x::l=>II (if VE x m<0 then x else m) l
theorem Sl (l:List Ck):∀m,II m l=m\/II m l∈l:=by
 induction l with
 |nil=>exact fun m=>.inl rfl
 |cons x l ih =>
  intro m
  rw[II]
  rcases ih (if VE x m<0 then x else m) with h|h
  ·rw[h]
   split
   ·exact .inr List.mem_cons_self
   ·exact .inl rfl
  ·exact .inr (List.mem_cons_of_mem _ h)
def S3 (b:GB) (x:Int) (d:D5):Bool:=!(D7 d.es x).isSome && decide ((d.es.length:Int)=b.cache)
def H6 (x v:Int) (d:D5):D5:=if (D7 d.es x).isSome then { d with es:=d.es.map fun e=>if e.2.1=x then (e.1,x,v) else e } else { d with es:=d.es++[(d.cl,x,v)],cl:=d.cl+1 }
def Gm (b:GB) (x:Int) (d:D5):D5:=if S3 b x d then (match Fa b d.es with|m::l=>Ei b (II m l) d|[]=>d) else d
def Ef (b:GB) (x v:Int) (d:D5):D5:=H6 x v (Gm b x d)
theorem Wa {b:GB}{x:Int}{d:D5}(hd:Co d.es) {i:Nat}(hi:i<d.med.length):E8 (Gm b x d) i=E8 d i:=by
 unfold Gm
 split
 ·split
  ·exact PA hd hi
  ·rfl
 ·rfl
theorem P8 {b:GB}{x:Int}{d:D5}(hd:Co d.es):Co (Gm b x d).es/\(Gm b x d).med.length=d.med.length:=by
 unfold Gm
 split
 ·split
  ·rw[EX,IZ,EV];exact⟨E6 hd _,rfl⟩
  ·exact⟨hd,rfl⟩
 ·exact⟨hd,rfl⟩
theorem bO {x v:Int}{d:D5}(y:Int):D7 (H6 x v d).es y=if y=x then some v else D7 d.es y:=by
 unfold H6
 cases h:D7 d.es x with
 |some w =>
  rw[Option.isSome_some,if_pos rfl]
  show D7 (d.es.map fun e=>if e.2.1=x then (e.1,x,v) else e) y=_
  obtain⟨e0,he0,hx0,_⟩:=N' h
  generalize d.es=es at *
  by_cases hy:y=x
  ·rw[if_pos hy,hy]
   clear h
   induction es with
   |nil=>cases he0
   |cons e es ih =>
    unfold D7
    rw[List.map_cons,List.find?_cons]
    by_cases hex:e.2.1=x
    ·rw[if_pos hex];simp
    ·rw[if_neg hex,decide_eq_false hex]
     rcases List.mem_cons.1 he0 with rfl|he0
     ·exact absurd hx0 hex
     ·exact ih he0
  ·rw[if_neg hy]
   clear h he0
   induction es with
   |nil=>rfl
   |cons e es ih =>
    unfold D7 at ih ⊢
    rw[List.map_cons,List.find?_cons,List.find?_cons]
    by_cases hex:e.2.1=x
    ·rw[if_pos hex,hex,decide_eq_false (fun h=>hy h.symm)]
     exact ih
    ·rw[if_neg hex]
     cases decide (e.2.1=y) with
     |true=>rfl
     |false=>exact ih
 |none =>
  rw[Option.isSome_none,if_neg (by simp)]
  show D7 (d.es++[(d.cl,x,v)]) y=_
  have ha:D7 (d.es++[(d.cl,x,v)]) y=(D7 d.es y).or (D7 [(d.cl,x,v)] y):=by
   unfold D7
   rw[List.find?_append]
   cases d.es.find? fun e=>decide (e.2.1=y)<;>simp
  rw[ha]
  by_cases hy:y=x
  ·subst hy
   rw[if_pos rfl,h];simp[D7]
  ·rw[if_neg hy]
   have:D7 [(d.cl,x,v)] y=none:=by
    rw[G2]
    intro e he hx
    rw[List.mem_singleton] at he
    subst he
    exact hy hx.symm
   rw[this];cases D7 d.es y<;>rfl
theorem OU {x v:Int}{d:D5}(hd:Co d.es):Co (H6 x v d).es/\(H6 x v d).med=d.med:=by
 unfold H6
 cases h:D7 d.es x with
 |some w =>
  rw[Option.isSome_some,if_pos rfl]
  refine⟨?_,rfl⟩
  show Co (d.es.map fun e=>if e.2.1=x then (e.1,x,v) else e)
  have:(d.es.map fun e=>if e.2.1=x then (e.1,x,v) else e).map (·.2.1)=d.es.map (·.2.1):=by
   rw[List.map_map]
   refine List.map_congr_left fun e _=>?_
   show (if e.2.1=x then (e.1,x,v) else e).2.1=e.2.1
   split
   ·rename_i he;exact he.symm
   ·rfl
  unfold Co
  rw[this];exact hd
 |none =>
  rw[Option.isSome_none,if_neg (by simp)]
  refine⟨?_,rfl⟩
  show Co (d.es++[(d.cl,x,v)])
  unfold Co
  rw[List.map_append,List.nodup_append]
  refine⟨hd,by simp,fun y hy z hz he=>?_⟩
  obtain⟨e,he1,he2⟩:=List.mem_map.1 hy
  simp only[List.map_cons,List.map_nil,List.mem_singleton] at hz
  exact G2.1 h e he1 (by rw[he2,he,hz])
theorem Tm {b:GB}{x v:Int}{d:D5}(hd:Co d.es) {i:Nat}(hi:i<d.med.length):E8 (Ef b x v d) i=if (i:Int)=x then v else E8 d i:=by
 have hr:=Wa (b:=b) (x:=x) hd hi
 have h1:=P8 (b:=b) (x:=x) hd
 unfold Ef
 have h2:=OU (x:=x) (v:=v) h1.1
 have h3:E8 (H6 x v (Gm b x d)) i=(if (i:Int)=x then some v else D7 (Gm b x d).es (i:Int)).getD ((Gm b x d).med[i]?.getD 0):=by
  unfold E8;rw[bO,h2.2]
 rw[h3]
 by_cases hx:(i:Int)=x
 ·rw[if_pos hx,if_pos hx];rfl
 ·rw[if_neg hx,if_neg hx,←hr];rfl
theorem N7 {b:GB}{x v:Int}{d:D5}(hd:Co d.es):Co (Ef b x v d).es/\(Ef b x v d).med.length=d.med.length:=by
 have h1:=P8 (b:=b) (x:=x) hd
 have h2:=OU (x:=x) (v:=v) h1.1
 unfold Ef
 exact⟨h2.1,by rw[h2.2];exact h1.2⟩
end Go.Pw
end
section
open Go Go.Pw
namespace Go.Pw
abbrev Ga:=Int×Int
def Dl (b:GB):D5:=⟨List.replicate b.many.toNat 0,List.replicate b.bands.toNat 0,0,0,0,[],0⟩
def FC (b:GB) (l:List Ga):D5:=l.foldl (fun d w=>Ef b w.1 w.2 d) (Dl b)
theorem WW (b:GB) (l:List Ga) (w:Ga):FC b (l++[w])=Ef b w.1 w.2 (FC b l):=by simp[FC]
def L3 (l:List Ga) (i:Nat):Int:=l.foldl (fun v w=>if (i:Int)=w.1 then w.2 else v) 0
theorem Ue (l:List Ga) (w:Ga) (i:Nat):L3 (l++[w]) i=if (i:Int)=w.1 then w.2 else L3 l i:=by simp[L3]
theorem Vc (b:GB) (l:List Ga):Co (FC b l).es/\(FC b l).med.length=b.many.toNat:=by
 have key:∀(l:List Ga) (d:D5),Co d.es->Co (l.foldl (fun d w=>Ef b w.1 w.2 d) d).es/\(l.foldl (fun d w=>Ef b w.1 w.2 d) d).med.length=d.med.length:=by
  intro l
  induction l with
  |nil=>exact fun d h=>⟨h,rfl⟩
  |cons w l ih =>
   intro d h
   have h1:=N7 (b:=b) (x:=w.1) (v:=w.2) h
   have h2:=ih _ h1.1
   exact⟨h2.1,h2.2.trans h1.2⟩
 have:=key l (Dl b) (by unfold Co Dl;simp)
 exact⟨this.1,this.2.trans (by simp[Dl])⟩
theorem Yc (b:GB) (l:List Ga) {i:Nat}(hi:i<b.many.toNat):E8 (FC b l) i=L3 l i:=by
 have key:∀(l:List Ga) (d:D5) (v:Int),Co d.es->i<d.med.length->E8 d i=v->E8 (l.foldl (fun d w=>Ef b w.1 w.2 d) d) i=l.foldl (fun v w=>if (i:Int)=w.1 then w.2 else v) v:=by
  intro l
  induction l with
  |nil=>exact fun d v _ _ h=>h
  |cons w l ih =>
   intro d v hd hl h
   have h1:=N7 (b:=b) (x:=w.1) (v:=w.2) hd
   refine ih _ _ h1.1 (by rw[h1.2];exact hl) ?_
   rw[Tm hd hl,h]
 refine key l (Dl b) 0 (by unfold Co Dl;simp) (by simpa[Dl] using hi) ?_
 unfold E8 Dl
 rw[show D7 [] (i:Int)=none from rfl,Option.getD_none,List.getElem?_replicate,if_pos hi];rfl
def FB (b:GB) (js:List Ck) (d:D5):D5:=js.foldl (fun d j=>Ei b j d) d
theorem Oo (b:GB):∀(js:List Ck) {d:D5},Co d.es->∀{i:Nat},i<d.med.length->E8 (FB b js d) i=E8 d i
 |[],d,_,i,_=>rfl
 |j::js,d,hd,i,hi=>by
  show E8 (FB b js (Ei b j d)) i=_
  rw[Oo b js (by rw[EX];exact E6 hd _) (by rw[IZ,EV];exact hi),PA hd hi]
theorem QV (b:GB):∀(js:List Ck) (d:D5),(FB b js d).med.length=d.med.length
 |[],d=>rfl
 |j::js,d=>by
  show (FB b js (Ei b j d)).med.length=_
  rw[QV b js,IZ,EV]
theorem S4 (b:GB):∀(js:List Ck) (d:D5) (e:Be),e∈(FB b js d).es->e∈d.es/\∀j,j∈js->CZ b j.band e=false
 |[],d,e,h=>⟨h,fun j hj=>by cases hj⟩
 |j::js,d,e,h=>by
  obtain⟨h1,h2⟩:=S4 b js (Ei b j d) e h
  rw[EX] at h1
  obtain⟨h3,h4⟩:=List.mem_filter.1 h1
  refine⟨h3,fun j' hj'=>?_⟩
  rcases List.mem_cons.1 hj' with rfl|hj'
  ·simpa using h4
  ·exact h2 j' hj'
def X4 (b:GB) (es:List Be):Prop:=∀e,e∈es->0<=e.2.1/\e.2.1<b.many
theorem Rj {b:GB}(g:b.Good) {x:Int}(h0:0<=x) (h1:x<b.many):0<=b.band x/\b.band x<b.bands:=by
 have g2:=g.t;have g3:=g.k
 unfold GB.band GB.many at *
 have h2:x.tdiv b.blocks=x/b.blocks:=Int.tdiv_eq_ediv_of_nonneg h0
 have h3:0<=x/b.blocks:=Int.ediv_nonneg h0 (by omega)
 rw[h2,Int.tdiv_eq_ediv_of_nonneg h3]
 refine⟨Int.ediv_nonneg h3 (by omega),?_⟩
 refine Int.ediv_lt_of_lt_mul (by omega) ?_
 exact Int.ediv_lt_of_lt_mul (by omega) h1
theorem NN {b:GB}(g:b.Good) {d:D5}(h:X4 b d.es):(FB b (Fa b d.es) d).es=[]:=by
 rw[List.eq_nil_iff_forall_not_mem]
 intro e he
 obtain⟨h1,h2⟩:=S4 b _ d e he
 obtain⟨h3,h4⟩:=h e h1
 obtain⟨h5,h6⟩:=Rj g h3 h4
 obtain⟨j,hj,hb⟩:=NK (b:=b) h1 (k:=(b.band e.2.1).toNat) (by omega) (by omega)
 have:=h2 j hj
 unfold CZ at this
 rw[hb,decide_eq_false_iff_not] at this
 exact this (by omega)
theorem X9 {b:GB}{x v:Int}(hx:0<=x/\x<b.many) {d:D5}(h:X4 b d.es):X4 b (Ef b x v d).es:=by
 have h1:X4 b (Gm b x d).es:=by
  unfold Gm
  split
  ·split
   ·rw[EX];exact fun e he=>h e (List.mem_filter.1 he).1
   ·exact h
  ·exact h
 unfold Ef H6
 split
 ·intro e he
  obtain⟨e',he',rfl⟩:=List.mem_map.1 he
  split
  ·exact hx
  ·exact h1 e' he'
 ·intro e he
  rcases List.mem_append.1 he with he|he
  ·exact h1 e he
  ·rw[List.mem_singleton] at he
   subst he;exact hx
theorem d7 {b:GB}(l:List Ga) (hl:∀w,w∈l->0<=w.1/\w.1<b.many):X4 b (FC b l).es:=by
 have key:∀(l:List Ga) (d:D5),(∀w,w∈l->0<=w.1/\w.1<b.many)->X4 b d.es->X4 b (l.foldl (fun d w=>Ef b w.1 w.2 d) d).es:=by
  intro l
  induction l with
  |nil=>exact fun d _ h=>h
  |cons w l ih=>exact fun d hw h=>ih _ (fun u hu=>hw u (List.mem_cons_of_mem _ hu)) (X9 (hw w List.mem_cons_self) h)
 exact key l (Dl b) hl (fun e he=>by cases he)
theorem cY {b:GB}(g:b.Good) {l:List Ga}(hl:∀w,w∈l->0<=w.1/\w.1<b.many) {i:Nat}(hi:i<b.many.toNat) :
  (FB b (Fa b (FC b l).es) (FC b l)).med[i]?.getD 0=L3 l i/\E8 (FC b l) i=L3 l i:=by
 obtain⟨h1,h2⟩:=Vc b l
 have h3:=Yc b l hi
 have h4:=Oo b (Fa b (FC b l).es) h1 (i:=i) (by rw[h2];exact hi)
 have h5:=NN g (d7 l hl)
 rw[h3] at h4
 unfold E8 at h4
 rw[h5] at h4
 exact⟨h4,h3⟩
end Go.Pw
end
