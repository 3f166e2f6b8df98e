/- A part of the proof. -/
import Derived.Test.YtpcpcjbbdgmohaaPkVC
set_option linter.all false
open Go Go.Pw
namespace Go.Pw
structure Ao where
 last:Int
 speed:Int
 force:Int
 shake:Int
 gate:Int
 slow:Int
structure BT where
 at':Int
 sp:Int
 deriving DecidableEq
instance:Inhabited BT:=⟨⟨0,0⟩⟩
def Eg (n lo hi:Int):Bool:=decide (lo<=n) && decide (n<=hi)
theorem I4 {n lo hi:Int}:Eg n lo hi=true↔lo<=n/\n<=hi:=by simp[Eg]
def Ao.ok (a:Ao):Bool:=Eg a.last 0 40 && (Eg a.speed 0 8 && (Eg a.force 0 4 && (Eg a.shake 0 2 && (Eg a.gate 0 4 && Eg a.slow 0 a.speed))))
structure Ao.Good (a:Ao):Prop where
 l:0<=a.last/\a.last<=40
 s:0<=a.speed/\a.speed<=8
 f:0<=a.force/\a.force<=4
 k:0<=a.shake/\a.shake<=2
 g:0<=a.gate/\a.gate<=4
 w:0<=a.slow/\a.slow<=a.speed
theorem IV {a:Ao}(h:a.ok=true):a.Good:=by
 simp only[Ao.ok,Bool.and_eq_true,I4] at h
 exact⟨h.1,h.2.1,h.2.2.1,h.2.2.2.1,h.2.2.2.2.1,h.2.2.2.2.2⟩
def Ao.has (a:Ao) (s:BT):Bool:=Eg s.at' 0 a.last && Eg s.sp (-a.speed) a.speed
theorem Kj {a:Ao}{s:BT}:a.has s=true↔(0<=s.at'/\s.at'<=a.last)/\(-a.speed<=s.sp/\s.sp<=a.speed):=by simp only[Ao.has,Bool.and_eq_true,I4]
def Nb (s:BT) (c k:Int):BT:=⟨s.at'+(s.sp+(c+k)),s.sp+(c+k)⟩
def ND (a:Ao) (p:BT->Bool) (s:BT) (c k:Int):Bool:=a.has (Nb s c k) && p (Nb s c k)
def Ru (a:Ao) (p:BT->Bool) (s:BT) (c:Int):Bool:=(List.range (2*a.shake+1).toNat).all fun(i:Nat)=>ND a p s c ((i:Int)-a.shake)
theorem KX {a:Ao}{p:BT->Bool}{s:BT}{c:Int}:Ru a p s c=true↔∀k,-a.shake<=k->k<=a.shake->ND a p s c k=true:=by
 unfold Ru
 rw[List.all_eq_true]
 constructor
 ·intro h k h1 h2
  have:=h (k+a.shake).toNat (by rw[List.mem_range];omega)
  rw[show (((k+a.shake).toNat:Nat):Int)-a.shake=k by omega] at this
  exact this
 ·intro h i hi
  rw[List.mem_range] at hi
  exact h _ (by omega) (by omega)
theorem PM {a:Ao}{p:BT->Bool}{s:BT}{c k:Int}(h1:-a.shake<=k) (h2:k<=a.shake) (h:ND a p s c k=false):Ru a p s c=false:=by
 cases ho:Ru a p s c with
 |false=>rfl
 |true=>rw[KX.1 ho k h1 h2] at h;cases h
def Pa (a:Ao):List Int:=(List.range (2*a.force+1).toNat).map fun(i:Nat)=>(i:Int)-a.force
def Ft (a:Ao) (p:BT->Bool) (s:BT):Option Int:=(Pa a).find? (Ru a p s)
theorem Wn (a:Ao):(Pa a).length=(2*a.force+1).toNat:=by simp[Pa]
theorem Qy {a:Ao}{i:Nat}(h:i<(Pa a).length):(Pa a)[i]=(i:Int)-a.force:=by simp[Pa]
theorem Og {a:Ao}{p:BT->Bool}{s:BT}{c:Int}(h1:-a.force<=c) (h2:c<=a.force) (hb:∀d,-a.force<=d->d<c->Ru a p s d=false) (ho:Ru a p s c=true):Ft a p s=some c:=by
 unfold Ft
 rw[List.find?_eq_some_iff_getElem]
 refine⟨ho,(c+a.force).toNat,by rw[Wn];omega,?_,fun j hj=>?_⟩
 ·rw[Qy];omega
 ·rw[Qy]
  rw[hb _ (by omega) (by omega)];rfl
theorem Qz {a:Ao}{p:BT->Bool}{s:BT}(h:∀d,-a.force<=d->d<=a.force->Ru a p s d=false):Ft a p s=none:=by
 unfold Ft
 rw[List.find?_eq_none]
 intro c hc
 simp only[Pa,List.mem_map,List.mem_range] at hc
 obtain⟨i,hi,rfl⟩:=hc
 rw[h _ (by omega) (by omega)];simp
theorem NO {a:Ao}{p:BT->Bool}{s:BT}{c:Int}(h:Ft a p s=some c):(-a.force<=c/\c<=a.force)/\Ru a p s c=true:=by
 unfold Ft at h
 have h1:=List.find?_some h
 have h2:=List.mem_of_find?_eq_some h
 simp only[Pa,List.mem_map,List.mem_range] at h2
 obtain⟨i,hi,rfl⟩:=h2
 exact⟨by omega,h1⟩
theorem Uv {a:Ao}{p q:BT->Bool}(h:∀x,p x=q x) (s:BT):Ft a p s=Ft a q s:=by rw[show p=q from funext h]
theorem IT {a:Ao}{p q:BT->Bool}{s:BT}(h:∀x,p x=true->q x=true) (hp:(Ft a p s).isSome=true):(Ft a q s).isSome=true:=by
 obtain⟨c,hc⟩:=Option.isSome_iff_exists.1 hp
 obtain⟨h1,h2⟩:=NO hc
 unfold Ft
 rw[List.find?_isSome]
 refine⟨c,?_,?_⟩
 ·simp only[Pa,List.mem_map,List.mem_range]
  exact⟨(c+a.force).toNat,by omega,by omega⟩
 ·rw[KX] at h2 ⊢
  intro k k1 k2
  have:=h2 k k1 k2
  unfold ND at this ⊢
  rw[Bool.and_eq_true] at this ⊢
  exact⟨this.1,h _ this.2⟩
def Ao.spots (a:Ao):List BT:=(List.range (a.last+1).toNat).flatMap fun(i:Nat)=>(List.range (2*a.speed+1).toNat).map fun(j:Nat)=>⟨(i:Int),(j:Int)-a.speed⟩
theorem OZ {α:Type}(A m:Nat) (g:Nat->Nat->α):((List.range A).flatMap fun i=>(List.range m).map (g i)).length=A*m:=by
 induction A with
 |zero=>simp
 |succ A ih=>rw[List.range_succ,List.flatMap_append,List.length_append,ih];simp[Nat.succ_mul]
theorem UP {α:Type}{A m:Nat}(g:Nat->Nat->α) {i j:Nat}(hi:i<A) (hj:j<m):((List.range A).flatMap fun i=>(List.range m).map (g i))[i*m+j]?=some (g i j):=by
 induction A with
 |zero=>omega
 |succ A ih =>
  have hl:=OZ A m g
  rw[List.range_succ,List.flatMap_append]
  by_cases h:i<A
  ·have h1:i*m+j<A*m:=by
    have:=Nat.mul_le_mul_right m (show i+1<=A from h);rw[Nat.succ_mul] at this;omega
   rw[List.getElem?_append_left (by rw[hl];exact h1)];exact ih h
  ·have:i=A:=by omega
   subst this
   rw[List.getElem?_append_right (by rw[hl];omega),hl,show i*m+j-i*m=j by omega]
   simp[hj]
theorem N8 (a:Ao):a.spots.length=(a.last+1).toNat * (2*a.speed+1).toNat:=OZ _ _ _
theorem TN (a:Ao) {i j:Nat}(hi:i<(a.last+1).toNat) (hj:j<(2*a.speed+1).toNat):a.spots[i*(2*a.speed+1).toNat+j]?=some ⟨(i:Int),(j:Int)-a.speed⟩ :=
 UP (fun i j=>(⟨(i:Int),(j:Int)-a.speed⟩:BT)) hi hj
theorem Iv {a:Ao}{s:BT}:s∈a.spots↔a.has s=true:=by
 rw[Kj]
 unfold Ao.spots
 simp only[List.mem_flatMap,List.mem_range,List.mem_map]
 constructor
 ·rintro⟨i,hi,j,hj,rfl⟩
  exact⟨⟨by show (0:Int)<=(i:Int);omega,by show (i:Int)<=a.last;omega⟩,by show -a.speed<=(j:Int)-a.speed;omega,by show (j:Int)-a.speed<=a.speed;omega⟩
 ·rintro⟨⟨h1,h2⟩,h3,h4⟩
  refine⟨s.at'.toNat,by omega,(s.sp+a.speed).toNat,by omega,?_⟩
  obtain⟨x,y⟩:=s
  simp only at h1 h2 h3 h4 ⊢
  congr 1<;>omega
theorem Eu (a:Ao):a.spots.Nodup:=by
 unfold Ao.spots
 rw[List.Nodup,List.pairwise_flatMap]
 refine⟨fun i _=>?_,?_⟩
 ·rw[List.pairwise_map]
  refine List.Pairwise.imp ?_ List.nodup_range
  intro x y hxy h
  simp only[BT.mk.injEq,true_and] at h
  omega
 ·refine List.Pairwise.imp ?_ List.nodup_range
  intro x y hxy s hs t ht h
  simp only[List.mem_map,List.mem_range] at hs ht
  obtain⟨_,_,rfl⟩:=hs
  obtain⟨_,_,rfl⟩:=ht
  simp only[BT.mk.injEq] at h
  omega
abbrev Ay:=Nat×BT×Int
def Co (es:List Ay) (x:BT):Option Int:=(es.find? fun e=>decide (e.2.1=x)).map (·.2.2)
def CA (es:List Ay) (x:BT):Bool:=(Co es x).isSome
theorem H8 {es:List Ay}{x:BT}:CA es x=true↔∃e,e∈es/\e.2.1=x:=by
 unfold CA Co
 rw[Option.isSome_map,List.find?_isSome]
 simp
theorem Lh (l k:List Ay) (x:BT):Co (l++k) x=(Co l x).or (Co k x):=by
 unfold Co
 rw[List.find?_append]
 cases l.find? fun e=>decide (e.2.1=x)<;>simp
def JK (es:List Ay):Prop:=(es.map (·.2.1)).Nodup
theorem Et {es:List Ay}{x:BT}{v:Int}(h:Co es x=some v):∃e,e∈es/\e.2.1=x/\e.2.2=v:=by
 unfold Co at h
 simp only[Option.map_eq_some_iff] at h
 obtain⟨e,h1,h2⟩:=h
 have:=List.find?_some h1
 exact⟨e,List.mem_of_find?_eq_some h1,by simpa using this,h2⟩
def EX (a:Ao) (es:List Ay):List Ay:=es.filter fun e=>(Ft a (CA es) e.2.1).isSome
def HR (a:Ao):Nat->List Ay->List Ay
 |0,es=>es
 |n+1,es=>if (EX a es).length=es.length then es else HR a n (EX a es)
def Dz (l:List BT) (cl:Nat) (v:Int):List Ay:=(l.zipIdx).map fun p=>(cl+p.2,p.1,v)
theorem QR (l:List BT) (cl:Nat) (v:Int):(Dz l cl v).length=l.length:=by simp[Dz]
theorem OM (l:List BT) (x:BT) (cl:Nat) (v:Int):Dz (l++[x]) cl v=Dz l cl v++[(cl+l.length,x,v)]:=by
 unfold Dz
 rw[List.zipIdx_append,List.map_append];simp
theorem KY (l:List BT) (cl:Nat) (v:Int):(Dz l cl v).map (·.2.1)=l:=by
 unfold Dz
 rw[List.map_map]
 show (l.zipIdx).map (fun p=>p.1)=l
 exact List.zipIdx_map_fst 0 l
theorem EO {l:List BT}{cl:Nat}{v:Int}{e:Ay}(he:e∈Dz l cl v):e.2.2=v/\e.2.1∈l:=by
 refine⟨?_,?_⟩
 ·simp only[Dz,List.mem_map] at he
  obtain⟨p,_,rfl⟩:=he;rfl
 ·have:=List.mem_map_of_mem (f:=fun e:Ay=>e.2.1) he
  rw[KY] at this;exact this
theorem M5 (l:List BT) (cl:Nat) (v:Int) (x:BT):CA (Dz l cl v) x=decide (x∈l):=by
 rw[Bool.eq_iff_iff,H8,decide_eq_true_eq]
 constructor
 ·rintro⟨e,he,rfl⟩;exact(EO he).2
 ·intro hx
  rw[←KY l cl v,List.mem_map] at hx
  exact hx
def F6 (a:Ao) (p:BT->Bool):List Ay:=Dz (a.spots.filter p) 0 0
def Fc (a:Ao) (p:BT->Bool):List Ay:=HR a (F6 a p).length (F6 a p)
theorem OW (a:Ao):∀(n:Nat) (es:List Ay),es.length<=n->EX a (HR a n es)=HR a n es
 |0,es,h=>by
  have:es=[]:=List.eq_nil_of_length_eq_zero (by omega)
  subst this;rfl
 |n+1,es,h=>by
  rw[HR]
  split
  ·rename_i he
   unfold EX at he ⊢
   exact List.filter_eq_self.2 (List.length_filter_eq_length_iff.1 he)
  ·rename_i he
   have:=List.length_filter_le (fun e:Ay=>(Ft a (CA es) e.2.1).isSome) es
   exact OW a n _ (by unfold EX at he ⊢;omega)
theorem OV (a:Ao):∀(n:Nat) (es:List Ay) (e:Ay),e∈HR a n es->e∈es
 |0,es,e,h=>h
 |n+1,es,e,h=>by
  rw[HR] at h
  split at h
  ·exact h
  ·exact(List.mem_filter.1 (OV a n _ e h)).1
theorem NB (a:Ao):∀(n:Nat) (es:List Ay),JK es->JK (HR a n es)
 |0,es,h=>h
 |n+1,es,h=>by
  rw[HR]
  split
  ·exact h
  ·refine NB a n _ ?_
   unfold EX JK at *
   exact List.Nodup.sublist (List.Sublist.map _ List.filter_sublist) h
theorem UD (a:Ao) (p:BT->Bool):JK (Fc a p):=by
 refine NB a _ _ ?_
 unfold JK F6
 rw[KY]
 exact List.Nodup.sublist List.filter_sublist (Eu a)
theorem IA {a:Ao}{p:BT->Bool}{e:Ay}(he:e∈Fc a p):e.2.2=0/\a.has e.2.1=true/\p e.2.1=true/\(Ft a (CA (Fc a p)) e.2.1).isSome=true:=by
 have h1:=OV a _ _ e he
 obtain⟨h2,h3⟩:=EO h1
 have h4:=List.mem_filter.1 h3
 have h5:=OW a _ (F6 a p) (Nat.le_refl _)
 have h6:e∈EX a (Fc a p):=by unfold Fc;rw[h5];exact he
 exact⟨h2,Iv.1 h4.1,h4.2,(List.mem_filter.1 h6).2⟩
def D5 (a:Ao) (es:List Ay):List BT:=a.spots.filter fun s=>!CA es s && (Ft a (CA es) s).isSome
def M_ (a:Ao) (es:List Ay):Nat:=(a.spots.filter fun s=>!CA es s).length
theorem LP {α:Type}{p q:α->Bool}(h:∀x,q x=true->p x=true):∀{l:List α}{x:α},x∈l->p x=true->q x=false->(l.filter q).length<(l.filter p).length
 |[],x,hx,_,_=>by cases hx
 |y::l,x,hx,h1,h2=>by
  have hle:(l.filter q).length<=(l.filter p).length:=by
   clear hx
   induction l with
   |nil=>simp
   |cons z l ih =>
    rw[List.filter_cons,List.filter_cons]
    cases hq:q z with
    |true=>rw[h z hq];simp;exact ih
    |false=>cases hp:p z<;>simp<;>omega
  rw[List.filter_cons,List.filter_cons]
  rcases List.mem_cons.1 hx with rfl|hx
  ·rw[h1,h2];simp;omega
  ·have:=LP h hx h1 h2
   cases hq:q y with
   |true=>rw[h y hq];simpa using this
   |false=>cases hp:p y<;>simp<;>omega
theorem M8 (es:List Ay) (l:List BT) (cl:Nat) (v:Int) (x:BT):CA (es++Dz l cl v) x=(CA es x || decide (x∈l)):=by
 have h:=M5 l cl v x
 unfold CA at h ⊢
 rw[Lh]
 cases hv:Co es x with
 |none=>simpa using h
 |some w=>simp
theorem S4 {a:Ao}{es:List Ay}{cl:Nat}{v:Int}(h:D5 a es≠[]):M_ a (es++Dz (D5 a es) cl v)<M_ a es:=by
 obtain⟨x,hx⟩:=List.exists_mem_of_ne_nil _ h
 have hx':=List.mem_filter.1 hx
 simp only[Bool.and_eq_true] at hx'
 refine LP (fun y hy=>?_) hx'.1 hx'.2.1 ?_
 ·rw[M8] at hy
  cases hm:CA es y with
  |false=>rfl
  |true=>rw[hm] at hy;simp at hy
 ·rw[M8,decide_eq_true hx,Bool.or_true];rfl
def My (a:Ao):Nat->Int->List Ay->Nat->List Ay×Nat
 |0,_,es,cl=>(es,cl)
 |f+1,n,es,cl=>if D5 a es=[] then (es,cl) else My a f (n+1) (es++Dz (D5 a es) cl n) (cl+(D5 a es).length)
def JN (a:Ao) (p:BT->Bool):List Ay×Nat:=My a (M_ a (Fc a p)+1) 1 (Fc a p) (F6 a p).length
structure HX (a:Ao) (p:BT->Bool) (n:Int) (es:List Ay):Prop where
 d:JK es
 v:∀e,e∈es->0<=e.2.2/\e.2.2<n
 h:∀e,e∈es->a.has e.2.1=true
 z:∀e,e∈es->e.2.2=0->p e.2.1=true/\(Ft a (fun x=>decide (Co es x=some 0)) e.2.1).isSome=true
 s:∀e,e∈es->0<e.2.2->(Ft a (fun x=>match Co es x with|some m=>decide (m<e.2.2)|none=>false) e.2.1).isSome=true
theorem Rk (a:Ao) (p:BT->Bool):HX a p 1 (Fc a p) where
 d:=UD a p
 v:=fun e he=>by have:=(IA he).1;omega
 h:=fun e he=>(IA he).2.1
 z:=fun e he _=>by
  obtain⟨h1,h2,h3,h4⟩:=IA he
  refine⟨h3,?_⟩
  rw[Uv (q:=CA (Fc a p))]
  ·exact h4
  ·intro x
   rw[Bool.eq_iff_iff,decide_eq_true_eq]
   unfold CA
   constructor
   ·intro h;rw[h];rfl
   ·intro h
    obtain⟨v,hv⟩:=Option.isSome_iff_exists.1 h
    obtain⟨e',h5,h6,h7⟩:=Et hv
    rw[hv,←h7,(IA h5).1]
 s:=fun e he hp=>by have:=(IA he).1;omega
theorem Tp {a:Ao}{p:BT->Bool}{n:Int}{es:List Ay}(h:HX a p n es) (hn:1<=n) (cl:Nat):HX a p (n+1) (es++Dz (D5 a es) cl n):=by
 have hnew:∀{x},x∈D5 a es->a.has x=true/\CA es x=false/\(Ft a (CA es) x).isSome=true:=fun {x} hx=>by
  have hx':=List.mem_filter.1 hx
  simp only[Bool.and_eq_true] at hx'
  exact⟨Iv.1 hx'.1,by simpa using hx'.2.1,hx'.2.2⟩
 have hval:∀x v,Co (es++Dz (D5 a es) cl n) x=some v↔Co es x=some v\/(Co es x=none/\x∈D5 a es/\v=n):=fun x v=>by
  rw[Lh]
  cases hx:Co es x with
  |some w=>simp
  |none =>
   simp only[Option.or_none,Option.none_or,reduceCtorEq,false_or,true_and]
   constructor
   ·intro hv
    obtain⟨e,h1,h2,h3⟩:=Et hv
    obtain⟨h4,h5⟩:=EO h1
    exact⟨by rw[←h2];exact h5,by rw[←h3];exact h4⟩
   ·rintro⟨h1,rfl⟩
    have hm:=M5 (D5 a es) cl v x
    rw[decide_eq_true h1] at hm
    obtain⟨w,hw⟩:=Option.isSome_iff_exists.1 hm
    obtain⟨e,h3,h4,h5⟩:=Et hw
    rw[hw,←h5,(EO h3).1]
 have hdist:JK (es++Dz (D5 a es) cl n):=by
  unfold JK
  rw[List.map_append,KY,List.nodup_append]
  refine⟨h.d,List.Nodup.sublist List.filter_sublist (Eu a),fun x hx y hy he=>?_⟩
  subst he
  have:=(hnew hy).2.1
  rw[List.mem_map] at hx
  rw[H8.2 hx] at this;cases this
 have hlt:∀x v,Co es x=some v->0<=v/\v<n:=fun x v hv=>by
  obtain⟨e,h1,_,h3⟩:=Et hv
  rw[←h3];exact h.v e h1
 refine⟨hdist,fun e he=>?_,fun e he=>?_,fun e he hz=>?_,fun e he hp=>?_⟩
 ·rcases List.mem_append.1 he with he|he
  ·have:=h.v e he;omega
  ·rw[(EO he).1];omega
 ·rcases List.mem_append.1 he with he|he
  ·exact h.h e he
  ·exact(hnew (EO he).2).1
 ·rcases List.mem_append.1 he with he|he
  ·obtain⟨h1,h2⟩:=h.z e he hz
   refine⟨h1,IT (fun x hx=>?_) h2⟩
   rw[decide_eq_true_eq] at hx ⊢
   rw[hval];exact .inl hx
  ·rw[(EO he).1] at hz;omega
 ·rcases List.mem_append.1 he with he|he
  ·refine IT (fun x hx=>?_) (h.s e he hp)
   cases hx0:Co es x with
   |none=>rw[hx0] at hx;simp at hx
   |some m =>
    rw[hx0] at hx
    rw[(hval x m).2 (.inl hx0)];exact hx
  ·obtain⟨h1,h2⟩:=EO he
   refine IT (fun x hx=>?_) (hnew h2).2.2
   unfold CA at hx
   obtain⟨m,hm⟩:=Option.isSome_iff_exists.1 hx
   rw[(hval x m).2 (.inl hm)]
   simp only[decide_eq_true_eq]
   rw[h1];exact(hlt x m hm).2
theorem Mx {a:Ao}{p:BT->Bool}:∀(f:Nat) {n:Int}{es:List Ay}{cl:Nat},HX a p n es->1<=n->∃m,HX a p m (My a f n es cl).1
 |0,n,es,cl,h,_=>⟨n,h⟩
 |f+1,n,es,cl,h,hn=>by
  rw[My]
  split
  ·exact⟨n,h⟩
  ·exact Mx f (Tp h hn cl) (by omega)
theorem OI (a:Ao) (p:BT->Bool):∃m,HX a p m (JN a p).1:=Mx _ (Rk a p) (Int.le_refl 1)
def Xl (es:List Ay) (n:Int) (x:BT):Bool:=match Co es x with
 |some m=>decide (m<n) || (decide (n=0) && decide (m=0))
 |none=>false
def FE (a:Ao) (es:List Ay) (s:BT):Int:=(Ft a (Xl es ((Co es s).getD 0)) s).getD 0
theorem Xo {a:Ao}{p:BT->Bool}{m:Int}{es:List Ay}(h:HX a p m es) {s:BT}{n:Int}(hs:Co es s=some n) {k:Int}(k1:-a.shake<=k) (k2:k<=a.shake) :
  a.has (Nb s (FE a es s) k)=true/\∃v,Co es (Nb s (FE a es s) k)=some v/\0<=v/\(v<n\/(n=0/\v=0)):=by
 have hsome:(Ft a (Xl es n) s).isSome=true:=by
  obtain⟨e,he,h1,h2⟩:=Et hs
  have hv:=h.v e he
  by_cases hz:n=0
  ·subst hz
   have:=(h.z e he h2).2
   rw[h1] at this
   refine IT (fun x hx=>?_) this
   rw[decide_eq_true_eq] at hx
   unfold Xl;rw[hx];rfl
  ·have:=h.s e he (by omega)
   rw[h1] at this
   refine IT (fun x hx=>?_) this
   unfold Xl
   cases hx0:Co es x with
   |none=>rw[hx0] at hx;simp at hx
   |some v=>rw[hx0,h2] at hx;simp only at hx ⊢;rw[hx];rfl
 obtain⟨c,hc⟩:=Option.isSome_iff_exists.1 hsome
 have hC:FE a es s=c:=by unfold FE;rw[hs,Option.getD_some,hc];rfl
 rw[hC]
 have:=KX.1 (NO hc).2 k k1 k2
 unfold ND at this
 rw[Bool.and_eq_true] at this
 refine⟨this.1,?_⟩
 have hp:=this.2
 unfold Xl at hp
 cases hv:Co es (Nb s c k) with
 |none=>rw[hv] at hp;simp at hp
 |some v =>
  rw[hv] at hp
  simp only[Bool.or_eq_true,Bool.and_eq_true,decide_eq_true_eq] at hp
  obtain⟨e,he,_,h2⟩:=Et hv
  have:=h.v e he
  exact⟨v,rfl,by omega,hp⟩
def FQ (a:Ao) (es:List Ay) (s:BT) (ks:List Int):Nat->BT
 |0=>s
 |i+1=>Nb (FQ a es s ks i) (FE a es (FQ a es s ks i)) (ks[i]?.getD 0)
theorem MU {a:Ao}{p:BT->Bool}{m:Int}{es:List Ay}(h:HX a p m es) {s:BT}{n:Int}(hs:Co es s=some n) {ks:List Int}(hk:∀i,i<ks.length->-a.shake<=ks[i]?.getD 0/\ks[i]?.getD 0<=a.shake) :
  ∀i,i<=ks.length->∃v,Co es (FQ a es s ks i)=some v/\0<=v/\(v<=n-i\/v=0)
 |0,_=>by
  obtain⟨e,he,_,h2⟩:=Et hs
  have:=h.v e he
  exact⟨n,hs,by omega,.inl (by omega)⟩
 |i+1,hi=>by
  obtain⟨v,h1,h2,h3⟩:=MU h hs hk i (by omega)
  obtain⟨k1,k2⟩:=hk i (by omega)
  obtain⟨h4,w,h5,h6,h7⟩:=Xo h h1 k1 k2
  exact⟨w,h5,h6,by rcases h7 with h7|h7<;>rcases h3 with h3|h3<;>omega⟩
theorem Ou {a:Ao}{p:BT->Bool}{m:Int}{es:List Ay}(h:HX a p m es) {s:BT}{n:Int}(hs:Co es s=some n):a.has s=true/\(n=0->p s=true):=by
 obtain⟨e,he,h1,h2⟩:=Et hs
 subst h1
 exact⟨h.h e he,fun hz=>(h.z e he (by omega)).1⟩
end Go.Pw
