/- A part of the proof. -/
import Derived.Test.YtpcpcjbbdgmohaaGreatPwInt
set_option linter.all false
open Go Go.Pw
namespace Go.Pw
structure A1 where
 last:Int
 speed:Int
 force:Int
 shake:Int
 gate:Int
 slow:Int
structure Bv where
 at':Int
 sp:Int
 deriving DecidableEq
instance:Inhabited Bv:=⟨⟨0,0⟩⟩
def Gn (n lo hi:Int):Bool:=decide (lo<=n) && decide (n<=hi)
theorem Nb {n lo hi:Int}:Gn n lo hi=true↔lo<=n/\n<=hi:=by simp[Gn]
def A1.ok (a:A1):Bool:=Gn a.last 0 40 && (Gn a.speed 0 8 && (Gn a.force 0 4 && (Gn a.shake 0 2 && (Gn a.gate 0 4 && Gn a.slow 0 a.speed))))
structure A1.Good (a:A1):Prop where
 l:0<=a.last/\a.last<=40
 s:0<=a.speed/\a.speed<=8
 f:0<=a.force/\a.force<=4
 k:0<=a.shake/\a.shake<=2
 g:0<=a.gate/\a.gate<=4
 w:0<=a.slow/\a.slow<=a.speed
theorem Kv {a:A1}(h:a.ok=true):a.Good:=by
 simp only[A1.ok,Bool.and_eq_true,Nb] at h
 exact⟨h.1,h.2.1,h.2.2.1,h.2.2.2.1,h.2.2.2.2.1,h.2.2.2.2.2⟩
def A1.has (a:A1) (s:Bv):Bool:=Gn s.at' 0 a.last && Gn s.sp (-a.speed) a.speed
theorem UX {a:A1}{s:Bv}:a.has s=true↔(0<=s.at'/\s.at'<=a.last)/\(-a.speed<=s.sp/\s.sp<=a.speed):=by simp only[A1.has,Bool.and_eq_true,Nb]
def R3 (s:Bv) (c k:Int):Bv:=⟨s.at'+(s.sp+(c+k)),s.sp+(c+k)⟩
def RM (a:A1) (p:Bv->Bool) (s:Bv) (c k:Int):Bool:=a.has (R3 s c k) && p (R3 s c k)
def Xh (a:A1) (p:Bv->Bool) (s:Bv) (c:Int):Bool:=(List.range (2*a.shake+1).toNat).all fun(i:Nat)=>RM a p s c ((i:Int)-a.shake)
theorem NO {a:A1}{p:Bv->Bool}{s:Bv}{c:Int}:Xh a p s c=true↔∀k,-a.shake<=k->k<=a.shake->RM a p s c k=true:=by
 unfold Xh
 rw[List.all_eq_true]
 constructor
 ·intro h k h1 h2
  have:=h (k+a.shake).toNat (by rw[List.mem_range];omega)
  rw[show (((k+a.shake).toNat:Nat):Int)-a.shake=k by omega] at this
  exact this
 ·intro h i hi
  rw[List.mem_range] at hi
  exact h _ (by omega) (by omega)
theorem UT {a:A1}{p:Bv->Bool}{s:Bv}{c k:Int}(h1:-a.shake<=k) (h2:k<=a.shake) (h:RM a p s c k=false):Xh a p s c=false:=by
 cases ho:Xh a p s c with
 |false=>rfl
 |true=>rw[NO.1 ho k h1 h2] at h;cases h
def Up (a:A1):List Int:=(List.range (2*a.force+1).toNat).map fun(i:Nat)=>(i:Int)-a.force
def HQ (a:A1) (p:Bv->Bool) (s:Bv):Option Int:=(Up a).find? (Xh a p s)
theorem fA (a:A1):(Up a).length=(2*a.force+1).toNat:=by simp[Up]
theorem WX {a:A1}{i:Nat}(h:i<(Up a).length):(Up a)[i]=(i:Int)-a.force:=by simp[Up]
theorem Tf {a:A1}{p:Bv->Bool}{s:Bv}{c:Int}(h1:-a.force<=c) (h2:c<=a.force) (hb:∀d,-a.force<=d->d<c->Xh a p s d=false) (ho:Xh a p s c=true):HQ a p s=some c:=by
 unfold HQ
 rw[List.find?_eq_some_iff_getElem]
 refine⟨ho,(c+a.force).toNat,by rw[fA];omega,?_,fun j hj=>?_⟩
 ·rw[WX];omega
 ·rw[WX]
  rw[hb _ (by omega) (by omega)];rfl
theorem WY {a:A1}{p:Bv->Bool}{s:Bv}(h:∀d,-a.force<=d->d<=a.force->Xh a p s d=false):HQ a p s=none:=by
 unfold HQ
 rw[List.find?_eq_none]
 intro c hc
 simp only[Up,List.mem_map,List.mem_range] at hc
 obtain⟨i,hi,rfl⟩:=hc
 rw[h _ (by omega) (by omega)];simp
theorem Rh {a:A1}{p:Bv->Bool}{s:Bv}{c:Int}(h:HQ a p s=some c):(-a.force<=c/\c<=a.force)/\Xh a p s c=true:=by
 unfold HQ at h
 have h1:=List.find?_some h
 have h2:=List.mem_of_find?_eq_some h
 simp only[Up,List.mem_map,List.mem_range] at h2
 obtain⟨i,hi,rfl⟩:=h2
 exact⟨by omega,h1⟩
theorem bT {a:A1}{p q:Bv->Bool}(h:∀x,p x=q x) (s:Bv):HQ a p s=HQ a q s:=by rw[show p=q from funext h]
theorem Kt {a:A1}{p q:Bv->Bool}{s:Bv}(h:∀x,p x=true->q x=true) (hp:(HQ a p s).isSome=true):(HQ a q s).isSome=true:=by
 obtain⟨c,hc⟩:=Option.isSome_iff_exists.1 hp
 obtain⟨h1,h2⟩:=Rh hc
 unfold HQ
 rw[List.find?_isSome]
 refine⟨c,?_,?_⟩
 ·simp only[Up,List.mem_map,List.mem_range]
  exact⟨(c+a.force).toNat,by omega,by omega⟩
 ·rw[NO] at h2 ⊢
  intro k k1 k2
  have:=h2 k k1 k2
  unfold RM at this ⊢
  rw[Bool.and_eq_true] at this ⊢
  exact⟨this.1,h _ this.2⟩
def A1.spots (a:A1):List Bv:=(List.range (a.last+1).toNat).flatMap fun(i:Nat)=>(List.range (2*a.speed+1).toNat).map fun(j:Nat)=>⟨(i:Int),(j:Int)-a.speed⟩
theorem TU {α:Type}(A m:Nat) (g:Nat->Nat->α):((List.range A).flatMap fun i=>(List.range m).map (g i)).length=A*m:=by
 induction A with
 |zero=>simp
 |succ A ih=>rw[List.range_succ,List.flatMap_append,List.length_append,ih];simp[Nat.succ_mul]
theorem ah {α:Type}{A m:Nat}(g:Nat->Nat->α) {i j:Nat}(hi:i<A) (hj:j<m):((List.range A).flatMap fun i=>(List.range m).map (g i))[i*m+j]?=some (g i j):=by
 induction A with
 |zero=>omega
 |succ A ih =>
  have hl:=TU A m g
  rw[List.range_succ,List.flatMap_append]
  by_cases h:i<A
  ·have h1:i*m+j<A*m:=by
    have:=Nat.mul_le_mul_right m (show i+1<=A from h);rw[Nat.succ_mul] at this;omega
   rw[List.getElem?_append_left (by rw[hl];exact h1)];exact ih h
  ·have:i=A:=by omega
   subst this
   rw[List.getElem?_append_right (by rw[hl];omega),hl,show i*m+j-i*m=j by omega]
   simp[hj]
theorem Sw (a:A1):a.spots.length=(a.last+1).toNat * (2*a.speed+1).toNat:=TU _ _ _
theorem ZP (a:A1) {i j:Nat}(hi:i<(a.last+1).toNat) (hj:j<(2*a.speed+1).toNat):a.spots[i*(2*a.speed+1).toNat+j]?=some ⟨(i:Int),(j:Int)-a.speed⟩ :=
 ah (fun i j=>(⟨(i:Int),(j:Int)-a.speed⟩:Bv)) hi hj
theorem IA {a:A1}{s:Bv}:s∈a.spots↔a.has s=true:=by
 rw[UX]
 unfold A1.spots
 simp only[List.mem_flatMap,List.mem_range,List.mem_map]
 constructor
 ·rintro⟨i,hi,j,hj,rfl⟩
  exact⟨⟨by show (0:Int)<=(i:Int);omega,by show (i:Int)<=a.last;omega⟩,by show -a.speed<=(j:Int)-a.speed;omega,by show (j:Int)-a.speed<=a.speed;omega⟩
 ·rintro⟨⟨h1,h2⟩,h3,h4⟩
  refine⟨s.at'.toNat,by omega,(s.sp+a.speed).toNat,by omega,?_⟩
  obtain⟨x,y⟩:=s
  simp only at h1 h2 h3 h4 ⊢
  congr 1<;>omega
theorem F6 (a:A1):a.spots.Nodup:=by
 unfold A1.spots
 rw[List.Nodup,List.pairwise_flatMap]
 refine⟨fun i _=>?_,?_⟩
 ·rw[List.pairwise_map]
  refine List.Pairwise.imp ?_ List.nodup_range
  intro x y hxy h
  simp only[Bv.mk.injEq,true_and] at h
  omega
 ·refine List.Pairwise.imp ?_ List.nodup_range
  intro x y hxy s hs t ht h
  simp only[List.mem_map,List.mem_range] at hs ht
  obtain⟨_,_,rfl⟩:=hs
  obtain⟨_,_,rfl⟩:=ht
  simp only[Bv.mk.injEq] at h
  omega
abbrev BT:=Nat×Bv×Int
def Cv (es:List BT) (x:Bv):Option Int:=(es.find? fun e=>decide (e.2.1=x)).map (·.2.2)
def CI (es:List BT) (x:Bv):Bool:=(Cv es x).isSome
theorem Kf {es:List BT}{x:Bv}:CI es x=true↔∃e,e∈es/\e.2.1=x:=by
 unfold CI Cv
 rw[Option.isSome_map,List.find?_isSome]
 simp
theorem J6 (l k:List BT) (x:Bv):Cv (l++k) x=(Cv l x).or (Cv k x):=by
 unfold Cv
 rw[List.find?_append]
 cases l.find? fun e=>decide (e.2.1=x)<;>simp
def Lk (es:List BT):Prop:=(es.map (·.2.1)).Nodup
theorem Et {es:List BT}{x:Bv}{v:Int}(h:Cv es x=some v):∃e,e∈es/\e.2.1=x/\e.2.2=v:=by
 unfold Cv at h
 simp only[Option.map_eq_some_iff] at h
 obtain⟨e,h1,h2⟩:=h
 have:=List.find?_some h1
 exact⟨e,List.mem_of_find?_eq_some h1,by simpa using this,h2⟩
def Fj (a:A1) (es:List BT):List BT:=es.filter fun e=>(HQ a (CI es) e.2.1).isSome
def Jn (a:A1):Nat->List BT->List BT
 |0,es=>es
 |n+1,es=>if (Fj a es).length=es.length then es else Jn a n (Fj a es)
def EW (l:List Bv) (cl:Nat) (v:Int):List BT:=(l.zipIdx).map fun p=>(cl+p.2,p.1,v)
theorem Vk (l:List Bv) (cl:Nat) (v:Int):(EW l cl v).length=l.length:=by simp[EW]
theorem TB (l:List Bv) (x:Bv) (cl:Nat) (v:Int):EW (l++[x]) cl v=EW l cl v++[(cl+l.length,x,v)]:=by
 unfold EW
 rw[List.zipIdx_append,List.map_append];simp
theorem NP (l:List Bv) (cl:Nat) (v:Int):(EW l cl v).map (·.2.1)=l:=by
 unfold EW
 rw[List.map_map]
 show (l.zipIdx).map (fun p=>p.1)=l
 exact List.zipIdx_map_fst 0 l
theorem EV {l:List Bv}{cl:Nat}{v:Int}{e:BT}(he:e∈EW l cl v):e.2.2=v/\e.2.1∈l:=by
 refine⟨?_,?_⟩
 ·simp only[EW,List.mem_map] at he
  obtain⟨p,_,rfl⟩:=he;rfl
 ·have:=List.mem_map_of_mem (f:=fun e:BT=>e.2.1) he
  rw[NP] at this;exact this
theorem RA (l:List Bv) (cl:Nat) (v:Int) (x:Bv):CI (EW l cl v) x=decide (x∈l):=by
 rw[Bool.eq_iff_iff,Kf,decide_eq_true_eq]
 constructor
 ·rintro⟨e,he,rfl⟩;exact(EV he).2
 ·intro hx
  rw[←NP l cl v,List.mem_map] at hx
  exact hx
def GX (a:A1) (p:Bv->Bool):List BT:=EW (a.spots.filter p) 0 0
def E2 (a:A1) (p:Bv->Bool):List BT:=Jn a (GX a p).length (GX a p)
theorem TM (a:A1):∀(n:Nat) (es:List BT),es.length<=n->Fj a (Jn a n es)=Jn a n es
 |0,es,h=>by
  have:es=[]:=List.eq_nil_of_length_eq_zero (by omega)
  subst this;rfl
 |n+1,es,h=>by
  rw[Jn]
  split
  ·rename_i he
   unfold Fj at he ⊢
   exact List.filter_eq_self.2 (List.length_filter_eq_length_iff.1 he)
  ·rename_i he
   have:=List.length_filter_le (fun e:BT=>(HQ a (CI es) e.2.1).isSome) es
   exact TM a n _ (by unfold Fj at he ⊢;omega)
theorem TL (a:A1):∀(n:Nat) (es:List BT) (e:BT),e∈Jn a n es->e∈es
 |0,es,e,h=>h
 |n+1,es,e,h=>by
  rw[Jn] at h
  split at h
  ·exact h
  ·exact(List.mem_filter.1 (TL a n _ e h)).1
theorem RH (a:A1):∀(n:Nat) (es:List BT),Lk es->Lk (Jn a n es)
 |0,es,h=>h
 |n+1,es,h=>by
  rw[Jn]
  split
  ·exact h
  ·refine RH a n _ ?_
   unfold Fj Lk at *
   exact List.Nodup.sublist (List.Sublist.map _ List.filter_sublist) h
theorem aM (a:A1) (p:Bv->Bool):Lk (E2 a p):=by
 refine RH a _ _ ?_
 unfold Lk GX
 rw[NP]
 exact List.Nodup.sublist List.filter_sublist (F6 a)
theorem IU {a:A1}{p:Bv->Bool}{e:BT}(he:e∈E2 a p):e.2.2=0/\a.has e.2.1=true/\p e.2.1=true/\(HQ a (CI (E2 a p)) e.2.1).isSome=true:=by
 have h1:=TL a _ _ e he
 obtain⟨h2,h3⟩:=EV h1
 have h4:=List.mem_filter.1 h3
 have h5:=TM a _ (GX a p) (Nat.le_refl _)
 have h6:e∈Fj a (E2 a p):=by unfold E2;rw[h5];exact he
 exact⟨h2,IA.1 h4.1,h4.2,(List.mem_filter.1 h6).2⟩
def Ey (a:A1) (es:List BT):List Bv:=a.spots.filter fun s=>!CI es s && (HQ a (CI es) s).isSome
def NU (a:A1) (es:List BT):Nat:=(a.spots.filter fun s=>!CI es s).length
theorem Oh {α:Type}{p q:α->Bool}(h:∀x,q x=true->p x=true):∀{l:List α}{x:α},x∈l->p x=true->q x=false->(l.filter q).length<(l.filter p).length
 |[],x,hx,_,_=>by cases hx
 |y::l,x,hx,h1,h2=>by
  have hle:(l.filter q).length<=(l.filter p).length:=by
   clear hx
   induction l with
   |nil=>simp
   |cons z l ih =>
    rw[List.filter_cons,List.filter_cons]
    cases hq:q z with
    |true=>rw[h z hq];simp;exact ih
    |false=>cases hp:p z<;>simp<;>omega
  rw[List.filter_cons,List.filter_cons]
  rcases List.mem_cons.1 hx with rfl|hx
  ·rw[h1,h2];simp;omega
  ·have:=Oh h hx h1 h2
   cases hq:q y with
   |true=>rw[h y hq];simpa using this
   |false=>cases hp:p y<;>simp<;>omega
theorem RD (es:List BT) (l:List Bv) (cl:Nat) (v:Int) (x:Bv):CI (es++EW l cl v) x=(CI es x || decide (x∈l)):=by
 have h:=RA l cl v x
 unfold CI at h ⊢
 rw[J6]
 cases hv:Cv es x with
 |none=>simpa using h
 |some w=>simp
theorem Y4 {a:A1}{es:List BT}{cl:Nat}{v:Int}(h:Ey a es≠[]):NU a (es++EW (Ey a es) cl v)<NU a es:=by
 obtain⟨x,hx⟩:=List.exists_mem_of_ne_nil _ h
 have hx':=List.mem_filter.1 hx
 simp only[Bool.and_eq_true] at hx'
 refine Oh (fun y hy=>?_) hx'.1 hx'.2.1 ?_
 ·rw[RD] at hy
  cases hm:CI es y with
  |false=>rfl
  |true=>rw[hm] at hy;simp at hy
 ·rw[RD,decide_eq_true hx,Bool.or_true];rfl
def KK (a:A1):Nat->Int->List BT->Nat->List BT×Nat
 |0,_,es,cl=>(es,cl)
 |f+1,n,es,cl=>if Ey a es=[] then (es,cl) else KK a f (n+1) (es++EW (Ey a es) cl n) (cl+(Ey a es).length)
def GA (a:A1) (p:Bv->Bool):List BT×Nat:=KK a (NU a (E2 a p)+1) 1 (E2 a p) (GX a p).length
structure N6 (a:A1) (p:Bv->Bool) (n:Int) (es:List BT):Prop where
 d:Lk es
 v:∀e,e∈es->0<=e.2.2/\e.2.2<n
 h:∀e,e∈es->a.has e.2.1=true
 z:∀e,e∈es->e.2.2=0->p e.2.1=true/\(HQ a (fun x=>decide (Cv es x=some 0)) e.2.1).isSome=true
 s:∀e,e∈es->0<e.2.2->(HQ a (fun x=>match Cv es x with|some m=>decide (m<e.2.2)|none=>false) e.2.1).isSome=true
theorem XX (a:A1) (p:Bv->Bool):N6 a p 1 (E2 a p) where
 d:=aM a p
 v:=fun e he=>by have:=(IU he).1;omega
 h:=fun e he=>(IU he).2.1
 z:=fun e he _=>by
  obtain⟨h1,h2,h3,h4⟩:=IU he
  refine⟨h3,?_⟩
  rw[bT (q:=CI (E2 a p))]
  ·exact h4
  ·intro x
   rw[Bool.eq_iff_iff,decide_eq_true_eq]
   unfold CI
   constructor
   ·intro h;rw[h];rfl
   ·intro h
    obtain⟨v,hv⟩:=Option.isSome_iff_exists.1 h
    obtain⟨e',h5,h6,h7⟩:=Et hv
    rw[hv,←h7,(IU h5).1]
 s:=fun e he hp=>by have:=(IU he).1;omega
theorem Zv {a:A1}{p:Bv->Bool}{n:Int}{es:List BT}(h:N6 a p n es) (hn:1<=n) (cl:Nat):N6 a p (n+1) (es++EW (Ey a es) cl n):=by
 have hnew:∀{x},x∈Ey a es->a.has x=true/\CI es x=false/\(HQ a (CI es) x).isSome=true:=fun {x} hx=>by
  have hx':=List.mem_filter.1 hx
  simp only[Bool.and_eq_true] at hx'
  exact⟨IA.1 hx'.1,by simpa using hx'.2.1,hx'.2.2⟩
 have hval:∀x v,Cv (es++EW (Ey a es) cl n) x=some v↔Cv es x=some v\/(Cv es x=none/\x∈Ey a es/\v=n):=fun x v=>by
  rw[J6]
  cases hx:Cv es x with
  |some w=>simp
  |none =>
   simp only[Option.or_none,Option.none_or,reduceCtorEq,false_or,true_and]
   constructor
   ·intro hv
    obtain⟨e,h1,h2,h3⟩:=Et hv
    obtain⟨h4,h5⟩:=EV h1
    exact⟨by rw[←h2];exact h5,by rw[←h3];exact h4⟩
   ·rintro⟨h1,rfl⟩
    have hm:=RA (Ey a es) cl v x
    rw[decide_eq_true h1] at hm
    obtain⟨w,hw⟩:=Option.isSome_iff_exists.1 hm
    obtain⟨e,h3,h4,h5⟩:=Et hw
    rw[hw,←h5,(EV h3).1]
 have hdist:Lk (es++EW (Ey a es) cl n):=by
  unfold Lk
  rw[List.map_append,NP,List.nodup_append]
  refine⟨h.d,List.Nodup.sublist List.filter_sublist (F6 a),fun x hx y hy he=>?_⟩
  subst he
  have:=(hnew hy).2.1
  rw[List.mem_map] at hx
  rw[Kf.2 hx] at this;cases this
 have hlt:∀x v,Cv es x=some v->0<=v/\v<n:=fun x v hv=>by
  obtain⟨e,h1,_,h3⟩:=Et hv
  rw[←h3];exact h.v e h1
 refine⟨hdist,fun e he=>?_,fun e he=>?_,fun e he hz=>?_,fun e he hp=>?_⟩
 ·rcases List.mem_append.1 he with he|he
  ·have:=h.v e he;omega
  ·rw[(EV he).1];omega
 ·rcases List.mem_append.1 he with he|he
  ·exact h.h e he
  ·exact(hnew (EV he).2).1
 ·rcases List.mem_append.1 he with he|he
  ·obtain⟨h1,h2⟩:=h.z e he hz
   refine⟨h1,Kt (fun x hx=>?_) h2⟩
   rw[decide_eq_true_eq] at hx ⊢
   rw[hval];exact .inl hx
  ·rw[(EV he).1] at hz;omega
 ·rcases List.mem_append.1 he with he|he
  ·refine Kt (fun x hx=>?_) (h.s e he hp)
   cases hx0:Cv es x with
   |none=>rw[hx0] at hx;simp at hx
   |some m =>
    rw[hx0] at hx
    rw[(hval x m).2 (.inl hx0)];exact hx
  ·obtain⟨h1,h2⟩:=EV he
   refine Kt (fun x hx=>?_) (hnew h2).2.2
   unfold CI at hx
   obtain⟨m,hm⟩:=Option.isSome_iff_exists.1 hx
   rw[(hval x m).2 (.inl hm)]
   simp only[decide_eq_true_eq]
   rw[h1];exact(hlt x m hm).2
theorem Q6 {a:A1}{p:Bv->Bool}:∀(f:Nat) {n:Int}{es:List BT}{cl:Nat},N6 a p n es->1<=n->∃m,N6 a p m (KK a f n es cl).1
 |0,n,es,cl,h,_=>⟨n,h⟩
 |f+1,n,es,cl,h,hn=>by
  rw[KK]
  split
  ·exact⟨n,h⟩
  ·exact Q6 f (Zv h hn cl) (by omega)
theorem S_ (a:A1) (p:Bv->Bool):∃m,N6 a p m (GA a p).1:=Q6 _ (XX a p) (Int.le_refl 1)
def gV (es:List BT) (n:Int) (x:Bv):Bool:=match Cv es x with
 |some m=>decide (m<n) || (decide (n=0) && decide (m=0))
 |none=>false
def HD (a:A1) (es:List BT) (s:Bv):Int:=(HQ a (gV es ((Cv es s).getD 0)) s).getD 0
theorem gY {a:A1}{p:Bv->Bool}{m:Int}{es:List BT}(h:N6 a p m es) {s:Bv}{n:Int}(hs:Cv es s=some n) {k:Int}(k1:-a.shake<=k) (k2:k<=a.shake) :
  a.has (R3 s (HD a es s) k)=true/\∃v,Cv es (R3 s (HD a es s) k)=some v/\0<=v/\(v<n\/(n=0/\v=0)):=by
 have hsome:(HQ a (gV es n) s).isSome=true:=by
  obtain⟨e,he,h1,h2⟩:=Et hs
  have hv:=h.v e he
  by_cases hz:n=0
  ·subst hz
   have:=(h.z e he h2).2
   rw[h1] at this
   refine Kt (fun x hx=>?_) this
   rw[decide_eq_true_eq] at hx
   unfold gV;rw[hx];rfl
  ·have:=h.s e he (by omega)
   rw[h1] at this
   refine Kt (fun x hx=>?_) this
   unfold gV
   cases hx0:Cv es x with
   |none=>rw[hx0] at hx;simp at hx
   |some v=>rw[hx0,h2] at hx;simp only at hx ⊢;rw[hx];rfl
 obtain⟨c,hc⟩:=Option.isSome_iff_exists.1 hsome
 have hC:HD a es s=c:=by unfold HD;rw[hs,Option.getD_some,hc];rfl
 rw[hC]
 have:=NO.1 (Rh hc).2 k k1 k2
 unfold RM at this
 rw[Bool.and_eq_true] at this
 refine⟨this.1,?_⟩
 have hp:=this.2
 unfold gV at hp
 cases hv:Cv es (R3 s c k) with
 |none=>rw[hv] at hp;simp at hp
 |some v =>
  rw[hv] at hp
  simp only[Bool.or_eq_true,Bool.and_eq_true,decide_eq_true_eq] at hp
  obtain⟨e,he,_,h2⟩:=Et hv
  have:=h.v e he
  exact⟨v,rfl,by omega,hp⟩
def M3 (a:A1) (es:List BT) (s:Bv) (ks:List Int):Nat->Bv
 |0=>s
 |i+1=>R3 (M3 a es s ks i) (HD a es (M3 a es s ks i)) (ks[i]?.getD 0)
theorem UH {a:A1}{p:Bv->Bool}{m:Int}{es:List BT}(h:N6 a p m es) {s:Bv}{n:Int}(hs:Cv es s=some n) {ks:List Int}(hk:∀i,i<ks.length->-a.shake<=ks[i]?.getD 0/\ks[i]?.getD 0<=a.shake) :
  ∀i,i<=ks.length->∃v,Cv es (M3 a es s ks i)=some v/\0<=v/\(v<=n-i\/v=0)
 |0,_=>by
  obtain⟨e,he,_,h2⟩:=Et hs
  have:=h.v e he
  exact⟨n,hs,by omega,.inl (by omega)⟩
 |i+1,hi=>by
  obtain⟨v,h1,h2,h3⟩:=UH h hs hk i (by omega)
  obtain⟨k1,k2⟩:=hk i (by omega)
  obtain⟨h4,w,h5,h6,h7⟩:=gY h h1 k1 k2
  exact⟨w,h5,h6,by rcases h7 with h7|h7<;>rcases h3 with h3|h3<;>omega⟩
theorem Ye {a:A1}{p:Bv->Bool}{m:Int}{es:List BT}(h:N6 a p m es) {s:Bv}{n:Int}(hs:Cv es s=some n):a.has s=true/\(n=0->p s=true):=by
 obtain⟨e,he,h1,h2⟩:=Et hs
 subst h1
 exact⟨h.h e he,fun hz=>(h.z e he (by omega)).1⟩
end Go.Pw
