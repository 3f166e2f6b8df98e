/- A part of the proof. -/
import Derived.Test.YtmdklgapccickaaGreatDoorPkA
set_option linter.all false
section
namespace Go.Pw
open Go.RowKit
section
variable {P:Program}{w:World}
theorem Aw {α γ:Type}{f:α->Option γ}:∀{l:List α}{r:List γ},BV f l=some r->r.length=l.length
 |[],r,h=>by simp[BV] at h;subst h;rfl
 |x::xs,r,h=>by
  simp only[BV] at h
  split at h
  ·cases h
  ·split at h
   ·cases h
   ·rename_i y hy ys hys
    simp at h;subst h
    simp[Aw hys]
theorem Cw {α γ:Type}{f:α->Option γ}:∀{l:List α}{r:List γ}{i:Nat}{x:α},BV f l=some r->l[i]?=some x->∃y,r[i]?=some y/\f x=some y
 |[],r,i,x,h,hx=>by simp at hx
 |z::zs,r,i,x,h,hx=>by
  simp only[BV] at h
  split at h
  ·cases h
  ·split at h
   ·cases h
   ·rename_i y hy _ ys hys
    simp at h;subst h
    cases i with
    |zero=>simp at hx;subst hx;exact⟨y,by simp,hy⟩
    |succ i=>simp at hx ⊢;exact Cw hys hx
theorem IJ {t:TypeId}{k:Option IntKind}(hk:Eg P t=some k) {a b:D}{fb:Nat->Prop}{u v:Value}(ha:D4 [k] [a]=true) (hb:D4 [k] [b]=true)
  (hu:Az w fb a u) (hv:Az w fb b v) (d:Nat):(Op.equalIn (d+1) t u v).run P w=.ok (Fe a b) w:=by
 unfold Eg at hk
 split at hk
 ·rename_i k' ht
  simp at hk;subst hk
  cases hu<;>simp[D4] at ha
  cases hv<;>simp[D4] at hb
  subst ha hb
  rw[run_equalIn_int w d t _ _ _ _ ht]
  simp[Fe,RH]
 ·rename_i ht
  simp at hk;subst hk
  cases hu<;>simp[D4] at ha
  cases hv<;>simp[D4] at hb
  rw[run_equalIn_bool w d t _ _ ht]
  simp[Fe]
 ·cases hk
theorem Ct {k:Option IntKind}{ks:List (Option IntKind)}{c:D}{cs:List D}(h:D4 (k::ks) (c::cs)=true):D4 [k] [c]=true/\D4 ks cs=true:=by
 cases k<;>cases c<;>simp_all[D4]
theorem B0:∀{ks:List (Option IntKind)}{cs:List D},D4 ks cs=true->cs.length=ks.length
 |[],[],_=>rfl
 |[],_::_,h=>by simp[D4] at h
 |some _::_,[],h=>by simp[D4] at h
 |none::_,[],h=>by simp[D4] at h
 |k::ks,c::cs,h=>by simp[B0 (Ct h).2]
theorem R8 {t:TypeId}{k:Option IntKind}(hk:Eg P t=some k):F0 P t=some false:=by
 unfold Eg at hk
 split at hk<;>first|cases hk;done|skip
 ·rename_i ht;simp[F0,ht]
 ·rename_i ht;simp[F0,ht]
theorem E7 {t:TypeId}{k:Option IntKind}(hk:Eg P t=some k) {vs:Array Value}{i:Nat}{v:Value}(hv:vs[i]?=some v):(part t vs i).run P w=.ok v w:=by
 simp[part,I6 (R8 hk),hv]
theorem Nu {fb:Nat->Prop}{asq bs:List D}{us vs:Array Value}(hu:CN (Az w fb) asq us) (hv:CN (Az w fb) bs vs) (d:Nat) :
  ∀(fs:List Field) (ks:List (Option IntKind)) (i:Nat) (as' bs':List D),BV (fun f=>Eg P f.type) fs=some ks->((fs.zipIdx i).all fun(f,i)=>f.name != "_" && f.offset == i)=true ->
   (∀j,as'[j]?=asq[i+j]?)->(∀j,bs'[j]?=bs[i+j]?)->D4 ks as'=true->D4 ks bs'=true ->
   (Op.eqFields (d+1) us vs fs).run P w=.ok (E3 as' bs') w
 |[],ks,i,as',bs',hk,hn,ha,hb,ta,tb=>by
  simp[BV] at hk;subst hk
  have:=B0 ta;have h2:=B0 tb
  simp at this h2;subst this h2
  simp[Op.eqFields,E3]
 |f::fs,ks,i,as',bs',hk,hn,ha,hb,ta,tb=>by
  simp only[BV] at hk
  split at hk
  ·cases hk
  ·rename_i k hkf
   split at hk
   ·cases hk
   ·rename_i ks' hks
    simp at hk;subst hk
    simp only[List.zipIdx_cons,List.all_cons,Bool.and_eq_true,bne_iff_ne,ne_eq,beq_iff_eq] at hn
    obtain⟨⟨hn1,hn2⟩,hn3⟩:=hn
    have la:=B0 ta;have lb:=B0 tb
    match as',bs',la,lb with
    |a::as'',b::bs'',_,_ =>
     have ea:asq[i]?=some a:=by have:=ha 0;simpa using this.symm
     have eb:bs[i]?=some b:=by have:=hb 0;simpa using this.symm
     obtain⟨u,hui⟩:∃u,us[i]?=some u:=⟨_,Array.getElem?_eq_getElem (by have:=hu.1;have:=(List.getElem?_eq_some_iff.1 ea).1;omega)⟩
     obtain⟨v,hvi⟩:∃v,vs[i]?=some v:=⟨_,Array.getElem?_eq_getElem (by have:=hv.1;have:=(List.getElem?_eq_some_iff.1 eb).1;omega)⟩
     have hcell:=IJ hkf (Ct ta).1 (Ct tb).1 (hu.2 i a u ea hui) (hv.2 i b v eb hvi) d
     have ih:=Nu hu hv d fs ks' (i+1) as'' bs'' hks hn3
      (fun j=>by have:=ha (j+1);simp at this;rw[this];congr 1;omega) (fun j=>by have:=hb (j+1);simp at this;rw[this];congr 1;omega) (Ct ta).2 (Ct tb).2
     simp only[Op.eqFields]
     rw[if_pos hn1]
     rw[hn2]
     simp only[Sem.run_bind,E7 hkf hui,E7 hkf hvi,Result.andThen_ok,hcell]
     cases hp:Fe a b
     ·simp[E3,hp]
     ·simp[E3,hp,ih]
theorem QM {e:TypeId}{k:Option IntKind}(hk:Eg P e=some k) {fb:Nat->Prop}{asq bs:List D}{us vs:Array Value}(hu:CN (Az w fb) asq us) (hv:CN (Az w fb) bs vs) (d:Nat) :
  ∀(n i:Nat) (as' bs':List D),(∀j,as'[j]?=asq[i+j]?)->(∀j,bs'[j]?=bs[i+j]?)->D4 (List.replicate n k) as'=true->D4 (List.replicate n k) bs'=true ->
   ((forIn (m:=Sem) (List.range' i n) ((none,()):Option Bool×PUnit) fun j r=>do
     let a ←part e us (j*1)
     let b ←part e vs (j*1)
     let r ←Op.equalIn (d+1) e a b
     if (!r)=true then pure (.done (some false,())) else pure (.yield (none,()))):Sem (Option Bool×PUnit)).run P w =
    .ok (if E3 as' bs' then (none,()) else (some false,())) w
 |0,i,as',bs',ha,hb,ta,tb=>by
  have la:=B0 ta;have lb:=B0 tb
  simp at la lb;subst la lb
  simp[E3]
 |n+1,i,as',bs',ha,hb,ta,tb=>by
  have la:=B0 ta;have lb:=B0 tb
  rw[List.replicate_succ] at ta tb
  match as',bs',la,lb with
  |a::as'',b::bs'',_,_ =>
   have ea:asq[i]?=some a:=by have:=ha 0;simpa using this.symm
   have eb:bs[i]?=some b:=by have:=hb 0;simpa using this.symm
   obtain⟨u,hui⟩:∃u,us[i]?=some u:=⟨_,Array.getElem?_eq_getElem (by have:=hu.1;have:=(List.getElem?_eq_some_iff.1 ea).1;omega)⟩
   obtain⟨v,hvi⟩:∃v,vs[i]?=some v:=⟨_,Array.getElem?_eq_getElem (by have:=hv.1;have:=(List.getElem?_eq_some_iff.1 eb).1;omega)⟩
   have hcell:=IJ hk (Ct ta).1 (Ct tb).1 (hu.2 i a u ea hui) (hv.2 i b v eb hvi) d
   have ih:=QM hk hu hv d n (i+1) as'' bs''
    (fun j=>by have:=ha (j+1);simp at this;rw[this];congr 1;omega) (fun j=>by have:=hb (j+1);simp at this;rw[this];congr 1;omega) (Ct ta).2 (Ct tb).2
   simp only[List.range'_succ,List.forIn_cons,Sem.run_bind,Nat.mul_one,E7 hk hui,E7 hk hvi,Result.andThen_ok,hcell]
   cases hp:Fe a b
   ·simp[E3,hp]
   ·simp only[Bool.not_true,Bool.false_eq_true,if_false,Sem.run_pure,Result.andThen_ok]
    simp only[Nat.mul_one] at ih
    rw[ih]
    simp[E3,hp]
theorem Nt {t:TypeId}{tys:HS}(ht:Ch P t=some tys) {a b:D}{fb:Nat->Prop}{u v:Value}
  (ha:Gt tys a=true) (hb:Gt tys b=true) (hu:Az w fb a u) (hv:Az w fb b v) (d:Nat) :
  (Op.equalIn (d+2) t u v).run P w=.ok (Dl a b) w:=by
 unfold Ch at ht
 simp only[Gt,Bool.and_eq_true,beq_iff_eq] at ha hb
 split at ht
 ·rename_i k hk
  simp at ht;subst ht
  have e1:a.cells=[a]:=by cases a<;>simp_all[D.cells,D.isAgg]
  have e2:b.cells=[b]:=by cases b<;>simp_all[D.cells,D.isAgg]
  rw[e1] at ha;rw[e2] at hb
  rw[IJ (by simp[Eg,hk]) ha.2 hb.2 hu hv (d+1)]
  simp[Dl,e1,e2,E3]
 ·rename_i hk
  simp at ht;subst ht
  have e1:a.cells=[a]:=by cases a<;>simp_all[D.cells,D.isAgg]
  have e2:b.cells=[b]:=by cases b<;>simp_all[D.cells,D.isAgg]
  rw[e1] at ha;rw[e2] at hb
  rw[IJ (by simp[Eg,hk]) ha.2 hb.2 hu hv (d+1)]
  simp[Dl,e1,e2,E3]
 ·rename_i fs hk
  split at ht
  ·rename_i hc
   cases hl:BV (fun f=>Eg P f.type) fs.toList with
   |none=>simp[hl] at ht
   |some l =>
    simp[hl] at ht;subst ht
    obtain⟨cs,rfl⟩:∃cs,a=.agg cs:=by cases a<;>simp_all[D.isAgg]
    obtain⟨ds,rfl⟩:∃cs,b=.agg cs:=by cases b<;>simp_all[D.isAgg]
    cases hu with|agg _ us hl1 h11 hr1 =>
    cases hv with|agg _ vs hl2 h12 hr2 =>
    have hf:P.fieldsOf t=fs:=by simp[Program.fieldsOf,hk]
    rw[run_equalIn_struct w (d+1) t us vs (by rw[hf];exact hk) hc.1,hf]
    exact Nu ⟨hl1,hr1⟩ ⟨hl2,hr2⟩ d fs.toList l 0 cs ds hl hc.2.2 (fun j=>by simp) (fun j=>by simp) ha.2 hb.2
  ·cases ht
 ·rename_i n e hk
  split at ht
  ·rename_i hc
   cases hke:Eg P e with
   |none=>simp[hke] at ht
   |some k =>
    simp[hke] at ht;subst ht
    obtain⟨cs,rfl⟩:∃cs,a=.agg cs:=by cases a<;>simp_all[D.isAgg]
    obtain⟨ds,rfl⟩:∃cs,b=.agg cs:=by cases b<;>simp_all[D.isAgg]
    cases hu with|agg _ us hl1 h11 hr1 =>
    cases hv with|agg _ vs hl2 h12 hr2 =>
    have:=QM hke (us:=us) (vs:=vs) ⟨hl1,hr1⟩ ⟨hl2,hr2⟩ d n 0 cs ds (fun j=>by simp) (fun j=>by simp) ha.2 hb.2
    rw[Op.equalIn]
    simp only[Sem.run_bind,run_underlying hk,Result.andThen_ok,Bv hc.2]
    rw[Std.Legacy.Range.forIn_eq_forIn_range']
    simp only[Std.Legacy.Range.size,Nat.sub_zero,Nat.add_sub_cancel,Nat.div_one] at this ⊢
    rw[this]
    simp only[Result.andThen_ok,Dl,D.cells]
    cases E3 cs ds<;>simp
  ·cases ht
 ·cases ht
theorem KG {t:TypeId}{tys:HS}(ht:Ch P t=some tys) {a b:D}{fb:Nat->Prop}{u v:Value}
 (ha:Gt tys a=true) (hb:Gt tys b=true) (hu:Az w fb a u) (hv:Az w fb b v) :
 (Op.equal t u v).run P w=.ok (Dl a b) w:=Nt ht ha hb hu hv 9998
theorem S9 {t:TypeId}{tys:HS}(ht:Ch P t=some tys) {a b:D}{fb:Nat->Prop}{u v:Value}
  (ha:Gt tys a=true) (hb:Gt tys b=true) (hu:Az w fb a u) (hv:Az w fb b v) (hag:tys.1=true) (op:BinOp) (x y:Operand):∃us vs,u=.agg us/\v=.agg vs/\(eqGuard op t x y u v).run P w=.ok () w:=by
 simp only[Gt,Bool.and_eq_true,beq_iff_eq,hag] at ha hb
 obtain⟨cs,rfl⟩:∃cs,a=.agg cs:=by cases a<;>simp_all[D.isAgg]
 obtain⟨ds,rfl⟩:∃cs,b=.agg cs:=by cases b<;>simp_all[D.isAgg]
 cases hu with|agg _ us hl1 h11 hr1 =>
 cases hv with|agg _ vs hl2 h12 hr2 =>
 refine⟨us,vs,rfl,rfl,run_eqGuard_agg w op t x y us vs ?_⟩
 unfold Ch at ht
 split at ht
 ·simp at ht;subst ht;simp at hag
 ·simp at ht;subst ht;simp at hag
 ·split at ht
  ·rename_i hc;exact hc.2.1
  ·cases ht
 ·split at ht
  ·rename_i hc;exact hc.1
  ·cases ht
 ·cases ht
end
end Go.Pw
end
section
namespace Go.Pw
open Go.RowKit
section
variable {E:CW}{c:D_}{β:Nat->Nat->Value}{s:Bg}{tm:Array Value}{w:World}{K:AV->B3->Prop}
theorem I4 {fb β' cn} {x:AV}{u:Value}{d:D}(h:AM w fb β' cn x u) (hd:x.toD0=some d):Az w fb d u/\(x.one=true->d.one=true):=by
 unfold AV.toD0 at hd
 split at hd
 ·cases hd
 ·cases hd
 ·simp at hd;subst hd
  cases h with|d _ _ h=>exact⟨h,fun h=>h⟩
 ·simp at hd;subst hd
  cases h with|ex _ a h=>exact⟨h,fun _=>rfl⟩
 ·split at hd
  ·cases hd
  ·simp at hd;subst hd
   cases h with|dptr _ _ b base vs hb hne h1 hc hv=>exact⟨.ptr _ b base vs hb hne h1 hc hv,fun _=>rfl⟩
 ·cases hd
theorem EL {α γ:Type}{f:α->Option γ}{l:List α}{r:List γ}{y:γ}(h:BV f l=some r) (hy:y∈r):∃x,x∈l/\f x=some y:=by
 obtain⟨i,hi⟩:=List.getElem?_of_mem hy
 have hlt:i<l.length:=by rw[←Aw h];exact(List.getElem?_eq_some_iff.1 hi).1
 obtain⟨y',h1,h2⟩:=Cw h (List.getElem?_eq_getElem hlt)
 rw[hi] at h1
 simp at h1;subst h1
 exact⟨_,List.getElem_mem hlt,h2⟩
theorem Bi {α γ:Type}{f:α->Option γ}{l:List α}{r:List γ}{i:Nat}{y:γ}(h:BV f l=some r) (hy:r[i]?=some y):∃x,l[i]?=some x/\f x=some y:=by
 have hlt:i<l.length:=by rw[←Aw h];exact(List.getElem?_eq_some_iff.1 hy).1
 obtain⟨y',h1,h2⟩:=Cw h (List.getElem?_eq_getElem hlt)
 rw[hy] at h1;simp at h1;subst h1
 exact⟨_,List.getElem?_eq_getElem hlt,h2⟩
theorem CD {fb β' cn} {x:AV}{u:Value}{d:D}(h:AM w fb β' cn x u) (hd:x.toD1=some d):Az w fb d u/\(x.one=true->d.one=true):=by
 unfold AV.toD1 at hd
 split at hd
 ·rename_i cs
  split at hd
  ·rename_i l hl
   simp at hd;subst hd
   obtain⟨vs,rfl,hc,h1⟩:=O1 h
   refine⟨.agg l vs (by rw[Aw hl];exact hc.1) (fun y hy=>?_) (fun i y v hy hv=>?_),fun h=>by simp[AV.one] at h⟩
   ·obtain⟨x,hx,hxy⟩:=EL hl hy
    obtain⟨i,hi⟩:=List.getElem?_of_mem hx
    obtain⟨v,hv⟩:∃v,vs[i]?=some v:=⟨_,Array.getElem?_eq_getElem (by have:=hc.1;have:=(List.getElem?_eq_some_iff.1 hi).1;omega)⟩
    exact(I4 (hc.2 i x v hi hv) hxy).2 (h1 x hx)
   ·obtain⟨x,hx,hxy⟩:=Bi hl hy
    exact(I4 (hc.2 i x v hx hv) hxy).1
  ·cases hd
 ·rename_i f cs
  split at hd
  ·rename_i l hl
   simp at hd;subst hd
   cases h with|fn _ _ vs hlen hr =>
   exact⟨.fn f l vs (by rw[Aw hl];exact hlen) (fun i y v hy hv=>by
    obtain⟨x,hx,hxy⟩:=Bi hl hy
    exact(I4 (hr i x v hx hv) hxy).1),fun _=>rfl⟩
  ·cases hd
 ·rename_i f cs
  split at hd
  ·rename_i l hl
   simp at hd;subst hd
   cases h with|bnd _ _ vs hlen hr =>
   exact⟨.bnd f l vs (by rw[Aw hl];exact hlen) (fun i y v hy hv=>by
    obtain⟨x,hx,hxy⟩:=Bi hl hy
    exact(I4 (hr i x v hx hv) hxy).1),fun _=>rfl⟩
  ·cases hd
 ·exact I4 h hd
theorem Pi {c:D_}{β:Nat->Nat->Value}{V:AL}{b:Nat}(h:c.fb b):c.bar β V b:=.inl h
theorem Er {x:AV}{xs:List AV}{o:Nat}(hx:x∈xs) (ho:o∈x.sites):o∈AV.sites.sitesL xs:=by
 induction xs with
 |nil=>cases hx
 |cons y ys ih =>
  simp only[AV.sites.sitesL,List.mem_append]
  cases hx with
  |head=>exact .inl ho
  |tail _ h=>exact .inr (ih h)
theorem C4 {w':World}{fb:Nat->Prop}{ety es:Nat}{nl:Bool}{l:List D}{v:Value}(h:CM w' fb ety es nl l v) (hb:∀b,C8 v b->¬fb b):Az w' fb (.list nl l) v:=by
 rcases h with⟨h1,h2,h3⟩|⟨h1,b,off,cap,cur,h2,h3,h4,h5,h6,h7,h8,h10,h9⟩
 ·subst h1 h2;rw[h3];exact .nil
 ·subst h1;subst h2
  refine .list l es b off cap (fun i j=>cur.getD (off+i*es+j) undef) h4 h5 (hb b rfl) h7 h8 h10 (fun i x j c hi hj=>?_) (fun i x j c hi hj=>?_)
  ·obtain⟨u,hu,_⟩:=h9 i x j c hi hj
   rw[CC h3,hu];simp[Array.getD_eq_getD_getElem?,hu]
  ·obtain⟨u,hu,hd⟩:=h9 i x j c hi hj
   simpa[Array.getD_eq_getD_getElem?,hu] using hd
theorem nW {fb fb':Nat->Prop}{β':Nat->Nat->Value}{cn:Nat->Nat}{tys:HS}{kvs:List (D×D)}{v:Value}(h:Dn w fb β' cn (.map tys kvs) v) (hb:∀b,C8 v b->¬fb' b) (hf:∀b,fb' b->fb b):Az w fb' (.map tys kvs) v:=by
 cases h with|map _ _ b es hh hl h =>
 have ent:∀(i:Nat) e,es[i]?=some e->i<kvs.length/\e.born=i:=fun i e he=>by
  have hi:i<kvs.length:=by rw[←hl];exact(Array.getElem?_eq_some_iff.1 he).1
  exact⟨hi,(h i _ e (List.getElem?_eq_getElem hi) he).2.2.2⟩
 refine .map tys kvs b es kvs.length (hb b rfl) hh hl ⟨fun i e he=>by have:=ent i e he;omega,fun i j e e' h1 h2 hij=>by have:=ent i e h1;have:=ent j e' h2;omega⟩ (fun kv hkv=>?_) (fun i kv e h1 h2=>(h i kv e h1 h2).2.1.mono (Ah.refl _ _) fun b _ hb=>hf b hb) (fun i kv e h1 h2=>(h i kv e h1 h2).2.2.1.mono (Ah.refl _ _) fun b _ hb=>hf b hb)
 obtain⟨i,hi⟩:=List.getElem?_of_mem hkv
 have hlt:i<es.size:=by rw[hl];exact(List.getElem?_eq_some_iff.1 hi).1
 exact(h i kv _ hi (Array.getElem?_eq_getElem hlt)).1
theorem Zf {fb fb':Nat->Prop}{β':Nat->Nat->Value}{cn:Nat->Nat}{tys:HS}{ks:List (Nat×D×D)}{cl:Nat}{v:Value}(h:Dn w fb β' cn (.mapB tys ks cl) v) (hb:∀b,C8 v b->¬fb' b) (hf:∀b,fb' b->fb b):Az w fb' (.map tys (ks.map (·.2))) v:=by
 cases h with|mapB _ _ _ b es hh hl hr h =>
 have pre:∀{i:Nat}{kv:D×D},(ks.map (·.2))[i]?=some kv->∃n,ks[i]?=some (n,kv):=fun {i kv} hk=>by
  rw[List.getElem?_map] at hk
  simp only[Option.map_eq_some_iff] at hk
  obtain⟨⟨n,kv'⟩,h1,rfl⟩:=hk
  exact⟨n,h1⟩
 refine .map tys _ b es cl (hb b rfl) hh (by simpa using hl) hr (fun kv hkv=>?_) (fun i kv e h1 h2=>?_) (fun i kv e h1 h2=>?_)
 ·obtain⟨i,hi⟩:=List.getElem?_of_mem hkv
  obtain⟨n,hn⟩:=pre hi
  have hlt:i<es.size:=by rw[hl];exact(List.getElem?_eq_some_iff.1 hn).1
  exact(h i _ _ hn (Array.getElem?_eq_getElem hlt)).1
 ·obtain⟨n,hn⟩:=pre h1
  exact(h i _ e hn h2).2.1.mono (Ah.refl _ _) fun b _ hb=>hf b hb
 ·obtain⟨n,hn⟩:=pre h1
  exact(h i _ e hn h2).2.2.1.mono (Ah.refl _ _) fun b _ hb=>hf b hb
theorem Gd (h:Br E c β s tm w) {fb':Nat->Prop}(hfb:∀b,fb' b->c.bar β s.V b) {x:AV}{u:Value}{d:D}(hx:AM w (c.bar β s.V) β s.V.cn x u) (hd:x.snap0 s.V=some d) (hs:∀o g y b,o∈x.sites->s.V.ob o=some (g,y)->C8 (β o g) b->¬fb' b):Az w fb' d u/\(x.one=true->d.one=true):=by
 have weak:∀{d:D}{u:Value},Az w (c.bar β s.V) d u->Az w fb' d u:=fun h=>h.mono (Ah.refl _ _) fun b _ hb=>hfb b hb
 unfold AV.snap0 at hd
 split at hd
 ·rename_i o g
  split at hd
  ·rename_i ety es nl l hg
   simp at hd;subst hd
   have hob:=AL.get_some hg
   obtain⟨hlt,ho⟩:=h.objs _ _ _ hob
   cases ho with|row _ _ _ _ _ ho =>
   cases hx with|own _ _ _ _ =>
   refine⟨?_,fun _=>rfl⟩
   rcases ho with⟨h1,h2,h3⟩|⟨h1,b,off,cap,cur,h2,h3,h4,h5,h6,h7,h8,h10,h9⟩
   ·subst h1 h2;rw[h3];exact .nil
   ·subst h1;rw[h2]
    refine .list l es b off cap (fun i j=>cur.getD (off+i*es+j) undef) h4 h5 ?_ h7 h8 h10 (fun i x j c hi hj=>?_) (fun i x j c hi hj=>?_)
    ·exact hs o g _ b (by simp[AV.sites]) hob (by rw[h2];exact rfl)
    ·obtain⟨u,hu,_⟩:=h9 i x j c hi hj
     rw[CC h3,hu];simp[Array.getD_eq_getD_getElem?,hu]
    ·obtain⟨u,hu,hd⟩:=h9 i x j c hi hj
     simp only[Array.getD_eq_getD_getElem?,hu,Option.getD_some];exact weak hd
  ·cases hd
 ·rename_i o g
  split at hd
  ·rename_i xs hg
   split at hd
   ·rename_i c0 l hl
    simp at hd;subst hd
    have hob:=AL.get_some hg
    obtain⟨hlt,ho⟩:=h.objs _ _ _ hob
    cases hx with|ptr _ _ _ b hlt hβ =>
    rw[hβ] at ho
    cases ho with|cells _ _ cur e hb hlen h1 hr =>
    refine⟨.ptr (c0::l) b 0 (fun j=>cur.getD j undef) (hs o g _ b (by simp[AV.sites]) hob (by rw[hβ];exact rfl)) (by simp) (fun y hy=>?_) (fun j y hj=>?_) (fun j y hj=>?_),fun _=>rfl⟩
    ·obtain⟨x,hx,hxy⟩:=EL hl hy
     obtain⟨i,hi⟩:=List.getElem?_of_mem hx
     obtain⟨v,hv⟩:∃v,cur[i]?=some v:=⟨_,Array.getElem?_eq_getElem (by have:=(List.getElem?_eq_some_iff.1 hi).1;omega)⟩
     exact(CD (hr i x v hi hv) hxy).2 (h1 x hx)
    ·obtain⟨x,hx,hxy⟩:=Bi hl hj
     have hlt:j<cur.size:=by have:=(List.getElem?_eq_some_iff.1 hx).1;omega
     rw[Nat.zero_add,CC hb,Array.getElem?_eq_getElem hlt];simp[Array.getD_eq_getD_getElem?,hlt]
    ·obtain⟨x,hx,hxy⟩:=Bi hl hj
     have hlt:j<cur.size:=by have:=(List.getElem?_eq_some_iff.1 hx).1;omega
     have:=(CD (hr j x _ hx (Array.getElem?_eq_getElem hlt)) hxy).1
     simp only[Array.getD_eq_getD_getElem?,Array.getElem?_eq_getElem hlt,Option.getD_some];exact weak this
   ·cases hd
  ·cases hd
 ·rename_i off n cap o g
  split at hd
  ·rename_i xs hg
   split at hd
   ·rename_i hc
    obtain⟨hc1,hc2,hc3⟩:=hc
    split at hd
    ·rename_i l hl
     simp at hd;subst hd
     have hob:=AL.get_some hg
     obtain⟨hlt,ho⟩:=h.objs _ _ _ hob
     cases hx with|mref _ _ _ u hlt2 hm h1u =>
     obtain⟨v,hv⟩:∃v,β o g=v:=⟨_,rfl⟩
     rw[hv] at ho hm
     cases ho with|cells _ b cur e hb hlen h1 hr =>
     simp only[EH] at hm
     split at hm
     ·simp at hm;subst hm
      have hll:l.length=n:=by rw[Aw hl,List.length_take,List.length_drop];omega
      have hget:∀(i:Nat) y,l[i]?=some y->∃x u,xs[off+i]?=some x/\cur[off+i]?=some u/\x.toD1=some y/\AM w (c.bar β s.V) β s.V.cn x u:=fun i y hy=>by
       obtain⟨x,hx,hxy⟩:=Bi hl hy
       have hin:i<n:=by rw[←hll];exact(List.getElem?_eq_some_iff.1 hy).1
       rw[List.getElem?_take_of_lt hin,List.getElem?_drop] at hx
       have hcl:off+i<cur.size:=by rw[hlen];omega
       exact⟨x,_,hx,Array.getElem?_eq_getElem hcl,hxy,hr _ x _ hx (Array.getElem?_eq_getElem hcl)⟩
      have hone:∀y,y∈l->y.one=true/\y.cells=[y]:=fun y hy=>by
       obtain⟨i,hi⟩:=List.getElem?_of_mem hy
       obtain⟨x,u,k1,k2,k3,k4⟩:=hget i y hi
       have:=(CD k4 k3).2 (h1 x (List.mem_of_getElem? k1))
       exact⟨this,by cases y<;>simp_all[D.one,D.cells]⟩
      refine⟨?_,fun _=>rfl⟩
      have key:=Az.list (w:=w) (fb:=fb') l 1 b off cap (fun i _=>cur.getD (off+i) undef) (by omega) (by simp only[maxLen];omega) (hs o g _ b (by simp[AV.sites]) hob (by rw[hv];exact rfl)) Nat.zero_lt_one
       (fun x hx=>by rw[(hone x hx).2];rfl) (fun x c hx hcx=>by rw[(hone x hx).2,List.mem_singleton] at hcx;subst hcx;exact(hone c hx).1)
       (fun i x j c hi hj=>by
        have hx:=(hone x (List.mem_of_getElem? hi)).2
        rw[hx] at hj
        cases j with
        |zero =>
         obtain⟨x',u,k1,k2,k3,k4⟩:=hget i x hi
         rw[show off+i*1+0=off+i by omega,CC hb,k2];simp[Array.getD_eq_getD_getElem?,k2]
        |succ j=>simp at hj)
       (fun i x j c hi hj=>by
        have hx:=(hone x (List.mem_of_getElem? hi)).2
        rw[hx] at hj
        cases j with
        |zero =>
         simp at hj;subst hj
         obtain⟨x',u,k1,k2,k3,k4⟩:=hget i x hi
         simp only[Array.getD_eq_getD_getElem?,k2,Option.getD_some];exact weak (CD k4 k3).1
        |succ j=>simp at hj)
      rw[hll] at key;exact key
     ·cases hm
    ·cases hd
   ·cases hd
  ·cases hd
 ·rename_i o g
  cases hx with|map _ _ _ _ =>
  split at hd
  ·rename_i tys kvs hg
   simp at hd;subst hd
   have hob:=AL.get_some hg
   exact⟨nW (h.objs _ _ _ hob).2 (fun b hb=>hs o g _ b (by simp[AV.sites]) hob hb) hfb,fun _=>rfl⟩
  ·rename_i tys es cl hg
   simp at hd;subst hd
   have hob:=AL.get_some hg
   exact⟨Zf (h.objs _ _ _ hob).2 (fun b hb=>hs o g _ b (by simp[AV.sites]) hob hb) hfb,fun _=>rfl⟩
  ·cases hd
 ·obtain⟨h1,h2⟩:=CD hx hd
  exact⟨weak h1,h2⟩
theorem Tb (h:Br E c β s tm w) {fb':Nat->Prop}(hfb:∀b,fb' b->c.bar β s.V b) {x:AV}{u:Value}{d:D}(hx:AM w (c.bar β s.V) β s.V.cn x u) (hd:x.snap s.V=some d) (hs:∀o g y b,o∈x.sites->s.V.ob o=some (g,y)->C8 (β o g) b->¬fb' b):Az w fb' d u:=by
 unfold AV.snap at hd
 split at hd
 ·rename_i cs
  split at hd
  ·rename_i l hl
   simp at hd;subst hd
   obtain⟨vs,rfl,hc,h1⟩:=O1 hx
   refine .agg l vs (by rw[Aw hl];exact hc.1) (fun y hy=>?_) (fun i y v hy hv=>?_)
   ·obtain⟨x,hx,hxy⟩:=EL hl hy
    obtain⟨i,hi⟩:=List.getElem?_of_mem hx
    obtain⟨v,hv⟩:∃v,vs[i]?=some v:=⟨_,Array.getElem?_eq_getElem (by have:=hc.1;have:=(List.getElem?_eq_some_iff.1 hi).1;omega)⟩
    exact(Gd h hfb (hc.2 i x v hi hv) hxy fun o g y b ho=>hs o g y b (by simp only[AV.sites];exact Er hx ho)).2 (h1 x hx)
   ·obtain⟨x,hx,hxy⟩:=Bi hl hy
    exact(Gd h hfb (hc.2 i x v hx hv) hxy fun o g y b ho=>hs o g y b (by simp only[AV.sites];exact Er (List.mem_of_getElem? hx) ho)).1
  ·cases hd
 ·rename_i f cs
  split at hd
  ·rename_i l hl
   simp at hd;subst hd
   cases hx with|fn _ _ vs hlen hr =>
   exact .fn f l vs (by rw[Aw hl];exact hlen) (fun i y v hy hv=>by
    obtain⟨x,hx,hxy⟩:=Bi hl hy
    exact(Gd h hfb (hr i x v hx hv) hxy fun o g y b ho=>hs o g y b (by simp only[AV.sites];exact Er (List.mem_of_getElem? hx) ho)).1)
  ·cases hd
 ·rename_i f cs
  split at hd
  ·rename_i l hl
   simp at hd;subst hd
   cases hx with|bnd _ _ vs hlen hr =>
   exact .bnd f l vs (by rw[Aw hl];exact hlen) (fun i y v hy hv=>by
    obtain⟨x,hx,hxy⟩:=Bi hl hy
    exact(Gd h hfb (hr i x v hx hv) hxy fun o g y b ho=>hs o g y b (by simp only[AV.sites];exact Er (List.mem_of_getElem? hx) ho)).1)
  ·cases hd
 ·exact(Gd h hfb hx hd hs).1
theorem PI (h:Br E c β s tm w) {x:AV}{u:Value}{d:D}(hx:AM w (c.bar β s.V) β s.V.cn x u) (hd:x.snap0 s.V=some d):Az w c.fb d u/\(x.one=true->d.one=true) :=
 Gd h (fun b hb=>Pi hb) hx hd fun o g y b _ ho hb=>(h.home o g y b ho hb).2.2
theorem Ro (h:Br E c β s tm w) {x:AV}{u:Value}{d:D}(hx:AM w (c.bar β s.V) β s.V.cn x u) (hd:x.snap s.V=some d):Az w c.fb d u :=
 Tb h (fun b hb=>Pi hb) hx hd fun o g y b _ ho hb=>(h.home o g y b ho hb).2.2
theorem Tc (h:Br E c β s tm w) {x:AV}{u:Value}{d:D}(hx:AM w (c.bar β s.V) β s.V.cn x u) (hd:x.snapC s.V=some d):Az w c.fb d u/\(x.one=true->d.one=true):=by
 unfold AV.snapC at hd
 split at hd
 ·rename_i o g
  exact PI h hx (by unfold AV.snap0;exact hd)
 ·rename_i o g
  exact PI h hx (by unfold AV.snap0;exact hd)
 ·obtain⟨h1,h2⟩:=CD hx hd
  exact⟨h1.mono (Ah.refl _ _) fun b _ hb=>Pi hb,h2⟩
theorem Ta (h:Br E c β s tm w) {x:AV}{u:Value}{d:D}(hx:AM w (c.bar β s.V) β s.V.cn x u) (hd:x.snapN s.V=some d):Az w c.fb d u:=by
 unfold AV.snapN at hd
 split at hd
 ·rename_i o g
  split at hd
  ·rename_i xs hg
   split at hd
   ·rename_i c0 l hl
    simp at hd;subst hd
    have hob:=AL.get_some hg
    obtain⟨hlt,ho⟩:=h.objs _ _ _ hob
    cases hx with|ptr _ _ _ b hlt hβ =>
    rw[hβ] at ho
    cases ho with|cells _ _ cur e hb hlen h1 hr =>
    refine .ptr (c0::l) b 0 (fun j=>cur.getD j undef) ((h.home o g _ b hob (by rw[hβ];exact rfl)).2.2) (by simp) (fun y hy=>?_) (fun j y hj=>?_) (fun j y hj=>?_)
    ·obtain⟨x,hx,hxy⟩:=EL hl hy
     obtain⟨i,hi⟩:=List.getElem?_of_mem hx
     obtain⟨v,hv⟩:∃v,cur[i]?=some v:=⟨_,Array.getElem?_eq_getElem (by have:=(List.getElem?_eq_some_iff.1 hi).1;omega)⟩
     exact(Tc h (hr i x v hi hv) hxy).2 (h1 x hx)
    ·obtain⟨x,hx,hxy⟩:=Bi hl hj
     have hlt:j<cur.size:=by have:=(List.getElem?_eq_some_iff.1 hx).1;omega
     rw[Nat.zero_add,CC hb,Array.getElem?_eq_getElem hlt];simp[Array.getD_eq_getD_getElem?,hlt]
    ·obtain⟨x,hx,hxy⟩:=Bi hl hj
     have hlt:j<cur.size:=by have:=(List.getElem?_eq_some_iff.1 hx).1;omega
     have:=(Tc h (hr j x _ hx (Array.getElem?_eq_getElem hlt)) hxy).1
     simp only[Array.getD_eq_getD_getElem?,Array.getElem?_eq_getElem hlt,Option.getD_some];exact this
   ·cases hd
  ·cases hd
 ·exact Ro h hx hd
theorem WR (h:Br E c β s tm w) {fb':Nat->Prop}(hfb:∀b,fb' b->c.bar β s.V b) {e1 e2:Nat}{nl0:Bool}{ix:List Nat}{rows:List (Bool×List D)}{o g j:Nat}{x:Bool×List D}{u:Value}
  (hg:s.V.get o g=some (.mat e1 e2 nl0 ix rows)) (hx:rows[j]?=some x) (ha:KC x=true) (hp:AM w (c.bar β s.V) β s.V.cn (.mref (.row j) o g) u) (hs:∀b,C8 (β o g) b->¬fb' b):Az w fb' (.list x.1 x.2) u:=by
 have hob:=AL.get_some hg
 obtain⟨hlt,ho⟩:=h.objs _ _ _ hob
 obtain⟨v,hv⟩:∃v,β o g=v:=⟨_,rfl⟩
 cases hp with|mref _ _ _ u hlt hm hu1 =>
 rw[hv] at ho
 cases ho with|mat _ _ _ _ _ _ ho =>
 obtain⟨v0,vs,hvv,hlen,hc,hr,hsep⟩:=ho
 have hv':=hv
 rw[hvv] at hv'
 rw[hv'] at hm hs
 simp only[EH,B_,List.getElem?_cons_succ] at hm
 have hrow:=(hr j x u hx hm).2 ha
 refine C4 (hrow.mono (Ah.refl _ _) (fun b _ hb=>hfb b hb) fun _ _ _=>rfl) fun b hb=>hs b ⟨j+1,u,by simpa using hm,hrow.blk hb⟩
theorem U2 (h:Br E c β s tm w) {fb':Nat->Prop}(hfb:∀b,fb' b->c.bar β s.V b) {e1 e2:Nat}{nl:Bool}{ix:List Nat}{rows:List (Bool×List D)}{o g:Nat}{u:Value}
  (hg:s.V.get o g=some (.mat e1 e2 nl ix rows)) (hal:ZG ix rows=true) (hp:AM w (c.bar β s.V) β s.V.cn (.mref .out o g) u) (hs:∀b,C8 (β o g) b->¬fb' b):Az w fb' (.list nl (NN ix rows)) u:=by
 have hob:=AL.get_some hg
 obtain⟨hlt,ho⟩:=h.objs _ _ _ hob
 obtain⟨v,hv⟩:∃v,β o g=v:=⟨_,rfl⟩
 have hp':=hp
 cases hp with|mref _ _ _ u hlt hm hu1 =>
 rw[hv] at ho
 cases ho with|mat _ _ _ _ _ _ ho =>
 obtain⟨v0,vs,hvv,hlen,hc,hr,hsep⟩:=ho
 have hv':=hv
 rw[hvv] at hv'
 rw[hv'] at hm
 simp only[EH,B_,List.getElem?_cons_zero,Option.some.injEq] at hm
 subst hm
 rcases hc with⟨h01,h02,h03⟩|⟨h01,b,off,cap,cur,h2,h3,h4,h5,h6,h7⟩
 ·subst h01 h02 h03;exact .nil
 ·subst h01 h2
  have hb:¬fb' b:=hs b (by rw[hv'];exact⟨0,_,by rw[B_];rfl,rfl⟩)
  have hlm:(NN ix rows).length=ix.length:=by simp[NN]
  rw[←hlm]
  refine Az.list (w:=w) (fb:=fb') (NN ix rows) 1 b off cap (fun i _=>cur.getD (off+i) undef) (by omega) h5 hb Nat.one_pos (fun x hx=>by
    simp only[NN,List.mem_map] at hx;obtain⟨j,_,rfl⟩:=hx;rfl) (fun x cc hx hcc=>by
    simp only[NN,List.mem_map] at hx;obtain⟨j,_,rfl⟩:=hx;simp[D.cells] at hcc;subst hcc;rfl) (fun i x q cc hi hq=>?_) (fun i x q cc hi hq=>?_)
  all_goals
   simp only[NN,List.getElem?_map,Option.map_eq_some_iff] at hi
   obtain⟨j,hj,rfl⟩:=hi
   obtain⟨uj,huj,hcj⟩:=h7 i j hj
   obtain⟨x,hx⟩:∃x,rows[j]?=some x:=⟨_,List.getElem?_eq_getElem (by have:=(List.getElem?_eq_some_iff.1 huj).1;omega)⟩
   cases q with
   |succ q=>simp[D.cells] at hq
   |zero =>
    simp[D.cells] at hq;subst hq
    first
    |rw[CC h3];simp[Array.getD_eq_getD_getElem?,hcj]
    |simp only[Array.getD_eq_getD_getElem?,hcj,Option.getD_some,hx]
     exact WR h hfb hg hx (by have:=List.all_eq_true.1 hal j (List.mem_of_getElem? hj);rw[hx] at this;exact this) (.mref _ _ _ _ hlt (by rw[hv'];simp[EH,huj]) (hr j x uj hx huj).1) hs
theorem Se (h:Br E c β s tm w) {x:AV}{u:Value}{nl:Bool}{l:List D}(hx:AM w (c.bar β s.V) β s.V.cn x u) (hl:x.asList s.V=some (nl,l)):Az w c.fb (.list nl l) u:=by
 have weak:∀{d:D}{u:Value},Az w (c.bar β s.V) d u->Az w c.fb d u:=fun h=>h.mono (Ah.refl _ _) fun b _ hb=>Pi hb
 unfold AV.asList at hl
 split at hl
 ·simp at hl;obtain⟨rfl,rfl⟩:=hl
  cases hx with|d _ _ hx=>exact weak hx
 ·simp at hl;obtain⟨rfl,rfl⟩:=hl
  cases hx with|ex _ a hx=>exact weak hx
 ·rename_i o g
  split at hl
  ·rename_i ety es nl l hg
   simp at hl;obtain⟨rfl,rfl⟩:=hl
   exact(PI h hx (by simp[AV.snap0,hg])).1
  ·cases hl
 ·rename_i o g
  split at hl
  ·rename_i e1 e2 nl ix rows hg
   split at hl
   ·rename_i hal
    simp at hl;obtain⟨rfl,rfl⟩:=hl
    exact U2 h (fun b hb=>Pi hb) hg hal hx fun b hb=>(h.home _ _ _ b (AL.get_some hg) hb).2.2
   ·cases hl
  ·cases hl
 ·rename_i j o g
  split at hl
  ·rename_i e1 e2 nl0 ix rows hg
   obtain⟨hl,ha⟩:=Option.filter_eq_some_iff.1 hl
   exact WR h (fun b hb=>Pi hb) hg hl ha hx fun b hb=>(h.home _ _ _ b (AL.get_some hg) hb).2.2
  ·cases hl
 ·cases hl
theorem Bz {b:Nat}{es:Array MapEntry}{cl:Nat}(hb:w.heap[b]?=some (.map es cl)):(getObj b).run E.P w=.ok (.map es cl) w:=by
 simp[getObj,Sem.run,hb]
theorem Ck {P:Program}{t:TypeId}{tys:HS}(ht:Ch P t=some tys) {a:D}{fb:Nat->Prop}{u:Value}(ha:Gt tys a=true) (hu:Az w fb a u) (emp:Bool) (n:Nat) :
  (Instr.checkKey emp (n+2) t u).run P w=.ok () w:=by
 unfold Ch at ht
 simp only[Gt,Bool.and_eq_true,beq_iff_eq] at ha
 have cell:∀{e:TypeId}{k:Option IntKind}(v:Value) (m:Nat),Eg P e=some k->(Instr.checkKey emp (m+1) e v).run P w=.ok () w:=by
  intro e k v m hk
  unfold Eg at hk
  split at hk
  ·rename_i k' hke;simp[Instr.checkKey,run_underlying hke]
  ·rename_i hke;simp[Instr.checkKey,run_underlying hke]
  ·cases hk
 split at ht
 ·rename_i k hk;exact cell (k:=some k) u (n+1) (by simp[Eg,hk])
 ·rename_i hk;exact cell (k:=none) u (n+1) (by simp[Eg,hk])
 ·rename_i fs hk
  split at ht
  ·rename_i hc
   cases hl:BV (fun f=>Eg P f.type) fs.toList with
   |none=>simp[hl] at ht
   |some l =>
    simp[hl] at ht;subst ht
    obtain⟨cs,rfl⟩:∃cs,a=.agg cs:=by cases a<;>simp_all[D.isAgg]
    cases hu with|agg _ us hl1 h11 hr1 =>
    have hall:=hc.2.2
    have htl:cs.length=fs.toList.length:=by have h1:=B0 ha.2;have h2:=Aw hl;simp only[D.cells] at h1;omega
    rw[Instr.checkKey]
    simp only[Sem.run_bind,run_underlying hk,Result.andThen_ok]
    rw[←Array.forIn_toList]
    have key:∀(gs:List Field) (ks:List (Option IntKind)) (i:Nat),i+gs.length<=us.size->BV (fun f=>Eg P f.type) gs=some ks->((gs.zipIdx i).all fun(f,i)=>f.name != "_" && f.offset == i)=true ->
      ((
       forIn (m:=Sem) gs PUnit.unit fun f r=>do
       if f.name ≠ "_" then do
        let x ←part f.type us f.offset
        Instr.checkKey emp (n+1) f.type x
        pure (.yield PUnit.unit)
       else pure (.yield PUnit.unit)):Sem PUnit).run P w=.ok PUnit.unit w:=by
     intro gs
     induction gs with
     |nil=>intro ks i _ _ _;simp
     |cons f gs ih =>
      intro ks i hlen hks hn
      simp only[BV] at hks
      split at hks
      ·cases hks
      ·rename_i k hkf
       split at hks
       ·cases hks
       ·rename_i ks' hks'
        simp only[List.zipIdx_cons,List.all_cons,Bool.and_eq_true,bne_iff_ne,ne_eq,beq_iff_eq] at hn
        obtain⟨⟨hn1,hn2⟩,hn3⟩:=hn
        simp only[List.length_cons] at hlen
        have hui:us[i]?=some us[i]:=Array.getElem?_eq_getElem (by omega)
        have:=ih ks' (i+1) (by omega) hks' hn3
        simp only[List.forIn_cons,Sem.run_bind]
        rw[if_pos hn1,hn2]
        simp only[Sem.run_bind,E7 hkf hui,Result.andThen_ok,cell _ _ hkf,Sem.run_pure]
        exact this
    have:=key fs.toList l 0 (by omega) hl hall
    rw[this];rfl
  ·cases ht
 ·rename_i m e hk
  split at ht
  ·rename_i hc
   cases hke:Eg P e with
   |none=>simp[hke] at ht
   |some k =>
    simp[hke] at ht;subst ht
    obtain⟨cs,rfl⟩:∃cs,a=.agg cs:=by cases a<;>simp_all[D.isAgg]
    cases hu with|agg _ us hl1 h11 hr1 =>
    have htl:cs.length=m:=by simpa[D.cells] using B0 ha.2
    rw[Instr.checkKey]
    simp only[Sem.run_bind,run_underlying hk,Result.andThen_ok]
    rw[Std.Legacy.Range.forIn_eq_forIn_range']
    simp only[Std.Legacy.Range.size,Nat.sub_zero,Nat.add_sub_cancel,Nat.div_one]
    have key:∀(q i:Nat),i+q<=us.size ->
      ((
       forIn (m:=Sem) (List.range' i q) PUnit.unit fun j r=>do
       let s ←sizeOf e
       let x ←part e us (j*s)
       Instr.checkKey emp (n+1) e x
       pure (.yield PUnit.unit)):Sem PUnit).run P w=.ok PUnit.unit w:=by
     intro q
     induction q with
     |zero=>intro i _;simp
     |succ q ih =>
      intro i hlen
      have hui:us[i]?=some us[i]:=Array.getElem?_eq_getElem (by omega)
      simp only[List.range'_succ,List.forIn_cons,Sem.run_bind,Bv hc.2,Result.andThen_ok,Nat.mul_one,E7 hke hui,cell _ _ hke,Sem.run_pure]
      exact ih (i+1) (by omega)
    have:=key m 0 (by omega)
    rw[this];rfl
  ·cases ht
 ·cases ht
end
end Go.Pw
end
section
namespace Go.Pw
open Go.RowKit
theorem Tv (k:D):∀kvs:List (D×D),CG k kvs=(D6 k kvs).bind fun j=>(kvs[j]?).map (·.2)
 |[]=>rfl
 |e::es=>by
  simp only[CG,D6]
  split
  ·simp
  ·rw[Tv k es]
   cases D6 k es<;>simp
theorem V4 (k v:D):∀kvs:List (D×D),Qo k v kvs=match D6 k kvs with
  |some j=>(match kvs[j]? with|some e=>kvs.set j (e.1,v)|none=>kvs)
  |none=>kvs++[(k,v)]
 |[]=>rfl
 |e::es=>by
  simp only[Qo,D6]
  split
  ·simp
  ·rw[V4 k v es]
   cases h:D6 k es with
   |none=>simp
   |some j=>simp only[Option.map_some,List.getElem?_cons_succ];split<;>simp
theorem MN {k:D}:∀{kvs:List (D×D)}{j:Nat},D6 k kvs=some j->j<kvs.length
 |[],j,h=>by simp[D6] at h
 |e::es,j,h=>by
  simp only[D6] at h
  split at h
  ·simp at h;subst h;simp
  ·cases hi:D6 k es with
   |none=>simp[hi] at h
   |some i=>simp[hi] at h;subst h;have:=MN hi;simp;omega
section
variable {P:Program}{w:World}
def TI (w:World) (fb:Nat->Prop) (tys:HS) (kvs:List (D×D)) (es:List MapEntry):Prop :=
 es.length=kvs.length/\∀(i:Nat) (kv:D×D) (e:MapEntry),kvs[i]?=some kv->es[i]?=some e->Gt tys kv.1=true/\Az w fb kv.1 e.key/\Az w fb kv.2 e.val
theorem TI.tail {fb tys kv kvs e es} (h:TI w fb tys (kv::kvs) (e::es)):TI w fb tys kvs es :=
 ⟨by have:=h.1;simp at this;exact this,fun i a b ha hb=>h.2 (i+1) a b (by simpa using ha) (by simpa using hb)⟩
def DZ (k:D) (kvs:List (D×D)) (es:List MapEntry) (i:Nat):Option (Nat×Value):=(D6 k kvs).bind fun j=>(es[j]?).map fun e=>(i+j,e.val)
theorem Kf {k:D}{kv:D×D}{kvs:List (D×D)}{e:MapEntry}{es:List MapEntry}(h:Dl k kv.1=false) (i:Nat):DZ k (kv::kvs) (e::es) i=DZ k kvs es (i+1):=by
 simp only[DZ,D6,h,Bool.false_eq_true,if_false]
 cases D6 k kvs with
 |none=>rfl
 |some j=>simp;cases es[j]?<;>simp;omega
theorem LB {kt:TypeId}{tys:HS}(ht:Ch P kt=some tys) {k:D}{fb fb2:Nat->Prop}{u:Value}(hk:Gt tys k=true) (hu:Az w fb k u) :
  ∀(kvs:List (D×D)) (es:List MapEntry) (i:Nat),TI w fb2 tys kvs es->(Instr.findAsking kt u es i).run P w=.ok (DZ k kvs es i) w
 |[],[],i,_=>by simp[Instr.findAsking,DZ,D6]
 |[],e::es,i,h=>by have:=h.1;simp at this
 |kv::kvs,[],i,h=>by have:=h.1;simp at this
 |kv::kvs,e::es,i,h=>by
  obtain⟨h1,h2,h3⟩:=h.2 0 kv e (by simp) (by simp)
  have hall:∀{d v},Az w fb2 d v->Az w (fun _=>False) d v:=fun h=>h.mono (Ah.refl _ _) (fun _ _ h=>h.elim)
  have hall':∀{d v},Az w fb d v->Az w (fun _=>False) d v:=fun h=>h.mono (Ah.refl _ _) (fun _ _ h=>h.elim)
  simp only[Instr.findAsking,Sem.run_bind,KG ht hk h1 (hall' hu) (hall h2),Result.andThen_ok]
  cases hq:Dl k kv.1
  ·simp only[Bool.false_eq_true,if_false]
   rw[LB ht hk hu kvs es (i+1) h.tail,Kf hq]
  ·simp[DZ,D6,hq]
theorem Le {kt:TypeId}{tys:HS}(ht:Ch P kt=some tys) {d:TypeDesc}(hd:P.underlying kt=some d) {k:D}{fb fb2:Nat->Prop}{u:Value}(hk:Gt tys k=true) (hu:Az w fb k u) :
  ∀(kvs:List (D×D)) (es:List MapEntry) (i:Nat),TI w fb2 tys kvs es->Instr.findNow d u es i=some (DZ k kvs es i)\/Instr.findNow d u es i=none
 |[],[],i,_=>by simp[Instr.findNow,DZ,D6]
 |[],e::es,i,h=>by have:=h.1;simp at this
 |kv::kvs,[],i,h=>by have:=h.1;simp at this
 |kv::kvs,e::es,i,h=>by
  obtain⟨h1,h2,h3⟩:=h.2 0 kv e (by simp) (by simp)
  have ih:=Le ht hd hk hu kvs es (i+1) h.tail
  have hs:Instr.sameNow d u e.key=some (Dl k kv.1)\/Instr.sameNow d u e.key=none:=by
   have hk':=hk;have h1':=h1
   simp only[Gt,Bool.and_eq_true,beq_iff_eq] at hk' h1'
   unfold Ch at ht
   rw[hd] at ht
   cases d<;>first|(simp at ht;done)|(right;cases u<;>rfl)|skip
   ·simp at ht;subst ht
    generalize e.key=v at *
    have e1:k.cells=[k]:=by cases k<;>simp_all[D.cells,D.isAgg]
    have e2:kv.1.cells=[kv.1]:=by cases hh:kv.1<;>simp_all[D.cells,D.isAgg]
    rw[e1] at hk';rw[e2] at h1'
    cases hu<;>simp[D4] at hk'
    generalize kv.1=q at *
    cases h2<;>simp[D4] at h1'
    left;simp[Instr.sameNow,Dl,D.cells,E3,Fe]
   ·rename_i kk
    simp at ht;subst ht
    generalize e.key=v at *
    have e1:k.cells=[k]:=by cases k<;>simp_all[D.cells,D.isAgg]
    have e2:kv.1.cells=[kv.1]:=by cases hh:kv.1<;>simp_all[D.cells,D.isAgg]
    rw[e1] at hk';rw[e2] at h1'
    cases hu<;>simp[D4] at hk'
    generalize kv.1=q at *
    cases h2<;>simp[D4] at h1'
    obtain⟨_,rfl⟩:=hk'
    obtain⟨_,rfl⟩:=h1'
    left;simp[Instr.sameNow,Dl,D.cells,E3,Fe,RH]
  simp only[Instr.findNow]
  rcases hs with hs|hs
  ·rw[hs]
   cases hq:Dl k kv.1
   ·simp only;rw[Kf hq];exact ih
   ·left;simp[DZ,D6,hq]
  ·rw[hs];right;rfl
theorem PW {kt:TypeId}{tys:HS}(ht:Ch P kt=some tys):∃d,P.underlying kt=some d:=by
 unfold Ch at ht
 cases h:P.underlying kt with
 |none=>simp[h] at ht
 |some d=>exact⟨d,rfl⟩
theorem F3 {kt:TypeId}{tys:HS}(ht:Ch P kt=some tys) {k:D}{fb fb2:Nat->Prop}{u:Value}(hk:Gt tys k=true) (hu:Az w fb k u)
  {kvs:List (D×D)}{es:List MapEntry}(he:TI w fb2 tys kvs es):(Instr.findKey kt u es).run P w=.ok (DZ k kvs es 0) w:=by
 obtain⟨d,hd⟩:=PW ht
 simp only[Instr.findKey,Sem.run_bind,run_underlying hd,Result.andThen_ok]
 rcases Le ht hd hk hu kvs es 0 he with h|h
 ·rw[h];rfl
 ·rw[h];exact LB ht hk hu kvs es 0 he
end
section
variable {E:CW}{c:D_}{β:Nat->Nat->Value}{s:Bg}{tm:Array Value}{w:World}{K:AV->B3->Prop}
theorem TL {t:TypeId}{z:D}(h:Fj E.P t=some z) {fb}:∃v,(zeroValue t).run E.P w=.ok v w/\Az w fb z v:=by
 unfold Fj at h
 cases hi:E.P.info? t with
 |none=>simp[hi] at h
 |some i =>
  simp only[hi,Option.bind_some] at h
  split at h
  ·rename_i cs hz
   cases hl:BV Oh cs.toList with
   |none=>simp[hl] at h
   |some l =>
    simp[hl] at h;subst h
    refine⟨.agg cs,by simp[zeroValue,typeInfo,hi,hz],.agg l cs (by rw[Aw hl];simp) (fun c hc=>?_) (fun i y v hy hv=>?_)⟩
    ·obtain⟨x,_,hx⟩:=EL hl hc
     unfold Oh at hx
     split at hx<;>(try split at hx)<;>simp at hx<;>subst hx<;>rfl
    ·obtain⟨x,hx,hxy⟩:=Bi hl hy
     have:x=v:=by simpa[Array.getElem?_toList,hv] using hx.symm
     subst this
     exact Hy hxy
  ·rename_i v _ hz
   exact⟨v,by simp[zeroValue,typeInfo,hi,hz],Hy h⟩
  ·cases h
theorem Yy {fb:Nat->Prop}{tys:HS}{ks:List (Nat×D×D)}{es:Array MapEntry}(hl:es.size=ks.length)
  (hent:∀(i:Nat) (k:Nat×D×D) (e:MapEntry),ks[i]?=some k->es[i]?=some e->Gt tys k.2.1=true/\Az w fb k.2.1 e.key/\Az w fb k.2.2 e.val/\e.born=k.1):TI w fb tys (ks.map (·.2)) es.toList :=
 ⟨by simpa using hl,fun i kv e h1 h2=>by
  rw[List.getElem?_map] at h1
  simp only[Option.map_eq_some_iff] at h1
  obtain⟨k,h3,rfl⟩:=h1
  obtain⟨a1,a2,a3,_⟩:=hent i k e h3 (by simpa using h2)
  exact⟨a1,a2,a3⟩⟩
theorem Uh (h:Br E c β s tm w) {t kt e:TypeId}{tys:HS}{z:D}{ok:Bool}(ht:E.P.underlying t=some (.map kt e)) (hk:Ch E.P kt=some tys) (hz:Fj E.P e=some z)
  {m key:AV}{um uk:Value}{dst:Option Nat}(hm:AM w (c.bar β s.V) β s.V.cn m um) (hkey:AM w (c.bar β s.V) β s.V.cn key uk) (he:ev E dst s.V (.lookup ok tys z) [m,key] K) :
  GF E c s tm K ((Instr.lookup t um uk ok).run E.P w):=by
 obtain⟨zv,hzv,hzr⟩:=TL (w:=w) (fb:=c.bar β s.V) hz
 have fin:∀(b:Bool) (d:D) (v:Value),Az w (c.bar β s.V) d v->AM w (c.bar β s.V) β s.V.cn (if ok then .tup [.d d,.d (.bool b)] else .d d) (if ok then .tuple #[v,.bool b] else v):=by
  intro b d v hd
  cases ok
  ·exact .d _ _ hd
  ·simp only[if_true]
   refine .tup _ _ rfl fun i c v hc hv=>?_
   match i with
   |0=>simp at hc hv;subst hc hv;exact .d _ _ hd
   |1=>simp at hc hv;subst hc hv;exact Ie
   |i+2=>simp at hc
 have main:∀(kvs:List (D×D)) (k:D) (b:Nat) (es:Array MapEntry) (cl:Nat),um=.map (some b)->w.heap[b]?=some (.map es cl)->TI w (c.bar β s.V) tys kvs es.toList->key.toD1=some k->Gt tys k=true ->
   (match CG k kvs with
    |some v=>K (if ok then .tup [.d v,.d (.bool true)] else .d v) .none
    |none=>K (if ok then .tup [.d z,.d (.bool false)] else .d z) .none)->GF E c s tm K ((Instr.lookup t um uk ok).run E.P w):=by
  intro kvs k b es cl hum hb hE hd hty he
  subst hum
  have hkr:=(CD hkey hd).1
  have hl:es.size=kvs.length:=by simpa using hE.1
  rw[Tv] at he
  have hfind:=F3 hk hty hkr hE
  cases hi:D6 k kvs with
  |none =>
   simp[hi] at he
   refine CF h he ?_ (fin false z zv hzr)
   simp only[Instr.lookup,Sem.run_bind,run_underlying ht,Result.andThen_ok,Bz hb,Sem.run_pure,Ck hk hty hkr es.isEmpty 9998,hfind,DZ,hi,Option.bind_none,hzv]
  |some j =>
   have hj:=MN hi
   have hkj:kvs[j]?=some kvs[j]:=List.getElem?_eq_getElem hj
   have hej:es[j]?=some es[j]:=Array.getElem?_eq_getElem (by omega)
   have hej':es.toList[j]?=some es[j]:=by simpa using hej
   simp[hi,hkj] at he
   refine CF h he ?_ (fin true _ es[j].val (hE.2 j _ _ hkj hej').2.2)
   simp only[Instr.lookup,Sem.run_bind,run_underlying ht,Result.andThen_ok,Bz hb,Sem.run_pure,Ck hk hty hkr es.isEmpty 9998,hfind,DZ,hi,Option.bind_some,hej',Option.map_some]
 unfold ev at he
 simp only at he
 split at he
 ·rename_i o g key' heq
  simp only[List.cons.injEq,and_true] at heq;obtain⟨rfl,rfl⟩:=heq
  split at he
  ·rename_i tys' kvs k hg hd
   obtain⟨rfl,hty,he⟩:=he
   have hob:=AL.get_some hg
   obtain⟨hlt,ho⟩:=h.objs _ _ _ hob
   cases hm with|map _ _ _ _ =>
   generalize β o g=um at *
   cases ho with|map _ _ b es hb hl hent =>
   exact main kvs k b es _ rfl hb ⟨by simpa using hl,fun i kv e h1 h2=>by
    obtain⟨a1,a2,a3,_⟩:=hent i kv e h1 (by simpa using h2)
    exact⟨a1,a2,a3⟩⟩ hd hty he
  ·rename_i tys' es0 cl k hg hd
   obtain⟨rfl,hty,he⟩:=he
   have hob:=AL.get_some hg
   obtain⟨hlt,ho⟩:=h.objs _ _ _ hob
   cases hm with|map _ _ _ _ =>
   generalize β o g=um at *
   cases ho with|mapB _ _ _ b es hb hl hr hent =>
   exact main _ k b es _ rfl hb (Yy hl hent) hd hty he
  ·exact he.elim
 ·rename_i tys' kvs key' heq
  simp only[List.cons.injEq,and_true] at heq;obtain⟨rfl,rfl⟩:=heq
  split at he
  ·rename_i k hd
   obtain⟨rfl,hty,he⟩:=he
   cases hm with|d _ _ hm =>
   cases hm with|map _ _ b es cl hb hh hl hr htk hkk hvv =>
   exact main kvs k b es cl rfl hh ⟨by simpa using hl,fun i kv e h1 h2=>⟨htk kv (List.mem_of_getElem? h1),hkk i kv e h1 (by simpa using h2),hvv i kv e h1 (by simpa using h2)⟩⟩ hd hty he
  ·exact he.elim
 ·rename_i key' heq
  simp only[List.cons.injEq,and_true] at heq;obtain⟨rfl,rfl⟩:=heq
  split at he
  ·rename_i k hd
   obtain⟨hty,he⟩:=he
   have hkr:=(CD hkey hd).1
   cases hm with|d _ _ hm=>cases hm with|nilmap =>
   refine CF h he ?_ (fin false z zv hzr)
   have hfind:=F3 (w:=w) (fb2:=c.bar β s.V) hk hty hkr (kvs:=[]) (es:=[]) ⟨rfl,fun i kv e h1=>by simp at h1⟩
   simp only[Instr.lookup,Sem.run_bind,run_underlying ht,Result.andThen_ok,Sem.run_pure,Ck hk hty hkr _ 9998,hfind,DZ,D6,Option.bind_none,hzv]
  ·exact he.elim
 ·exact he.elim
end
end Go.Pw
end
