/- A part of the proof. -/
import Derived.Test.YtpcpcjbbdgmohaaGreatPkA
set_option linter.all false
section
namespace Go.Pw
open Go.RowKit
section
variable {P:Program}{w:World}
theorem Aj {α γ:Type}{f:α->Option γ}:∀{l:List α}{r:List γ},Aw f l=some r->r.length=l.length
 |[],r,h=>by simp[Aw] at h;subst h;rfl
 |x::xs,r,h=>by
  simp only[Aw] at h
  split at h
  ·cases h
  ·split at h
   ·cases h
   ·rename_i y hy ys hys
    simp at h;subst h
    simp[Aj hys]
theorem Cs {α γ:Type}{f:α->Option γ}:∀{l:List α}{r:List γ}{i:Nat}{x:α},Aw f l=some r->l[i]?=some x->∃y,r[i]?=some y/\f x=some y
 |[],r,i,x,h,hx=>by simp at hx
 |z::zs,r,i,x,h,hx=>by
  simp only[Aw] at h
  split at h
  ·cases h
  ·split at h
   ·cases h
   ·rename_i y hy _ ys hys
    simp at h;subst h
    cases i with
    |zero=>simp at hx;subst hx;exact⟨y,by simp,hy⟩
    |succ i=>simp at hx ⊢;exact Cs hys hx
theorem HX {t:TypeId}{k:Option IntKind}(hk:Dt P t=some k) {a b:D}{fb:Nat->Prop}{u v:Value}(ha:Dk [k] [a]=true) (hb:Dk [k] [b]=true)
  (hu:Ap w fb a u) (hv:Ap w fb b v) (d:Nat):(Op.equalIn (d+1) t u v).run P w=.ok (FM a b) w:=by
 unfold Dt at hk
 split at hk
 ·rename_i k' ht
  simp at hk;subst hk
  cases hu<;>simp[Dk] at ha
  cases hv<;>simp[Dk] at hb
  subst ha hb
  rw[run_equalIn_int w d t _ _ _ _ ht]
  simp[FM,QQ]
 ·rename_i ht
  simp at hk;subst hk
  cases hu<;>simp[Dk] at ha
  cases hv<;>simp[Dk] at hb
  rw[run_equalIn_bool w d t _ _ ht]
  simp[FM]
 ·cases hk
theorem Cg {k:Option IntKind}{ks:List (Option IntKind)}{c:D}{cs:List D}(h:Dk (k::ks) (c::cs)=true):Dk [k] [c]=true/\Dk ks cs=true:=by
 cases k<;>cases c<;>simp_all[Dk]
theorem BZ:∀{ks:List (Option IntKind)}{cs:List D},Dk ks cs=true->cs.length=ks.length
 |[],[],_=>rfl
 |[],_::_,h=>by simp[Dk] at h
 |some _::_,[],h=>by simp[Dk] at h
 |none::_,[],h=>by simp[Dk] at h
 |k::ks,c::cs,h=>by simp[BZ (Cg h).2]
theorem RB {t:TypeId}{k:Option IntKind}(hk:Dt P t=some k):E_ P t=some false:=by
 unfold Dt at hk
 split at hk<;>first|cases hk;done|skip
 ·rename_i ht;simp[E_,ht]
 ·rename_i ht;simp[E_,ht]
theorem ED {t:TypeId}{k:Option IntKind}(hk:Dt P t=some k) {vs:Array Value}{i:Nat}{v:Value}(hv:vs[i]?=some v):(part t vs i).run P w=.ok v w:=by
 simp[part,IB (RB hk),hv]
theorem M0 {fb:Nat->Prop}{asq bs:List D}{us vs:Array Value}(hu:CM (Ap w fb) asq us) (hv:CM (Ap w fb) bs vs) (d:Nat) :
  ∀(fs:List Field) (ks:List (Option IntKind)) (i:Nat) (as' bs':List D),Aw (fun f=>Dt P f.type) fs=some ks->((fs.zipIdx i).all fun(f,i)=>f.name != "_" && f.offset == i)=true ->
   (∀j,as'[j]?=asq[i+j]?)->(∀j,bs'[j]?=bs[i+j]?)->Dk ks as'=true->Dk ks bs'=true ->
   (Op.eqFields (d+1) us vs fs).run P w=.ok (EP as' bs') w
 |[],ks,i,as',bs',hk,hn,ha,hb,ta,tb=>by
  simp[Aw] at hk;subst hk
  have:=BZ ta;have h2:=BZ tb
  simp at this h2;subst this h2
  simp[Op.eqFields,EP]
 |f::fs,ks,i,as',bs',hk,hn,ha,hb,ta,tb=>by
  simp only[Aw] at hk
  split at hk
  ·cases hk
  ·rename_i k hkf
   split at hk
   ·cases hk
   ·rename_i ks' hks
    simp at hk;subst hk
    simp only[List.zipIdx_cons,List.all_cons,Bool.and_eq_true,bne_iff_ne,ne_eq,beq_iff_eq] at hn
    obtain⟨⟨hn1,hn2⟩,hn3⟩:=hn
    have la:=BZ ta;have lb:=BZ tb
    match as',bs',la,lb with
    |a::as'',b::bs'',_,_ =>
     have ea:asq[i]?=some a:=by have:=ha 0;simpa using this.symm
     have eb:bs[i]?=some b:=by have:=hb 0;simpa using this.symm
     obtain⟨u,hui⟩:∃u,us[i]?=some u:=⟨_,Array.getElem?_eq_getElem (by have:=hu.1;have:=(List.getElem?_eq_some_iff.1 ea).1;omega)⟩
     obtain⟨v,hvi⟩:∃v,vs[i]?=some v:=⟨_,Array.getElem?_eq_getElem (by have:=hv.1;have:=(List.getElem?_eq_some_iff.1 eb).1;omega)⟩
     have hcell:=HX hkf (Cg ta).1 (Cg tb).1 (hu.2 i a u ea hui) (hv.2 i b v eb hvi) d
     have ih:=M0 hu hv d fs ks' (i+1) as'' bs'' hks hn3
      (fun j=>by have:=ha (j+1);simp at this;rw[this];congr 1;omega) (fun j=>by have:=hb (j+1);simp at this;rw[this];congr 1;omega) (Cg ta).2 (Cg tb).2
     simp only[Op.eqFields]
     rw[if_pos hn1]
     rw[hn2]
     simp only[Sem.run_bind,ED hkf hui,ED hkf hvi,Result.andThen_ok,hcell]
     cases hp:FM a b
     ·simp[EP,hp]
     ·simp[EP,hp,ih]
theorem PG {e:TypeId}{k:Option IntKind}(hk:Dt P e=some k) {fb:Nat->Prop}{asq bs:List D}{us vs:Array Value}(hu:CM (Ap w fb) asq us) (hv:CM (Ap w fb) bs vs) (d:Nat) :
  ∀(n i:Nat) (as' bs':List D),(∀j,as'[j]?=asq[i+j]?)->(∀j,bs'[j]?=bs[i+j]?)->Dk (List.replicate n k) as'=true->Dk (List.replicate n k) bs'=true ->
   ((forIn (m:=Sem) (List.range' i n) ((none,()):Option Bool×PUnit) fun j r=>do
     let a ←part e us (j*1)
     let b ←part e vs (j*1)
     let r ←Op.equalIn (d+1) e a b
     if (!r)=true then pure (.done (some false,())) else pure (.yield (none,()))):Sem (Option Bool×PUnit)).run P w =
    .ok (if EP as' bs' then (none,()) else (some false,())) w
 |0,i,as',bs',ha,hb,ta,tb=>by
  have la:=BZ ta;have lb:=BZ tb
  simp at la lb;subst la lb
  simp[EP]
 |n+1,i,as',bs',ha,hb,ta,tb=>by
  have la:=BZ ta;have lb:=BZ tb
  rw[List.replicate_succ] at ta tb
  match as',bs',la,lb with
  |a::as'',b::bs'',_,_ =>
   have ea:asq[i]?=some a:=by have:=ha 0;simpa using this.symm
   have eb:bs[i]?=some b:=by have:=hb 0;simpa using this.symm
   obtain⟨u,hui⟩:∃u,us[i]?=some u:=⟨_,Array.getElem?_eq_getElem (by have:=hu.1;have:=(List.getElem?_eq_some_iff.1 ea).1;omega)⟩
   obtain⟨v,hvi⟩:∃v,vs[i]?=some v:=⟨_,Array.getElem?_eq_getElem (by have:=hv.1;have:=(List.getElem?_eq_some_iff.1 eb).1;omega)⟩
   have hcell:=HX hk (Cg ta).1 (Cg tb).1 (hu.2 i a u ea hui) (hv.2 i b v eb hvi) d
   have ih:=PG hk hu hv d n (i+1) as'' bs''
    (fun j=>by have:=ha (j+1);simp at this;rw[this];congr 1;omega) (fun j=>by have:=hb (j+1);simp at this;rw[this];congr 1;omega) (Cg ta).2 (Cg tb).2
   simp only[List.range'_succ,List.forIn_cons,Sem.run_bind,Nat.mul_one,ED hk hui,ED hk hvi,Result.andThen_ok,hcell]
   cases hp:FM a b
   ·simp[EP,hp]
   ·simp only[Bool.not_true,Bool.false_eq_true,if_false,Sem.run_pure,Result.andThen_ok]
    simp only[Nat.mul_one] at ih
    rw[ih]
    simp[EP,hp]
theorem Mz {t:TypeId}{tys:HK}(ht:CX P t=some tys) {a b:D}{fb:Nat->Prop}{u v:Value}
  (ha:Fo tys a=true) (hb:Fo tys b=true) (hu:Ap w fb a u) (hv:Ap w fb b v) (d:Nat) :
  (Op.equalIn (d+2) t u v).run P w=.ok (DC a b) w:=by
 unfold CX at ht
 simp only[Fo,Bool.and_eq_true,beq_iff_eq] at ha hb
 split at ht
 ·rename_i k hk
  simp at ht;subst ht
  have e1:a.cells=[a]:=by cases a<;>simp_all[D.cells,D.isAgg]
  have e2:b.cells=[b]:=by cases b<;>simp_all[D.cells,D.isAgg]
  rw[e1] at ha;rw[e2] at hb
  rw[HX (by simp[Dt,hk]) ha.2 hb.2 hu hv (d+1)]
  simp[DC,e1,e2,EP]
 ·rename_i hk
  simp at ht;subst ht
  have e1:a.cells=[a]:=by cases a<;>simp_all[D.cells,D.isAgg]
  have e2:b.cells=[b]:=by cases b<;>simp_all[D.cells,D.isAgg]
  rw[e1] at ha;rw[e2] at hb
  rw[HX (by simp[Dt,hk]) ha.2 hb.2 hu hv (d+1)]
  simp[DC,e1,e2,EP]
 ·rename_i fs hk
  split at ht
  ·rename_i hc
   cases hl:Aw (fun f=>Dt P f.type) fs.toList with
   |none=>simp[hl] at ht
   |some l =>
    simp[hl] at ht;subst ht
    obtain⟨cs,rfl⟩:∃cs,a=.agg cs:=by cases a<;>simp_all[D.isAgg]
    obtain⟨ds,rfl⟩:∃cs,b=.agg cs:=by cases b<;>simp_all[D.isAgg]
    cases hu with|agg _ us hl1 h11 hr1 =>
    cases hv with|agg _ vs hl2 h12 hr2 =>
    have hf:P.fieldsOf t=fs:=by simp[Program.fieldsOf,hk]
    rw[run_equalIn_struct w (d+1) t us vs (by rw[hf];exact hk) hc.1,hf]
    exact M0 ⟨hl1,hr1⟩ ⟨hl2,hr2⟩ d fs.toList l 0 cs ds hl hc.2.2 (fun j=>by simp) (fun j=>by simp) ha.2 hb.2
  ·cases ht
 ·rename_i n e hk
  split at ht
  ·rename_i hc
   cases hke:Dt P e with
   |none=>simp[hke] at ht
   |some k =>
    simp[hke] at ht;subst ht
    obtain⟨cs,rfl⟩:∃cs,a=.agg cs:=by cases a<;>simp_all[D.isAgg]
    obtain⟨ds,rfl⟩:∃cs,b=.agg cs:=by cases b<;>simp_all[D.isAgg]
    cases hu with|agg _ us hl1 h11 hr1 =>
    cases hv with|agg _ vs hl2 h12 hr2 =>
    have:=PG hke (us:=us) (vs:=vs) ⟨hl1,hr1⟩ ⟨hl2,hr2⟩ d n 0 cs ds (fun j=>by simp) (fun j=>by simp) ha.2 hb.2
    rw[Op.equalIn]
    simp only[Sem.run_bind,run_underlying hk,Result.andThen_ok,BU hc.2]
    rw[Std.Legacy.Range.forIn_eq_forIn_range']
    simp only[Std.Legacy.Range.size,Nat.sub_zero,Nat.add_sub_cancel,Nat.div_one] at this ⊢
    rw[this]
    simp only[Result.andThen_ok,DC,D.cells]
    cases EP cs ds<;>simp
  ·cases ht
 ·cases ht
theorem JT {t:TypeId}{tys:HK}(ht:CX P t=some tys) {a b:D}{fb:Nat->Prop}{u v:Value}
 (ha:Fo tys a=true) (hb:Fo tys b=true) (hu:Ap w fb a u) (hv:Ap w fb b v) :
 (Op.equal t u v).run P w=.ok (DC a b) w:=Mz ht ha hb hu hv 9998
theorem SI {t:TypeId}{tys:HK}(ht:CX P t=some tys) {a b:D}{fb:Nat->Prop}{u v:Value}
  (ha:Fo tys a=true) (hb:Fo tys b=true) (hu:Ap w fb a u) (hv:Ap w fb b v) (hag:tys.1=true) (op:BinOp) (x y:Operand):∃us vs,u=.agg us/\v=.agg vs/\(eqGuard op t x y u v).run P w=.ok () w:=by
 simp only[Fo,Bool.and_eq_true,beq_iff_eq,hag] at ha hb
 obtain⟨cs,rfl⟩:∃cs,a=.agg cs:=by cases a<;>simp_all[D.isAgg]
 obtain⟨ds,rfl⟩:∃cs,b=.agg cs:=by cases b<;>simp_all[D.isAgg]
 cases hu with|agg _ us hl1 h11 hr1 =>
 cases hv with|agg _ vs hl2 h12 hr2 =>
 refine⟨us,vs,rfl,rfl,run_eqGuard_agg w op t x y us vs ?_⟩
 unfold CX at ht
 split at ht
 ·simp at ht;subst ht;simp at hag
 ·simp at ht;subst ht;simp at hag
 ·split at ht
  ·rename_i hc;exact hc.2.1
  ·cases ht
 ·split at ht
  ·rename_i hc;exact hc.1
  ·cases ht
 ·cases ht
end
end Go.Pw
end
section
namespace Go.Pw
open Go.RowKit
section
variable {E:CU}{c:DT}{β:Nat->Nat->Value}{s:A3}{tm:Array Value}{w:World}{K:AV->Bp->Prop}
theorem H_ {fb β' cn} {x:AV}{u:Value}{d:D}(h:AQ w fb β' cn x u) (hd:x.toD0=some d):Ap w fb d u/\(x.one=true->d.one=true):=by
 unfold AV.toD0 at hd
 split at hd
 ·cases hd
 ·cases hd
 ·simp at hd;subst hd
  cases h with|d _ _ h=>exact⟨h,fun h=>h⟩
 ·simp at hd;subst hd
  cases h with|ex _ a h=>exact⟨h,fun _=>rfl⟩
 ·split at hd
  ·cases hd
  ·simp at hd;subst hd
   cases h with|dptr _ _ b base vs hb hne h1 hc hv=>exact⟨.ptr _ b base vs hb hne h1 hc hv,fun _=>rfl⟩
 ·cases hd
theorem Dg {α γ:Type}{f:α->Option γ}{l:List α}{r:List γ}{y:γ}(h:Aw f l=some r) (hy:y∈r):∃x,x∈l/\f x=some y:=by
 obtain⟨i,hi⟩:=List.getElem?_of_mem hy
 have hlt:i<l.length:=by rw[←Aj h];exact(List.getElem?_eq_some_iff.1 hi).1
 obtain⟨y',h1,h2⟩:=Cs h (List.getElem?_eq_getElem hlt)
 rw[hi] at h1
 simp at h1;subst h1
 exact⟨_,List.getElem_mem hlt,h2⟩
theorem A4 {α γ:Type}{f:α->Option γ}{l:List α}{r:List γ}{i:Nat}{y:γ}(h:Aw f l=some r) (hy:r[i]?=some y):∃x,l[i]?=some x/\f x=some y:=by
 have hlt:i<l.length:=by rw[←Aj h];exact(List.getElem?_eq_some_iff.1 hy).1
 obtain⟨y',h1,h2⟩:=Cs h (List.getElem?_eq_getElem hlt)
 rw[hy] at h1;simp at h1;subst h1
 exact⟨_,List.getElem?_eq_getElem hlt,h2⟩
theorem B0 {fb β' cn} {x:AV}{u:Value}{d:D}(h:AQ w fb β' cn x u) (hd:x.toD1=some d):Ap w fb d u/\(x.one=true->d.one=true):=by
 unfold AV.toD1 at hd
 split at hd
 ·rename_i cs
  split at hd
  ·rename_i l hl
   simp at hd;subst hd
   obtain⟨vs,rfl,hc,h1⟩:=N4 h
   refine⟨.agg l vs (by rw[Aj hl];exact hc.1) (fun y hy=>?_) (fun i y v hy hv=>?_),fun h=>by simp[AV.one] at h⟩
   ·obtain⟨x,hx,hxy⟩:=Dg hl hy
    obtain⟨i,hi⟩:=List.getElem?_of_mem hx
    obtain⟨v,hv⟩:∃v,vs[i]?=some v:=⟨_,Array.getElem?_eq_getElem (by have:=hc.1;have:=(List.getElem?_eq_some_iff.1 hi).1;omega)⟩
    exact(H_ (hc.2 i x v hi hv) hxy).2 (h1 x hx)
   ·obtain⟨x,hx,hxy⟩:=A4 hl hy
    exact(H_ (hc.2 i x v hx hv) hxy).1
  ·cases hd
 ·rename_i f cs
  split at hd
  ·rename_i l hl
   simp at hd;subst hd
   cases h with|fn _ _ vs hlen hr =>
   exact⟨.fn f l vs (by rw[Aj hl];exact hlen) (fun i y v hy hv=>by
    obtain⟨x,hx,hxy⟩:=A4 hl hy
    exact(H_ (hr i x v hx hv) hxy).1),fun _=>rfl⟩
  ·cases hd
 ·rename_i f cs
  split at hd
  ·rename_i l hl
   simp at hd;subst hd
   cases h with|bnd _ _ vs hlen hr =>
   exact⟨.bnd f l vs (by rw[Aj hl];exact hlen) (fun i y v hy hv=>by
    obtain⟨x,hx,hxy⟩:=A4 hl hy
    exact(H_ (hr i x v hx hv) hxy).1),fun _=>rfl⟩
  ·cases hd
 ·exact H_ h hd
theorem Oi {c:DT}{β:Nat->Nat->Value}{V:AO}{b:Nat}(h:c.fb b):c.bar β V b:=.inl h
theorem D4 {x:AV}{xs:List AV}{o:Nat}(hx:x∈xs) (ho:o∈x.sites):o∈AV.sites.sitesL xs:=by
 induction xs with
 |nil=>cases hx
 |cons y ys ih =>
  simp only[AV.sites.sitesL,List.mem_append]
  cases hx with
  |head=>exact .inl ho
  |tail _ h=>exact .inr (ih h)
theorem Co {w':World}{fb:Nat->Prop}{ety es:Nat}{nl:Bool}{l:List D}{v:Value}(h:CV w' fb ety es nl l v) (hb:∀b,Cl v b->¬fb b):Ap w' fb (.list nl l) v:=by
 rcases h with⟨h1,h2,h3⟩|⟨h1,b,off,cap,cur,h2,h3,h4,h5,h6,h7,h8,h10,h9⟩
 ·subst h1 h2;rw[h3];exact .nil
 ·subst h1;subst h2
  refine .list l es b off cap (fun i j=>cur.getD (off+i*es+j) undef) h4 h5 (hb b rfl) h7 h8 h10 (fun i x j c hi hj=>?_) (fun i x j c hi hj=>?_)
  ·obtain⟨u,hu,_⟩:=h9 i x j c hi hj
   rw[Bx h3,hu];simp[Array.getD_eq_getD_getElem?,hu]
  ·obtain⟨u,hu,hd⟩:=h9 i x j c hi hj
   simpa[Array.getD_eq_getD_getElem?,hu] using hd
theorem kP {fb fb':Nat->Prop}{β':Nat->Nat->Value}{cn:Nat->Nat}{tys:HK}{kvs:List (D×D)}{v:Value}(h:DP w fb β' cn (.map tys kvs) v) (hb:∀b,Cl v b->¬fb' b) (hf:∀b,fb' b->fb b):Ap w fb' (.map tys kvs) v:=by
 cases h with|map _ _ b es hh hl h =>
 have ent:∀(i:Nat) e,es[i]?=some e->i<kvs.length/\e.born=i:=fun i e he=>by
  have hi:i<kvs.length:=by rw[←hl];exact(Array.getElem?_eq_some_iff.1 he).1
  exact⟨hi,(h i _ e (List.getElem?_eq_getElem hi) he).2.2.2⟩
 refine .map tys kvs b es kvs.length (hb b rfl) hh hl ⟨fun i e he=>by have:=ent i e he;omega,fun i j e e' h1 h2 hij=>by have:=ent i e h1;have:=ent j e' h2;omega⟩ (fun kv hkv=>?_) (fun i kv e h1 h2=>(h i kv e h1 h2).2.1.mono (Ag.refl _ _) fun b _ hb=>hf b hb) (fun i kv e h1 h2=>(h i kv e h1 h2).2.2.1.mono (Ag.refl _ _) fun b _ hb=>hf b hb)
 obtain⟨i,hi⟩:=List.getElem?_of_mem hkv
 have hlt:i<es.size:=by rw[hl];exact(List.getElem?_eq_some_iff.1 hi).1
 exact(h i kv _ hi (Array.getElem?_eq_getElem hlt)).1
theorem Y2 {fb fb':Nat->Prop}{β':Nat->Nat->Value}{cn:Nat->Nat}{tys:HK}{ks:List (Nat×D×D)}{cl:Nat}{v:Value}(h:DP w fb β' cn (.mapB tys ks cl) v) (hb:∀b,Cl v b->¬fb' b) (hf:∀b,fb' b->fb b):Ap w fb' (.map tys (ks.map (·.2))) v:=by
 cases h with|mapB _ _ _ b es hh hl hr h =>
 have pre:∀{i:Nat}{kv:D×D},(ks.map (·.2))[i]?=some kv->∃n,ks[i]?=some (n,kv):=fun {i kv} hk=>by
  rw[List.getElem?_map] at hk
  simp only[Option.map_eq_some_iff] at hk
  obtain⟨⟨n,kv'⟩,h1,rfl⟩:=hk
  exact⟨n,h1⟩
 refine .map tys _ b es cl (hb b rfl) hh (by simpa using hl) hr (fun kv hkv=>?_) (fun i kv e h1 h2=>?_) (fun i kv e h1 h2=>?_)
 ·obtain⟨i,hi⟩:=List.getElem?_of_mem hkv
  obtain⟨n,hn⟩:=pre hi
  have hlt:i<es.size:=by rw[hl];exact(List.getElem?_eq_some_iff.1 hn).1
  exact(h i _ _ hn (Array.getElem?_eq_getElem hlt)).1
 ·obtain⟨n,hn⟩:=pre h1
  exact(h i _ e hn h2).2.1.mono (Ag.refl _ _) fun b _ hb=>hf b hb
 ·obtain⟨n,hn⟩:=pre h1
  exact(h i _ e hn h2).2.2.1.mono (Ag.refl _ _) fun b _ hb=>hf b hb
theorem Fr (h:BP E c β s tm w) {fb':Nat->Prop}(hfb:∀b,fb' b->c.bar β s.V b) {x:AV}{u:Value}{d:D}(hx:AQ w (c.bar β s.V) β s.V.cn x u) (hd:x.snap0 s.V=some d) (hs:∀o g y b,o∈x.sites->s.V.ob o=some (g,y)->Cl (β o g) b->¬fb' b):Ap w fb' d u/\(x.one=true->d.one=true):=by
 have weak:∀{d:D}{u:Value},Ap w (c.bar β s.V) d u->Ap w fb' d u:=fun h=>h.mono (Ag.refl _ _) fun b _ hb=>hfb b hb
 unfold AV.snap0 at hd
 split at hd
 ·rename_i o g
  split at hd
  ·rename_i ety es nl l hg
   simp at hd;subst hd
   have hob:=AO.get_some hg
   obtain⟨hlt,ho⟩:=h.objs _ _ _ hob
   cases ho with|row _ _ _ _ _ ho =>
   cases hx with|own _ _ _ _ =>
   refine⟨?_,fun _=>rfl⟩
   rcases ho with⟨h1,h2,h3⟩|⟨h1,b,off,cap,cur,h2,h3,h4,h5,h6,h7,h8,h10,h9⟩
   ·subst h1 h2;rw[h3];exact .nil
   ·subst h1;rw[h2]
    refine .list l es b off cap (fun i j=>cur.getD (off+i*es+j) undef) h4 h5 ?_ h7 h8 h10 (fun i x j c hi hj=>?_) (fun i x j c hi hj=>?_)
    ·exact hs o g _ b (by simp[AV.sites]) hob (by rw[h2];exact rfl)
    ·obtain⟨u,hu,_⟩:=h9 i x j c hi hj
     rw[Bx h3,hu];simp[Array.getD_eq_getD_getElem?,hu]
    ·obtain⟨u,hu,hd⟩:=h9 i x j c hi hj
     simp only[Array.getD_eq_getD_getElem?,hu,Option.getD_some];exact weak hd
  ·cases hd
 ·rename_i o g
  split at hd
  ·rename_i xs hg
   split at hd
   ·rename_i c0 l hl
    simp at hd;subst hd
    have hob:=AO.get_some hg
    obtain⟨hlt,ho⟩:=h.objs _ _ _ hob
    cases hx with|ptr _ _ _ b hlt hβ =>
    rw[hβ] at ho
    cases ho with|cells _ _ cur e hb hlen h1 hr =>
    refine⟨.ptr (c0::l) b 0 (fun j=>cur.getD j undef) (hs o g _ b (by simp[AV.sites]) hob (by rw[hβ];exact rfl)) (by simp) (fun y hy=>?_) (fun j y hj=>?_) (fun j y hj=>?_),fun _=>rfl⟩
    ·obtain⟨x,hx,hxy⟩:=Dg hl hy
     obtain⟨i,hi⟩:=List.getElem?_of_mem hx
     obtain⟨v,hv⟩:∃v,cur[i]?=some v:=⟨_,Array.getElem?_eq_getElem (by have:=(List.getElem?_eq_some_iff.1 hi).1;omega)⟩
     exact(B0 (hr i x v hi hv) hxy).2 (h1 x hx)
    ·obtain⟨x,hx,hxy⟩:=A4 hl hj
     have hlt:j<cur.size:=by have:=(List.getElem?_eq_some_iff.1 hx).1;omega
     rw[Nat.zero_add,Bx hb,Array.getElem?_eq_getElem hlt];simp[Array.getD_eq_getD_getElem?,hlt]
    ·obtain⟨x,hx,hxy⟩:=A4 hl hj
     have hlt:j<cur.size:=by have:=(List.getElem?_eq_some_iff.1 hx).1;omega
     have:=(B0 (hr j x _ hx (Array.getElem?_eq_getElem hlt)) hxy).1
     simp only[Array.getD_eq_getD_getElem?,Array.getElem?_eq_getElem hlt,Option.getD_some];exact weak this
   ·cases hd
  ·cases hd
 ·rename_i off n cap o g
  split at hd
  ·rename_i xs hg
   split at hd
   ·rename_i hc
    obtain⟨hc1,hc2,hc3⟩:=hc
    split at hd
    ·rename_i l hl
     simp at hd;subst hd
     have hob:=AO.get_some hg
     obtain⟨hlt,ho⟩:=h.objs _ _ _ hob
     cases hx with|mref _ _ _ u hlt2 hm h1u =>
     obtain⟨v,hv⟩:∃v,β o g=v:=⟨_,rfl⟩
     rw[hv] at ho hm
     cases ho with|cells _ b cur e hb hlen h1 hr =>
     simp only[Dd] at hm
     split at hm
     ·simp at hm;subst hm
      have hll:l.length=n:=by rw[Aj hl,List.length_take,List.length_drop];omega
      have hget:∀(i:Nat) y,l[i]?=some y->∃x u,xs[off+i]?=some x/\cur[off+i]?=some u/\x.toD1=some y/\AQ w (c.bar β s.V) β s.V.cn x u:=fun i y hy=>by
       obtain⟨x,hx,hxy⟩:=A4 hl hy
       have hin:i<n:=by rw[←hll];exact(List.getElem?_eq_some_iff.1 hy).1
       rw[List.getElem?_take_of_lt hin,List.getElem?_drop] at hx
       have hcl:off+i<cur.size:=by rw[hlen];omega
       exact⟨x,_,hx,Array.getElem?_eq_getElem hcl,hxy,hr _ x _ hx (Array.getElem?_eq_getElem hcl)⟩
      have hone:∀y,y∈l->y.one=true/\y.cells=[y]:=fun y hy=>by
       obtain⟨i,hi⟩:=List.getElem?_of_mem hy
       obtain⟨x,u,k1,k2,k3,k4⟩:=hget i y hi
       have:=(B0 k4 k3).2 (h1 x (List.mem_of_getElem? k1))
       exact⟨this,by cases y<;>simp_all[D.one,D.cells]⟩
      refine⟨?_,fun _=>rfl⟩
      have key:=Ap.list (w:=w) (fb:=fb') l 1 b off cap (fun i _=>cur.getD (off+i) undef) (by omega) (by simp only[maxLen];omega) (hs o g _ b (by simp[AV.sites]) hob (by rw[hv];exact rfl)) Nat.zero_lt_one
       (fun x hx=>by rw[(hone x hx).2];rfl) (fun x c hx hcx=>by rw[(hone x hx).2,List.mem_singleton] at hcx;subst hcx;exact(hone c hx).1)
       (fun i x j c hi hj=>by
        have hx:=(hone x (List.mem_of_getElem? hi)).2
        rw[hx] at hj
        cases j with
        |zero =>
         obtain⟨x',u,k1,k2,k3,k4⟩:=hget i x hi
         rw[show off+i*1+0=off+i by omega,Bx hb,k2];simp[Array.getD_eq_getD_getElem?,k2]
        |succ j=>simp at hj)
       (fun i x j c hi hj=>by
        have hx:=(hone x (List.mem_of_getElem? hi)).2
        rw[hx] at hj
        cases j with
        |zero =>
         simp at hj;subst hj
         obtain⟨x',u,k1,k2,k3,k4⟩:=hget i x hi
         simp only[Array.getD_eq_getD_getElem?,k2,Option.getD_some];exact weak (B0 k4 k3).1
        |succ j=>simp at hj)
      rw[hll] at key;exact key
     ·cases hm
    ·cases hd
   ·cases hd
  ·cases hd
 ·rename_i o g
  cases hx with|map _ _ _ _ =>
  split at hd
  ·rename_i tys kvs hg
   simp at hd;subst hd
   have hob:=AO.get_some hg
   exact⟨kP (h.objs _ _ _ hob).2 (fun b hb=>hs o g _ b (by simp[AV.sites]) hob hb) hfb,fun _=>rfl⟩
  ·rename_i tys es cl hg
   simp at hd;subst hd
   have hob:=AO.get_some hg
   exact⟨Y2 (h.objs _ _ _ hob).2 (fun b hb=>hs o g _ b (by simp[AV.sites]) hob hb) hfb,fun _=>rfl⟩
  ·cases hd
 ·obtain⟨h1,h2⟩:=B0 hx hd
  exact⟨weak h1,h2⟩
theorem S1 (h:BP E c β s tm w) {fb':Nat->Prop}(hfb:∀b,fb' b->c.bar β s.V b) {x:AV}{u:Value}{d:D}(hx:AQ w (c.bar β s.V) β s.V.cn x u) (hd:x.snap s.V=some d) (hs:∀o g y b,o∈x.sites->s.V.ob o=some (g,y)->Cl (β o g) b->¬fb' b):Ap w fb' d u:=by
 unfold AV.snap at hd
 split at hd
 ·rename_i cs
  split at hd
  ·rename_i l hl
   simp at hd;subst hd
   obtain⟨vs,rfl,hc,h1⟩:=N4 hx
   refine .agg l vs (by rw[Aj hl];exact hc.1) (fun y hy=>?_) (fun i y v hy hv=>?_)
   ·obtain⟨x,hx,hxy⟩:=Dg hl hy
    obtain⟨i,hi⟩:=List.getElem?_of_mem hx
    obtain⟨v,hv⟩:∃v,vs[i]?=some v:=⟨_,Array.getElem?_eq_getElem (by have:=hc.1;have:=(List.getElem?_eq_some_iff.1 hi).1;omega)⟩
    exact(Fr h hfb (hc.2 i x v hi hv) hxy fun o g y b ho=>hs o g y b (by simp only[AV.sites];exact D4 hx ho)).2 (h1 x hx)
   ·obtain⟨x,hx,hxy⟩:=A4 hl hy
    exact(Fr h hfb (hc.2 i x v hx hv) hxy fun o g y b ho=>hs o g y b (by simp only[AV.sites];exact D4 (List.mem_of_getElem? hx) ho)).1
  ·cases hd
 ·rename_i f cs
  split at hd
  ·rename_i l hl
   simp at hd;subst hd
   cases hx with|fn _ _ vs hlen hr =>
   exact .fn f l vs (by rw[Aj hl];exact hlen) (fun i y v hy hv=>by
    obtain⟨x,hx,hxy⟩:=A4 hl hy
    exact(Fr h hfb (hr i x v hx hv) hxy fun o g y b ho=>hs o g y b (by simp only[AV.sites];exact D4 (List.mem_of_getElem? hx) ho)).1)
  ·cases hd
 ·rename_i f cs
  split at hd
  ·rename_i l hl
   simp at hd;subst hd
   cases hx with|bnd _ _ vs hlen hr =>
   exact .bnd f l vs (by rw[Aj hl];exact hlen) (fun i y v hy hv=>by
    obtain⟨x,hx,hxy⟩:=A4 hl hy
    exact(Fr h hfb (hr i x v hx hv) hxy fun o g y b ho=>hs o g y b (by simp only[AV.sites];exact D4 (List.mem_of_getElem? hx) ho)).1)
  ·cases hd
 ·exact(Fr h hfb hx hd hs).1
theorem OQ (h:BP E c β s tm w) {x:AV}{u:Value}{d:D}(hx:AQ w (c.bar β s.V) β s.V.cn x u) (hd:x.snap0 s.V=some d):Ap w c.fb d u/\(x.one=true->d.one=true) :=
 Fr h (fun b hb=>Oi hb) hx hd fun o g y b _ ho hb=>(h.home o g y b ho hb).2.2
theorem Qn (h:BP E c β s tm w) {x:AV}{u:Value}{d:D}(hx:AQ w (c.bar β s.V) β s.V.cn x u) (hd:x.snap s.V=some d):Ap w c.fb d u :=
 S1 h (fun b hb=>Oi hb) hx hd fun o g y b _ ho hb=>(h.home o g y b ho hb).2.2
theorem S2 (h:BP E c β s tm w) {x:AV}{u:Value}{d:D}(hx:AQ w (c.bar β s.V) β s.V.cn x u) (hd:x.snapC s.V=some d):Ap w c.fb d u/\(x.one=true->d.one=true):=by
 unfold AV.snapC at hd
 split at hd
 ·rename_i o g
  exact OQ h hx (by unfold AV.snap0;exact hd)
 ·rename_i o g
  exact OQ h hx (by unfold AV.snap0;exact hd)
 ·obtain⟨h1,h2⟩:=B0 hx hd
  exact⟨h1.mono (Ag.refl _ _) fun b _ hb=>Oi hb,h2⟩
theorem S0 (h:BP E c β s tm w) {x:AV}{u:Value}{d:D}(hx:AQ w (c.bar β s.V) β s.V.cn x u) (hd:x.snapN s.V=some d):Ap w c.fb d u:=by
 unfold AV.snapN at hd
 split at hd
 ·rename_i o g
  split at hd
  ·rename_i xs hg
   split at hd
   ·rename_i c0 l hl
    simp at hd;subst hd
    have hob:=AO.get_some hg
    obtain⟨hlt,ho⟩:=h.objs _ _ _ hob
    cases hx with|ptr _ _ _ b hlt hβ =>
    rw[hβ] at ho
    cases ho with|cells _ _ cur e hb hlen h1 hr =>
    refine .ptr (c0::l) b 0 (fun j=>cur.getD j undef) ((h.home o g _ b hob (by rw[hβ];exact rfl)).2.2) (by simp) (fun y hy=>?_) (fun j y hj=>?_) (fun j y hj=>?_)
    ·obtain⟨x,hx,hxy⟩:=Dg hl hy
     obtain⟨i,hi⟩:=List.getElem?_of_mem hx
     obtain⟨v,hv⟩:∃v,cur[i]?=some v:=⟨_,Array.getElem?_eq_getElem (by have:=(List.getElem?_eq_some_iff.1 hi).1;omega)⟩
     exact(S2 h (hr i x v hi hv) hxy).2 (h1 x hx)
    ·obtain⟨x,hx,hxy⟩:=A4 hl hj
     have hlt:j<cur.size:=by have:=(List.getElem?_eq_some_iff.1 hx).1;omega
     rw[Nat.zero_add,Bx hb,Array.getElem?_eq_getElem hlt];simp[Array.getD_eq_getD_getElem?,hlt]
    ·obtain⟨x,hx,hxy⟩:=A4 hl hj
     have hlt:j<cur.size:=by have:=(List.getElem?_eq_some_iff.1 hx).1;omega
     have:=(S2 h (hr j x _ hx (Array.getElem?_eq_getElem hlt)) hxy).1
     simp only[Array.getD_eq_getD_getElem?,Array.getElem?_eq_getElem hlt,Option.getD_some];exact this
   ·cases hd
  ·cases hd
 ·exact Qn h hx hd
theorem Vo (h:BP E c β s tm w) {fb':Nat->Prop}(hfb:∀b,fb' b->c.bar β s.V b) {e1 e2:Nat}{nl0:Bool}{ix:List Nat}{rows:List (Bool×List D)}{o g j:Nat}{x:Bool×List D}{u:Value}
  (hg:s.V.get o g=some (.mat e1 e2 nl0 ix rows)) (hx:rows[j]?=some x) (ha:H9 x=true) (hp:AQ w (c.bar β s.V) β s.V.cn (.mref (.row j) o g) u) (hs:∀b,Cl (β o g) b->¬fb' b):Ap w fb' (.list x.1 x.2) u:=by
 have hob:=AO.get_some hg
 obtain⟨hlt,ho⟩:=h.objs _ _ _ hob
 obtain⟨v,hv⟩:∃v,β o g=v:=⟨_,rfl⟩
 cases hp with|mref _ _ _ u hlt hm hu1 =>
 rw[hv] at ho
 cases ho with|mat _ _ _ _ _ _ ho =>
 obtain⟨v0,vs,hvv,hlen,hc,hr,hsep⟩:=ho
 have hv':=hv
 rw[hvv] at hv'
 rw[hv'] at hm hs
 simp only[Dd,Bw,List.getElem?_cons_succ] at hm
 have hrow:=(hr j x u hx hm).2 ha
 refine Co (hrow.mono (Ag.refl _ _) (fun b _ hb=>hfb b hb) fun _ _ _=>rfl) fun b hb=>hs b ⟨j+1,u,by simpa using hm,hrow.blk hb⟩
theorem UU (h:BP E c β s tm w) {fb':Nat->Prop}(hfb:∀b,fb' b->c.bar β s.V b) {e1 e2:Nat}{nl:Bool}{ix:List Nat}{rows:List (Bool×List D)}{o g:Nat}{u:Value}
  (hg:s.V.get o g=some (.mat e1 e2 nl ix rows)) (hal:Sf ix rows=true) (hp:AQ w (c.bar β s.V) β s.V.cn (.mref .out o g) u) (hs:∀b,Cl (β o g) b->¬fb' b):Ap w fb' (.list nl (I9 ix rows)) u:=by
 have hob:=AO.get_some hg
 obtain⟨hlt,ho⟩:=h.objs _ _ _ hob
 obtain⟨v,hv⟩:∃v,β o g=v:=⟨_,rfl⟩
 have hp':=hp
 cases hp with|mref _ _ _ u hlt hm hu1 =>
 rw[hv] at ho
 cases ho with|mat _ _ _ _ _ _ ho =>
 obtain⟨v0,vs,hvv,hlen,hc,hr,hsep⟩:=ho
 have hv':=hv
 rw[hvv] at hv'
 rw[hv'] at hm
 simp only[Dd,Bw,List.getElem?_cons_zero,Option.some.injEq] at hm
 subst hm
 rcases hc with⟨h01,h02,h03⟩|⟨h01,b,off,cap,cur,h2,h3,h4,h5,h6,h7⟩
 ·subst h01 h02 h03;exact .nil
 ·subst h01 h2
  have hb:¬fb' b:=hs b (by rw[hv'];exact⟨0,_,by rw[Bw];rfl,rfl⟩)
  have hlm:(I9 ix rows).length=ix.length:=by simp[I9]
  rw[←hlm]
  refine Ap.list (w:=w) (fb:=fb') (I9 ix rows) 1 b off cap (fun i _=>cur.getD (off+i) undef) (by omega) h5 hb Nat.one_pos (fun x hx=>by
    simp only[I9,List.mem_map] at hx;obtain⟨j,_,rfl⟩:=hx;rfl) (fun x cc hx hcc=>by
    simp only[I9,List.mem_map] at hx;obtain⟨j,_,rfl⟩:=hx;simp[D.cells] at hcc;subst hcc;rfl) (fun i x q cc hi hq=>?_) (fun i x q cc hi hq=>?_)
  all_goals
   simp only[I9,List.getElem?_map,Option.map_eq_some_iff] at hi
   obtain⟨j,hj,rfl⟩:=hi
   obtain⟨uj,huj,hcj⟩:=h7 i j hj
   obtain⟨x,hx⟩:∃x,rows[j]?=some x:=⟨_,List.getElem?_eq_getElem (by have:=(List.getElem?_eq_some_iff.1 huj).1;omega)⟩
   cases q with
   |succ q=>simp[D.cells] at hq
   |zero =>
    simp[D.cells] at hq;subst hq
    first
    |rw[Bx h3];simp[Array.getD_eq_getD_getElem?,hcj]
    |simp only[Array.getD_eq_getD_getElem?,hcj,Option.getD_some,hx]
     exact Vo h hfb hg hx (by have:=List.all_eq_true.1 hal j (List.mem_of_getElem? hj);rw[hx] at this;exact this) (.mref _ _ _ _ hlt (by rw[hv'];simp[Dd,huj]) (hr j x uj hx huj).1) hs
theorem Rl (h:BP E c β s tm w) {x:AV}{u:Value}{nl:Bool}{l:List D}(hx:AQ w (c.bar β s.V) β s.V.cn x u) (hl:x.asList s.V=some (nl,l)):Ap w c.fb (.list nl l) u:=by
 have weak:∀{d:D}{u:Value},Ap w (c.bar β s.V) d u->Ap w c.fb d u:=fun h=>h.mono (Ag.refl _ _) fun b _ hb=>Oi hb
 unfold AV.asList at hl
 split at hl
 ·simp at hl;obtain⟨rfl,rfl⟩:=hl
  cases hx with|d _ _ hx=>exact weak hx
 ·simp at hl;obtain⟨rfl,rfl⟩:=hl
  cases hx with|ex _ a hx=>exact weak hx
 ·rename_i o g
  split at hl
  ·rename_i ety es nl l hg
   simp at hl;obtain⟨rfl,rfl⟩:=hl
   exact(OQ h hx (by simp[AV.snap0,hg])).1
  ·cases hl
 ·rename_i o g
  split at hl
  ·rename_i e1 e2 nl ix rows hg
   split at hl
   ·rename_i hal
    simp at hl;obtain⟨rfl,rfl⟩:=hl
    exact UU h (fun b hb=>Oi hb) hg hal hx fun b hb=>(h.home _ _ _ b (AO.get_some hg) hb).2.2
   ·cases hl
  ·cases hl
 ·rename_i j o g
  split at hl
  ·rename_i e1 e2 nl0 ix rows hg
   obtain⟨hl,ha⟩:=Option.filter_eq_some_iff.1 hl
   exact Vo h (fun b hb=>Oi hb) hg hl ha hx fun b hb=>(h.home _ _ _ b (AO.get_some hg) hb).2.2
  ·cases hl
 ·cases hl
theorem BW {b:Nat}{es:Array MapEntry}{cl:Nat}(hb:w.heap[b]?=some (.map es cl)):(getObj b).run E.P w=.ok (.map es cl) w:=by
 simp[getObj,Sem.run,hb]
theorem CY {P:Program}{t:TypeId}{tys:HK}(ht:CX P t=some tys) {a:D}{fb:Nat->Prop}{u:Value}(ha:Fo tys a=true) (hu:Ap w fb a u) (emp:Bool) (n:Nat) :
  (Instr.checkKey emp (n+2) t u).run P w=.ok () w:=by
 unfold CX at ht
 simp only[Fo,Bool.and_eq_true,beq_iff_eq] at ha
 have cell:∀{e:TypeId}{k:Option IntKind}(v:Value) (m:Nat),Dt P e=some k->(Instr.checkKey emp (m+1) e v).run P w=.ok () w:=by
  intro e k v m hk
  unfold Dt at hk
  split at hk
  ·rename_i k' hke;simp[Instr.checkKey,run_underlying hke]
  ·rename_i hke;simp[Instr.checkKey,run_underlying hke]
  ·cases hk
 split at ht
 ·rename_i k hk;exact cell (k:=some k) u (n+1) (by simp[Dt,hk])
 ·rename_i hk;exact cell (k:=none) u (n+1) (by simp[Dt,hk])
 ·rename_i fs hk
  split at ht
  ·rename_i hc
   cases hl:Aw (fun f=>Dt P f.type) fs.toList with
   |none=>simp[hl] at ht
   |some l =>
    simp[hl] at ht;subst ht
    obtain⟨cs,rfl⟩:∃cs,a=.agg cs:=by cases a<;>simp_all[D.isAgg]
    cases hu with|agg _ us hl1 h11 hr1 =>
    have hall:=hc.2.2
    have htl:cs.length=fs.toList.length:=by have h1:=BZ ha.2;have h2:=Aj hl;simp only[D.cells] at h1;omega
    rw[Instr.checkKey]
    simp only[Sem.run_bind,run_underlying hk,Result.andThen_ok]
    rw[←Array.forIn_toList]
    have key:∀(gs:List Field) (ks:List (Option IntKind)) (i:Nat),i+gs.length<=us.size->Aw (fun f=>Dt P f.type) gs=some ks->((gs.zipIdx i).all fun(f,i)=>f.name != "_" && f.offset == i)=true ->
      ((
       forIn (m:=Sem) gs PUnit.unit fun f r=>do
       if f.name ≠ "_" then do
        let x ←part f.type us f.offset
        Instr.checkKey emp (n+1) f.type x
        pure (.yield PUnit.unit)
       else pure (.yield PUnit.unit)):Sem PUnit).run P w=.ok PUnit.unit w:=by
     intro gs
     induction gs with
     |nil=>intro ks i _ _ _;simp
     |cons f gs ih =>
      intro ks i hlen hks hn
      simp only[Aw] at hks
      split at hks
      ·cases hks
      ·rename_i k hkf
       split at hks
       ·cases hks
       ·rename_i ks' hks'
        simp only[List.zipIdx_cons,List.all_cons,Bool.and_eq_true,bne_iff_ne,ne_eq,beq_iff_eq] at hn
        obtain⟨⟨hn1,hn2⟩,hn3⟩:=hn
        simp only[List.length_cons] at hlen
        have hui:us[i]?=some us[i]:=Array.getElem?_eq_getElem (by omega)
        have:=ih ks' (i+1) (by omega) hks' hn3
        simp only[List.forIn_cons,Sem.run_bind]
        rw[if_pos hn1,hn2]
        simp only[Sem.run_bind,ED hkf hui,Result.andThen_ok,cell _ _ hkf,Sem.run_pure]
        exact this
    have:=key fs.toList l 0 (by omega) hl hall
    rw[this];rfl
  ·cases ht
 ·rename_i m e hk
  split at ht
  ·rename_i hc
   cases hke:Dt P e with
   |none=>simp[hke] at ht
   |some k =>
    simp[hke] at ht;subst ht
    obtain⟨cs,rfl⟩:∃cs,a=.agg cs:=by cases a<;>simp_all[D.isAgg]
    cases hu with|agg _ us hl1 h11 hr1 =>
    have htl:cs.length=m:=by simpa[D.cells] using BZ ha.2
    rw[Instr.checkKey]
    simp only[Sem.run_bind,run_underlying hk,Result.andThen_ok]
    rw[Std.Legacy.Range.forIn_eq_forIn_range']
    simp only[Std.Legacy.Range.size,Nat.sub_zero,Nat.add_sub_cancel,Nat.div_one]
    have key:∀(q i:Nat),i+q<=us.size ->
      ((
       forIn (m:=Sem) (List.range' i q) PUnit.unit fun j r=>do
       let s ←sizeOf e
       let x ←part e us (j*s)
       Instr.checkKey emp (n+1) e x
       pure (.yield PUnit.unit)):Sem PUnit).run P w=.ok PUnit.unit w:=by
     intro q
     induction q with
     |zero=>intro i _;simp
     |succ q ih =>
      intro i hlen
      have hui:us[i]?=some us[i]:=Array.getElem?_eq_getElem (by omega)
      simp only[List.range'_succ,List.forIn_cons,Sem.run_bind,BU hc.2,Result.andThen_ok,Nat.mul_one,ED hke hui,cell _ _ hke,Sem.run_pure]
      exact ih (i+1) (by omega)
    have:=key m 0 (by omega)
    rw[this];rfl
  ·cases ht
 ·cases ht
end
end Go.Pw
end
section
namespace Go.Pw
open Go.RowKit
theorem TF (k:D):∀kvs:List (D×D),FP k kvs=(EJ k kvs).bind fun j=>(kvs[j]?).map (·.2)
 |[]=>rfl
 |e::es=>by
  simp only[FP,EJ]
  split
  ·simp
  ·rw[TF k es]
   cases EJ k es<;>simp
theorem VR (k v:D):∀kvs:List (D×D),cj k v kvs=match EJ k kvs with
  |some j=>(match kvs[j]? with|some e=>kvs.set j (e.1,v)|none=>kvs)
  |none=>kvs++[(k,v)]
 |[]=>rfl
 |e::es=>by
  simp only[cj,EJ]
  split
  ·simp
  ·rw[VR k v es]
   cases h:EJ k es with
   |none=>simp
   |some j=>simp only[Option.map_some,List.getElem?_cons_succ];split<;>simp
theorem LR {k:D}:∀{kvs:List (D×D)}{j:Nat},EJ k kvs=some j->j<kvs.length
 |[],j,h=>by simp[EJ] at h
 |e::es,j,h=>by
  simp only[EJ] at h
  split at h
  ·simp at h;subst h;simp
  ·cases hi:EJ k es with
   |none=>simp[hi] at h
   |some i=>simp[hi] at h;subst h;have:=LR hi;simp;omega
section
variable {P:Program}{w:World}
def Sj (w:World) (fb:Nat->Prop) (tys:HK) (kvs:List (D×D)) (es:List MapEntry):Prop :=
 es.length=kvs.length/\∀(i:Nat) (kv:D×D) (e:MapEntry),kvs[i]?=some kv->es[i]?=some e->Fo tys kv.1=true/\Ap w fb kv.1 e.key/\Ap w fb kv.2 e.val
theorem Sj.tail {fb tys kv kvs e es} (h:Sj w fb tys (kv::kvs) (e::es)):Sj w fb tys kvs es :=
 ⟨by have:=h.1;simp at this;exact this,fun i a b ha hb=>h.2 (i+1) a b (by simpa using ha) (by simpa using hb)⟩
def C7 (k:D) (kvs:List (D×D)) (es:List MapEntry) (i:Nat):Option (Nat×Value):=(EJ k kvs).bind fun j=>(es[j]?).map fun e=>(i+j,e.val)
theorem Jq {k:D}{kv:D×D}{kvs:List (D×D)}{e:MapEntry}{es:List MapEntry}(h:DC k kv.1=false) (i:Nat):C7 k (kv::kvs) (e::es) i=C7 k kvs es (i+1):=by
 simp only[C7,EJ,h,Bool.false_eq_true,if_false]
 cases EJ k kvs with
 |none=>rfl
 |some j=>simp;cases es[j]?<;>simp;omega
theorem KG {kt:TypeId}{tys:HK}(ht:CX P kt=some tys) {k:D}{fb fb2:Nat->Prop}{u:Value}(hk:Fo tys k=true) (hu:Ap w fb k u) :
  ∀(kvs:List (D×D)) (es:List MapEntry) (i:Nat),Sj w fb2 tys kvs es->(Instr.findAsking kt u es i).run P w=.ok (C7 k kvs es i) w
 |[],[],i,_=>by simp[Instr.findAsking,C7,EJ]
 |[],e::es,i,h=>by have:=h.1;simp at this
 |kv::kvs,[],i,h=>by have:=h.1;simp at this
 |kv::kvs,e::es,i,h=>by
  obtain⟨h1,h2,h3⟩:=h.2 0 kv e (by simp) (by simp)
  have hall:∀{d v},Ap w fb2 d v->Ap w (fun _=>False) d v:=fun h=>h.mono (Ag.refl _ _) (fun _ _ h=>h.elim)
  have hall':∀{d v},Ap w fb d v->Ap w (fun _=>False) d v:=fun h=>h.mono (Ag.refl _ _) (fun _ _ h=>h.elim)
  simp only[Instr.findAsking,Sem.run_bind,JT ht hk h1 (hall' hu) (hall h2),Result.andThen_ok]
  cases hq:DC k kv.1
  ·simp only[Bool.false_eq_true,if_false]
   rw[KG ht hk hu kvs es (i+1) h.tail,Jq hq]
  ·simp[C7,EJ,hq]
theorem Km {kt:TypeId}{tys:HK}(ht:CX P kt=some tys) {d:TypeDesc}(hd:P.underlying kt=some d) {k:D}{fb fb2:Nat->Prop}{u:Value}(hk:Fo tys k=true) (hu:Ap w fb k u) :
  ∀(kvs:List (D×D)) (es:List MapEntry) (i:Nat),Sj w fb2 tys kvs es->Instr.findNow d u es i=some (C7 k kvs es i)\/Instr.findNow d u es i=none
 |[],[],i,_=>by simp[Instr.findNow,C7,EJ]
 |[],e::es,i,h=>by have:=h.1;simp at this
 |kv::kvs,[],i,h=>by have:=h.1;simp at this
 |kv::kvs,e::es,i,h=>by
  obtain⟨h1,h2,h3⟩:=h.2 0 kv e (by simp) (by simp)
  have ih:=Km ht hd hk hu kvs es (i+1) h.tail
  have hs:Instr.sameNow d u e.key=some (DC k kv.1)\/Instr.sameNow d u e.key=none:=by
   have hk':=hk;have h1':=h1
   simp only[Fo,Bool.and_eq_true,beq_iff_eq] at hk' h1'
   unfold CX at ht
   rw[hd] at ht
   cases d<;>first|(simp at ht;done)|(right;cases u<;>rfl)|skip
   ·simp at ht;subst ht
    generalize e.key=v at *
    have e1:k.cells=[k]:=by cases k<;>simp_all[D.cells,D.isAgg]
    have e2:kv.1.cells=[kv.1]:=by cases hh:kv.1<;>simp_all[D.cells,D.isAgg]
    rw[e1] at hk';rw[e2] at h1'
    cases hu<;>simp[Dk] at hk'
    generalize kv.1=q at *
    cases h2<;>simp[Dk] at h1'
    left;simp[Instr.sameNow,DC,D.cells,EP,FM]
   ·rename_i kk
    simp at ht;subst ht
    generalize e.key=v at *
    have e1:k.cells=[k]:=by cases k<;>simp_all[D.cells,D.isAgg]
    have e2:kv.1.cells=[kv.1]:=by cases hh:kv.1<;>simp_all[D.cells,D.isAgg]
    rw[e1] at hk';rw[e2] at h1'
    cases hu<;>simp[Dk] at hk'
    generalize kv.1=q at *
    cases h2<;>simp[Dk] at h1'
    obtain⟨_,rfl⟩:=hk'
    obtain⟨_,rfl⟩:=h1'
    left;simp[Instr.sameNow,DC,D.cells,EP,FM,QQ]
  simp only[Instr.findNow]
  rcases hs with hs|hs
  ·rw[hs]
   cases hq:DC k kv.1
   ·simp only;rw[Jq hq];exact ih
   ·left;simp[C7,EJ,hq]
  ·rw[hs];right;rfl
theorem Ob {kt:TypeId}{tys:HK}(ht:CX P kt=some tys):∃d,P.underlying kt=some d:=by
 unfold CX at ht
 cases h:P.underlying kt with
 |none=>simp[h] at ht
 |some d=>exact⟨d,rfl⟩
theorem FD {kt:TypeId}{tys:HK}(ht:CX P kt=some tys) {k:D}{fb fb2:Nat->Prop}{u:Value}(hk:Fo tys k=true) (hu:Ap w fb k u)
  {kvs:List (D×D)}{es:List MapEntry}(he:Sj w fb2 tys kvs es):(Instr.findKey kt u es).run P w=.ok (C7 k kvs es 0) w:=by
 obtain⟨d,hd⟩:=Ob ht
 simp only[Instr.findKey,Sem.run_bind,run_underlying hd,Result.andThen_ok]
 rcases Km ht hd hk hu kvs es 0 he with h|h
 ·rw[h];rfl
 ·rw[h];exact KG ht hk hu kvs es 0 he
end
section
variable {E:CU}{c:DT}{β:Nat->Nat->Value}{s:A3}{tm:Array Value}{w:World}{K:AV->Bp->Prop}
theorem Sk {t:TypeId}{z:D}(h:Er E.P t=some z) {fb}:∃v,(zeroValue t).run E.P w=.ok v w/\Ap w fb z v:=by
 unfold Er at h
 cases hi:E.P.info? t with
 |none=>simp[hi] at h
 |some i =>
  simp only[hi,Option.bind_some] at h
  split at h
  ·rename_i cs hz
   cases hl:Aw Nv cs.toList with
   |none=>simp[hl] at h
   |some l =>
    simp[hl] at h;subst h
    refine⟨.agg cs,by simp[zeroValue,typeInfo,hi,hz],.agg l cs (by rw[Aj hl];simp) (fun c hc=>?_) (fun i y v hy hv=>?_)⟩
    ·obtain⟨x,_,hx⟩:=Dg hl hc
     unfold Nv at hx
     split at hx<;>(try split at hx)<;>simp at hx<;>subst hx<;>rfl
    ·obtain⟨x,hx,hxy⟩:=A4 hl hy
     have:x=v:=by simpa[Array.getElem?_toList,hv] using hx.symm
     subst this
     exact HG hxy
  ·rename_i v _ hz
   exact⟨v,by simp[zeroValue,typeInfo,hi,hz],HG h⟩
  ·cases h
theorem YK {fb:Nat->Prop}{tys:HK}{ks:List (Nat×D×D)}{es:Array MapEntry}(hl:es.size=ks.length)
  (hent:∀(i:Nat) (k:Nat×D×D) (e:MapEntry),ks[i]?=some k->es[i]?=some e->Fo tys k.2.1=true/\Ap w fb k.2.1 e.key/\Ap w fb k.2.2 e.val/\e.born=k.1):Sj w fb tys (ks.map (·.2)) es.toList :=
 ⟨by simpa using hl,fun i kv e h1 h2=>by
  rw[List.getElem?_map] at h1
  simp only[Option.map_eq_some_iff] at h1
  obtain⟨k,h3,rfl⟩:=h1
  obtain⟨a1,a2,a3,_⟩:=hent i k e h3 (by simpa using h2)
  exact⟨a1,a2,a3⟩⟩
theorem T_ (h:BP E c β s tm w) {t kt e:TypeId}{tys:HK}{z:D}{ok:Bool}(ht:E.P.underlying t=some (.map kt e)) (hk:CX E.P kt=some tys) (hz:Er E.P e=some z)
  {m key:AV}{um uk:Value}{dst:Option Nat}(hm:AQ w (c.bar β s.V) β s.V.cn m um) (hkey:AQ w (c.bar β s.V) β s.V.cn key uk) (he:ev E dst s.V (.lookup ok tys z) [m,key] K) :
  FI E c s tm K ((Instr.lookup t um uk ok).run E.P w):=by
 obtain⟨zv,hzv,hzr⟩:=Sk (w:=w) (fb:=c.bar β s.V) hz
 have fin:∀(b:Bool) (d:D) (v:Value),Ap w (c.bar β s.V) d v->AQ w (c.bar β s.V) β s.V.cn (if ok then .tup [.d d,.d (.bool b)] else .d d) (if ok then .tuple #[v,.bool b] else v):=by
  intro b d v hd
  cases ok
  ·exact .d _ _ hd
  ·simp only[if_true]
   refine .tup _ _ rfl fun i c v hc hv=>?_
   match i with
   |0=>simp at hc hv;subst hc hv;exact .d _ _ hd
   |1=>simp at hc hv;subst hc hv;exact Hn
   |i+2=>simp at hc
 have main:∀(kvs:List (D×D)) (k:D) (b:Nat) (es:Array MapEntry) (cl:Nat),um=.map (some b)->w.heap[b]?=some (.map es cl)->Sj w (c.bar β s.V) tys kvs es.toList->key.toD1=some k->Fo tys k=true ->
   (match FP k kvs with
    |some v=>K (if ok then .tup [.d v,.d (.bool true)] else .d v) .none
    |none=>K (if ok then .tup [.d z,.d (.bool false)] else .d z) .none)->FI E c s tm K ((Instr.lookup t um uk ok).run E.P w):=by
  intro kvs k b es cl hum hb hE hd hty he
  subst hum
  have hkr:=(B0 hkey hd).1
  have hl:es.size=kvs.length:=by simpa using hE.1
  rw[TF] at he
  have hfind:=FD hk hty hkr hE
  cases hi:EJ k kvs with
  |none =>
   simp[hi] at he
   refine B1 h he ?_ (fin false z zv hzr)
   simp only[Instr.lookup,Sem.run_bind,run_underlying ht,Result.andThen_ok,BW hb,Sem.run_pure,CY hk hty hkr es.isEmpty 9998,hfind,C7,hi,Option.bind_none,hzv]
  |some j =>
   have hj:=LR hi
   have hkj:kvs[j]?=some kvs[j]:=List.getElem?_eq_getElem hj
   have hej:es[j]?=some es[j]:=Array.getElem?_eq_getElem (by omega)
   have hej':es.toList[j]?=some es[j]:=by simpa using hej
   simp[hi,hkj] at he
   refine B1 h he ?_ (fin true _ es[j].val (hE.2 j _ _ hkj hej').2.2)
   simp only[Instr.lookup,Sem.run_bind,run_underlying ht,Result.andThen_ok,BW hb,Sem.run_pure,CY hk hty hkr es.isEmpty 9998,hfind,C7,hi,Option.bind_some,hej',Option.map_some]
 unfold ev at he
 simp only at he
 split at he
 ·rename_i o g key' heq
  simp only[List.cons.injEq,and_true] at heq;obtain⟨rfl,rfl⟩:=heq
  split at he
  ·rename_i tys' kvs k hg hd
   obtain⟨rfl,hty,he⟩:=he
   have hob:=AO.get_some hg
   obtain⟨hlt,ho⟩:=h.objs _ _ _ hob
   cases hm with|map _ _ _ _ =>
   generalize β o g=um at *
   cases ho with|map _ _ b es hb hl hent =>
   exact main kvs k b es _ rfl hb ⟨by simpa using hl,fun i kv e h1 h2=>by
    obtain⟨a1,a2,a3,_⟩:=hent i kv e h1 (by simpa using h2)
    exact⟨a1,a2,a3⟩⟩ hd hty he
  ·rename_i tys' es0 cl k hg hd
   obtain⟨rfl,hty,he⟩:=he
   have hob:=AO.get_some hg
   obtain⟨hlt,ho⟩:=h.objs _ _ _ hob
   cases hm with|map _ _ _ _ =>
   generalize β o g=um at *
   cases ho with|mapB _ _ _ b es hb hl hr hent =>
   exact main _ k b es _ rfl hb (YK hl hent) hd hty he
  ·exact he.elim
 ·rename_i tys' kvs key' heq
  simp only[List.cons.injEq,and_true] at heq;obtain⟨rfl,rfl⟩:=heq
  split at he
  ·rename_i k hd
   obtain⟨rfl,hty,he⟩:=he
   cases hm with|d _ _ hm =>
   cases hm with|map _ _ b es cl hb hh hl hr htk hkk hvv =>
   exact main kvs k b es cl rfl hh ⟨by simpa using hl,fun i kv e h1 h2=>⟨htk kv (List.mem_of_getElem? h1),hkk i kv e h1 (by simpa using h2),hvv i kv e h1 (by simpa using h2)⟩⟩ hd hty he
  ·exact he.elim
 ·rename_i key' heq
  simp only[List.cons.injEq,and_true] at heq;obtain⟨rfl,rfl⟩:=heq
  split at he
  ·rename_i k hd
   obtain⟨hty,he⟩:=he
   have hkr:=(B0 hkey hd).1
   cases hm with|d _ _ hm=>cases hm with|nilmap =>
   refine B1 h he ?_ (fin false z zv hzr)
   have hfind:=FD (w:=w) (fb2:=c.bar β s.V) hk hty hkr (kvs:=[]) (es:=[]) ⟨rfl,fun i kv e h1=>by simp at h1⟩
   simp only[Instr.lookup,Sem.run_bind,run_underlying ht,Result.andThen_ok,Sem.run_pure,CY hk hty hkr _ 9998,hfind,C7,EJ,Option.bind_none,hzv]
  ·exact he.elim
 ·exact he.elim
end
end Go.Pw
end
