/- A part of the proof. -/
import Derived.Test.YtpcpcjbbdgmohaaPwY
set_option linter.all false
namespace Go.Pw
def Eg:List (Nat×AV)->Nat->AV
 |[]=>fun _=>.undef
 |(k,v)::l=>fun t=>if t=k then v else Eg l t
theorem KR (k:Nat) (v:AV) (l:List (Nat×AV)) (t:Nat):Eg ((k,v)::l) t=if t=k then v else Eg l t:=rfl
theorem ZG (t:Nat):Eg [] t=.undef:=rfl
theorem Ua (k:Nat) (v:Nat×AE) (l:List (Nat×(Nat×AE))) (t:Nat):AX ((k,v)::l) t=if t=k then some v else AX l t:=rfl
theorem Wt (t:Nat):AX [] t=none:=rfl
theorem Yn (l:List (Nat×AV)) (V:AB) (t:Nat) (v:AV) (ch:Bk):put ⟨Eg l,V⟩ (some t) v ch=⟨Eg ((t,v)::l),V.app ch⟩:=rfl
theorem Yo (f:Nat->AV) (V:AB) (v:AV) (ch:Bk):put ⟨f,V⟩ none v ch=⟨f,V.app ch⟩:=rfl
theorem aK (V:AB):V.app .none=V:=rfl
theorem dI (V:AB) (a b:Bk):V.app (.seq a b)=(V.app a).app b:=rfl
theorem aL (l:List (Nat×(Nat×AE))) (cn:Nat->Nat) (o g:Nat) (x:AE):(AB.mk (AX l) cn).app (.keep o g x)=⟨AX ((o,(g,x))::l),cn⟩:=rfl
theorem X2 (l:List (Nat×(Nat×AE))) (cn:Nat->Nat) (o:Nat) (x:AE):(AB.mk (AX l) cn).app (.fresh o x)=⟨AX ((o,(cn o,x))::l),A9 cn o (cn o+1)⟩:=rfl
theorem eo (ob:Nat->Option (Nat×AE)) (cn:Nat->Nat) (o g:Nat):(AB.mk ob cn).get o g=match ob o with|some (g',x)=>if g=g' then some x else none|none=>none:=rfl
theorem Az (ds:List D):BE.enter ds=⟨Eg (ds.zipIdx.map fun(d,k)=>(k,.d d)),⟨AX [],fun _=>0⟩⟩:=by
 have key:∀(ds:List D) (n t:Nat),Eg ((ds.zipIdx n).map fun(d,k)=>(k,.d d)) t=if t<n then .undef else (match ds[t-n]? with|some d=>.d d|none=>.undef):=by
  intro ds
  induction ds with
  |nil=>intro n t;simp[Eg]
  |cons d ds ih =>
   intro n t
   simp only[List.zipIdx_cons,List.map_cons,KR]
   rw[ih]
   by_cases h:t=n
   ·subst h;simp
   ·by_cases h2:t<n
    ·simp[h,h2,Nat.lt_succ_of_lt h2]
    ·have h3:¬t<n+1:=by omega
     have h4:t-n=(t-(n+1))+1:=by omega
     simp only[h,h2,h3,if_false]
     rw[h4,List.getElem?_cons_succ]
 unfold BE.enter
 congr 1
 funext t
 rw[key];simp
 cases ds[t]?<;>rfl
theorem bw (f:Nat->AV) (V:AB) (ks:List Nat):(BE.mk f V).keep ks=⟨Eg (ks.map fun k=>(k,f k)),V⟩:=by
 unfold BE.keep
 congr 1
 funext t
 induction ks with
 |nil=>simp[Eg]
 |cons k ks ih =>
  simp only[List.map_cons,KR,List.contains_cons]
  by_cases h:t=k
  ·subst h;simp
  ·have:(t == k)=false:=by simpa using h
   rw[this,Bool.false_or,if_neg h];exact ih
variable {E:C3}{Q:CC->BE->Prop}{s s':BE}{K:AV->Bk->Prop}{KS:BE->Prop}
theorem VA (b:Bool) (A B:Prop):O' (.d (.bool b)) A B=HM b A B:=rfl
theorem eN {gs d it l2 ks}:pw E (.nxt gs d it l2 ks) Q s=C7 gs s fun s0=>Lv (it.val s0.sl) s0.V fun v ch=>Je E l2 (put s0 d v ch) fun s'=>Q .normal (s'.keep ks):=rfl
theorem bM:pw E .dead Q s=False:=rfl
theorem bG:pw E .skip Q s=Q .normal s:=rfl
theorem eM {gs l ks}:pw E (.reg gs l ks) Q s=C7 gs s fun s'=>Je E l s' fun s'=>Q .normal (s'.keep ks):=rfl
theorem bL {gs l ks}:pw E (.draw gs l ks) Q s=C7 gs s fun s'=>PP E l [] s' fun s'=>Q .normal (s'.keep ks):=rfl
theorem eK {a b}:pw E (.seq a b) Q s=pw E a (JX (pw E b Q) Q) s:=rfl
theorem bN {c a b}:pw E (.cond c a b) Q s=O' (c.val s.sl) (pw E a Q s) (pw E b Q s):=rfl
theorem Ym {id a}:pw E (.block id a) Q s=pw E a (I3 id Q) s:=rfl
theorem bK {id}:pw E (.exit id) Q s=Q (.exit id) s:=rfl
theorem eL:pw E .ret Q s=Q .ret s:=rfl
theorem Qo {A:BE->Prop}:JX A Q .normal s=A s:=rfl
theorem Tu {A:BE->Prop} {i}:JX A Q (.exit i) s=Q (.exit i) s:=rfl
theorem V9 {A:BE->Prop}:JX A Q .ret s=Q .ret s:=rfl
theorem Pl {i}:I3 i Q .normal s=Q .normal s:=rfl
theorem VK {i}:I3 i Q .ret s=Q .ret s:=rfl
theorem TU {i j}:I3 i Q (.exit j) s=if j=i then Q .normal s else Q (.exit j) s:=rfl
theorem Uj:C7 [] s KS=KS s:=rfl
theorem S1 {g gs}:C7 (g::gs) s KS=Fb g s fun s'=>C7 gs s' KS:=rfl
theorem Ya:Je E [] s KS=KS s:=rfl
theorem WU {I l}:Je E (I::l) s KS=Ej E I s fun v ch=>Je E l (put s I.dst v ch) KS:=rfl
theorem R1 {d op xs} {sl:Nat->AV}{V:AB}:Ej E ⟨d,none,op,xs⟩ ⟨sl,V⟩ K=ev E d V op (xs.map (I5.val sl)) K:=rfl
section
variable {dst:Option Nat}{V:AB}
theorem fD {x}:ev E dst V .mov [x] K=K x .none:=rfl
theorem cj {c x y}:ev E dst V .pick [.d (.bool c),x,y] K=HM c (K x .none) (K y .none):=rfl
theorem fH {b k k' x y}:ev E dst V (.bin b) [.d (.int k x),.d (.int k' y)] K=ED b k k' x y (K · .none):=rfl
theorem fC {b}:ev E dst V (.un .not) [.d (.bool b)] K=K (.d (.bool (!b))) .none:=rfl
end
theorem K8 {I:E7}{K K':AV->Bk->Prop}(h:Ej E I s K) (hk:∀v ch,K v ch->K' v ch):Ej E I s K':=by
 obtain⟨v,ch,h1,_,h3⟩:=Ps h
 exact h3 s K' (fun _ _=>rfl) (fun _ _=>⟨rfl,rfl⟩) (hk v ch h1)
theorem H3 {KS KS':BE->Prop}(hk:∀s,KS s->KS' s):∀{l:List E7}{s:BE},Je E l s KS->Je E l s KS'
 |[],s,h=>hk s h
 |I::l,s,h=>K8 h fun v ch h'=>H3 hk h'
theorem P6 {KS KS':BE->Prop}(hk:∀s,KS s->KS' s):∀{l:List (E7×List Nat)}{r:List PN}{s:BE},PP E l r s KS->PP E l r s KS'
 |[],r,s,h=>hk s h
 |(I,dy)::l,r,s,h=>K8 h fun v ch h'=>⟨h'.1,P6 hk h'.2⟩
theorem Uk {KS KS':BE->Prop}(hk:∀s,KS s->KS' s) {g:EN}(h:Fb g s KS):Fb g s KS':=by
 unfold Fb at *
 split at h
 ·split at h
  ·split at h
   ·exact hk _ h
   ·exact h.elim
  ·exact hk _ h
 ·split at h
  ·split at h
   ·split at h
    ·exact hk _ h
    ·exact h.elim
   ·exact h.elim
  ·exact hk _ h
 ·split at h
  ·split at h
   ·split at h
    ·exact hk _ h
    ·exact h.elim
   ·exact hk _ h
  ·exact hk _ h
 ·split at h
  ·split at h
   ·exact hk _ h
   ·exact h.elim
  ·exact hk _ h
 ·split at h
  ·split at h
   ·exact hk _ h
   ·exact h.elim
  ·exact hk _ h
 ·split at h
  ·split at h
   ·split at h
    ·split at h
     ·exact hk _ h
     ·exact h.elim
    ·split at h
     ·exact hk _ h
     ·exact h.elim
    ·split at h
     ·exact hk _ h
     ·exact h.elim
    ·exact hk _ h
   ·exact hk _ h
  ·exact hk _ h
 ·split at h
  ·exact⟨h.1,hk _ h.2⟩
  ·exact hk _ h
 ·split at h
  ·exact⟨h.1,hk _ h.2⟩
  ·exact hk _ h
 ·split at h
  ·split at h
   ·split at h
    ·exact⟨h.1,h.2.1,hk _ h.2.2⟩
    ·exact hk _ h
   ·exact hk _ h
  ·exact hk _ h
 ·split at h
  ·split at h
   ·split at h
    ·exact⟨h.1,h.2.1,hk _ h.2.2⟩
    ·exact hk _ h
   ·exact hk _ h
  ·exact hk _ h
 ·exact hk _ h
 ·exact hk _ h
 ·split at h
  ·split at h
   ·exact⟨h.1,h.2.1,h.2.2.1,h.2.2.2.1,hk _ h.2.2.2.2⟩
   ·exact h.elim
  ·exact hk _ h
 ·split at h
  ·split at h
   ·exact⟨h.1,hk _ h.2⟩
   ·exact hk _ h
  ·exact hk _ h
 ·unfold dW at *
  split at h<;>exact hk _ h
theorem Ls {KS KS':BE->Prop}(hk:∀s,KS s->KS' s):∀{t:aU}{s:BE},RJ E t s KS->RJ E t s KS'
 |.done,s,h=>hk s h
 |.step I r,s,h=>K8 h fun v ch h'=>Ls hk h'
 |.both a b,s,h=>⟨Ls hk h.1,Ls hk h.2⟩
theorem DN:∀{gs:List EN}{s:BE}{KS KS':BE->Prop},(∀s,KS s->KS' s)->C7 gs s KS->C7 gs s KS'
 |[],s,_,_,hk,h=>hk s h
 |g::gs,s,_,_,hk,h=>Uk (fun s' h'=>DN hk h') h
theorem UX {x:AV}{V:AB}{K K':AV->Bk->Prop}(hk:∀v ch,K v ch->K' v ch) (h:Lv x V K):Lv x V K':=by
 unfold Lv at *
 split at h
 ·split at h
  ·split at h
   ·split at h
    ·exact⟨h.1,fun e he hs=>hk _ _ (h.2.1 e he hs),fun ha=>hk _ _ (h.2.2 ha)⟩
    ·exact h
   ·exact h
  ·exact⟨fun i hi hs=>hk _ _ (h.1 i hi hs),fun ha=>hk _ _ (h.2 ha)⟩
  ·exact h
 ·exact h
theorem V4 {y:AV}{xs:List AV}{V:AB}{K K':AV->Bk->Prop}(hk:∀v ch,K v ch->K' v ch) (h:X8 y xs V K):X8 y xs V K':=by
 unfold X8 at *
 split at h
 ·split at h
  ·split at h
   ·exact⟨h.1,hk _ _ h.2.1,hk _ _ h.2.2⟩
   ·exact h.elim
  ·exact h.elim
 ·exact h.elim
theorem P9 {v:AV}{K K':FuncId->List D->List D->Prop}(hk:∀f pre post,K f pre post->K' f pre post) (h:RA E v K):RA E v K':=by
 unfold RA at h
 split at h
 ·rename_i f cs
  unfold RA;simp only
  split at h
  ·exact⟨h.1,hk _ _ _ h.2⟩
  ·exact h.elim
 ·exact⟨h.1,hk _ _ _ h.2⟩
 ·exact h.elim
theorem GL:∀{p:PC}{Q Q':CC->BE->Prop}{s:BE},pw E p Q s->(∀e s,Q e s->Q' e s)->pw E p Q' s
 |.skip,Q,Q',s,h,hq=>hq _ _ h
 |.reg gs l ks,Q,Q',s,h,hq=>DN (fun s' h'=>H3 (fun s'' h''=>hq _ _ h'') h') h
 |.draw gs l ks,Q,Q',s,h,hq=>DN (fun s' h'=>P6 (fun s'' h''=>hq _ _ h'') h') h
 |.any gs t ks,Q,Q',s,h,hq=>DN (fun s' h'=>Ls (fun s'' h''=>hq _ _ h'') h') h
 |.seq a b,Q,Q',s,h,hq=>GL (p:=a) h fun e s' h'=>by
  cases e with
  |normal=>exact GL (p:=b) h' hq
  |exit i=>exact hq _ _ h'
  |ret=>exact hq _ _ h'
 |.cond c a b,Q,Q',s,h,hq=>by
  simp only[pw,O'] at h ⊢
  split at h
  ·exact⟨fun hb=>GL (h.1 hb) hq,fun hb=>GL (h.2 hb) hq⟩
  ·exact h.elim
 |.block id a,Q,Q',s,h,hq=>GL (p:=a) h fun e s' h'=>by
  cases e with
  |normal=>exact hq _ _ h'
  |ret=>exact hq _ _ h'
  |exit i =>
   simp only[I3] at h' ⊢
   split at h'
   ·rename_i e;rw[if_pos e];exact hq _ _ h'
   ·rename_i e;rw[if_neg e];exact hq _ _ h'
 |.loop gs ks os a,Q,Q',s,h,hq=>by
  obtain⟨J,h0,h1⟩:=h
  refine⟨J,h0,fun n s' hJ=>GL (p:=a) (h1 n s' hJ) fun e s'' h'=>?_⟩
  cases e with
  |normal=>exact h'
  |exit i=>exact hq _ _ h'
  |ret=>exact hq _ _ h'
 |.exit id,Q,Q',s,h,hq=>hq _ _ h
 |.ret,Q,Q',s,h,hq=>hq _ _ h
 |.dead,Q,Q',s,h,hq=>h.elim
 |.scope a,Q,Q',s,h,hq=>GL (p:=a) h hq
 |.lab,Q,Q',s,h,hq=>hq _ _ h
 |.rngF gs g ps ks os b gs2 os2 a,Q,Q',s,h,hq=>DN (fun s0 h0=>P9 (fun f pre post ⟨h1,els,h2,JJ,Pd,h3,h4,h5,h6,h7⟩ =>
  ⟨h1,els,h2,JJ,Pd,h3,h4,h5,fun V hV hJ=>hq _ _ (h6 V hV hJ),fun e V hV hP=>hq _ _ (h7 e V hV hP)⟩) h0) h
 |.nxt gs d it l2 ks,Q,Q',s,h,hq=>DN (fun s0 h0=>UX (fun v ch h2=>H3 (fun s' h3=>hq _ _ h3) h2) h0) h
 |.yld gs l1 d y xs l2 ks,Q,Q',s,h,hq=>DN (fun s0 h0=>H3 (fun s1 h1=>V4 (fun v ch h2=>H3 (fun s' h3=>hq _ _ h3) h2) h1) h0) h
theorem Yk {α:Type}(St:α->BE) (Inv:α->Prop) (μ:α->Nat) {gs:List EN}{ks os:List Nat}{a:PC}(x0:α) (h0:C7 gs s fun s1=>s1.nrm ks os=St x0) (hI:Inv x0)
  (step:∀x,Inv x->pw E a (JX (fun s'=>C7 gs s' fun s1=>∃y,s1.nrm ks os=St y/\Inv y/\μ y<μ x) Q) (St x)):pw E (.loop gs ks os a) Q s:=by
 refine⟨fun n s'=>∃x,s'=St x/\Inv x/\μ x=n,DN (fun s1 h=>⟨μ x0,x0,h,hI,rfl⟩) h0,?_⟩
 rintro n s' ⟨x,rfl,hx,rfl⟩
 refine GL (step x hx) fun e s' h=>?_
 cases e with
 |normal =>
  refine DN (fun s1 h=>?_) h
  obtain⟨y,h1,h2,h3⟩:=h
  exact⟨μ y,h3,y,h1,h2,rfl⟩
 |exit i=>exact h
 |ret=>exact h
theorem YD (l:List (Nat×AV)) (t:Nat) (v:AV):A9 (Eg l) t v=Eg ((t,v)::l):=rfl
theorem cv (l:List (Nat×(Nat×AE))) (cn:Nat->Nat) (o:Nat):(AB.mk (AX l) cn).drop o=⟨AX (l.filter fun p=>!(p.1 == o)),cn⟩:=by
 simp only[AB.drop,AB.mk.injEq,and_true]
 funext t
 induction l with
 |nil=>simp only[A9,List.filter_nil,AX];split<;>rfl
 |cons p l ih =>
  simp only[A9] at ih ⊢
  by_cases h:t=o
  ·subst h
   simp only[if_true] at ih ⊢
   by_cases h1:p.1=t
   ·simp[List.filter_cons,h1];simpa using ih
   ·have:(!(p.1 == t))=true:=by simpa using h1
    rw[List.filter_cons,if_pos this]
    obtain⟨k,v⟩:=p
    simp only[AX] at h1 ⊢
    rw[if_neg (Ne.symm h1)];exact ih
  ·simp only[if_neg h] at ih ⊢
   obtain⟨k,v⟩:=p
   by_cases h1:k=o
   ·subst h1
    have:(!((k,v).1 == k))=false:=by simp
    rw[List.filter_cons,if_neg (by simp),←ih]
    simp only[AX]
    rw[if_neg h]
   ·rw[List.filter_cons,if_pos (by simpa using h1)]
    simp only[AX]
    rw[ih]
def g6 (f:Nat->AV) (V:AB) (os ks:List Nat):List (Nat×AV):=ks.map fun k=>(k,(f k).nrm V os)
def Ez (V:AB) (os:List Nat):List Nat->List (Nat×(Nat×AE))
 |[]=>[]
 |o::l=>match V.ob o with
  |some (_,x)=>(match x.nrm V os with|some y=>(o,(0,y))::Ez V os l|none=>Ez V os l)
  |none=>Ez V os l
theorem eV (f:Nat->AV) (V:AB) (ks os:List Nat):(BE.mk f V).nrm ks os=⟨Eg (ks.map fun k=>(k,(f k).nrm V os)),⟨AX (Ez V os os),fun _=>1⟩⟩:=by
 have h1:(fun t=>if ks.contains t then (f t).nrm V os else .undef)=Eg (ks.map fun k=>(k,(f k).nrm V os)):=by
  funext t
  induction ks with
  |nil=>simp[Eg]
  |cons k ks ih =>
   simp only[List.map_cons,KR,List.contains_cons]
   by_cases h:t=k
   ·subst h;simp
   ·have:(t == k)=false:=by simpa using h
    rw[this,Bool.false_or,if_neg h];exact ih
 have h2:∀l:List Nat,(fun o=>if l.contains o then (match V.ob o with
   |some (_,x)=>match x.nrm V os with|some y=>some (0,y)|none=>none
   |none=>none) else none)=AX (Ez V os l):=by
  intro l
  funext t
  induction l with
  |nil=>simp[Ez,AX]
  |cons k l ih =>
   simp only[List.contains_cons]
   have hnot:∀(t:Nat),V.ob t=none->AX (Ez V os l) t=none:=by
    intro t ht
    clear ih
    induction l with
    |nil=>rfl
    |cons a l ih2 =>
     simp only[Ez]
     cases ha:V.ob a with
     |none=>exact ih2
     |some p =>
      obtain⟨g,x⟩:=p
      simp only
      have hne:t≠a:=by rintro rfl;rw[ht] at ha;cases ha
      cases x.nrm V os with
      |none=>exact ih2
      |some y=>simp only[AX,if_neg hne];exact ih2
   have hnot2:∀(t g:Nat) (x:AE),V.ob t=some (g,x)->x.nrm V os=none->AX (Ez V os l) t=none:=by
    intro t g x ht hx
    clear ih hnot
    induction l with
    |nil=>rfl
    |cons a l ih2 =>
     simp only[Ez]
     cases ha:V.ob a with
     |none=>exact ih2
     |some p =>
      obtain⟨g',x'⟩:=p
      simp only
      by_cases hne:t=a
      ·subst hne
       rw[ht] at ha;cases ha
       rw[hx];exact ih2
      ·cases x'.nrm V os with
       |none=>exact ih2
       |some y=>simp only[AX,if_neg hne];exact ih2
   by_cases h:t=k
   ·subst h
    simp only[beq_self_eq_true,Bool.true_or,if_true,Ez]
    cases hk:V.ob t with
    |none=>simp only;exact(hnot t hk).symm
    |some p =>
     obtain⟨g,x⟩:=p
     simp only
     cases hx:x.nrm V os with
     |none=>simp only;exact(hnot2 t g x hk hx).symm
     |some y=>simp[AX]
   ·have:(t == k)=false:=by simpa using h
    rw[this,Bool.false_or]
    simp only[Ez]
    cases V.ob k with
    |none=>exact ih
    |some p =>
     obtain⟨g,x⟩:=p
     simp only
     cases x.nrm V os with
     |none=>exact ih
     |some y=>simp only[AX,if_neg h];exact ih
 show BE.mk _ _=_
 rw[h1,AB.nrm]
 exact congrArg (fun ob=>BE.mk _ ⟨ob,fun _=>1⟩) (h2 os)
theorem Ub (V:AB) (os:List Nat):Ez V os []=[]:=rfl
theorem Sn (V:AB) (os:List Nat) (o:Nat) (l:List Nat):Ez V os (o::l)=match V.ob o with
 |some (_,x)=>(match x.nrm V os with|some y=>(o,(0,y))::Ez V os l|none=>Ez V os l)
 |none=>Ez V os l:=rfl
theorem Yz {V:AB} {os ety es nl l}:(AE.row ety es nl l).nrm V os=some (.row ety es nl l):=rfl
theorem Y0 {V:AB} {os a b c d e}:(AE.mat a b c d e).nrm V os=some (.mat a b c d e):=rfl
theorem Y7 {V:AB} {os k o g}:(AV.mref k o g).nrm V os=if AV.nrm.live V os o g then .mref k o 0 else .undef:=rfl
theorem UL {V:AB} {os xs}:(AE.cells xs).nrm V os=if (xs.map (AV.nrm V os)).all AV.one then some (.cells (xs.map (AV.nrm V os))) else none:=rfl
theorem fu {V:AB} {os x}:(AV.d x).nrm V os=.d x:=rfl
theorem eU {V:AB} {os x}:(AV.ex x).nrm V os=.ex x:=rfl
theorem bh {V:AB} {os o g}:(AV.own o g).nrm V os=if AV.nrm.live V os o g then .own o 0 else .undef:=rfl
theorem Y8 {V:AB} {os o g}:(AV.map o g).nrm V os=if AV.nrm.live V os o g then .map o 0 else .undef:=rfl
theorem bg {V:AB} {os o g off}:(AV.ptr o g off).nrm V os=if AV.nrm.live V os o g then .ptr o 0 off else .undef:=rfl
theorem eT {V:AB} {os f cs}:(AV.fn f cs).nrm V os=.fn f (AV.nrm.nrmL V os cs):=rfl
theorem Y_ {V:AB} {os}:AV.nrm.nrmL V os []=[]:=rfl
theorem Wo {V:AB} {os x xs}:AV.nrm.nrmL V os (x::xs)=x.nrm V os::AV.nrm.nrmL V os xs:=rfl
theorem bt {V:AB}{os:List Nat}{o g:Nat}:AV.nrm.live V os o g=(os.contains o && match V.ob o with|some (g',_)=>g' == g|none=>false):=rfl
end Go.Pw
