/- A part of the proof. -/
import Derived.Test.YtibkjeolahobbaaGreatDoorPwY
set_option linter.all false
namespace Go.Pw
def E_:List (Nat×AV)->Nat->AV
 |[]=>fun _=>.undef
 |(k,v)::l=>fun t=>if t=k then v else E_ l t
theorem MQ (k:Nat) (v:AV) (l:List (Nat×AV)) (t:Nat):E_ ((k,v)::l) t=if t=k then v else E_ l t:=rfl
theorem gM (t:Nat):E_ [] t=.undef:=rfl
theorem ZR (k:Nat) (v:Nat×Am) (l:List (Nat×(Nat×Am))) (t:Nat):Be ((k,v)::l) t=if t=k then some v else Be l t:=rfl
theorem c_ (t:Nat):Be [] t=none:=rfl
theorem fo (l:List (Nat×AV)) (V:AN) (t:Nat) (v:AV) (ch:B3):put ⟨E_ l,V⟩ (some t) v ch=⟨E_ ((t,v)::l),V.app ch⟩:=rfl
theorem fq (f:Nat->AV) (V:AN) (v:AV) (ch:B3):put ⟨f,V⟩ none v ch=⟨f,V.app ch⟩:=rfl
theorem jS (V:AN):V.app .none=V:=rfl
theorem mn (V:AN) (a b:B3):V.app (.seq a b)=(V.app a).app b:=rfl
theorem jT (l:List (Nat×(Nat×Am))) (cn:Nat->Nat) (o g:Nat) (x:Am):(AN.mk (Be l) cn).app (.keep o g x)=⟨Be ((o,(g,x))::l),cn⟩:=rfl
theorem eL (l:List (Nat×(Nat×Am))) (cn:Nat->Nat) (o:Nat) (x:Am):(AN.mk (Be l) cn).app (.fresh o x)=⟨Be ((o,(cn o,x))::l),CU cn o (cn o+1)⟩:=rfl
theorem pS (ob:Nat->Option (Nat×Am)) (cn:Nat->Nat) (o g:Nat):(AN.mk ob cn).get o g=match ob o with|some (g',x)=>if g=g' then some x else none|none=>none:=rfl
theorem AR (ds:List D):Bd.enter ds=⟨E_ (ds.zipIdx.map fun(d,k)=>(k,.d d)),⟨Be [],fun _=>0⟩⟩:=by
 have key:∀(ds:List D) (n t:Nat),E_ ((ds.zipIdx n).map fun(d,k)=>(k,.d d)) t=if t<n then .undef else (match ds[t-n]? with|some d=>.d d|none=>.undef):=by
  intro ds
  induction ds with
  |nil=>intro n t;simp[E_]
  |cons d ds ih =>
   intro n t
   simp only[List.zipIdx_cons,List.map_cons,MQ]
   rw[ih]
   by_cases h:t=n
   ·subst h;simp
   ·by_cases h2:t<n
    ·simp[h,h2,Nat.lt_succ_of_lt h2]
    ·have h3:¬t<n+1:=by omega
     have h4:t-n=(t-(n+1))+1:=by omega
     simp only[h,h2,h3,if_false]
     rw[h4,List.getElem?_cons_succ]
 unfold Bd.enter
 congr 1
 funext t
 rw[key];simp
 cases ds[t]?<;>rfl
theorem lO (f:Nat->AV) (V:AN) (ks:List Nat):(Bd.mk f V).keep ks=⟨E_ (ks.map fun k=>(k,f k)),V⟩:=by
 unfold Bd.keep
 congr 1
 funext t
 induction ks with
 |nil=>simp[E_]
 |cons k ks ih =>
  simp only[List.map_cons,MQ,List.contains_cons]
  by_cases h:t=k
  ·subst h;simp
  ·have:(t == k)=false:=by simpa using h
   rw[this,Bool.false_or,if_neg h];exact ih
variable {E:Cn}{Q:B_->Bd->Prop}{s s':Bd}{K:AV->B3->Prop}{KS:Bd->Prop}
theorem Z9 (b:Bool) (A B:Prop):S5 (.d (.bool b)) A B=Hv b A B:=rfl
theorem oq {gs l1 d y xs l2 ks}:pw E (.yld gs l1 d y xs l2 ks) Q s=Ce gs s fun s0=>K_ E l1 s0 fun s1=>TZ (y.val s1.sl) (xs.map (Kj.val s1.sl)) s1.V fun v ch=>K_ E l2 (put s1 d v ch) fun s'=>Q .normal (s'.keep ks):=rfl
theorem kd:pw E .dead Q s=False:=rfl
theorem kZ:pw E .skip Q s=Q .normal s:=rfl
theorem ow {gs l ks}:pw E (.reg gs l ks) Q s=Ce gs s fun s'=>K_ E l s' fun s'=>Q .normal (s'.keep ks):=rfl
theorem kc {gs l ks}:pw E (.draw gs l ks) Q s=Ce gs s fun s'=>Tf E l [] s' fun s'=>Q .normal (s'.keep ks):=rfl
theorem ot {a b}:pw E (.seq a b) Q s=pw E a (K5 (pw E b Q) Q) s:=rfl
theorem ke {c a b}:pw E (.cond c a b) Q s=S5 (c.val s.sl) (pw E a Q s) (pw E b Q s):=rfl
theorem fk {id a}:pw E (.block id a) Q s=pw E a (KC id Q) s:=rfl
theorem kb {id}:pw E (.exit id) Q s=Q (.exit id) s:=rfl
theorem ou:pw E .ret Q s=Q .ret s:=rfl
theorem U0 {A:Bd->Prop}:K5 A Q .normal s=A s:=rfl
theorem Yq {A:Bd->Prop} {i}:K5 A Q (.exit i) s=Q (.exit i) s:=rfl
theorem bb {A:Bd->Prop}:K5 A Q .ret s=Q .ret s:=rfl
theorem T2 {i}:KC i Q .normal s=Q .normal s:=rfl
theorem aE {i}:KC i Q .ret s=Q .ret s:=rfl
theorem YK {i j}:KC i Q (.exit j) s=if j=i then Q .normal s else Q (.exit j) s:=rfl
theorem Ze:Ce [] s KS=KS s:=rfl
theorem Xe {g gs}:Ce (g::gs) s KS=Er g s fun s'=>Ce gs s' KS:=rfl
theorem fJ:K_ E [] s KS=KS s:=rfl
theorem b_ {I l}:K_ E (I::l) s KS=Eb E I s fun v ch=>K_ E l (put s I.dst v ch) KS:=rfl
theorem Wd {d op xs} {sl:Nat->AV}{V:AN}:Eb E ⟨d,none,op,xs⟩ ⟨sl,V⟩ K=ev E d V op (xs.map (Kj.val sl)) K:=rfl
section
variable {dst:Option Nat}{V:AN}
theorem pf {x}:ev E dst V .mov [x] K=K x .none:=rfl
theorem mC {c x y}:ev E dst V .pick [.d (.bool c),x,y] K=Hv c (K x .none) (K y .none):=rfl
theorem pi {b k k' x y}:ev E dst V (.bin b) [.d (.int k x),.d (.int k' y)] K=DP b k k' x y (K · .none):=rfl
theorem pe {b}:ev E dst V (.un .not) [.d (.bool b)] K=K (.d (.bool (!b))) .none:=rfl
end
theorem NR {I:E7}{K K':AV->B3->Prop}(h:Eb E I s K) (hk:∀v ch,K v ch->K' v ch):Eb E I s K':=by
 obtain⟨v,ch,h1,_,h3⟩:=T_ h
 exact h3 s K' (fun _ _=>rfl) (fun _ _=>⟨rfl,rfl⟩) (hk v ch h1)
theorem MM {KS KS':Bd->Prop}(hk:∀s,KS s->KS' s):∀{l:List E7}{s:Bd},K_ E l s KS->K_ E l s KS'
 |[],s,h=>hk s h
 |I::l,s,h=>NR h fun v ch h'=>MM hk h'
theorem UH {KS KS':Bd->Prop}(hk:∀s,KS s->KS' s):∀{l:List (E7×List Nat)}{r:List TX}{s:Bd},Tf E l r s KS->Tf E l r s KS'
 |[],r,s,h=>hk s h
 |(I,dy)::l,r,s,h=>NR h fun v ch h'=>⟨h'.1,UH hk h'.2⟩
theorem Zf {KS KS':Bd->Prop}(hk:∀s,KS s->KS' s) {g:Eu}(h:Er g s KS):Er g s KS':=by
 unfold Er at *
 split at h
 ·split at h
  ·split at h
   ·exact hk _ h
   ·exact h.elim
  ·exact hk _ h
 ·split at h
  ·split at h
   ·split at h
    ·exact hk _ h
    ·exact h.elim
   ·exact h.elim
  ·exact hk _ h
 ·split at h
  ·split at h
   ·split at h
    ·exact hk _ h
    ·exact h.elim
   ·exact hk _ h
  ·exact hk _ h
 ·split at h
  ·split at h
   ·exact hk _ h
   ·exact h.elim
  ·exact hk _ h
 ·split at h
  ·split at h
   ·exact hk _ h
   ·exact h.elim
  ·exact hk _ h
 ·split at h
  ·split at h
   ·split at h
    ·split at h
     ·exact hk _ h
     ·exact h.elim
    ·exact hk _ h
   ·exact hk _ h
  ·exact hk _ h
 ·split at h
  ·exact⟨h.1,hk _ h.2⟩
  ·exact hk _ h
 ·split at h
  ·exact⟨h.1,hk _ h.2⟩
  ·exact hk _ h
 ·split at h
  ·split at h
   ·split at h
    ·exact⟨h.1,h.2.1,hk _ h.2.2⟩
    ·exact hk _ h
   ·exact hk _ h
  ·exact hk _ h
 ·exact hk _ h
 ·exact hk _ h
theorem OS {KS KS':Bd->Prop}(hk:∀s,KS s->KS' s):∀{t:jd}{s:Bd},VN E t s KS->VN E t s KS'
 |.done,s,h=>hk s h
 |.step I r,s,h=>NR h fun v ch h'=>OS hk h'
 |.both a b,s,h=>⟨OS hk h.1,OS hk h.2⟩
theorem DK:∀{gs:List Eu}{s:Bd}{KS KS':Bd->Prop},(∀s,KS s->KS' s)->Ce gs s KS->Ce gs s KS'
 |[],s,_,_,hk,h=>hk s h
 |g::gs,s,_,_,hk,h=>Zf (fun s' h'=>DK hk h') h
theorem bT {y:AV}{xs:List AV}{V:AN}{K K':AV->B3->Prop}(hk:∀v ch,K v ch->K' v ch) (h:TZ y xs V K):TZ y xs V K':=by
 unfold TZ at *
 split at h
 ·split at h
  ·split at h
   ·exact⟨h.1,hk _ _ h.2.1,hk _ _ h.2.2⟩
   ·exact h.elim
  ·exact h.elim
 ·exact h.elim
theorem UI {v:AV}{K K':FuncId->List D->List D->Prop}(hk:∀f pre post,K f pre post->K' f pre post) (h:XA E v K):XA E v K':=by
 unfold XA at *
 split at h
 ·exact⟨h.1,hk _ _ _ h.2⟩
 ·exact⟨h.1,hk _ _ _ h.2⟩
 ·exact h.elim
theorem GZ:∀{p:PC}{Q Q':B_->Bd->Prop}{s:Bd},pw E p Q s->(∀e s,Q e s->Q' e s)->pw E p Q' s
 |.skip,Q,Q',s,h,hq=>hq _ _ h
 |.reg gs l ks,Q,Q',s,h,hq=>DK (fun s' h'=>MM (fun s'' h''=>hq _ _ h'') h') h
 |.draw gs l ks,Q,Q',s,h,hq=>DK (fun s' h'=>UH (fun s'' h''=>hq _ _ h'') h') h
 |.any gs t ks,Q,Q',s,h,hq=>DK (fun s' h'=>OS (fun s'' h''=>hq _ _ h'') h') h
 |.seq a b,Q,Q',s,h,hq=>GZ (p:=a) h fun e s' h'=>by
  cases e with
  |normal=>exact GZ (p:=b) h' hq
  |exit i=>exact hq _ _ h'
  |ret=>exact hq _ _ h'
 |.cond c a b,Q,Q',s,h,hq=>by
  simp only[pw,S5] at h ⊢
  split at h
  ·exact⟨fun hb=>GZ (h.1 hb) hq,fun hb=>GZ (h.2 hb) hq⟩
  ·exact h.elim
 |.block id a,Q,Q',s,h,hq=>GZ (p:=a) h fun e s' h'=>by
  cases e with
  |normal=>exact hq _ _ h'
  |ret=>exact hq _ _ h'
  |exit i =>
   simp only[KC] at h' ⊢
   split at h'
   ·rename_i e;rw[if_pos e];exact hq _ _ h'
   ·rename_i e;rw[if_neg e];exact hq _ _ h'
 |.loop gs ks os a,Q,Q',s,h,hq=>by
  obtain⟨J,h0,h1⟩:=h
  refine⟨J,h0,fun n s' hJ=>GZ (p:=a) (h1 n s' hJ) fun e s'' h'=>?_⟩
  cases e with
  |normal=>exact h'
  |exit i=>exact hq _ _ h'
  |ret=>exact hq _ _ h'
 |.exit id,Q,Q',s,h,hq=>hq _ _ h
 |.ret,Q,Q',s,h,hq=>hq _ _ h
 |.dead,Q,Q',s,h,hq=>h.elim
 |.scope a,Q,Q',s,h,hq=>GZ (p:=a) h hq
 |.lab,Q,Q',s,h,hq=>hq _ _ h
 |.rngF gs g ps ks os b gs2 os2 a,Q,Q',s,h,hq=>DK (fun s0 h0=>UI (fun f pre post ⟨h1,els,h2,JJ,Pd,h3,h4,h5,h6,h7⟩ =>
  ⟨h1,els,h2,JJ,Pd,h3,h4,h5,fun V hV hJ=>hq _ _ (h6 V hV hJ),fun e V hV hP=>hq _ _ (h7 e V hV hP)⟩) h0) h
 |.yld gs l1 d y xs l2 ks,Q,Q',s,h,hq=>DK (fun s0 h0=>MM (fun s1 h1=>bT (fun v ch h2=>MM (fun s' h3=>hq _ _ h3) h2) h1) h0) h
theorem fh {α:Type}(St:α->Bd) (Inv:α->Prop) (μ:α->Nat) {gs:List Eu}{ks os:List Nat}{a:PC}(x0:α) (h0:Ce gs s fun s1=>s1.nrm ks os=St x0) (hI:Inv x0)
  (step:∀x,Inv x->pw E a (K5 (fun s'=>Ce gs s' fun s1=>∃y,s1.nrm ks os=St y/\Inv y/\μ y<μ x) Q) (St x)):pw E (.loop gs ks os a) Q s:=by
 refine⟨fun n s'=>∃x,s'=St x/\Inv x/\μ x=n,DK (fun s1 h=>⟨μ x0,x0,h,hI,rfl⟩) h0,?_⟩
 rintro n s' ⟨x,rfl,hx,rfl⟩
 refine GZ (step x hx) fun e s' h=>?_
 cases e with
 |normal =>
  refine DK (fun s1 h=>?_) h
  obtain⟨y,h1,h2,h3⟩:=h
  exact⟨μ y,h3,y,h1,h2,rfl⟩
 |exit i=>exact h
 |ret=>exact h
theorem eg (l:List (Nat×AV)) (t:Nat) (v:AV):CU (E_ l) t v=E_ ((t,v)::l):=rfl
theorem mM (l:List (Nat×(Nat×Am))) (cn:Nat->Nat) (o:Nat):(AN.mk (Be l) cn).drop o=⟨Be (l.filter fun p=>!(p.1 == o)),cn⟩:=by
 simp only[AN.drop,AN.mk.injEq,and_true]
 funext t
 induction l with
 |nil=>simp only[CU,List.filter_nil,Be];split<;>rfl
 |cons p l ih =>
  simp only[CU] at ih ⊢
  by_cases h:t=o
  ·subst h
   simp only[if_true] at ih ⊢
   by_cases h1:p.1=t
   ·simp[List.filter_cons,h1];simpa using ih
   ·have:(!(p.1 == t))=true:=by simpa using h1
    rw[List.filter_cons,if_pos this]
    obtain⟨k,v⟩:=p
    simp only[Be] at h1 ⊢
    rw[if_neg (Ne.symm h1)];exact ih
  ·simp only[if_neg h] at ih ⊢
   obtain⟨k,v⟩:=p
   by_cases h1:k=o
   ·subst h1
    have:(!((k,v).1 == k))=false:=by simp
    rw[List.filter_cons,if_neg (by simp),←ih]
    simp only[Be]
    rw[if_neg h]
   ·rw[List.filter_cons,if_pos (by simpa using h1)]
    simp only[Be]
    rw[ih]
def rZ (f:Nat->AV) (V:AN) (os ks:List Nat):List (Nat×AV):=ks.map fun k=>(k,(f k).nrm V os)
def EX (V:AN) (os:List Nat):List Nat->List (Nat×(Nat×Am))
 |[]=>[]
 |o::l=>match V.ob o with
  |some (_,x)=>(match x.nrm V os with|some y=>(o,(0,y))::EX V os l|none=>EX V os l)
  |none=>EX V os l
theorem gB (f:Nat->AV) (V:AN) (ks os:List Nat):(Bd.mk f V).nrm ks os=⟨E_ (ks.map fun k=>(k,(f k).nrm V os)),⟨Be (EX V os os),fun _=>1⟩⟩:=by
 have h1:(fun t=>if ks.contains t then (f t).nrm V os else .undef)=E_ (ks.map fun k=>(k,(f k).nrm V os)):=by
  funext t
  induction ks with
  |nil=>simp[E_]
  |cons k ks ih =>
   simp only[List.map_cons,MQ,List.contains_cons]
   by_cases h:t=k
   ·subst h;simp
   ·have:(t == k)=false:=by simpa using h
    rw[this,Bool.false_or,if_neg h];exact ih
 have h2:∀l:List Nat,(fun o=>if l.contains o then (match V.ob o with
   |some (_,x)=>match x.nrm V os with|some y=>some (0,y)|none=>none
   |none=>none) else none)=Be (EX V os l):=by
  intro l
  funext t
  induction l with
  |nil=>simp[EX,Be]
  |cons k l ih =>
   simp only[List.contains_cons]
   have hnot:∀(t:Nat),V.ob t=none->Be (EX V os l) t=none:=by
    intro t ht
    clear ih
    induction l with
    |nil=>rfl
    |cons a l ih2 =>
     simp only[EX]
     cases ha:V.ob a with
     |none=>exact ih2
     |some p =>
      obtain⟨g,x⟩:=p
      simp only
      have hne:t≠a:=by rintro rfl;rw[ht] at ha;cases ha
      cases x.nrm V os with
      |none=>exact ih2
      |some y=>simp only[Be,if_neg hne];exact ih2
   have hnot2:∀(t g:Nat) (x:Am),V.ob t=some (g,x)->x.nrm V os=none->Be (EX V os l) t=none:=by
    intro t g x ht hx
    clear ih hnot
    induction l with
    |nil=>rfl
    |cons a l ih2 =>
     simp only[EX]
     cases ha:V.ob a with
     |none=>exact ih2
     |some p =>
      obtain⟨g',x'⟩:=p
      simp only
      by_cases hne:t=a
      ·subst hne
       rw[ht] at ha;cases ha
       rw[hx];exact ih2
      ·cases x'.nrm V os with
       |none=>exact ih2
       |some y=>simp only[Be,if_neg hne];exact ih2
   by_cases h:t=k
   ·subst h
    simp only[beq_self_eq_true,Bool.true_or,if_true,EX]
    cases hk:V.ob t with
    |none=>simp only;exact(hnot t hk).symm
    |some p =>
     obtain⟨g,x⟩:=p
     simp only
     cases hx:x.nrm V os with
     |none=>simp only;exact(hnot2 t g x hk hx).symm
     |some y=>simp[Be]
   ·have:(t == k)=false:=by simpa using h
    rw[this,Bool.false_or]
    simp only[EX]
    cases V.ob k with
    |none=>exact ih
    |some p =>
     obtain⟨g,x⟩:=p
     simp only
     cases x.nrm V os with
     |none=>exact ih
     |some y=>simp only[Be,if_neg h];exact ih
 show Bd.mk _ _=_
 rw[h1,AN.nrm]
 exact congrArg (fun ob=>Bd.mk _ ⟨ob,fun _=>1⟩) (h2 os)
theorem ZS (V:AN) (os:List Nat):EX V os []=[]:=rfl
theorem XV (V:AN) (os:List Nat) (o:Nat) (l:List Nat):EX V os (o::l)=match V.ob o with
 |some (_,x)=>(match x.nrm V os with|some y=>(o,(0,y))::EX V os l|none=>EX V os l)
 |none=>EX V os l:=rfl
theorem f7 {V:AN} {os ety es nl l}:(Am.row ety es nl l).nrm V os=some (.row ety es nl l):=rfl
theorem f8 {V:AN} {os a b c d e}:(Am.mat a b c d e).nrm V os=some (.mat a b c d e):=rfl
theorem f_ {V:AN} {os k o g}:(AV.mref k o g).nrm V os=if AV.nrm.live V os o g then .mref k o 0 else .undef:=rfl
theorem gC {V:AN} {os sl cs off}:(AV.ablk sl cs off).nrm V os=if (AV.nrm.nrmL V os cs).all AV.one then .ablk sl (AV.nrm.nrmL V os cs) off else .undef:=rfl
theorem ZB {V:AN} {os xs}:(Am.cells xs).nrm V os=if (xs.map (AV.nrm V os)).all AV.one then some (.cells (xs.map (AV.nrm V os))) else none:=rfl
theorem qM {V:AN} {os x}:(AV.d x).nrm V os=.d x:=rfl
theorem cu {V:AN} {os}:AV.undef.nrm V os=.undef:=rfl
theorem ku {V:AN} {os o g}:(AV.own o g).nrm V os=if AV.nrm.live V os o g then .own o 0 else .undef:=rfl
theorem kr {V:AN} {os o g off}:(AV.ptr o g off).nrm V os=if AV.nrm.live V os o g then .ptr o 0 off else .undef:=rfl
theorem o8 {V:AN} {os f cs}:(AV.fn f cs).nrm V os=.fn f (AV.nrm.nrmL V os cs):=rfl
theorem gD {V:AN} {os}:AV.nrm.nrmL V os []=[]:=rfl
theorem cv {V:AN} {os x xs}:AV.nrm.nrmL V os (x::xs)=x.nrm V os::AV.nrm.nrmL V os xs:=rfl
theorem lH {V:AN}{os:List Nat}{o g:Nat}:AV.nrm.live V os o g=(os.contains o && match V.ob o with|some (g',_)=>g' == g|none=>false):=rfl
end Go.Pw
