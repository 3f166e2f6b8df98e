/- A part of the proof. -/
import Derived.Test.YtibkjeolahobbaaGreatDoorPwY
set_option linter.all false
namespace Go.Pw
def E9:List (Nat×AV)->Nat->AV
 |[]=>fun _=>.undef
 |(k,v)::l=>fun t=>if t=k then v else E9 l t
theorem Lj (k:Nat) (v:AV) (l:List (Nat×AV)) (t:Nat):E9 ((k,v)::l) t=if t=k then v else E9 l t:=rfl
theorem ej (t:Nat):E9 [] t=.undef:=rfl
theorem Xo (k:Nat) (v:Nat×Ak) (l:List (Nat×(Nat×Ak))) (t:Nat):Bb ((k,v)::l) t=if t=k then some v else Bb l t:=rfl
theorem al (t:Nat):Bb [] t=none:=rfl
theorem d8 (l:List (Nat×AV)) (V:AM) (t:Nat) (v:AV) (ch:Bw):put ⟨E9 l,V⟩ (some t) v ch=⟨E9 ((t,v)::l),V.app ch⟩:=rfl
theorem d9 (f:Nat->AV) (V:AM) (v:AV) (ch:Bw):put ⟨f,V⟩ none v ch=⟨f,V.app ch⟩:=rfl
theorem gi (V:AM):V.app .none=V:=rfl
theorem lF (V:AM) (a b:Bw):V.app (.seq a b)=(V.app a).app b:=rfl
theorem gj (l:List (Nat×(Nat×Ak))) (cn:Nat->Nat) (o g:Nat) (x:Ak):(AM.mk (Bb l) cn).app (.keep o g x)=⟨Bb ((o,(g,x))::l),cn⟩:=rfl
theorem bv (l:List (Nat×(Nat×Ak))) (cn:Nat->Nat) (o:Nat) (x:Ak):(AM.mk (Bb l) cn).app (.fresh o x)=⟨Bb ((o,(cn o,x))::l),CJ cn o (cn o+1)⟩:=rfl
theorem nU (ob:Nat->Option (Nat×Ak)) (cn:Nat->Nat) (o g:Nat):(AM.mk ob cn).get o g=match ob o with|some (g',x)=>if g=g' then some x else none|none=>none:=rfl
theorem AW (ds:List D):BZ.enter ds=⟨E9 (ds.zipIdx.map fun(d,k)=>(k,.d d)),⟨Bb [],fun _=>0⟩⟩:=by
 have key:∀(ds:List D) (n t:Nat),E9 ((ds.zipIdx n).map fun(d,k)=>(k,.d d)) t=if t<n then .undef else (match ds[t-n]? with|some d=>.d d|none=>.undef):=by
  intro ds
  induction ds with
  |nil=>intro n t;simp[E9]
  |cons d ds ih =>
   intro n t
   simp only[List.zipIdx_cons,List.map_cons,Lj]
   rw[ih]
   by_cases h:t=n
   ·subst h;simp
   ·by_cases h2:t<n
    ·simp[h,h2,Nat.lt_succ_of_lt h2]
    ·have h3:¬t<n+1:=by omega
     have h4:t-n=(t-(n+1))+1:=by omega
     simp only[h,h2,h3,if_false]
     rw[h4,List.getElem?_cons_succ]
 unfold BZ.enter
 congr 1
 funext t
 rw[key];simp
 cases ds[t]?<;>rfl
theorem j6 (f:Nat->AV) (V:AM) (ks:List Nat):(BZ.mk f V).keep ks=⟨E9 (ks.map fun k=>(k,f k)),V⟩:=by
 unfold BZ.keep
 congr 1
 funext t
 induction ks with
 |nil=>simp[E9]
 |cons k ks ih =>
  simp only[List.map_cons,Lj,List.contains_cons]
  by_cases h:t=k
  ·subst h;simp
  ·have:(t == k)=false:=by simpa using h
   rw[this,Bool.false_or,if_neg h];exact ih
variable {E:Co}{Q:B6->BZ->Prop}{s s':BZ}{K:AV->Bw->Prop}{KS:BZ->Prop}
theorem YY (b:Bool) (A B:Prop):Rf (.d (.bool b)) A B=Hb b A B:=rfl
theorem mh {gs l1 d y xs l2 ks}:pw E (.yld gs l1 d y xs l2 ks) Q s=CU gs s fun s0=>Ke E l1 s0 fun s1=>R_ (y.val s1.sl) (xs.map (J_.val s1.sl)) s1.V fun v ch=>Ke E l2 (put s1 d v ch) fun s'=>Q .normal (s'.keep ks):=rfl
theorem jM:pw E .dead Q s=False:=rfl
theorem jI:pw E .skip Q s=Q .normal s:=rfl
theorem mn {gs l ks}:pw E (.reg gs l ks) Q s=CU gs s fun s'=>Ke E l s' fun s'=>Q .normal (s'.keep ks):=rfl
theorem jL {gs l ks}:pw E (.draw gs l ks) Q s=CU gs s fun s'=>SF E l [] s' fun s'=>Q .normal (s'.keep ks):=rfl
theorem mj {a b}:pw E (.seq a b) Q s=pw E a (KW (pw E b Q) Q) s:=rfl
theorem jN {c a b}:pw E (.cond c a b) Q s=Rf (c.val s.sl) (pw E a Q s) (pw E b Q s):=rfl
theorem d7 {id a}:pw E (.block id a) Q s=pw E a (Jl id Q) s:=rfl
theorem jK {id}:pw E (.exit id) Q s=Q (.exit id) s:=rfl
theorem ml:pw E .ret Q s=Q .ret s:=rfl
theorem TU {A:BZ->Prop}:KW A Q .normal s=A s:=rfl
theorem XA {A:BZ->Prop} {i}:KW A Q (.exit i) s=Q (.exit i) s:=rfl
theorem Zl {A:BZ->Prop}:KW A Q .ret s=Q .ret s:=rfl
theorem SW {i}:Jl i Q .normal s=Q .normal s:=rfl
theorem Yg {i}:Jl i Q .ret s=Q .ret s:=rfl
theorem Wi {i j}:Jl i Q (.exit j) s=if j=i then Q .normal s else Q (.exit j) s:=rfl
theorem X0:CU [] s KS=KS s:=rfl
theorem Vv {g gs}:CU (g::gs) s KS=Ep g s fun s'=>CU gs s' KS:=rfl
theorem dR:Ke E [] s KS=KS s:=rfl
theorem Z9 {I l}:Ke E (I::l) s KS=EZ E I s fun v ch=>Ke E l (put s I.dst v ch) KS:=rfl
theorem U3 {d op xs} {sl:Nat->AV}{V:AM}:EZ E ⟨d,none,op,xs⟩ ⟨sl,V⟩ K=ev E d V op (xs.map (J_.val sl)) K:=rfl
section
variable {dst:Option Nat}{V:AM}
theorem nk {x}:ev E dst V .mov [x] K=K x .none:=rfl
theorem kZ {c x y}:ev E dst V .pick [.d (.bool c),x,y] K=Hb c (K x .none) (K y .none):=rfl
theorem nu {b k k' x y}:ev E dst V (.bin b) [.d (.int k x),.d (.int k' y)] K=DM b k k' x y (K · .none):=rfl
theorem nj {b}:ev E dst V (.un .not) [.d (.bool b)] K=K (.d (.bool (!b))) .none:=rfl
end
theorem Mb {I:E6}{K K':AV->Bw->Prop}(h:EZ E I s K) (hk:∀v ch,K v ch->K' v ch):EZ E I s K':=by
 obtain⟨v,ch,h1,_,h3⟩:=Se h
 exact h3 s K' (fun _ _=>rfl) (fun _ _=>⟨rfl,rfl⟩) (hk v ch h1)
theorem Lg {KS KS':BZ->Prop}(hk:∀s,KS s->KS' s):∀{l:List E6}{s:BZ},Ke E l s KS->Ke E l s KS'
 |[],s,h=>hk s h
 |I::l,s,h=>Mb h fun v ch h'=>Lg hk h'
theorem So {KS KS':BZ->Prop}(hk:∀s,KS s->KS' s):∀{l:List (E6×List Nat)}{r:List R8}{s:BZ},SF E l r s KS->SF E l r s KS'
 |[],r,s,h=>hk s h
 |(I,dy)::l,r,s,h=>Mb h fun v ch h'=>⟨h'.1,So hk h'.2⟩
theorem X1 {KS KS':BZ->Prop}(hk:∀s,KS s->KS' s) {g:Eu}(h:Ep g s KS):Ep g s KS':=by
 unfold Ep at *
 split at h
 ·split at h
  ·split at h
   ·exact hk _ h
   ·exact h.elim
  ·exact hk _ h
 ·split at h
  ·split at h
   ·split at h
    ·exact hk _ h
    ·exact h.elim
   ·exact h.elim
  ·exact hk _ h
 ·split at h
  ·split at h
   ·split at h
    ·exact hk _ h
    ·exact h.elim
   ·exact hk _ h
  ·exact hk _ h
 ·split at h
  ·split at h
   ·exact hk _ h
   ·exact h.elim
  ·exact hk _ h
 ·split at h
  ·split at h
   ·exact hk _ h
   ·exact h.elim
  ·exact hk _ h
 ·split at h
  ·split at h
   ·split at h
    ·split at h
     ·exact hk _ h
     ·exact h.elim
    ·exact hk _ h
   ·exact hk _ h
  ·exact hk _ h
 ·split at h
  ·exact⟨h.1,hk _ h.2⟩
  ·exact hk _ h
 ·split at h
  ·exact⟨h.1,hk _ h.2⟩
  ·exact hk _ h
 ·split at h
  ·split at h
   ·split at h
    ·exact⟨h.1,h.2.1,hk _ h.2.2⟩
    ·exact hk _ h
   ·exact hk _ h
  ·exact hk _ h
 ·exact hk _ h
 ·exact hk _ h
theorem NV {KS KS':BZ->Prop}(hk:∀s,KS s->KS' s):∀{t:g6}{s:BZ},Tt E t s KS->Tt E t s KS'
 |.done,s,h=>hk s h
 |.step I r,s,h=>Mb h fun v ch h'=>NV hk h'
 |.both a b,s,h=>⟨NV hk h.1,NV hk h.2⟩
theorem DF:∀{gs:List Eu}{s:BZ}{KS KS':BZ->Prop},(∀s,KS s->KS' s)->CU gs s KS->CU gs s KS'
 |[],s,_,_,hk,h=>hk s h
 |g::gs,s,_,_,hk,h=>X1 (fun s' h'=>DF hk h') h
theorem Ze {y:AV}{xs:List AV}{V:AM}{K K':AV->Bw->Prop}(hk:∀v ch,K v ch->K' v ch) (h:R_ y xs V K):R_ y xs V K':=by
 unfold R_ at *
 split at h
 ·split at h
  ·split at h
   ·exact⟨h.1,hk _ _ h.2.1,hk _ _ h.2.2⟩
   ·exact h.elim
  ·exact h.elim
 ·exact h.elim
theorem Sr {v:AV}{K K':FuncId->List D->List D->Prop}(hk:∀f pre post,K f pre post->K' f pre post) (h:VS E v K):VS E v K':=by
 unfold VS at *
 split at h
 ·exact⟨h.1,hk _ _ _ h.2⟩
 ·exact⟨h.1,hk _ _ _ h.2⟩
 ·exact h.elim
theorem GS:∀{p:PC}{Q Q':B6->BZ->Prop}{s:BZ},pw E p Q s->(∀e s,Q e s->Q' e s)->pw E p Q' s
 |.skip,Q,Q',s,h,hq=>hq _ _ h
 |.reg gs l ks,Q,Q',s,h,hq=>DF (fun s' h'=>Lg (fun s'' h''=>hq _ _ h'') h') h
 |.draw gs l ks,Q,Q',s,h,hq=>DF (fun s' h'=>So (fun s'' h''=>hq _ _ h'') h') h
 |.any gs t ks,Q,Q',s,h,hq=>DF (fun s' h'=>NV (fun s'' h''=>hq _ _ h'') h') h
 |.seq a b,Q,Q',s,h,hq=>GS (p:=a) h fun e s' h'=>by
  cases e with
  |normal=>exact GS (p:=b) h' hq
  |exit i=>exact hq _ _ h'
  |ret=>exact hq _ _ h'
 |.cond c a b,Q,Q',s,h,hq=>by
  simp only[pw,Rf] at h ⊢
  split at h
  ·exact⟨fun hb=>GS (h.1 hb) hq,fun hb=>GS (h.2 hb) hq⟩
  ·exact h.elim
 |.block id a,Q,Q',s,h,hq=>GS (p:=a) h fun e s' h'=>by
  cases e with
  |normal=>exact hq _ _ h'
  |ret=>exact hq _ _ h'
  |exit i =>
   simp only[Jl] at h' ⊢
   split at h'
   ·rename_i e;rw[if_pos e];exact hq _ _ h'
   ·rename_i e;rw[if_neg e];exact hq _ _ h'
 |.loop gs ks os a,Q,Q',s,h,hq=>by
  obtain⟨J,h0,h1⟩:=h
  refine⟨J,h0,fun n s' hJ=>GS (p:=a) (h1 n s' hJ) fun e s'' h'=>?_⟩
  cases e with
  |normal=>exact h'
  |exit i=>exact hq _ _ h'
  |ret=>exact hq _ _ h'
 |.exit id,Q,Q',s,h,hq=>hq _ _ h
 |.ret,Q,Q',s,h,hq=>hq _ _ h
 |.dead,Q,Q',s,h,hq=>h.elim
 |.scope a,Q,Q',s,h,hq=>GS (p:=a) h hq
 |.lab,Q,Q',s,h,hq=>hq _ _ h
 |.rngF gs g ps ks os b gs2 os2 a,Q,Q',s,h,hq=>DF (fun s0 h0=>Sr (fun f pre post ⟨h1,els,h2,JJ,Pd,h3,h4,h5,h6,h7⟩ =>
  ⟨h1,els,h2,JJ,Pd,h3,h4,h5,fun V hV hJ=>hq _ _ (h6 V hV hJ),fun e V hV hP=>hq _ _ (h7 e V hV hP)⟩) h0) h
 |.yld gs l1 d y xs l2 ks,Q,Q',s,h,hq=>DF (fun s0 h0=>Lg (fun s1 h1=>Ze (fun v ch h2=>Lg (fun s' h3=>hq _ _ h3) h2) h1) h0) h
theorem d5 {α:Type}(St:α->BZ) (Inv:α->Prop) (μ:α->Nat) {gs:List Eu}{ks os:List Nat}{a:PC}(x0:α) (h0:CU gs s fun s1=>s1.nrm ks os=St x0) (hI:Inv x0)
  (step:∀x,Inv x->pw E a (KW (fun s'=>CU gs s' fun s1=>∃y,s1.nrm ks os=St y/\Inv y/\μ y<μ x) Q) (St x)):pw E (.loop gs ks os a) Q s:=by
 refine⟨fun n s'=>∃x,s'=St x/\Inv x/\μ x=n,DF (fun s1 h=>⟨μ x0,x0,h,hI,rfl⟩) h0,?_⟩
 rintro n s' ⟨x,rfl,hx,rfl⟩
 refine GS (step x hx) fun e s' h=>?_
 cases e with
 |normal =>
  refine DF (fun s1 h=>?_) h
  obtain⟨y,h1,h2,h3⟩:=h
  exact⟨μ y,h3,y,h1,h2,rfl⟩
 |exit i=>exact h
 |ret=>exact h
theorem cj (l:List (Nat×AV)) (t:Nat) (v:AV):CJ (E9 l) t v=E9 ((t,v)::l):=rfl
theorem kh (l:List (Nat×(Nat×Ak))) (cn:Nat->Nat) (o:Nat):(AM.mk (Bb l) cn).drop o=⟨Bb (l.filter fun p=>!(p.1 == o)),cn⟩:=by
 simp only[AM.drop,AM.mk.injEq,and_true]
 funext t
 induction l with
 |nil=>simp only[CJ,List.filter_nil,Bb];split<;>rfl
 |cons p l ih =>
  simp only[CJ] at ih ⊢
  by_cases h:t=o
  ·subst h
   simp only[if_true] at ih ⊢
   by_cases h1:p.1=t
   ·simp[List.filter_cons,h1];simpa using ih
   ·have:(!(p.1 == t))=true:=by simpa using h1
    rw[List.filter_cons,if_pos this]
    obtain⟨k,v⟩:=p
    simp only[Bb] at h1 ⊢
    rw[if_neg (Ne.symm h1)];exact ih
  ·simp only[if_neg h] at ih ⊢
   obtain⟨k,v⟩:=p
   by_cases h1:k=o
   ·subst h1
    have:(!((k,v).1 == k))=false:=by simp
    rw[List.filter_cons,if_neg (by simp),←ih]
    simp only[Bb]
    rw[if_neg h]
   ·rw[List.filter_cons,if_pos (by simpa using h1)]
    simp only[Bb]
    rw[ih]
def qB (f:Nat->AV) (V:AM) (os ks:List Nat):List (Nat×AV):=ks.map fun k=>(k,(f k).nrm V os)
def EV (V:AM) (os:List Nat):List Nat->List (Nat×(Nat×Ak))
 |[]=>[]
 |o::l=>match V.ob o with
  |some (_,x)=>(match x.nrm V os with|some y=>(o,(0,y))::EV V os l|none=>EV V os l)
  |none=>EV V os l
theorem eK (f:Nat->AV) (V:AM) (ks os:List Nat):(BZ.mk f V).nrm ks os=⟨E9 (ks.map fun k=>(k,(f k).nrm V os)),⟨Bb (EV V os os),fun _=>1⟩⟩:=by
 have h1:(fun t=>if ks.contains t then (f t).nrm V os else .undef)=E9 (ks.map fun k=>(k,(f k).nrm V os)):=by
  funext t
  induction ks with
  |nil=>simp[E9]
  |cons k ks ih =>
   simp only[List.map_cons,Lj,List.contains_cons]
   by_cases h:t=k
   ·subst h;simp
   ·have:(t == k)=false:=by simpa using h
    rw[this,Bool.false_or,if_neg h];exact ih
 have h2:∀l:List Nat,(fun o=>if l.contains o then (match V.ob o with
   |some (_,x)=>match x.nrm V os with|some y=>some (0,y)|none=>none
   |none=>none) else none)=Bb (EV V os l):=by
  intro l
  funext t
  induction l with
  |nil=>simp[EV,Bb]
  |cons k l ih =>
   simp only[List.contains_cons]
   have hnot:∀(t:Nat),V.ob t=none->Bb (EV V os l) t=none:=by
    intro t ht
    clear ih
    induction l with
    |nil=>rfl
    |cons a l ih2 =>
     simp only[EV]
     cases ha:V.ob a with
     |none=>exact ih2
     |some p =>
      obtain⟨g,x⟩:=p
      simp only
      have hne:t≠a:=by rintro rfl;rw[ht] at ha;cases ha
      cases x.nrm V os with
      |none=>exact ih2
      |some y=>simp only[Bb,if_neg hne];exact ih2
   have hnot2:∀(t g:Nat) (x:Ak),V.ob t=some (g,x)->x.nrm V os=none->Bb (EV V os l) t=none:=by
    intro t g x ht hx
    clear ih hnot
    induction l with
    |nil=>rfl
    |cons a l ih2 =>
     simp only[EV]
     cases ha:V.ob a with
     |none=>exact ih2
     |some p =>
      obtain⟨g',x'⟩:=p
      simp only
      by_cases hne:t=a
      ·subst hne
       rw[ht] at ha;cases ha
       rw[hx];exact ih2
      ·cases x'.nrm V os with
       |none=>exact ih2
       |some y=>simp only[Bb,if_neg hne];exact ih2
   by_cases h:t=k
   ·subst h
    simp only[beq_self_eq_true,Bool.true_or,if_true,EV]
    cases hk:V.ob t with
    |none=>simp only;exact(hnot t hk).symm
    |some p =>
     obtain⟨g,x⟩:=p
     simp only
     cases hx:x.nrm V os with
     |none=>simp only;exact(hnot2 t g x hk hx).symm
     |some y=>simp[Bb]
   ·have:(t == k)=false:=by simpa using h
    rw[this,Bool.false_or]
    simp only[EV]
    cases V.ob k with
    |none=>exact ih
    |some p =>
     obtain⟨g,x⟩:=p
     simp only
     cases x.nrm V os with
     |none=>exact ih
     |some y=>simp only[Bb,if_neg h];exact ih
 show BZ.mk _ _=_
 rw[h1,AM.nrm]
 exact congrArg (fun ob=>BZ.mk _ ⟨ob,fun _=>1⟩) (h2 os)
theorem Xp (V:AM) (os:List Nat):EV V os []=[]:=rfl
theorem Vm (V:AM) (os:List Nat) (o:Nat) (l:List Nat):EV V os (o::l)=match V.ob o with
 |some (_,x)=>(match x.nrm V os with|some y=>(o,(0,y))::EV V os l|none=>EV V os l)
 |none=>EV V os l:=rfl
theorem eG {V:AM} {os ety es nl l}:(Ak.row ety es nl l).nrm V os=some (.row ety es nl l):=rfl
theorem eH {V:AM} {os a b c d e}:(Ak.mat a b c d e).nrm V os=some (.mat a b c d e):=rfl
theorem eI {V:AM} {os k o g}:(AV.mref k o g).nrm V os=if AV.nrm.live V os o g then .mref k o 0 else .undef:=rfl
theorem eL {V:AM} {os sl cs off}:(AV.ablk sl cs off).nrm V os=if (AV.nrm.nrmL V os cs).all AV.one then .ablk sl (AV.nrm.nrmL V os cs) off else .undef:=rfl
theorem XY {V:AM} {os xs}:(Ak.cells xs).nrm V os=if (xs.map (AV.nrm V os)).all AV.one then some (.cells (xs.map (AV.nrm V os))) else none:=rfl
theorem oi {V:AM} {os x}:(AV.d x).nrm V os=.d x:=rfl
theorem ae {V:AM} {os}:AV.undef.nrm V os=.undef:=rfl
theorem jd {V:AM} {os o g}:(AV.own o g).nrm V os=if AV.nrm.live V os o g then .own o 0 else .undef:=rfl
theorem jc {V:AM} {os o g off}:(AV.ptr o g off).nrm V os=if AV.nrm.live V os o g then .ptr o 0 off else .undef:=rfl
theorem my {V:AM} {os f cs}:(AV.fn f cs).nrm V os=.fn f (AV.nrm.nrmL V os cs):=rfl
theorem eM {V:AM} {os}:AV.nrm.nrmL V os []=[]:=rfl
theorem af {V:AM} {os x xs}:AV.nrm.nrmL V os (x::xs)=x.nrm V os::AV.nrm.nrmL V os xs:=rfl
theorem jw {V:AM}{os:List Nat}{o g:Nat}:AV.nrm.live V os o g=(os.contains o && match V.ob o with|some (g',_)=>g' == g|none=>false):=rfl
end Go.Pw
