/- A part of the proof. -/
import Derived.Test.YtpcpcjbbdgmohaaGreatPwY
set_option linter.all false
namespace Go.Pw
def Dc:List (Nat×AV)->Nat->AV
 |[]=>fun _=>.undef
 |(k,v)::l=>fun t=>if t=k then v else Dc l t
theorem LN (k:Nat) (v:AV) (l:List (Nat×AV)) (t:Nat):Dc ((k,v)::l) t=if t=k then v else Dc l t:=rfl
theorem du (t:Nat):Dc [] t=.undef:=rfl
theorem Xq (k:Nat) (v:Nat×Ae) (l:List (Nat×(Nat×Ae))) (t:Nat):A7 ((k,v)::l) t=if t=k then some v else A7 l t:=rfl
theorem aG (t:Nat):A7 [] t=none:=rfl
theorem dF (l:List (Nat×AV)) (V:AO) (t:Nat) (v:AV) (ch:Bp):put ⟨Dc l,V⟩ (some t) v ch=⟨Dc ((t,v)::l),V.app ch⟩:=rfl
theorem dG (f:Nat->AV) (V:AO) (v:AV) (ch:Bp):put ⟨f,V⟩ none v ch=⟨f,V.app ch⟩:=rfl
theorem fF (V:AO):V.app .none=V:=rfl
theorem ip (V:AO) (a b:Bp):V.app (.seq a b)=(V.app a).app b:=rfl
theorem fG (l:List (Nat×(Nat×Ae))) (cn:Nat->Nat) (o g:Nat) (x:Ae):(AO.mk (A7 l) cn).app (.keep o g x)=⟨A7 ((o,(g,x))::l),cn⟩:=rfl
theorem bc (l:List (Nat×(Nat×Ae))) (cn:Nat->Nat) (o:Nat) (x:Ae):(AO.mk (A7 l) cn).app (.fresh o x)=⟨A7 ((o,(cn o,x))::l),CN cn o (cn o+1)⟩:=rfl
theorem kY (ob:Nat->Option (Nat×Ae)) (cn:Nat->Nat) (o g:Nat):(AO.mk ob cn).get o g=match ob o with|some (g',x)=>if g=g' then some x else none|none=>none:=rfl
theorem AZ (ds:List D):A3.enter ds=⟨Dc (ds.zipIdx.map fun(d,k)=>(k,.d d)),⟨A7 [],fun _=>0⟩⟩:=by
 have key:∀(ds:List D) (n t:Nat),Dc ((ds.zipIdx n).map fun(d,k)=>(k,.d d)) t=if t<n then .undef else (match ds[t-n]? with|some d=>.d d|none=>.undef):=by
  intro ds
  induction ds with
  |nil=>intro n t;simp[Dc]
  |cons d ds ih =>
   intro n t
   simp only[List.zipIdx_cons,List.map_cons,LN]
   rw[ih]
   by_cases h:t=n
   ·subst h;simp
   ·by_cases h2:t<n
    ·simp[h,h2,Nat.lt_succ_of_lt h2]
    ·have h3:¬t<n+1:=by omega
     have h4:t-n=(t-(n+1))+1:=by omega
     simp only[h,h2,h3,if_false]
     rw[h4,List.getElem?_cons_succ]
 unfold A3.enter
 congr 1
 funext t
 rw[key];simp
 cases ds[t]?<;>rfl
theorem gr (f:Nat->AV) (V:AO) (ks:List Nat):(A3.mk f V).keep ks=⟨Dc (ks.map fun k=>(k,f k)),V⟩:=by
 unfold A3.keep
 congr 1
 funext t
 induction ks with
 |nil=>simp[Dc]
 |cons k ks ih =>
  simp only[List.map_cons,LN,List.contains_cons]
  by_cases h:t=k
  ·subst h;simp
  ·have:(t == k)=false:=by simpa using h
   rw[this,Bool.false_or,if_neg h];exact ih
variable {E:CU}{Q:CG->A3->Prop}{s s':A3}{K:AV->Bp->Prop}{KS:A3->Prop}
theorem YS (b:Bool) (A B:Prop):Rg (.d (.bool b)) A B=GZ b A B:=rfl
theorem dB {a:PC}:pw E (.scope a) Q s=pw E a Q s:=rfl
theorem j5 {gs d it l2 ks}:pw E (.nxt gs d it l2 ks) Q s=CS gs s fun s0=>NQ (it.val s0.sl) s0.V fun v ch=>Fc E l2 (put s0 d v ch) fun s'=>Q .normal (s'.keep ks):=rfl
theorem jw {gs l1 d y xs l2 ks}:pw E (.yld gs l1 d y xs l2 ks) Q s=CS gs s fun s0=>Fc E l1 s0 fun s1=>MI E (y.val s1.sl) (xs.map (Gh.val s1.sl)) s1.V fun v ch=>Fc E l2 (put s1 d v ch) fun s'=>Q .normal (s'.keep ks):=rfl
theorem jy {gs l1 gd d y xs l2 ks}:pw E (.ydr gs l1 gd d y xs l2 ks) Q s=CS gs s fun s0=>My E l1 [] s0 fun s1=>Vz gd s1 (MI E (y.val s1.sl) (xs.map (Gh.val s1.sl)) s1.V fun v ch=>Fc E l2 (put s1 d v ch) fun s'=>Q .normal (s'.keep ks))
 (Fc E l2 (put s1 d (.tup []) .none) fun s'=>Q .normal (s'.keep ks)):=rfl
theorem j6:pw E .lab Q s=Q .normal s:=rfl
theorem gC:pw E .skip Q s=Q .normal s:=rfl
theorem j4 {gs l ks}:pw E (.reg gs l ks) Q s=CS gs s fun s'=>Fc E l s' fun s'=>Q .normal (s'.keep ks):=rfl
theorem gF {gs l ks}:pw E (.draw gs l ks) Q s=CS gs s fun s'=>My E l [] s' fun s'=>Q .normal (s'.keep ks):=rfl
theorem jz {a b}:pw E (.seq a b) Q s=pw E a (J_ (pw E b Q) Q) s:=rfl
theorem gG {c a b}:pw E (.cond c a b) Q s=Rg (c.val s.sl) (pw E a Q s) (pw E b Q s):=rfl
theorem dE {id a}:pw E (.block id a) Q s=pw E a (JM id Q) s:=rfl
theorem gE {id}:pw E (.exit id) Q s=Q (.exit id) s:=rfl
theorem j0:pw E .ret Q s=Q .ret s:=rfl
theorem Tv {A:A3->Prop}:J_ A Q .normal s=A s:=rfl
theorem W5 {A:A3->Prop} {i}:J_ A Q (.exit i) s=Q (.exit i) s:=rfl
theorem ZM {A:A3->Prop}:J_ A Q .ret s=Q .ret s:=rfl
theorem SZ {i}:JM i Q .normal s=Q .normal s:=rfl
theorem YW {i}:JM i Q .ret s=Q .ret s:=rfl
theorem Wa {i j}:JM i Q (.exit j) s=if j=i then Q .normal s else Q (.exit j) s:=rfl
theorem Xy:CS [] s KS=KS s:=rfl
theorem V4 {g gs}:CS (g::gs) s KS=EX g s fun s'=>CS gs s' KS:=rfl
theorem co:Fc E [] s KS=KS s:=rfl
theorem Zg {I l}:Fc E (I::l) s KS=D9 E I s fun v ch=>Fc E l (put s I.dst v ch) KS:=rfl
theorem U_ {d op xs} {sl:Nat->AV}{V:AO}:D9 E ⟨d,none,op,xs⟩ ⟨sl,V⟩ K=ev E d V op (xs.map (Gh.val sl)) K:=rfl
section
variable {dst:Option Nat}{V:AO}
theorem kh {x}:ev E dst V .mov [x] K=K x .none:=rfl
theorem iI {c x y}:ev E dst V .pick [.d (.bool c),x,y] K=GZ c (K x .none) (K y .none):=rfl
theorem kl {b k k' x y}:ev E dst V (.bin b) [.d (.int k x),.d (.int k' y)] K=Du b k k' x y (K · .none):=rfl
theorem kf {b}:ev E dst V (.un .not) [.d (.bool b)] K=K (.d (.bool (!b))) .none:=rfl
end
theorem MP {I:D6}{K K':AV->Bp->Prop}(h:D9 E I s K) (hk:∀v ch,K v ch->K' v ch):D9 E I s K':=by
 obtain⟨v,ch,h1,_,h3⟩:=Su h
 exact h3 s K' (fun _ _=>rfl) (fun _ _=>⟨rfl,rfl⟩) (hk v ch h1)
theorem Fs {KS KS':A3->Prop}(hk:∀s,KS s->KS' s):∀{l:List D6}{s:A3},Fc E l s KS->Fc E l s KS'
 |[],s,h=>hk s h
 |I::l,s,h=>MP h fun v ch h'=>Fs hk h'
theorem OU {KS KS':A3->Prop}(hk:∀s,KS s->KS' s):∀{l:List (D6×List Nat)}{r:List Ry}{s:A3},My E l r s KS->My E l r s KS'
 |[],r,s,h=>hk s h
 |(I,dy)::l,r,s,h=>MP h fun v ch h'=>⟨h'.1,OU hk h'.2⟩
theorem Xz {KS KS':A3->Prop}(hk:∀s,KS s->KS' s) {g:Dw}(h:EX g s KS):EX g s KS':=by
 unfold EX at *
 split at h
 ·split at h
  ·split at h
   ·exact hk _ h
   ·exact h.elim
  ·exact hk _ h
 ·split at h
  ·split at h
   ·split at h
    ·exact hk _ h
    ·exact h.elim
   ·exact h.elim
  ·exact hk _ h
 ·split at h
  ·split at h
   ·split at h
    ·exact hk _ h
    ·exact h.elim
   ·exact hk _ h
  ·exact hk _ h
 ·split at h
  ·split at h
   ·exact⟨h.1,hk _ h.2⟩
   ·exact h.elim
  ·exact hk _ h
 ·split at h
  ·split at h
   ·exact hk _ h
   ·exact h.elim
  ·exact hk _ h
 ·split at h
  ·split at h
   ·split at h
    ·split at h
     ·exact hk _ h
     ·exact h.elim
    ·split at h
     ·exact⟨h.1,hk _ h.2⟩
     ·exact h.elim
    ·split at h
     ·exact hk _ h
     ·exact h.elim
    ·exact hk _ h
   ·exact hk _ h
  ·exact hk _ h
 ·split at h
  ·exact⟨h.1,hk _ h.2⟩
  ·exact hk _ h
 ·split at h
  ·exact⟨h.1,hk _ h.2⟩
  ·exact hk _ h
 ·split at h
  ·split at h
   ·split at h
    ·exact⟨h.1,h.2.1,hk _ h.2.2⟩
    ·exact hk _ h
   ·exact hk _ h
  ·exact hk _ h
 ·split at h
  ·split at h
   ·split at h
    ·exact⟨h.1,h.2.1,hk _ h.2.2⟩
    ·exact hk _ h
   ·exact hk _ h
  ·exact hk _ h
 ·exact hk _ h
 ·exact hk _ h
 ·split at h
  ·split at h
   ·exact⟨h.1,h.2.1,h.2.2.1,h.2.2.2.1,hk _ h.2.2.2.2⟩
   ·exact h.elim
  ·exact hk _ h
 ·split at h
  ·split at h
   ·exact hk _ h
   ·exact h.elim
  ·exact hk _ h
 ·split at h
  ·split at h
   ·exact⟨h.1,hk _ h.2⟩
   ·exact hk _ h
  ·exact hk _ h
 ·unfold WO at *
  split at h<;>exact hk _ h
theorem NM {KS KS':A3->Prop}(hk:∀s,KS s->KS' s):∀{t:fP}{s:A3},UP E t s KS->UP E t s KS'
 |.done,s,h=>hk s h
 |.step I r,s,h=>MP h fun v ch h'=>NM hk h'
 |.both a b,s,h=>⟨NM hk h.1,NM hk h.2⟩
theorem Cu:∀{gs:List Dw}{s:A3}{KS KS':A3->Prop},(∀s,KS s->KS' s)->CS gs s KS->CS gs s KS'
 |[],s,_,_,hk,h=>hk s h
 |g::gs,s,_,_,hk,h=>Xz (fun s' h'=>Cu hk h') h
theorem Xk {x:AV}{V:AO}{K K':AV->Bp->Prop}(hk:∀v ch,K v ch->K' v ch) (h:NQ x V K):NQ x V K':=by
 unfold NQ at *
 split at h
 ·split at h
  ·split at h
   ·split at h
    ·exact⟨h.1,fun e he hs=>hk _ _ (h.2.1 e he hs),fun ha=>hk _ _ (h.2.2 ha)⟩
    ·exact h
   ·exact h
  ·exact⟨fun i hi hs=>hk _ _ (h.1 i hi hs),fun ha=>hk _ _ (h.2 ha)⟩
  ·exact h
 ·exact h
theorem aW {gd:Option (Nat×Bool)}{s:A3}{A A' B B':Prop}(ha:A->A') (hb:B->B') (h:Vz gd s A B):Vz gd s A' B':=by
 unfold Vz at *
 split at h
 ·exact ha h
 ·split at h
  ·exact⟨fun e=>ha (h.1 e),fun e=>hb (h.2 e)⟩
  ·exact hb h
  ·exact h
theorem Sl {y:AV}{xs:List AV}{V:AO}{K K':AV->Bp->Prop}(hk:∀v ch,K v ch->K' v ch) (h:MI E y xs V K):MI E y xs V K':=by
 unfold MI at *
 split at h
 ·obtain⟨h1,o,els,n,Post,h2,h3,h4,h5⟩:=h
  exact⟨h1,o,els,n,Post,h2,h3,h4,fun n1 st1 r hp=>⟨(h5 n1 st1 r hp).1,hk _ _ (h5 n1 st1 r hp).2⟩⟩
 ·split at h
  ·split at h
   ·exact⟨h.1,hk _ _ h.2.1,hk _ _ h.2.2⟩
   ·exact h.elim
  ·exact h.elim
 ·exact h.elim
theorem S5 {v:AV}{K K':FuncId->List D->List D->Prop}(hk:∀f pre post,K f pre post->K' f pre post) (h:UK E v K):UK E v K':=by
 unfold UK at h
 split at h
 ·rename_i f cs
  unfold UK;simp only
  split at h
  ·exact⟨h.1,hk _ _ _ h.2⟩
  ·exact h.elim
 ·exact⟨h.1,hk _ _ _ h.2⟩
 ·exact h.elim
theorem F4:∀{p:PC}{Q Q':CG->A3->Prop}{s:A3},pw E p Q s->(∀e s,Q e s->Q' e s)->pw E p Q' s
 |.skip,Q,Q',s,h,hq=>hq _ _ h
 |.reg gs l ks,Q,Q',s,h,hq=>Cu (fun s' h'=>Fs (fun s'' h''=>hq _ _ h'') h') h
 |.draw gs l ks,Q,Q',s,h,hq=>Cu (fun s' h'=>OU (fun s'' h''=>hq _ _ h'') h') h
 |.any gs t ks,Q,Q',s,h,hq=>Cu (fun s' h'=>NM (fun s'' h''=>hq _ _ h'') h') h
 |.seq a b,Q,Q',s,h,hq=>F4 (p:=a) h fun e s' h'=>by
  cases e with
  |normal=>exact F4 (p:=b) h' hq
  |exit i=>exact hq _ _ h'
  |ret=>exact hq _ _ h'
 |.cond c a b,Q,Q',s,h,hq=>by
  simp only[pw,Rg] at h ⊢
  split at h
  ·exact⟨fun hb=>F4 (h.1 hb) hq,fun hb=>F4 (h.2 hb) hq⟩
  ·exact h.elim
 |.block id a,Q,Q',s,h,hq=>F4 (p:=a) h fun e s' h'=>by
  cases e with
  |normal=>exact hq _ _ h'
  |ret=>exact hq _ _ h'
  |exit i =>
   simp only[JM] at h' ⊢
   split at h'
   ·rename_i e;rw[if_pos e];exact hq _ _ h'
   ·rename_i e;rw[if_neg e];exact hq _ _ h'
 |.loop gs ks os a,Q,Q',s,h,hq=>by
  obtain⟨J,h0,h1⟩:=h
  refine⟨J,h0,fun n s' hJ=>F4 (p:=a) (h1 n s' hJ) fun e s'' h'=>?_⟩
  cases e with
  |normal=>exact h'
  |exit i=>exact hq _ _ h'
  |ret=>exact hq _ _ h'
 |.exit id,Q,Q',s,h,hq=>hq _ _ h
 |.ret,Q,Q',s,h,hq=>hq _ _ h
 |.dead,Q,Q',s,h,hq=>h.elim
 |.scope a,Q,Q',s,h,hq=>F4 (p:=a) h hq
 |.lab,Q,Q',s,h,hq=>hq _ _ h
 |.rngF gs g ps ks os b gs2 os2 a,Q,Q',s,h,hq=>Cu (fun s0 h0=>S5 (fun f pre post ⟨h1,els,h2,JJ,Pd,h3,h4,h5,h6,h7⟩ =>
  ⟨h1,els,h2,JJ,Pd,h3,h4,h5,fun V hV hJ=>hq _ _ (h6 V hV hJ),fun e V hV hP=>hq _ _ (h7 e V hV hP)⟩) h0) h
 |.nxt gs d it l2 ks,Q,Q',s,h,hq=>Cu (fun s0 h0=>Xk (fun v ch h2=>Fs (fun s' h3=>hq _ _ h3) h2) h0) h
 |.yld gs l1 d y xs l2 ks,Q,Q',s,h,hq=>Cu (fun s0 h0=>Fs (fun s1 h1=>Sl (fun v ch h2=>Fs (fun s' h3=>hq _ _ h3) h2) h1) h0) h
 |.ydr gs l1 gd d y xs l2 ks,Q,Q',s,h,hq=>Cu (fun s0 h0=>OU (fun s1 h1=>aW (fun h3=>Sl (fun v ch h2=>Fs (fun s' h3=>hq _ _ h3) h2) h3) (fun h3=>Fs (fun s' h3=>hq _ _ h3) h3) h1) h0) h
theorem dC {α:Type}(St:α->A3) (Inv:α->Prop) (μ:α->Nat) {gs:List Dw}{ks os:List Nat}{a:PC}(x0:α) (h0:CS gs s fun s1=>s1.nrm ks os=St x0) (hI:Inv x0)
  (step:∀x,Inv x->pw E a (J_ (fun s'=>CS gs s' fun s1=>∃y,s1.nrm ks os=St y/\Inv y/\μ y<μ x) Q) (St x)):pw E (.loop gs ks os a) Q s:=by
 refine⟨fun n s'=>∃x,s'=St x/\Inv x/\μ x=n,Cu (fun s1 h=>⟨μ x0,x0,h,hI,rfl⟩) h0,?_⟩
 rintro n s' ⟨x,rfl,hx,rfl⟩
 refine F4 (step x hx) fun e s' h=>?_
 cases e with
 |normal =>
  refine Cu (fun s1 h=>?_) h
  obtain⟨y,h1,h2,h3⟩:=h
  exact⟨μ y,h3,y,h1,h2,rfl⟩
 |exit i=>exact h
 |ret=>exact h
theorem bt (l:List (Nat×AV)) (t:Nat) (v:AV):CN (Dc l) t v=Dc ((t,v)::l):=rfl
theorem iQ (l:List (Nat×(Nat×Ae))) (cn:Nat->Nat) (o:Nat):(AO.mk (A7 l) cn).drop o=⟨A7 (l.filter fun p=>!(p.1 == o)),cn⟩:=by
 simp only[AO.drop,AO.mk.injEq,and_true]
 funext t
 induction l with
 |nil=>simp only[CN,List.filter_nil,A7];split<;>rfl
 |cons p l ih =>
  simp only[CN] at ih ⊢
  by_cases h:t=o
  ·subst h
   simp only[if_true] at ih ⊢
   by_cases h1:p.1=t
   ·simp[List.filter_cons,h1];simpa using ih
   ·have:(!(p.1 == t))=true:=by simpa using h1
    rw[List.filter_cons,if_pos this]
    obtain⟨k,v⟩:=p
    simp only[A7] at h1 ⊢
    rw[if_neg (Ne.symm h1)];exact ih
  ·simp only[if_neg h] at ih ⊢
   obtain⟨k,v⟩:=p
   by_cases h1:k=o
   ·subst h1
    have:(!((k,v).1 == k))=false:=by simp
    rw[List.filter_cons,if_neg (by simp),←ih]
    simp only[A7]
    rw[if_neg h]
   ·rw[List.filter_cons,if_pos (by simpa using h1)]
    simp only[A7]
    rw[ih]
def ms (f:Nat->AV) (V:AO) (os ks:List Nat):List (Nat×AV):=ks.map fun k=>(k,(f k).nrm V os)
def EI (V:AO) (os:List Nat):List Nat->List (Nat×(Nat×Ae))
 |[]=>[]
 |o::l=>match V.ob o with
  |some (_,x)=>(match x.nrm V os with|some y=>(o,(0,y))::EI V os l|none=>EI V os l)
  |none=>EI V os l
theorem dh (f:Nat->AV) (V:AO) (ks os:List Nat):(A3.mk f V).nrm ks os=⟨Dc (ks.map fun k=>(k,(f k).nrm V os)),⟨A7 (EI V os os),fun _=>1⟩⟩:=by
 have h1:(fun t=>if ks.contains t then (f t).nrm V os else .undef)=Dc (ks.map fun k=>(k,(f k).nrm V os)):=by
  funext t
  induction ks with
  |nil=>simp[Dc]
  |cons k ks ih =>
   simp only[List.map_cons,LN,List.contains_cons]
   by_cases h:t=k
   ·subst h;simp
   ·have:(t == k)=false:=by simpa using h
    rw[this,Bool.false_or,if_neg h];exact ih
 have h2:∀l:List Nat,(fun o=>if l.contains o then (match V.ob o with
   |some (_,x)=>match x.nrm V os with|some y=>some (0,y)|none=>none
   |none=>none) else none)=A7 (EI V os l):=by
  intro l
  funext t
  induction l with
  |nil=>simp[EI,A7]
  |cons k l ih =>
   simp only[List.contains_cons]
   have hnot:∀(t:Nat),V.ob t=none->A7 (EI V os l) t=none:=by
    intro t ht
    clear ih
    induction l with
    |nil=>rfl
    |cons a l ih2 =>
     simp only[EI]
     cases ha:V.ob a with
     |none=>exact ih2
     |some p =>
      obtain⟨g,x⟩:=p
      simp only
      have hne:t≠a:=by rintro rfl;rw[ht] at ha;cases ha
      cases x.nrm V os with
      |none=>exact ih2
      |some y=>simp only[A7,if_neg hne];exact ih2
   have hnot2:∀(t g:Nat) (x:Ae),V.ob t=some (g,x)->x.nrm V os=none->A7 (EI V os l) t=none:=by
    intro t g x ht hx
    clear ih hnot
    induction l with
    |nil=>rfl
    |cons a l ih2 =>
     simp only[EI]
     cases ha:V.ob a with
     |none=>exact ih2
     |some p =>
      obtain⟨g',x'⟩:=p
      simp only
      by_cases hne:t=a
      ·subst hne
       rw[ht] at ha;cases ha
       rw[hx];exact ih2
      ·cases x'.nrm V os with
       |none=>exact ih2
       |some y=>simp only[A7,if_neg hne];exact ih2
   by_cases h:t=k
   ·subst h
    simp only[beq_self_eq_true,Bool.true_or,if_true,EI]
    cases hk:V.ob t with
    |none=>simp only;exact(hnot t hk).symm
    |some p =>
     obtain⟨g,x⟩:=p
     simp only
     cases hx:x.nrm V os with
     |none=>simp only;exact(hnot2 t g x hk hx).symm
     |some y=>simp[A7]
   ·have:(t == k)=false:=by simpa using h
    rw[this,Bool.false_or]
    simp only[EI]
    cases V.ob k with
    |none=>exact ih
    |some p =>
     obtain⟨g,x⟩:=p
     simp only
     cases x.nrm V os with
     |none=>exact ih
     |some y=>simp only[A7,if_neg h];exact ih
 show A3.mk _ _=_
 rw[h1,AO.nrm]
 exact congrArg (fun ob=>A3.mk _ ⟨ob,fun _=>1⟩) (h2 os)
theorem Xr (V:AO) (os:List Nat):EI V os []=[]:=rfl
theorem Vr (V:AO) (os:List Nat) (o:Nat) (l:List Nat):EI V os (o::l)=match V.ob o with
 |some (_,x)=>(match x.nrm V os with|some y=>(o,(0,y))::EI V os l|none=>EI V os l)
 |none=>EI V os l:=rfl
theorem dW {V:AO} {os ety es nl l}:(Ae.row ety es nl l).nrm V os=some (.row ety es nl l):=rfl
theorem dX {V:AO} {os a b c d e}:(Ae.mat a b c d e).nrm V os=some (.mat a b c d e):=rfl
theorem de {V:AO} {os k o g}:(AV.mref k o g).nrm V os=if AV.nrm.live V os o g then .mref k o 0 else .undef:=rfl
theorem di {V:AO} {os sl cs off}:(AV.ablk sl cs off).nrm V os=if (AV.nrm.nrmL V os cs).all AV.one then .ablk sl (AV.nrm.nrmL V os cs) off else .undef:=rfl
theorem XZ {V:AO} {os xs}:(Ae.cells xs).nrm V os=if (xs.map (AV.nrm V os)).all AV.one then some (.cells (xs.map (AV.nrm V os))) else none:=rfl
theorem lY {V:AO} {os x}:(AV.d x).nrm V os=.d x:=rfl
theorem Z7 {V:AO} {os}:AV.undef.nrm V os=.undef:=rfl
theorem gX {V:AO} {os o g}:(AV.own o g).nrm V os=if AV.nrm.live V os o g then .own o 0 else .undef:=rfl
theorem df {V:AO} {os o g}:(AV.map o g).nrm V os=if AV.nrm.live V os o g then .map o 0 else .undef:=rfl
theorem gW {V:AO} {os o g off}:(AV.ptr o g off).nrm V os=if AV.nrm.live V os o g then .ptr o 0 off else .undef:=rfl
theorem kH {V:AO} {os f cs}:(AV.fn f cs).nrm V os=.fn f (AV.nrm.nrmL V os cs):=rfl
theorem dk {V:AO} {os}:AV.nrm.nrmL V os []=[]:=rfl
theorem Z8 {V:AO} {os x xs}:AV.nrm.nrmL V os (x::xs)=x.nrm V os::AV.nrm.nrmL V os xs:=rfl
theorem Y3 {V:AO}{os:List Nat}{o g:Nat}:AV.nrm.live V os o g=(os.contains o && match V.ob o with|some (g',_)=>g' == g|none=>false):=rfl
end Go.Pw
