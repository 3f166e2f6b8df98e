/- A part of the proof. -/
import Derived.Test.YtmdklgapccickaaGreatDoorPwY
set_option linter.all false
namespace Go.Pw
def EC:List (Nat×AV)->Nat->AV
 |[]=>fun _=>.undef
 |(k,v)::l=>fun t=>if t=k then v else EC l t
theorem ML (k:Nat) (v:AV) (l:List (Nat×AV)) (t:Nat):EC ((k,v)::l) t=if t=k then v else EC l t:=rfl
theorem fc (t:Nat):EC [] t=.undef:=rfl
theorem YL (k:Nat) (v:Nat×AW) (l:List (Nat×(Nat×AW))) (t:Nat):Bt ((k,v)::l) t=if t=k then some v else Bt l t:=rfl
theorem bU (t:Nat):Bt [] t=none:=rfl
theorem ew (l:List (Nat×AV)) (V:AL) (t:Nat) (v:AV) (ch:B3):put ⟨EC l,V⟩ (some t) v ch=⟨EC ((t,v)::l),V.app ch⟩:=rfl
theorem ey (f:Nat->AV) (V:AL) (v:AV) (ch:B3):put ⟨f,V⟩ none v ch=⟨f,V.app ch⟩:=rfl
theorem gz (V:AL):V.app .none=V:=rfl
theorem lK (V:AL) (a b:B3):V.app (.seq a b)=(V.app a).app b:=rfl
theorem g7 (l:List (Nat×(Nat×AW))) (cn:Nat->Nat) (o g:Nat) (x:AW):(AL.mk (Bt l) cn).app (.keep o g x)=⟨Bt ((o,(g,x))::l),cn⟩:=rfl
theorem dU (l:List (Nat×(Nat×AW))) (cn:Nat->Nat) (o:Nat) (x:AW):(AL.mk (Bt l) cn).app (.fresh o x)=⟨Bt ((o,(cn o,x))::l),CO cn o (cn o+1)⟩:=rfl
theorem nk (ob:Nat->Option (Nat×AW)) (cn:Nat->Nat) (o g:Nat):(AL.mk ob cn).get o g=match ob o with|some (g',x)=>if g=g' then some x else none|none=>none:=rfl
theorem AP (ds:List D):Bg.enter ds=⟨EC (ds.zipIdx.map fun(d,k)=>(k,.d d)),⟨Bt [],fun _=>0⟩⟩:=by
 have key:∀(ds:List D) (n t:Nat),EC ((ds.zipIdx n).map fun(d,k)=>(k,.d d)) t=if t<n then .undef else (match ds[t-n]? with|some d=>.d d|none=>.undef):=by
  intro ds
  induction ds with
  |nil=>intro n t;simp[EC]
  |cons d ds ih =>
   intro n t
   simp only[List.zipIdx_cons,List.map_cons,ML]
   rw[ih]
   by_cases h:t=n
   ·subst h;simp
   ·by_cases h2:t<n
    ·simp[h,h2,Nat.lt_succ_of_lt h2]
    ·have h3:¬t<n+1:=by omega
     have h4:t-n=(t-(n+1))+1:=by omega
     simp only[h,h2,h3,if_false]
     rw[h4,List.getElem?_cons_succ]
 unfold Bg.enter
 congr 1
 funext t
 rw[key];simp
 cases ds[t]?<;>rfl
theorem j7 (f:Nat->AV) (V:AL) (ks:List Nat):(Bg.mk f V).keep ks=⟨EC (ks.map fun k=>(k,f k)),V⟩:=by
 unfold Bg.keep
 congr 1
 funext t
 induction ks with
 |nil=>simp[EC]
 |cons k ks ih =>
  simp only[List.map_cons,ML,List.contains_cons]
  by_cases h:t=k
  ·subst h;simp
  ·have:(t == k)=false:=by simpa using h
   rw[this,Bool.false_or,if_neg h];exact ih
variable {E:CW}{Q:B7->Bg->Prop}{s s':Bg}{K:AV->B3->Prop}{KS:Bg->Prop}
theorem Y4 (b:Bool) (A B:Prop):SU (.d (.bool b)) A B=HP b A B:=rfl
theorem nB {gs d it l2 ks}:pw E (.nxt gs d it l2 ks) Q s=CL gs s fun s0=>N3 (it.val s0.sl) s0.V fun v ch=>Gu E l2 (put s0 d v ch) fun s'=>Q .normal (s'.keep ks):=rfl
theorem m8 {gs l1 d y xs l2 ks}:pw E (.yld gs l1 d y xs l2 ks) Q s=CL gs s fun s0=>Gu E l1 s0 fun s1=>PE E (y.val s1.sl) (xs.map (Hd.val s1.sl)) s1.V fun v ch=>Gu E l2 (put s1 d v ch) fun s'=>Q .normal (s'.keep ks):=rfl
theorem jW:pw E .dead Q s=False:=rfl
theorem jR:pw E .skip Q s=Q .normal s:=rfl
theorem nA {gs l ks}:pw E (.reg gs l ks) Q s=CL gs s fun s'=>Gu E l s' fun s'=>Q .normal (s'.keep ks):=rfl
theorem jV {gs l ks}:pw E (.draw gs l ks) Q s=CL gs s fun s'=>Qr E l [] s' fun s'=>Q .normal (s'.keep ks):=rfl
theorem nC {gs t ks}:pw E (.any gs t ks) Q s=CL gs s fun s'=>MW E t s' fun s'=>Q .normal (s'.keep ks):=rfl
theorem fE:MW E .done s KS=KS s:=rfl
theorem fD {I r}:MW E (.step I r) s KS=El E I s fun v ch=>MW E r (put s I.dst v ch) KS:=rfl
theorem fF {a b}:MW E (.both a b) s KS=(MW E a s KS/\MW E b s KS):=rfl
theorem m9 {a b}:pw E (.seq a b) Q s=pw E a (KD (pw E b Q) Q) s:=rfl
theorem jX {c a b}:pw E (.cond c a b) Q s=SU (c.val s.sl) (pw E a Q s) (pw E b Q s):=rfl
theorem eu {id a}:pw E (.block id a) Q s=pw E a (J8 id Q) s:=rfl
theorem jU {id}:pw E (.exit id) Q s=Q (.exit id) s:=rfl
theorem m_:pw E .ret Q s=Q .ret s:=rfl
theorem UU {A:Bg->Prop}:KD A Q .normal s=A s:=rfl
theorem Xd {A:Bg->Prop} {i}:KD A Q (.exit i) s=Q (.exit i) s:=rfl
theorem aB {A:Bg->Prop}:KD A Q .ret s=Q .ret s:=rfl
theorem TC {i}:J8 i Q .normal s=Q .normal s:=rfl
theorem ZB {i}:J8 i Q .ret s=Q .ret s:=rfl
theorem W_ {i j}:J8 i Q (.exit j) s=if j=i then Q .normal s else Q (.exit j) s:=rfl
theorem YZ:CL [] s KS=KS s:=rfl
theorem Wd {g gs}:CL (g::gs) s KS=GZ g s fun s'=>CL gs s' KS:=rfl
theorem eY:Gu E [] s KS=KS s:=rfl
theorem ah {I l}:Gu E (I::l) s KS=El E I s fun v ch=>Gu E l (put s I.dst v ch) KS:=rfl
theorem Vk {d op xs} {sl:Nat->AV}{V:AL}:El E ⟨d,none,op,xs⟩ ⟨sl,V⟩ K=ev E d V op (xs.map (Hd.val sl)) K:=rfl
section
variable {dst:Option Nat}{V:AL}
theorem oD {x}:ev E dst V .mov [x] K=K x .none:=rfl
theorem kc {c x y}:ev E dst V .pick [.d (.bool c),x,y] K=HP c (K x .none) (K y .none):=rfl
theorem oI {b k k' x y}:ev E dst V (.bin b) [.d (.int k x),.d (.int k' y)] K=D7 b k k' x y (K · .none):=rfl
theorem oC {b}:ev E dst V (.un .not) [.d (.bool b)] K=K (.d (.bool (!b))) .none:=rfl
end
theorem NE {I:Ew}{K K':AV->B3->Prop}(h:El E I s K) (hk:∀v ch,K v ch->K' v ch):El E I s K':=by
 obtain⟨v,ch,h1,_,h3⟩:=TW h
 exact h3 s K' (fun _ _=>rfl) (fun _ _=>⟨rfl,rfl⟩) (hk v ch h1)
theorem Ge {KS KS':Bg->Prop}(hk:∀s,KS s->KS' s):∀{l:List Ew}{s:Bg},Gu E l s KS->Gu E l s KS'
 |[],s,h=>hk s h
 |I::l,s,h=>NE h fun v ch h'=>Ge hk h'
theorem PK {KS KS':Bg->Prop}(hk:∀s,KS s->KS' s):∀{l:List (Ew×List Nat)}{r:List Ss}{s:Bg},Qr E l r s KS->Qr E l r s KS'
 |[],r,s,h=>hk s h
 |(I,dy)::l,r,s,h=>NE h fun v ch h'=>⟨h'.1,PK hk h'.2⟩
theorem Ya {KS KS':Bg->Prop}(hk:∀s,KS s->KS' s) {g:EE}(h:GZ g s KS):GZ g s KS':=by
 unfold GZ at *
 split at h
 ·split at h
  ·split at h
   ·exact hk _ h
   ·exact h.elim
  ·exact hk _ h
 ·split at h
  ·split at h
   ·split at h
    ·exact hk _ h
    ·exact h.elim
   ·exact h.elim
  ·exact hk _ h
 ·split at h
  ·split at h
   ·split at h
    ·exact hk _ h
    ·exact h.elim
   ·exact hk _ h
  ·exact hk _ h
 ·split at h
  ·split at h
   ·exact⟨h.1,hk _ h.2⟩
   ·exact h.elim
  ·exact hk _ h
 ·split at h
  ·split at h
   ·exact hk _ h
   ·exact h.elim
  ·exact hk _ h
 ·split at h
  ·split at h
   ·split at h
    ·split at h
     ·exact hk _ h
     ·exact h.elim
    ·split at h
     ·exact⟨h.1,hk _ h.2⟩
     ·exact h.elim
    ·split at h
     ·exact hk _ h
     ·exact h.elim
    ·exact hk _ h
   ·exact hk _ h
  ·exact hk _ h
 ·split at h
  ·exact⟨h.1,hk _ h.2⟩
  ·exact hk _ h
 ·split at h
  ·exact⟨h.1,hk _ h.2⟩
  ·exact hk _ h
 ·split at h
  ·split at h
   ·split at h
    ·exact⟨h.1,h.2.1,hk _ h.2.2⟩
    ·exact hk _ h
   ·exact hk _ h
  ·exact hk _ h
 ·split at h
  ·split at h
   ·split at h
    ·exact⟨h.1,h.2.1,hk _ h.2.2⟩
    ·exact hk _ h
   ·exact hk _ h
  ·exact hk _ h
 ·exact hk _ h
 ·exact hk _ h
 ·split at h
  ·split at h
   ·exact⟨h.1,h.2.1,h.2.2.1,h.2.2.2.1,hk _ h.2.2.2.2⟩
   ·exact h.elim
  ·exact hk _ h
 ·split at h
  ·split at h
   ·exact hk _ h
   ·exact h.elim
  ·exact hk _ h
 ·split at h
  ·split at h
   ·exact⟨h.1,hk _ h.2⟩
   ·exact⟨h.1,fun nl l hp=>hk _ (h.2 nl l hp)⟩
   ·exact hk _ h
  ·exact hk _ h
 ·unfold lw at *
  split at h<;>exact hk _ h
theorem N2 {KS KS':Bg->Prop}(hk:∀s,KS s->KS' s):∀{t:iE}{s:Bg},MW E t s KS->MW E t s KS'
 |.done,s,h=>hk s h
 |.step I r,s,h=>NE h fun v ch h'=>N2 hk h'
 |.both a b,s,h=>⟨N2 hk h.1,N2 hk h.2⟩
theorem DD:∀{gs:List EE}{s:Bg}{KS KS':Bg->Prop},(∀s,KS s->KS' s)->CL gs s KS->CL gs s KS'
 |[],s,_,_,hk,h=>hk s h
 |g::gs,s,_,_,hk,h=>Ya (fun s' h'=>DD hk h') h
theorem YI {x:AV}{V:AL}{K K':AV->B3->Prop}(hk:∀v ch,K v ch->K' v ch) (h:N3 x V K):N3 x V K':=by
 unfold N3 at *
 split at h
 ·split at h
  ·split at h
   ·split at h
    ·exact⟨h.1,fun e he hs=>hk _ _ (h.2.1 e he hs),fun ha=>hk _ _ (h.2.2 ha)⟩
    ·exact h
   ·exact h
  ·exact⟨fun i hi hs=>hk _ _ (h.1 i hi hs),fun ha=>hk _ _ (h.2 ha)⟩
  ·exact h
 ·exact h
theorem bk {gd:Option (Nat×Bool)}{s:Bg}{A A' B B':Prop}(ha:A->A') (hb:B->B') (h:fx gd s A B):fx gd s A' B':=by
 unfold fx at *
 split at h
 ·exact ha h
 ·split at h
  ·exact⟨fun e=>ha (h.1 e),fun e=>hb (h.2 e)⟩
  ·exact hb h
  ·exact h
theorem TM {y:AV}{xs:List AV}{V:AL}{K K':AV->B3->Prop}(hk:∀v ch,K v ch->K' v ch) (h:PE E y xs V K):PE E y xs V K':=by
 unfold PE at *
 split at h
 ·obtain⟨h1,o,els,n,Post,h2,h3,h4,h5⟩:=h
  exact⟨h1,o,els,n,Post,h2,h3,h4,fun n1 st1 r hp=>⟨(h5 n1 st1 r hp).1,hk _ _ (h5 n1 st1 r hp).2⟩⟩
 ·split at h
  ·split at h
   ·obtain⟨k,h1,h2,h3⟩:=h;exact⟨k,h1,hk _ _ h2,hk _ _ h3⟩
   ·exact h.elim
  ·exact h.elim
 ·exact h.elim
theorem Th {v:AV}{K K':FuncId->List D->List D->Prop}(hk:∀f pre post,K f pre post->K' f pre post) (h:Up E v K):Up E v K':=by
 unfold Up at h
 split at h
 ·rename_i f cs
  unfold Up;simp only
  split at h
  ·exact⟨h.1,hk _ _ _ h.2⟩
  ·exact h.elim
 ·exact⟨h.1,hk _ _ _ h.2⟩
 ·exact h.elim
theorem Gn:∀{p:PC}{Q Q':B7->Bg->Prop}{s:Bg},pw E p Q s->(∀e s,Q e s->Q' e s)->pw E p Q' s
 |.skip,Q,Q',s,h,hq=>hq _ _ h
 |.reg gs l ks,Q,Q',s,h,hq=>DD (fun s' h'=>Ge (fun s'' h''=>hq _ _ h'') h') h
 |.draw gs l ks,Q,Q',s,h,hq=>DD (fun s' h'=>PK (fun s'' h''=>hq _ _ h'') h') h
 |.any gs t ks,Q,Q',s,h,hq=>DD (fun s' h'=>N2 (fun s'' h''=>hq _ _ h'') h') h
 |.seq a b,Q,Q',s,h,hq=>Gn (p:=a) h fun e s' h'=>by
  cases e with
  |normal=>exact Gn (p:=b) h' hq
  |exit i=>exact hq _ _ h'
  |ret=>exact hq _ _ h'
 |.cond c a b,Q,Q',s,h,hq=>by
  simp only[pw,SU] at h ⊢
  split at h
  ·exact⟨fun hb=>Gn (h.1 hb) hq,fun hb=>Gn (h.2 hb) hq⟩
  ·exact h.elim
 |.block id a,Q,Q',s,h,hq=>Gn (p:=a) h fun e s' h'=>by
  cases e with
  |normal=>exact hq _ _ h'
  |ret=>exact hq _ _ h'
  |exit i =>
   simp only[J8] at h' ⊢
   split at h'
   ·rename_i e;rw[if_pos e];exact hq _ _ h'
   ·rename_i e;rw[if_neg e];exact hq _ _ h'
 |.loop gs ks os a,Q,Q',s,h,hq=>by
  obtain⟨J,h0,h1⟩:=h
  refine⟨J,h0,fun n s' hJ=>Gn (p:=a) (h1 n s' hJ) fun e s'' h'=>?_⟩
  cases e with
  |normal=>exact h'
  |exit i=>exact hq _ _ h'
  |ret=>exact hq _ _ h'
 |.exit id,Q,Q',s,h,hq=>hq _ _ h
 |.ret,Q,Q',s,h,hq=>hq _ _ h
 |.dead,Q,Q',s,h,hq=>h.elim
 |.scope a,Q,Q',s,h,hq=>Gn (p:=a) h hq
 |.lab,Q,Q',s,h,hq=>hq _ _ h
 |.rngF gs g ps ks os b gs2 os2 a,Q,Q',s,h,hq=>DD (fun s0 h0=>Th (fun f pre post ⟨h1,els,h2,JJ,Pd,h3,h4,h5,h6,h7⟩ =>
  ⟨h1,els,h2,JJ,Pd,h3,h4,h5,fun n V hV hf hJ=>hq _ _ (h6 n V hV hf hJ),fun e V hV hP=>hq _ _ (h7 e V hV hP)⟩) h0) h
 |.nxt gs d it l2 ks,Q,Q',s,h,hq=>DD (fun s0 h0=>YI (fun v ch h2=>Ge (fun s' h3=>hq _ _ h3) h2) h0) h
 |.yld gs l1 d y xs l2 ks,Q,Q',s,h,hq=>DD (fun s0 h0=>Ge (fun s1 h1=>TM (fun v ch h2=>Ge (fun s' h3=>hq _ _ h3) h2) h1) h0) h
 |.ydr gs l1 gd d y xs l2 ks,Q,Q',s,h,hq=>DD (fun s0 h0=>PK (fun s1 h1=>bk (fun h3=>TM (fun v ch h2=>Ge (fun s' h3=>hq _ _ h3) h2) h3) (fun h3=>Ge (fun s' h3=>hq _ _ h3) h3) h1) h0) h
theorem ep {α:Type}(St:α->Bg) (Inv:α->Prop) (μ:α->Nat) {gs:List EE}{ks os:List Nat}{a:PC}(x0:α) (h0:CL gs s fun s1=>s1.nrm ks os=St x0) (hI:Inv x0)
  (step:∀x,Inv x->pw E a (KD (fun s'=>CL gs s' fun s1=>∃y,s1.nrm ks os=St y/\Inv y/\μ y<μ x) Q) (St x)):pw E (.loop gs ks os a) Q s:=by
 refine⟨fun n s'=>∃x,s'=St x/\Inv x/\μ x=n,DD (fun s1 h=>⟨μ x0,x0,h,hI,rfl⟩) h0,?_⟩
 rintro n s' ⟨x,rfl,hx,rfl⟩
 refine Gn (step x hx) fun e s' h=>?_
 cases e with
 |normal =>
  refine DD (fun s1 h=>?_) h
  obtain⟨y,h1,h2,h3⟩:=h
  exact⟨μ y,h3,y,h1,h2,rfl⟩
 |exit i=>exact h
 |ret=>exact h
theorem d0 (l:List (Nat×AV)) (t:Nat) (v:AV):CO (EC l) t v=EC ((t,v)::l):=rfl
theorem ki (l:List (Nat×(Nat×AW))) (cn:Nat->Nat) (o:Nat):(AL.mk (Bt l) cn).drop o=⟨Bt (l.filter fun p=>!(p.1 == o)),cn⟩:=by
 simp only[AL.drop,AL.mk.injEq,and_true]
 funext t
 induction l with
 |nil=>simp only[CO,List.filter_nil,Bt];split<;>rfl
 |cons p l ih =>
  simp only[CO] at ih ⊢
  by_cases h:t=o
  ·subst h
   simp only[if_true] at ih ⊢
   by_cases h1:p.1=t
   ·simp[List.filter_cons,h1];simpa using ih
   ·have:(!(p.1 == t))=true:=by simpa using h1
    rw[List.filter_cons,if_pos this]
    obtain⟨k,v⟩:=p
    simp only[Bt] at h1 ⊢
    rw[if_neg (Ne.symm h1)];exact ih
  ·simp only[if_neg h] at ih ⊢
   obtain⟨k,v⟩:=p
   by_cases h1:k=o
   ·subst h1
    have:(!((k,v).1 == k))=false:=by simp
    rw[List.filter_cons,if_neg (by simp),←ih]
    simp only[Bt]
    rw[if_neg h]
   ·rw[List.filter_cons,if_pos (by simpa using h1)]
    simp only[Bt]
    rw[ih]
def ry (f:Nat->AV) (V:AL) (os ks:List Nat):List (Nat×AV):=ks.map fun k=>(k,(f k).nrm V os)
def FA (V:AL) (os:List Nat):List Nat->List (Nat×(Nat×AW))
 |[]=>[]
 |o::l=>match V.ob o with
  |some (_,x)=>(match x.nrm V os with|some y=>(o,(0,y))::FA V os l|none=>FA V os l)
  |none=>FA V os l
theorem fQ (f:Nat->AV) (V:AL) (ks os:List Nat):(Bg.mk f V).nrm ks os=⟨EC (ks.map fun k=>(k,(f k).nrm V os)),⟨Bt (FA V os os),fun _=>1⟩⟩:=by
 have h1:(fun t=>if ks.contains t then (f t).nrm V os else .undef)=EC (ks.map fun k=>(k,(f k).nrm V os)):=by
  funext t
  induction ks with
  |nil=>simp[EC]
  |cons k ks ih =>
   simp only[List.map_cons,ML,List.contains_cons]
   by_cases h:t=k
   ·subst h;simp
   ·have:(t == k)=false:=by simpa using h
    rw[this,Bool.false_or,if_neg h];exact ih
 have h2:∀l:List Nat,(fun o=>if l.contains o then (match V.ob o with
   |some (_,x)=>match x.nrm V os with|some y=>some (0,y)|none=>none
   |none=>none) else none)=Bt (FA V os l):=by
  intro l
  funext t
  induction l with
  |nil=>simp[FA,Bt]
  |cons k l ih =>
   simp only[List.contains_cons]
   have hnot:∀(t:Nat),V.ob t=none->Bt (FA V os l) t=none:=by
    intro t ht
    clear ih
    induction l with
    |nil=>rfl
    |cons a l ih2 =>
     simp only[FA]
     cases ha:V.ob a with
     |none=>exact ih2
     |some p =>
      obtain⟨g,x⟩:=p
      simp only
      have hne:t≠a:=by rintro rfl;rw[ht] at ha;cases ha
      cases x.nrm V os with
      |none=>exact ih2
      |some y=>simp only[Bt,if_neg hne];exact ih2
   have hnot2:∀(t g:Nat) (x:AW),V.ob t=some (g,x)->x.nrm V os=none->Bt (FA V os l) t=none:=by
    intro t g x ht hx
    clear ih hnot
    induction l with
    |nil=>rfl
    |cons a l ih2 =>
     simp only[FA]
     cases ha:V.ob a with
     |none=>exact ih2
     |some p =>
      obtain⟨g',x'⟩:=p
      simp only
      by_cases hne:t=a
      ·subst hne
       rw[ht] at ha;cases ha
       rw[hx];exact ih2
      ·cases x'.nrm V os with
       |none=>exact ih2
       |some y=>simp only[Bt,if_neg hne];exact ih2
   by_cases h:t=k
   ·subst h
    simp only[beq_self_eq_true,Bool.true_or,if_true,FA]
    cases hk:V.ob t with
    |none=>simp only;exact(hnot t hk).symm
    |some p =>
     obtain⟨g,x⟩:=p
     simp only
     cases hx:x.nrm V os with
     |none=>simp only;exact(hnot2 t g x hk hx).symm
     |some y=>simp[Bt]
   ·have:(t == k)=false:=by simpa using h
    rw[this,Bool.false_or]
    simp only[FA]
    cases V.ob k with
    |none=>exact ih
    |some p =>
     obtain⟨g,x⟩:=p
     simp only
     cases x.nrm V os with
     |none=>exact ih
     |some y=>simp only[Bt,if_neg h];exact ih
 show Bg.mk _ _=_
 rw[h1,AL.nrm]
 exact congrArg (fun ob=>Bg.mk _ ⟨ob,fun _=>1⟩) (h2 os)
theorem YM (V:AL) (os:List Nat):FA V os []=[]:=rfl
theorem WU (V:AL) (os:List Nat) (o:Nat) (l:List Nat):FA V os (o::l)=match V.ob o with
 |some (_,x)=>(match x.nrm V os with|some y=>(o,(0,y))::FA V os l|none=>FA V os l)
 |none=>FA V os l:=rfl
theorem fK {V:AL} {os ety es nl l}:(AW.row ety es nl l).nrm V os=some (.row ety es nl l):=rfl
theorem fN {V:AL} {os k o g}:(AV.mref k o g).nrm V os=if AV.nrm.live V os o g then .mref k o 0 else .undef:=rfl
theorem fL {V:AL} {os t l}:(AW.map t l).nrm V os=some (.map t l):=rfl
theorem X_ {V:AL} {os xs}:(AW.cells xs).nrm V os=if (xs.map (AV.nrm V os)).all AV.one then some (.cells (xs.map (AV.nrm V os))) else none:=rfl
theorem pX {V:AL} {os x}:(AV.d x).nrm V os=.d x:=rfl
theorem bM {V:AL} {os}:AV.undef.nrm V os=.undef:=rfl
theorem jo {V:AL} {os o g}:(AV.own o g).nrm V os=if AV.nrm.live V os o g then .own o 0 else .undef:=rfl
theorem fO {V:AL} {os o g}:(AV.map o g).nrm V os=if AV.nrm.live V os o g then .map o 0 else .undef:=rfl
theorem jn {V:AL} {os o g off}:(AV.ptr o g off).nrm V os=if AV.nrm.live V os o g then .ptr o 0 off else .undef:=rfl
theorem nP {V:AL} {os f cs}:(AV.fn f cs).nrm V os=.fn f (AV.nrm.nrmL V os cs):=rfl
theorem fR {V:AL} {os}:AV.nrm.nrmL V os []=[]:=rfl
theorem bN {V:AL} {os x xs}:AV.nrm.nrmL V os (x::xs)=x.nrm V os::AV.nrm.nrmL V os xs:=rfl
theorem j0 {V:AL}{os:List Nat}{o g:Nat}:AV.nrm.live V os o g=(os.contains o && match V.ob o with|some (g',_)=>g' == g|none=>false):=rfl
end Go.Pw
