/- A part of the proof. -/
import Derived.Test.YtibkjeolahobbaaGreatDoorPwY
set_option linter.all false
namespace Go.Pw
def EJ:List (Nat×AV)->Nat->AV
 |[]=>fun _=>.undef
 |(k,v)::l=>fun t=>if t=k then v else EJ l t
theorem LV (k:Nat) (v:AV) (l:List (Nat×AV)) (t:Nat):EJ ((k,v)::l) t=if t=k then v else EJ l t:=rfl
theorem fW (t:Nat):EJ [] t=.undef:=rfl
theorem YJ (k:Nat) (v:Nat×Ah) (l:List (Nat×(Nat×Ah))) (t:Nat):A' ((k,v)::l) t=if t=k then some v else A' l t:=rfl
theorem bW (t:Nat):A' [] t=none:=rfl
theorem eq (l:List (Nat×AV)) (V:AN) (t:Nat) (v:AV) (ch:BQ):put ⟨EJ l,V⟩ (some t) v ch=⟨EJ ((t,v)::l),V.app ch⟩:=rfl
theorem et (f:Nat->AV) (V:AN) (v:AV) (ch:BQ):put ⟨f,V⟩ none v ch=⟨f,V.app ch⟩:=rfl
theorem i8 (V:AN):V.app .none=V:=rfl
theorem mw (V:AN) (a b:BQ):V.app (.seq a b)=(V.app a).app b:=rfl
theorem i9 (l:List (Nat×(Nat×Ah))) (cn:Nat->Nat) (o g:Nat) (x:Ah):(AN.mk (A' l) cn).app (.keep o g x)=⟨A' ((o,(g,x))::l),cn⟩:=rfl
theorem dP (l:List (Nat×(Nat×Ah))) (cn:Nat->Nat) (o:Nat) (x:Ah):(AN.mk (A' l) cn).app (.fresh o x)=⟨A' ((o,(cn o,x))::l),Bs cn o (cn o+1)⟩:=rfl
theorem pn (ob:Nat->Option (Nat×Ah)) (cn:Nat->Nat) (o g:Nat):(AN.mk ob cn).get o g=match ob o with|some (g',x)=>if g=g' then some x else none|none=>none:=rfl
theorem AQ (ds:List D):A1.enter ds=⟨EJ (ds.zipIdx.map fun(d,k)=>(k,.d d)),⟨A' [],fun _=>0⟩⟩:=by
 have key:∀(ds:List D) (n t:Nat),EJ ((ds.zipIdx n).map fun(d,k)=>(k,.d d)) t=if t<n then .undef else (match ds[t-n]? with|some d=>.d d|none=>.undef):=by
  intro ds
  induction ds with
  |nil=>intro n t;simp[EJ]
  |cons d ds ih =>
   intro n t
   simp only[List.zipIdx_cons,List.map_cons,LV]
   rw[ih]
   by_cases h:t=n
   ·subst h;simp
   ·by_cases h2:t<n
    ·simp[h,h2,Nat.lt_succ_of_lt h2]
    ·have h3:¬t<n+1:=by omega
     have h4:t-n=(t-(n+1))+1:=by omega
     simp only[h,h2,h3,if_false]
     rw[h4,List.getElem?_cons_succ]
 unfold A1.enter
 congr 1
 funext t
 rw[key];simp
 cases ds[t]?<;>rfl
theorem k_ (f:Nat->AV) (V:AN) (ks:List Nat):(A1.mk f V).keep ks=⟨EJ (ks.map fun k=>(k,f k)),V⟩:=by
 unfold A1.keep
 congr 1
 funext t
 induction ks with
 |nil=>simp[EJ]
 |cons k ks ih =>
  simp only[List.map_cons,LV,List.contains_cons]
  by_cases h:t=k
  ·subst h;simp
  ·have:(t == k)=false:=by simpa using h
   rw[this,Bool.false_or,if_neg h];exact ih
variable {E:CB}{Q:BP->A1->Prop}{s s':A1}{K:AV->BQ->Prop}{KS:A1->Prop}
theorem Y4 (b:Bool) (A B:Prop):R6 (.d (.bool b)) A B=G7 b A B:=rfl
theorem pD {gs l1 d y xs l2 ks}:pw E (.yld gs l1 d y xs l2 ks) Q s=B1 gs s fun s0=>KE E l1 s0 fun s1=>Sb (y.val s1.sl) (xs.map (Jq.val s1.sl)) s1.V fun v ch=>KE E l2 (put s1 d v ch) fun s'=>Q .normal (s'.keep ks):=rfl
theorem kP:pw E .dead Q s=False:=rfl
theorem kL:pw E .skip Q s=Q .normal s:=rfl
theorem pG {gs l ks}:pw E (.reg gs l ks) Q s=B1 gs s fun s'=>KE E l s' fun s'=>Q .normal (s'.keep ks):=rfl
theorem kO {gs l ks}:pw E (.draw gs l ks) Q s=B1 gs s fun s'=>Sf E l [] s' fun s'=>Q .normal (s'.keep ks):=rfl
theorem pE {a b}:pw E (.seq a b) Q s=pw E a (KA (pw E b Q) Q) s:=rfl
theorem kQ {c a b}:pw E (.cond c a b) Q s=R6 (c.val s.sl) (pw E a Q s) (pw E b Q s):=rfl
theorem ep {id a}:pw E (.block id a) Q s=pw E a (JP id Q) s:=rfl
theorem kN {id}:pw E (.exit id) Q s=Q (.exit id) s:=rfl
theorem pF:pw E .ret Q s=Q .ret s:=rfl
theorem Tr {A:A1->Prop}:KA A Q .normal s=A s:=rfl
theorem Xk {A:A1->Prop} {i}:KA A Q (.exit i) s=Q (.exit i) s:=rfl
theorem aK {A:A1->Prop}:KA A Q .ret s=Q .ret s:=rfl
theorem Sx {i}:JP i Q .normal s=Q .normal s:=rfl
theorem ZC {i}:JP i Q .ret s=Q .ret s:=rfl
theorem XC {i j}:JP i Q (.exit j) s=if j=i then Q .normal s else Q (.exit j) s:=rfl
theorem YX:B1 [] s KS=KS s:=rfl
theorem WR {g gs}:B1 (g::gs) s KS=DU g s fun s'=>B1 gs s' KS:=rfl
theorem eK:KE E [] s KS=KS s:=rfl
theorem aq {I l}:KE E (I::l) s KS=Du E I s fun v ch=>KE E l (put s I.dst v ch) KS:=rfl
theorem VU {d op xs} {sl:Nat->AV}{V:AN}:Du E ⟨d,none,op,xs⟩ ⟨sl,V⟩ K=ev E d V op (xs.map (Jq.val sl)) K:=rfl
section
variable {dst:Option Nat}{V:AN}
theorem p9 {x}:ev E dst V .mov [x] K=K x .none:=rfl
theorem ld {c x y}:ev E dst V .pick [.d (.bool c),x,y] K=G7 c (K x .none) (K y .none):=rfl
theorem qB {b k k' x y}:ev E dst V (.bin b) [.d (.int k x),.d (.int k' y)] K=Cf b k k' x y (K · .none):=rfl
theorem p8 {b}:ev E dst V (.un .not) [.d (.bool b)] K=K (.d (.bool (!b))) .none:=rfl
end
theorem Qv {I:EX}{K K':AV->BQ->Prop}(h:Du E I s K) (hk:∀v ch,K v ch->K' v ch):Du E I s K':=by
 obtain⟨v,ch,h1,_,h3⟩:=S5 h
 exact h3 s K' (fun _ _=>rfl) (fun _ _=>⟨rfl,rfl⟩) (hk v ch h1)
theorem LQ {KS KS':A1->Prop}(hk:∀s,KS s->KS' s):∀{l:List EX}{s:A1},KE E l s KS->KE E l s KS'
 |[],s,h=>hk s h
 |I::l,s,h=>Qv h fun v ch h'=>LQ hk h'
theorem TA {KS KS':A1->Prop}(hk:∀s,KS s->KS' s):∀{l:List (EX×List Nat)}{r:List SZ}{s:A1},Sf E l r s KS->Sf E l r s KS'
 |[],r,s,h=>hk s h
 |(I,dy)::l,r,s,h=>Qv h fun v ch h'=>⟨h'.1,TA hk h'.2⟩
theorem YY {KS KS':A1->Prop}(hk:∀s,KS s->KS' s) {g:EG}(h:DU g s KS):DU g s KS':=by
 unfold DU at *
 split at h
 ·split at h
  ·split at h
   ·exact hk _ h
   ·exact h.elim
  ·exact hk _ h
 ·split at h
  ·split at h
   ·split at h
    ·exact hk _ h
    ·exact h.elim
   ·exact h.elim
  ·exact hk _ h
 ·split at h
  ·split at h
   ·split at h
    ·exact hk _ h
    ·exact h.elim
   ·exact hk _ h
  ·exact hk _ h
 ·split at h
  ·split at h
   ·exact hk _ h
   ·exact h.elim
  ·exact hk _ h
 ·split at h
  ·split at h
   ·exact hk _ h
   ·exact h.elim
  ·exact hk _ h
 ·split at h
  ·split at h
   ·split at h
    ·split at h
     ·exact hk _ h
     ·exact h.elim
    ·exact hk _ h
   ·exact hk _ h
  ·exact hk _ h
 ·split at h
  ·exact⟨h.1,hk _ h.2⟩
  ·exact hk _ h
 ·split at h
  ·exact⟨h.1,hk _ h.2⟩
  ·exact hk _ h
 ·split at h
  ·split at h
   ·split at h
    ·exact⟨h.1,h.2.1,hk _ h.2.2⟩
    ·exact hk _ h
   ·exact hk _ h
  ·exact hk _ h
 ·exact hk _ h
 ·exact hk _ h
 ·split at h
  ·split at h
   ·exact⟨h.1,h.2.1,h.2.2.1,h.2.2.2.1,hk _ h.2.2.2.2⟩
   ·exact h.elim
  ·exact hk _ h
theorem Cy:∀{gs:List EG}{s:A1}{KS KS':A1->Prop},(∀s,KS s->KS' s)->B1 gs s KS->B1 gs s KS'
 |[],s,_,_,hk,h=>hk s h
 |g::gs,s,_,_,hk,h=>YY (fun s' h'=>Cy hk h') h
theorem aB {y:AV}{xs:List AV}{V:AN}{K K':AV->BQ->Prop}(hk:∀v ch,K v ch->K' v ch) (h:Sb y xs V K):Sb y xs V K':=by
 unfold Sb at *
 split at h
 ·split at h
  ·split at h
   ·exact⟨h.1,hk _ _ h.2.1,hk _ _ h.2.2⟩
   ·exact h.elim
  ·exact h.elim
 ·exact h.elim
theorem TB {v:AV}{K K':FuncId->List D->List D->Prop}(hk:∀f pre post,K f pre post->K' f pre post) (h:Vy E v K):Vy E v K':=by
 unfold Vy at *
 split at h
 ·exact⟨h.1,hk _ _ _ h.2⟩
 ·exact⟨h.1,hk _ _ _ h.2⟩
 ·exact h.elim
theorem Fr:∀{p:PC}{Q Q':BP->A1->Prop}{s:A1},pw E p Q s->(∀e s,Q e s->Q' e s)->pw E p Q' s
 |.skip,Q,Q',s,h,hq=>hq _ _ h
 |.reg gs l ks,Q,Q',s,h,hq=>Cy (fun s' h'=>LQ (fun s'' h''=>hq _ _ h'') h') h
 |.draw gs l ks,Q,Q',s,h,hq=>Cy (fun s' h'=>TA (fun s'' h''=>hq _ _ h'') h') h
 |.seq a b,Q,Q',s,h,hq=>Fr (p:=a) h fun e s' h'=>by
  cases e with
  |normal=>exact Fr (p:=b) h' hq
  |exit i=>exact hq _ _ h'
  |ret=>exact hq _ _ h'
 |.cond c a b,Q,Q',s,h,hq=>by
  simp only[pw,R6] at h ⊢
  split at h
  ·exact⟨fun hb=>Fr (h.1 hb) hq,fun hb=>Fr (h.2 hb) hq⟩
  ·exact h.elim
 |.block id a,Q,Q',s,h,hq=>Fr (p:=a) h fun e s' h'=>by
  cases e with
  |normal=>exact hq _ _ h'
  |ret=>exact hq _ _ h'
  |exit i =>
   simp only[JP] at h' ⊢
   split at h'
   ·rename_i e;rw[if_pos e];exact hq _ _ h'
   ·rename_i e;rw[if_neg e];exact hq _ _ h'
 |.loop gs ks os a,Q,Q',s,h,hq=>by
  obtain⟨J,h0,h1⟩:=h
  refine⟨J,h0,fun n s' hJ=>Fr (p:=a) (h1 n s' hJ) fun e s'' h'=>?_⟩
  cases e with
  |normal=>exact h'
  |exit i=>exact hq _ _ h'
  |ret=>exact hq _ _ h'
 |.exit id,Q,Q',s,h,hq=>hq _ _ h
 |.ret,Q,Q',s,h,hq=>hq _ _ h
 |.dead,Q,Q',s,h,hq=>h.elim
 |.scope a,Q,Q',s,h,hq=>Fr (p:=a) h hq
 |.lab,Q,Q',s,h,hq=>hq _ _ h
 |.rngF gs g ps ks os b gs2 os2 a,Q,Q',s,h,hq=>Cy (fun s0 h0=>TB (fun f pre post ⟨h1,els,h2,JJ,Pd,h3,h4,h5,h6,h7⟩ =>
  ⟨h1,els,h2,JJ,Pd,h3,h4,h5,fun V hV hJ=>hq _ _ (h6 V hV hJ),fun e V hV hP=>hq _ _ (h7 e V hV hP)⟩) h0) h
 |.yld gs l1 d y xs l2 ks,Q,Q',s,h,hq=>Cy (fun s0 h0=>LQ (fun s1 h1=>aB (fun v ch h2=>LQ (fun s' h3=>hq _ _ h3) h2) h1) h0) h
theorem en {α:Type}(St:α->A1) (Inv:α->Prop) (μ:α->Nat) {gs:List EG}{ks os:List Nat}{a:PC}(x0:α) (h0:B1 gs s fun s1=>s1.nrm ks os=St x0) (hI:Inv x0)
  (step:∀x,Inv x->pw E a (KA (fun s'=>B1 gs s' fun s1=>∃y,s1.nrm ks os=St y/\Inv y/\μ y<μ x) Q) (St x)):pw E (.loop gs ks os a) Q s:=by
 refine⟨fun n s'=>∃x,s'=St x/\Inv x/\μ x=n,Cy (fun s1 h=>⟨μ x0,x0,h,hI,rfl⟩) h0,?_⟩
 rintro n s' ⟨x,rfl,hx,rfl⟩
 refine Fr (step x hx) fun e s' h=>?_
 cases e with
 |normal =>
  refine Cy (fun s1 h=>?_) h
  obtain⟨y,h1,h2,h3⟩:=h
  exact⟨μ y,h3,y,h1,h2,rfl⟩
 |exit i=>exact h
 |ret=>exact h
theorem dl (l:List (Nat×AV)) (t:Nat) (v:AV):Bs (EJ l) t v=EJ ((t,v)::l):=rfl
theorem lx (l:List (Nat×(Nat×Ah))) (cn:Nat->Nat) (o:Nat):(AN.mk (A' l) cn).drop o=⟨A' (l.filter fun p=>!(p.1 == o)),cn⟩:=by
 simp only[AN.drop,AN.mk.injEq,and_true]
 funext t
 induction l with
 |nil=>simp only[Bs,List.filter_nil,A'];split<;>rfl
 |cons p l ih =>
  simp only[Bs] at ih ⊢
  by_cases h:t=o
  ·subst h
   simp only[if_true] at ih ⊢
   by_cases h1:p.1=t
   ·simp[List.filter_cons,h1];simpa using ih
   ·have:(!(p.1 == t))=true:=by simpa using h1
    rw[List.filter_cons,if_pos this]
    obtain⟨k,v⟩:=p
    simp only[A'] at h1 ⊢
    rw[if_neg (Ne.symm h1)];exact ih
  ·simp only[if_neg h] at ih ⊢
   obtain⟨k,v⟩:=p
   by_cases h1:k=o
   ·subst h1
    have:(!((k,v).1 == k))=false:=by simp
    rw[List.filter_cons,if_neg (by simp),←ih]
    simp only[A']
    rw[if_neg h]
   ·rw[List.filter_cons,if_pos (by simpa using h1)]
    simp only[A']
    rw[ih]
def sO (f:Nat->AV) (V:AN) (os ks:List Nat):List (Nat×AV):=ks.map fun k=>(k,(f k).nrm V os)
def Dh (V:AN) (os:List Nat):List Nat->List (Nat×(Nat×Ah))
 |[]=>[]
 |o::l=>match V.ob o with
  |some (_,x)=>(match x.nrm V os with|some y=>(o,(0,y))::Dh V os l|none=>Dh V os l)
  |none=>Dh V os l
theorem fI (f:Nat->AV) (V:AN) (ks os:List Nat):(A1.mk f V).nrm ks os=⟨EJ (ks.map fun k=>(k,(f k).nrm V os)),⟨A' (Dh V os os),fun _=>1⟩⟩:=by
 have h1:(fun t=>if ks.contains t then (f t).nrm V os else .undef)=EJ (ks.map fun k=>(k,(f k).nrm V os)):=by
  funext t
  induction ks with
  |nil=>simp[EJ]
  |cons k ks ih =>
   simp only[List.map_cons,LV,List.contains_cons]
   by_cases h:t=k
   ·subst h;simp
   ·have:(t == k)=false:=by simpa using h
    rw[this,Bool.false_or,if_neg h];exact ih
 have h2:∀l:List Nat,(fun o=>if l.contains o then (match V.ob o with
   |some (_,x)=>match x.nrm V os with|some y=>some (0,y)|none=>none
   |none=>none) else none)=A' (Dh V os l):=by
  intro l
  funext t
  induction l with
  |nil=>simp[Dh,A']
  |cons k l ih =>
   simp only[List.contains_cons]
   have hnot:∀(t:Nat),V.ob t=none->A' (Dh V os l) t=none:=by
    intro t ht
    clear ih
    induction l with
    |nil=>rfl
    |cons a l ih2 =>
     simp only[Dh]
     cases ha:V.ob a with
     |none=>exact ih2
     |some p =>
      obtain⟨g,x⟩:=p
      simp only
      have hne:t≠a:=by rintro rfl;rw[ht] at ha;cases ha
      cases x.nrm V os with
      |none=>exact ih2
      |some y=>simp only[A',if_neg hne];exact ih2
   have hnot2:∀(t g:Nat) (x:Ah),V.ob t=some (g,x)->x.nrm V os=none->A' (Dh V os l) t=none:=by
    intro t g x ht hx
    clear ih hnot
    induction l with
    |nil=>rfl
    |cons a l ih2 =>
     simp only[Dh]
     cases ha:V.ob a with
     |none=>exact ih2
     |some p =>
      obtain⟨g',x'⟩:=p
      simp only
      by_cases hne:t=a
      ·subst hne
       rw[ht] at ha;cases ha
       rw[hx];exact ih2
      ·cases x'.nrm V os with
       |none=>exact ih2
       |some y=>simp only[A',if_neg hne];exact ih2
   by_cases h:t=k
   ·subst h
    simp only[beq_self_eq_true,Bool.true_or,if_true,Dh]
    cases hk:V.ob t with
    |none=>simp only;exact(hnot t hk).symm
    |some p =>
     obtain⟨g,x⟩:=p
     simp only
     cases hx:x.nrm V os with
     |none=>simp only;exact(hnot2 t g x hk hx).symm
     |some y=>simp[A']
   ·have:(t == k)=false:=by simpa using h
    rw[this,Bool.false_or]
    simp only[Dh]
    cases V.ob k with
    |none=>exact ih
    |some p =>
     obtain⟨g,x⟩:=p
     simp only
     cases x.nrm V os with
     |none=>exact ih
     |some y=>simp only[A',if_neg h];exact ih
 show A1.mk _ _=_
 rw[h1,AN.nrm]
 exact congrArg (fun ob=>A1.mk _ ⟨ob,fun _=>1⟩) (h2 os)
theorem YK (V:AN) (os:List Nat):Dh V os []=[]:=rfl
theorem WI (V:AN) (os:List Nat) (o:Nat) (l:List Nat):Dh V os (o::l)=match V.ob o with
 |some (_,x)=>(match x.nrm V os with|some y=>(o,(0,y))::Dh V os l|none=>Dh V os l)
 |none=>Dh V os l:=rfl
theorem fD {V:AN} {os ety es nl l}:(Ah.row ety es nl l).nrm V os=some (.row ety es nl l):=rfl
theorem fE {V:AN} {os a b c d e}:(Ah.mat a b c d e).nrm V os=some (.mat a b c d e):=rfl
theorem fG {V:AN} {os k o g}:(AV.mref k o g).nrm V os=if AV.nrm.live V os o g then .mref k o 0 else .undef:=rfl
theorem fJ {V:AN} {os sl cs off}:(AV.ablk sl cs off).nrm V os=if (AV.nrm.nrmL V os cs).all AV.one then .ablk sl (AV.nrm.nrmL V os cs) off else .undef:=rfl
theorem X7 {V:AN} {os xs}:(Ah.cells xs).nrm V os=if (xs.map (AV.nrm V os)).all AV.one then some (.cells (xs.map (AV.nrm V os))) else none:=rfl
theorem qp {V:AN} {os x}:(AV.d x).nrm V os=.d x:=rfl
theorem bQ {V:AN} {os}:AV.undef.nrm V os=.undef:=rfl
theorem ke {V:AN} {os o g}:(AV.own o g).nrm V os=if AV.nrm.live V os o g then .own o 0 else .undef:=rfl
theorem kd {V:AN} {os o g off}:(AV.ptr o g off).nrm V os=if AV.nrm.live V os o g then .ptr o 0 off else .undef:=rfl
theorem pO {V:AN} {os f cs}:(AV.fn f cs).nrm V os=.fn f (AV.nrm.nrmL V os cs):=rfl
theorem fK {V:AN} {os}:AV.nrm.nrmL V os []=[]:=rfl
theorem bR {V:AN} {os x xs}:AV.nrm.nrmL V os (x::xs)=x.nrm V os::AV.nrm.nrmL V os xs:=rfl
theorem ku {V:AN}{os:List Nat}{o g:Nat}:AV.nrm.live V os o g=(os.contains o && match V.ob o with|some (g',_)=>g' == g|none=>false):=rfl
end Go.Pw
