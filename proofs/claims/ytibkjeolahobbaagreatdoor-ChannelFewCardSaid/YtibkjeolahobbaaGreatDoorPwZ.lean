/- A part of the proof. -/
import Derived.Test.YtibkjeolahobbaaGreatDoorPwY
set_option linter.all false
namespace Go.Pw
def E9:List (Nat×AV)->Nat->AV
 |[]=>fun _=>.undef
 |(k,v)::l=>fun t=>if t=k then v else E9 l t
theorem Lt (k:Nat) (v:AV) (l:List (Nat×AV)) (t:Nat):E9 ((k,v)::l) t=if t=k then v else E9 l t:=rfl
theorem ew (t:Nat):E9 [] t=.undef:=rfl
theorem X6 (k:Nat) (v:Nat×Ad) (l:List (Nat×(Nat×Ad))) (t:Nat):Bb ((k,v)::l) t=if t=k then some v else Bb l t:=rfl
theorem bE (t:Nat):Bb [] t=none:=rfl
theorem eG (l:List (Nat×AV)) (V:AN) (t:Nat) (v:AV) (ch:Bx):put ⟨E9 l,V⟩ (some t) v ch=⟨E9 ((t,v)::l),V.app ch⟩:=rfl
theorem eH (f:Nat->AV) (V:AN) (v:AV) (ch:Bx):put ⟨f,V⟩ none v ch=⟨f,V.app ch⟩:=rfl
theorem gm (V:AN):V.app .none=V:=rfl
theorem lQ (V:AN) (a b:Bx):V.app (.seq a b)=(V.app a).app b:=rfl
theorem gn (l:List (Nat×(Nat×Ad))) (cn:Nat->Nat) (o g:Nat) (x:Ad):(AN.mk (Bb l) cn).app (.keep o g x)=⟨Bb ((o,(g,x))::l),cn⟩:=rfl
theorem cW (l:List (Nat×(Nat×Ad))) (cn:Nat->Nat) (o:Nat) (x:Ad):(AN.mk (Bb l) cn).app (.fresh o x)=⟨Bb ((o,(cn o,x))::l),CL cn o (cn o+1)⟩:=rfl
theorem nq (ob:Nat->Option (Nat×Ad)) (cn:Nat->Nat) (o g:Nat):(AN.mk ob cn).get o g=match ob o with|some (g',x)=>if g=g' then some x else none|none=>none:=rfl
theorem AW (ds:List D):Ba.enter ds=⟨E9 (ds.zipIdx.map fun(d,k)=>(k,.d d)),⟨Bb [],fun _=>0⟩⟩:=by
 have key:∀(ds:List D) (n t:Nat),E9 ((ds.zipIdx n).map fun(d,k)=>(k,.d d)) t=if t<n then .undef else (match ds[t-n]? with|some d=>.d d|none=>.undef):=by
  intro ds
  induction ds with
  |nil=>intro n t;simp[E9]
  |cons d ds ih =>
   intro n t
   simp only[List.zipIdx_cons,List.map_cons,Lt]
   rw[ih]
   by_cases h:t=n
   ·subst h;simp
   ·by_cases h2:t<n
    ·simp[h,h2,Nat.lt_succ_of_lt h2]
    ·have h3:¬t<n+1:=by omega
     have h4:t-n=(t-(n+1))+1:=by omega
     simp only[h,h2,h3,if_false]
     rw[h4,List.getElem?_cons_succ]
 unfold Ba.enter
 congr 1
 funext t
 rw[key];simp
 cases ds[t]?<;>rfl
theorem kE (f:Nat->AV) (V:AN) (ks:List Nat):(Ba.mk f V).keep ks=⟨E9 (ks.map fun k=>(k,f k)),V⟩:=by
 unfold Ba.keep
 congr 1
 funext t
 induction ks with
 |nil=>simp[E9]
 |cons k ks ih =>
  simp only[List.map_cons,Lt,List.contains_cons]
  by_cases h:t=k
  ·subst h;simp
  ·have:(t == k)=false:=by simpa using h
   rw[this,Bool.false_or,if_neg h];exact ih
variable {E:Cr}{Q:B_->Ba->Prop}{s s':Ba}{K:AV->Bx->Prop}{KS:Ba->Prop}
theorem Yr (b:Bool) (A B:Prop):Ro (.d (.bool b)) A B=Hg b A B:=rfl
theorem m9 {gs l1 d y xs l2 ks}:pw E (.yld gs l1 d y xs l2 ks) Q s=CX gs s fun s0=>Kr E l1 s0 fun s1=>SL (y.val s1.sl) (xs.map (KH.val s1.sl)) s1.V fun v ch=>Kr E l2 (put s1 d v ch) fun s'=>Q .normal (s'.keep ks):=rfl
theorem jU:pw E .dead Q s=False:=rfl
theorem jQ:pw E .skip Q s=Q .normal s:=rfl
theorem nB {gs l ks}:pw E (.reg gs l ks) Q s=CX gs s fun s'=>Kr E l s' fun s'=>Q .normal (s'.keep ks):=rfl
theorem jT {gs l ks}:pw E (.draw gs l ks) Q s=CX gs s fun s'=>SQ E l [] s' fun s'=>Q .normal (s'.keep ks):=rfl
theorem m_ {a b}:pw E (.seq a b) Q s=pw E a (Kk (pw E b Q) Q) s:=rfl
theorem jV {c a b}:pw E (.cond c a b) Q s=Ro (c.val s.sl) (pw E a Q s) (pw E b Q s):=rfl
theorem eF {id a}:pw E (.block id a) Q s=pw E a (Jv id Q) s:=rfl
theorem jS {id}:pw E (.exit id) Q s=Q (.exit id) s:=rfl
theorem nA:pw E .ret Q s=Q .ret s:=rfl
theorem Th {A:Ba->Prop}:Kk A Q .normal s=A s:=rfl
theorem XT {A:Ba->Prop} {i}:Kk A Q (.exit i) s=Q (.exit i) s:=rfl
theorem Z3 {A:Ba->Prop}:Kk A Q .ret s=Q .ret s:=rfl
theorem Sg {i}:Jv i Q .normal s=Q .normal s:=rfl
theorem Yz {i}:Jv i Q .ret s=Q .ret s:=rfl
theorem Wx {i j}:Jv i Q (.exit j) s=if j=i then Q .normal s else Q (.exit j) s:=rfl
theorem YG:CX [] s KS=KS s:=rfl
theorem WG {g gs}:CX (g::gs) s KS=Ep g s fun s'=>CX gs s' KS:=rfl
theorem dk:Kr E [] s KS=KS s:=rfl
theorem aQ {I l}:Kr E (I::l) s KS=Ec E I s fun v ch=>Kr E l (put s I.dst v ch) KS:=rfl
theorem VI {d op xs} {sl:Nat->AV}{V:AN}:Ec E ⟨d,none,op,xs⟩ ⟨sl,V⟩ K=ev E d V op (xs.map (KH.val sl)) K:=rfl
section
variable {dst:Option Nat}{V:AN}
theorem oG {x}:ev E dst V .mov [x] K=K x .none:=rfl
theorem kl {c x y}:ev E dst V .pick [.d (.bool c),x,y] K=Hg c (K x .none) (K y .none):=rfl
theorem oJ {b k k' x y}:ev E dst V (.bin b) [.d (.int k x),.d (.int k' y)] K=DM b k k' x y (K · .none):=rfl
theorem oD {b}:ev E dst V (.un .not) [.d (.bool b)] K=K (.d (.bool (!b))) .none:=rfl
end
theorem Ml {I:E6}{K K':AV->Bx->Prop}(h:Ec E I s K) (hk:∀v ch,K v ch->K' v ch):Ec E I s K':=by
 obtain⟨v,ch,h1,_,h3⟩:=Sp h
 exact h3 s K' (fun _ _=>rfl) (fun _ _=>⟨rfl,rfl⟩) (hk v ch h1)
theorem Lq {KS KS':Ba->Prop}(hk:∀s,KS s->KS' s):∀{l:List E6}{s:Ba},Kr E l s KS->Kr E l s KS'
 |[],s,h=>hk s h
 |I::l,s,h=>Ml h fun v ch h'=>Lq hk h'
theorem S1 {KS KS':Ba->Prop}(hk:∀s,KS s->KS' s):∀{l:List (E6×List Nat)}{r:List SJ}{s:Ba},SQ E l r s KS->SQ E l r s KS'
 |[],r,s,h=>hk s h
 |(I,dy)::l,r,s,h=>Ml h fun v ch h'=>⟨h'.1,S1 hk h'.2⟩
theorem YH {KS KS':Ba->Prop}(hk:∀s,KS s->KS' s) {g:Eu}(h:Ep g s KS):Ep g s KS':=by
 unfold Ep at *
 split at h
 ·split at h
  ·split at h
   ·exact hk _ h
   ·exact h.elim
  ·exact hk _ h
 ·split at h
  ·split at h
   ·split at h
    ·exact hk _ h
    ·exact h.elim
   ·exact h.elim
  ·exact hk _ h
 ·split at h
  ·split at h
   ·split at h
    ·exact hk _ h
    ·exact h.elim
   ·exact hk _ h
  ·exact hk _ h
 ·split at h
  ·split at h
   ·exact hk _ h
   ·exact h.elim
  ·exact hk _ h
 ·split at h
  ·split at h
   ·exact hk _ h
   ·exact h.elim
  ·exact hk _ h
 ·split at h
  ·split at h
   ·split at h
    ·split at h
     ·exact hk _ h
     ·exact h.elim
    ·exact hk _ h
   ·exact hk _ h
  ·exact hk _ h
 ·split at h
  ·exact⟨h.1,hk _ h.2⟩
  ·exact hk _ h
 ·split at h
  ·exact⟨h.1,hk _ h.2⟩
  ·exact hk _ h
 ·split at h
  ·split at h
   ·split at h
    ·exact⟨h.1,h.2.1,hk _ h.2.2⟩
    ·exact hk _ h
   ·exact hk _ h
  ·exact hk _ h
 ·exact hk _ h
 ·exact hk _ h
theorem Nj {KS KS':Ba->Prop}(hk:∀s,KS s->KS' s):∀{t:g7}{s:Ba},T9 E t s KS->T9 E t s KS'
 |.done,s,h=>hk s h
 |.step I r,s,h=>Ml h fun v ch h'=>Nj hk h'
 |.both a b,s,h=>⟨Nj hk h.1,Nj hk h.2⟩
theorem DH:∀{gs:List Eu}{s:Ba}{KS KS':Ba->Prop},(∀s,KS s->KS' s)->CX gs s KS->CX gs s KS'
 |[],s,_,_,hk,h=>hk s h
 |g::gs,s,_,_,hk,h=>YH (fun s' h'=>DH hk h') h
theorem Zv {y:AV}{xs:List AV}{V:AN}{K K':AV->Bx->Prop}(hk:∀v ch,K v ch->K' v ch) (h:SL y xs V K):SL y xs V K':=by
 unfold SL at *
 split at h
 ·split at h
  ·split at h
   ·exact⟨h.1,hk _ _ h.2.1,hk _ _ h.2.2⟩
   ·exact h.elim
  ·exact h.elim
 ·exact h.elim
theorem S3 {v:AV}{K K':FuncId->List D->List D->Prop}(hk:∀f pre post,K f pre post->K' f pre post) (h:Vi E v K):Vi E v K':=by
 unfold Vi at *
 split at h
 ·exact⟨h.1,hk _ _ _ h.2⟩
 ·exact⟨h.1,hk _ _ _ h.2⟩
 ·exact h.elim
theorem GT:∀{p:PC}{Q Q':B_->Ba->Prop}{s:Ba},pw E p Q s->(∀e s,Q e s->Q' e s)->pw E p Q' s
 |.skip,Q,Q',s,h,hq=>hq _ _ h
 |.reg gs l ks,Q,Q',s,h,hq=>DH (fun s' h'=>Lq (fun s'' h''=>hq _ _ h'') h') h
 |.draw gs l ks,Q,Q',s,h,hq=>DH (fun s' h'=>S1 (fun s'' h''=>hq _ _ h'') h') h
 |.any gs t ks,Q,Q',s,h,hq=>DH (fun s' h'=>Nj (fun s'' h''=>hq _ _ h'') h') h
 |.seq a b,Q,Q',s,h,hq=>GT (p:=a) h fun e s' h'=>by
  cases e with
  |normal=>exact GT (p:=b) h' hq
  |exit i=>exact hq _ _ h'
  |ret=>exact hq _ _ h'
 |.cond c a b,Q,Q',s,h,hq=>by
  simp only[pw,Ro] at h ⊢
  split at h
  ·exact⟨fun hb=>GT (h.1 hb) hq,fun hb=>GT (h.2 hb) hq⟩
  ·exact h.elim
 |.block id a,Q,Q',s,h,hq=>GT (p:=a) h fun e s' h'=>by
  cases e with
  |normal=>exact hq _ _ h'
  |ret=>exact hq _ _ h'
  |exit i =>
   simp only[Jv] at h' ⊢
   split at h'
   ·rename_i e;rw[if_pos e];exact hq _ _ h'
   ·rename_i e;rw[if_neg e];exact hq _ _ h'
 |.loop gs ks os a,Q,Q',s,h,hq=>by
  obtain⟨J,h0,h1⟩:=h
  refine⟨J,h0,fun n s' hJ=>GT (p:=a) (h1 n s' hJ) fun e s'' h'=>?_⟩
  cases e with
  |normal=>exact h'
  |exit i=>exact hq _ _ h'
  |ret=>exact hq _ _ h'
 |.exit id,Q,Q',s,h,hq=>hq _ _ h
 |.ret,Q,Q',s,h,hq=>hq _ _ h
 |.dead,Q,Q',s,h,hq=>h.elim
 |.scope a,Q,Q',s,h,hq=>GT (p:=a) h hq
 |.lab,Q,Q',s,h,hq=>hq _ _ h
 |.rngF gs g ps ks os b gs2 os2 a,Q,Q',s,h,hq=>DH (fun s0 h0=>S3 (fun f pre post ⟨h1,els,h2,JJ,Pd,h3,h4,h5,h6,h7⟩ =>
  ⟨h1,els,h2,JJ,Pd,h3,h4,h5,fun V hV hJ=>hq _ _ (h6 V hV hJ),fun e V hV hP=>hq _ _ (h7 e V hV hP)⟩) h0) h
 |.yld gs l1 d y xs l2 ks,Q,Q',s,h,hq=>DH (fun s0 h0=>Lq (fun s1 h1=>Zv (fun v ch h2=>Lq (fun s' h3=>hq _ _ h3) h2) h1) h0) h
theorem eD {α:Type}(St:α->Ba) (Inv:α->Prop) (μ:α->Nat) {gs:List Eu}{ks os:List Nat}{a:PC}(x0:α) (h0:CX gs s fun s1=>s1.nrm ks os=St x0) (hI:Inv x0)
  (step:∀x,Inv x->pw E a (Kk (fun s'=>CX gs s' fun s1=>∃y,s1.nrm ks os=St y/\Inv y/\μ y<μ x) Q) (St x)):pw E (.loop gs ks os a) Q s:=by
 refine⟨fun n s'=>∃x,s'=St x/\Inv x/\μ x=n,DH (fun s1 h=>⟨μ x0,x0,h,hI,rfl⟩) h0,?_⟩
 rintro n s' ⟨x,rfl,hx,rfl⟩
 refine GT (step x hx) fun e s' h=>?_
 cases e with
 |normal =>
  refine DH (fun s1 h=>?_) h
  obtain⟨y,h1,h2,h3⟩:=h
  exact⟨μ y,h3,y,h1,h2,rfl⟩
 |exit i=>exact h
 |ret=>exact h
theorem dD (l:List (Nat×AV)) (t:Nat) (v:AV):CL (E9 l) t v=E9 ((t,v)::l):=rfl
theorem kw (l:List (Nat×(Nat×Ad))) (cn:Nat->Nat) (o:Nat):(AN.mk (Bb l) cn).drop o=⟨Bb (l.filter fun p=>!(p.1 == o)),cn⟩:=by
 simp only[AN.drop,AN.mk.injEq,and_true]
 funext t
 induction l with
 |nil=>simp only[CL,List.filter_nil,Bb];split<;>rfl
 |cons p l ih =>
  simp only[CL] at ih ⊢
  by_cases h:t=o
  ·subst h
   simp only[if_true] at ih ⊢
   by_cases h1:p.1=t
   ·simp[List.filter_cons,h1];simpa using ih
   ·have:(!(p.1 == t))=true:=by simpa using h1
    rw[List.filter_cons,if_pos this]
    obtain⟨k,v⟩:=p
    simp only[Bb] at h1 ⊢
    rw[if_neg (Ne.symm h1)];exact ih
  ·simp only[if_neg h] at ih ⊢
   obtain⟨k,v⟩:=p
   by_cases h1:k=o
   ·subst h1
    have:(!((k,v).1 == k))=false:=by simp
    rw[List.filter_cons,if_neg (by simp),←ih]
    simp only[Bb]
    rw[if_neg h]
   ·rw[List.filter_cons,if_pos (by simpa using h1)]
    simp only[Bb]
    rw[ih]
def qO (f:Nat->AV) (V:AN) (os ks:List Nat):List (Nat×AV):=ks.map fun k=>(k,(f k).nrm V os)
def EX (V:AN) (os:List Nat):List Nat->List (Nat×(Nat×Ad))
 |[]=>[]
 |o::l=>match V.ob o with
  |some (_,x)=>(match x.nrm V os with|some y=>(o,(0,y))::EX V os l|none=>EX V os l)
  |none=>EX V os l
theorem eU (f:Nat->AV) (V:AN) (ks os:List Nat):(Ba.mk f V).nrm ks os=⟨E9 (ks.map fun k=>(k,(f k).nrm V os)),⟨Bb (EX V os os),fun _=>1⟩⟩:=by
 have h1:(fun t=>if ks.contains t then (f t).nrm V os else .undef)=E9 (ks.map fun k=>(k,(f k).nrm V os)):=by
  funext t
  induction ks with
  |nil=>simp[E9]
  |cons k ks ih =>
   simp only[List.map_cons,Lt,List.contains_cons]
   by_cases h:t=k
   ·subst h;simp
   ·have:(t == k)=false:=by simpa using h
    rw[this,Bool.false_or,if_neg h];exact ih
 have h2:∀l:List Nat,(fun o=>if l.contains o then (match V.ob o with
   |some (_,x)=>match x.nrm V os with|some y=>some (0,y)|none=>none
   |none=>none) else none)=Bb (EX V os l):=by
  intro l
  funext t
  induction l with
  |nil=>simp[EX,Bb]
  |cons k l ih =>
   simp only[List.contains_cons]
   have hnot:∀(t:Nat),V.ob t=none->Bb (EX V os l) t=none:=by
    intro t ht
    clear ih
    induction l with
    |nil=>rfl
    |cons a l ih2 =>
     simp only[EX]
     cases ha:V.ob a with
     |none=>exact ih2
     |some p =>
      obtain⟨g,x⟩:=p
      simp only
      have hne:t≠a:=by rintro rfl;rw[ht] at ha;cases ha
      cases x.nrm V os with
      |none=>exact ih2
      |some y=>simp only[Bb,if_neg hne];exact ih2
   have hnot2:∀(t g:Nat) (x:Ad),V.ob t=some (g,x)->x.nrm V os=none->Bb (EX V os l) t=none:=by
    intro t g x ht hx
    clear ih hnot
    induction l with
    |nil=>rfl
    |cons a l ih2 =>
     simp only[EX]
     cases ha:V.ob a with
     |none=>exact ih2
     |some p =>
      obtain⟨g',x'⟩:=p
      simp only
      by_cases hne:t=a
      ·subst hne
       rw[ht] at ha;cases ha
       rw[hx];exact ih2
      ·cases x'.nrm V os with
       |none=>exact ih2
       |some y=>simp only[Bb,if_neg hne];exact ih2
   by_cases h:t=k
   ·subst h
    simp only[beq_self_eq_true,Bool.true_or,if_true,EX]
    cases hk:V.ob t with
    |none=>simp only;exact(hnot t hk).symm
    |some p =>
     obtain⟨g,x⟩:=p
     simp only
     cases hx:x.nrm V os with
     |none=>simp only;exact(hnot2 t g x hk hx).symm
     |some y=>simp[Bb]
   ·have:(t == k)=false:=by simpa using h
    rw[this,Bool.false_or]
    simp only[EX]
    cases V.ob k with
    |none=>exact ih
    |some p =>
     obtain⟨g,x⟩:=p
     simp only
     cases x.nrm V os with
     |none=>exact ih
     |some y=>simp only[Bb,if_neg h];exact ih
 show Ba.mk _ _=_
 rw[h1,AN.nrm]
 exact congrArg (fun ob=>Ba.mk _ ⟨ob,fun _=>1⟩) (h2 os)
theorem X7 (V:AN) (os:List Nat):EX V os []=[]:=rfl
theorem V8 (V:AN) (os:List Nat) (o:Nat) (l:List Nat):EX V os (o::l)=match V.ob o with
 |some (_,x)=>(match x.nrm V os with|some y=>(o,(0,y))::EX V os l|none=>EX V os l)
 |none=>EX V os l:=rfl
theorem eQ {V:AN} {os ety es nl l}:(Ad.row ety es nl l).nrm V os=some (.row ety es nl l):=rfl
theorem eR {V:AN} {os a b c d e}:(Ad.mat a b c d e).nrm V os=some (.mat a b c d e):=rfl
theorem eS {V:AN} {os k o g}:(AV.mref k o g).nrm V os=if AV.nrm.live V os o g then .mref k o 0 else .undef:=rfl
theorem eV {V:AN} {os sl cs off}:(AV.ablk sl cs off).nrm V os=if (AV.nrm.nrmL V os cs).all AV.one then .ablk sl (AV.nrm.nrmL V os cs) off else .undef:=rfl
theorem Xs {V:AN} {os xs}:(Ad.cells xs).nrm V os=if (xs.map (AV.nrm V os)).all AV.one then some (.cells (xs.map (AV.nrm V os))) else none:=rfl
theorem o_ {V:AN} {os x}:(AV.d x).nrm V os=.d x:=rfl
theorem a8 {V:AN} {os}:AV.undef.nrm V os=.undef:=rfl
theorem jl {V:AN} {os o g}:(AV.own o g).nrm V os=if AV.nrm.live V os o g then .own o 0 else .undef:=rfl
theorem jk {V:AN} {os o g off}:(AV.ptr o g off).nrm V os=if AV.nrm.live V os o g then .ptr o 0 off else .undef:=rfl
theorem nI {V:AN} {os f cs}:(AV.fn f cs).nrm V os=.fn f (AV.nrm.nrmL V os cs):=rfl
theorem eW {V:AN} {os}:AV.nrm.nrmL V os []=[]:=rfl
theorem a9 {V:AN} {os x xs}:AV.nrm.nrmL V os (x::xs)=x.nrm V os::AV.nrm.nrmL V os xs:=rfl
theorem j8 {V:AN}{os:List Nat}{o g:Nat}:AV.nrm.live V os o g=(os.contains o && match V.ob o with|some (g',_)=>g' == g|none=>false):=rfl
end Go.Pw
