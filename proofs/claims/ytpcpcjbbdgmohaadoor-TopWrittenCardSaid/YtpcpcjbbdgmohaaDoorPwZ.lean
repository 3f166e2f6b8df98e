/- A part of the proof. -/
import Derived.Test.YtpcpcjbbdgmohaaDoorPwY
set_option linter.all false
namespace Go.Pw
def F5:List (Nat×AV)->Nat->AV
 |[]=>fun _=>.undef
 |(k,v)::l=>fun t=>if t=k then v else F5 l t
theorem J1 (k:Nat) (v:AV) (l:List (Nat×AV)) (t:Nat):F5 ((k,v)::l) t=if t=k then v else F5 l t:=rfl
theorem YQ (t:Nat):F5 [] t=.undef:=rfl
theorem Th (k:Nat) (v:Nat×AW) (l:List (Nat×(Nat×AW))) (t:Nat):Bl ((k,v)::l) t=if t=k then some v else Bl l t:=rfl
theorem Vz (t:Nat):Bl [] t=none:=rfl
theorem Xw (l:List (Nat×AV)) (V:AI) (t:Nat) (v:AV) (ch:Bh):put ⟨F5 l,V⟩ (some t) v ch=⟨F5 ((t,v)::l),V.app ch⟩:=rfl
theorem Xx (f:Nat->AV) (V:AI) (v:AV) (ch:Bh):put ⟨f,V⟩ none v ch=⟨f,V.app ch⟩:=rfl
theorem ZZ (V:AI):V.app .none=V:=rfl
theorem cK (V:AI) (a b:Bh):V.app (.seq a b)=(V.app a).app b:=rfl
theorem Za (l:List (Nat×(Nat×AW))) (cn:Nat->Nat) (o g:Nat) (x:AW):(AI.mk (Bl l) cn).app (.keep o g x)=⟨Bl ((o,(g,x))::l),cn⟩:=rfl
theorem Ww (l:List (Nat×(Nat×AW))) (cn:Nat->Nat) (o:Nat) (x:AW):(AI.mk (Bl l) cn).app (.fresh o x)=⟨Bl ((o,(cn o,x))::l),B8 cn o (cn o+1)⟩:=rfl
theorem d7 (ob:Nat->Option (Nat×AW)) (cn:Nat->Nat) (o g:Nat):(AI.mk ob cn).get o g=match ob o with|some (g',x)=>if g=g' then some x else none|none=>none:=rfl
theorem AU (ds:List D):BO.enter ds=⟨F5 (ds.zipIdx.map fun(d,k)=>(k,.d d)),⟨Bl [],fun _=>0⟩⟩:=by
 have key:∀(ds:List D) (n t:Nat),F5 ((ds.zipIdx n).map fun(d,k)=>(k,.d d)) t=if t<n then .undef else (match ds[t-n]? with|some d=>.d d|none=>.undef):=by
  intro ds
  induction ds with
  |nil=>intro n t;simp[F5]
  |cons d ds ih =>
   intro n t
   simp only[List.zipIdx_cons,List.map_cons,J1]
   rw[ih]
   by_cases h:t=n
   ·subst h;simp
   ·by_cases h2:t<n
    ·simp[h,h2,Nat.lt_succ_of_lt h2]
    ·have h3:¬t<n+1:=by omega
     have h4:t-n=(t-(n+1))+1:=by omega
     simp only[h,h2,h3,if_false]
     rw[h4,List.getElem?_cons_succ]
 unfold BO.enter
 congr 1
 funext t
 rw[key];simp
 cases ds[t]?<;>rfl
theorem bD (f:Nat->AV) (V:AI) (ks:List Nat):(BO.mk f V).keep ks=⟨F5 (ks.map fun k=>(k,f k)),V⟩:=by
 unfold BO.keep
 congr 1
 funext t
 induction ks with
 |nil=>simp[F5]
 |cons k ks ih =>
  simp only[List.map_cons,J1,List.contains_cons]
  by_cases h:t=k
  ·subst h;simp
  ·have:(t == k)=false:=by simpa using h
   rw[this,Bool.false_or,if_neg h];exact ih
variable {E:Co}{Q:B7->BO->Prop}{s s':BO}{K:AV->Bh->Prop}{KS:BO->Prop}
theorem UQ (b:Bool) (A B:Prop):OT (.d (.bool b)) A B=Gk b A B:=rfl
theorem aW:pw E .dead Q s=False:=rfl
theorem aR:pw E .skip Q s=Q .normal s:=rfl
theorem dZ {gs l ks}:pw E (.reg gs l ks) Q s=Cd gs s fun s'=>Km E l s' fun s'=>Q .normal (s'.keep ks):=rfl
theorem aV {gs l ks}:pw E (.draw gs l ks) Q s=Cd gs s fun s'=>O4 E l [] s' fun s'=>Q .normal (s'.keep ks):=rfl
theorem da {gs t ks}:pw E (.any gs t ks) Q s=Cd gs s fun s'=>J' E t s' fun s'=>Q .normal (s'.keep ks):=rfl
theorem X3:J' E .done s KS=KS s:=rfl
theorem X2 {I r}:J' E (.step I r) s KS=Dy E I s fun v ch=>J' E r (put s I.dst v ch) KS:=rfl
theorem X4 {a b}:J' E (.both a b) s KS=(J' E a s KS/\J' E b s KS):=rfl
theorem dX {a b}:pw E (.seq a b) Q s=pw E a (JE (pw E b Q) Q) s:=rfl
theorem aX {c a b}:pw E (.cond c a b) Q s=OT (c.val s.sl) (pw E a Q s) (pw E b Q s):=rfl
theorem Xv {id a}:pw E (.block id a) Q s=pw E a (IU id Q) s:=rfl
theorem aU {id}:pw E (.exit id) Q s=Q (.exit id) s:=rfl
theorem dY:pw E .ret Q s=Q .ret s:=rfl
theorem QC {A:BO->Prop}:JE A Q .normal s=A s:=rfl
theorem S8 {A:BO->Prop} {i}:JE A Q (.exit i) s=Q (.exit i) s:=rfl
theorem VM {A:BO->Prop}:JE A Q .ret s=Q .ret s:=rfl
theorem PI {i}:IU i Q .normal s=Q .normal s:=rfl
theorem UV {i}:IU i Q .ret s=Q .ret s:=rfl
theorem Sf {i j}:IU i Q (.exit j) s=if j=i then Q .normal s else Q (.exit j) s:=rfl
theorem Tv:Cd [] s KS=KS s:=rfl
theorem SG {g gs}:Cd (g::gs) s KS=El g s fun s'=>Cd gs s' KS:=rfl
theorem Xf:Km E [] s KS=KS s:=rfl
theorem Vf {I l}:Km E (I::l) s KS=Dy E I s fun v ch=>Km E l (put s I.dst v ch) KS:=rfl
theorem RU {d op xs} {sl:Nat->AV}{V:AI}:Dy E ⟨d,none,op,xs⟩ ⟨sl,V⟩ K=ev E d V op (xs.map (JC.val sl)) K:=rfl
section
variable {dst:Option Nat}{V:AI}
theorem eG {x}:ev E dst V .mov [x] K=K x .none:=rfl
theorem bg {c x y}:ev E dst V .pick [.d (.bool c),x,y] K=Gk c (K x .none) (K y .none):=rfl
theorem eK {b k k' x y}:ev E dst V (.bin b) [.d (.int k x),.d (.int k' y)] K=DH b k k' x y (K · .none):=rfl
theorem eF {b}:ev E dst V (.un .not) [.d (.bool b)] K=K (.d (.bool (!b))) .none:=rfl
end
theorem Kl {I:Ee}{K K':AV->Bh->Prop}(h:Dy E I s K) (hk:∀v ch,K v ch->K' v ch):Dy E I s K':=by
 obtain⟨v,ch,h1,_,h3⟩:=PO h
 exact h3 s K' (fun _ _=>rfl) (fun _ _=>⟨rfl,rfl⟩) (hk v ch h1)
theorem Jy {KS KS':BO->Prop}(hk:∀s,KS s->KS' s):∀{l:List Ee}{s:BO},Km E l s KS->Km E l s KS'
 |[],s,h=>hk s h
 |I::l,s,h=>Kl h fun v ch h'=>Jy hk h'
theorem PZ {KS KS':BO->Prop}(hk:∀s,KS s->KS' s):∀{l:List (Ee×List Nat)}{r:List Oy}{s:BO},O4 E l r s KS->O4 E l r s KS'
 |[],r,s,h=>hk s h
 |(I,dy)::l,r,s,h=>Kl h fun v ch h'=>⟨h'.1,PZ hk h'.2⟩
theorem Tw {KS KS':BO->Prop}(hk:∀s,KS s->KS' s) {g:E8}(h:El g s KS):El g s KS':=by
 unfold El at *
 split at h
 ·split at h
  ·split at h
   ·exact hk _ h
   ·exact h.elim
  ·exact hk _ h
 ·split at h
  ·split at h
   ·split at h
    ·exact hk _ h
    ·exact h.elim
   ·exact h.elim
  ·exact hk _ h
 ·split at h
  ·split at h
   ·split at h
    ·exact hk _ h
    ·exact h.elim
   ·exact hk _ h
  ·exact hk _ h
 ·split at h
  ·split at h
   ·exact hk _ h
   ·exact h.elim
  ·exact hk _ h
 ·split at h
  ·split at h
   ·exact hk _ h
   ·exact h.elim
  ·exact hk _ h
 ·split at h
  ·split at h
   ·split at h
    ·split at h
     ·exact hk _ h
     ·exact h.elim
    ·exact hk _ h
   ·exact hk _ h
  ·exact hk _ h
 ·split at h
  ·exact⟨h.1,hk _ h.2⟩
  ·exact hk _ h
 ·split at h
  ·exact⟨h.1,hk _ h.2⟩
  ·exact hk _ h
 ·split at h
  ·split at h
   ·split at h
    ·exact⟨h.1,h.2.1,hk _ h.2.2⟩
    ·exact hk _ h
   ·exact hk _ h
  ·exact hk _ h
 ·exact hk _ h
 ·exact hk _ h
theorem LR {KS KS':BO->Prop}(hk:∀s,KS s->KS' s):∀{t:Zk}{s:BO},J' E t s KS->J' E t s KS'
 |.done,s,h=>hk s h
 |.step I r,s,h=>Kl h fun v ch h'=>LR hk h'
 |.both a b,s,h=>⟨LR hk h.1,LR hk h.2⟩
theorem Dr:∀{gs:List E8}{s:BO}{KS KS':BO->Prop},(∀s,KS s->KS' s)->Cd gs s KS->Cd gs s KS'
 |[],s,_,_,hk,h=>hk s h
 |g::gs,s,_,_,hk,h=>Tw (fun s' h'=>Dr hk h') h
theorem VG {y:AV}{xs:List AV}{V:AI}{K K':AV->Bh->Prop}(hk:∀v ch,K v ch->K' v ch) (h:W4 y xs V K):W4 y xs V K':=by
 unfold W4 at *
 split at h
 ·split at h
  ·split at h
   ·exact⟨h.1,hk _ _ h.2.1,hk _ _ h.2.2⟩
   ·exact h.elim
  ·exact h.elim
 ·exact h.elim
theorem Vh {v:AV}{K K':FuncId->List D->List D->Prop}(hk:∀f pre post,K f pre post->K' f pre post) (h:Vi E v K):Vi E v K':=by
 unfold Vi at *
 split at h
 ·exact⟨h.1,hk _ _ _ h.2⟩
 ·exact⟨h.1,hk _ _ _ h.2⟩
 ·exact h.elim
theorem G3:∀{p:PC}{Q Q':B7->BO->Prop}{s:BO},pw E p Q s->(∀e s,Q e s->Q' e s)->pw E p Q' s
 |.skip,Q,Q',s,h,hq=>hq _ _ h
 |.reg gs l ks,Q,Q',s,h,hq=>Dr (fun s' h'=>Jy (fun s'' h''=>hq _ _ h'') h') h
 |.draw gs l ks,Q,Q',s,h,hq=>Dr (fun s' h'=>PZ (fun s'' h''=>hq _ _ h'') h') h
 |.any gs t ks,Q,Q',s,h,hq=>Dr (fun s' h'=>LR (fun s'' h''=>hq _ _ h'') h') h
 |.seq a b,Q,Q',s,h,hq=>G3 (p:=a) h fun e s' h'=>by
  cases e with
  |normal=>exact G3 (p:=b) h' hq
  |exit i=>exact hq _ _ h'
  |ret=>exact hq _ _ h'
 |.cond c a b,Q,Q',s,h,hq=>by
  simp only[pw,OT] at h ⊢
  split at h
  ·exact⟨fun hb=>G3 (h.1 hb) hq,fun hb=>G3 (h.2 hb) hq⟩
  ·exact h.elim
 |.block id a,Q,Q',s,h,hq=>G3 (p:=a) h fun e s' h'=>by
  cases e with
  |normal=>exact hq _ _ h'
  |ret=>exact hq _ _ h'
  |exit i =>
   simp only[IU] at h' ⊢
   split at h'
   ·rename_i e;rw[if_pos e];exact hq _ _ h'
   ·rename_i e;rw[if_neg e];exact hq _ _ h'
 |.loop gs ks os a,Q,Q',s,h,hq=>by
  obtain⟨J,h0,h1⟩:=h
  refine⟨J,h0,fun n s' hJ=>G3 (p:=a) (h1 n s' hJ) fun e s'' h'=>?_⟩
  cases e with
  |normal=>exact h'
  |exit i=>exact hq _ _ h'
  |ret=>exact hq _ _ h'
 |.exit id,Q,Q',s,h,hq=>hq _ _ h
 |.ret,Q,Q',s,h,hq=>hq _ _ h
 |.dead,Q,Q',s,h,hq=>h.elim
 |.scope a,Q,Q',s,h,hq=>G3 (p:=a) h hq
 |.lab,Q,Q',s,h,hq=>hq _ _ h
 |.rngF gs g ps ks os b gs2 os2 a,Q,Q',s,h,hq=>Dr (fun s0 h0=>Vh (fun f pre post ⟨h1,els,h2,JJ,Pd,h3,h4,h5,h6,h7⟩ =>
  ⟨h1,els,h2,JJ,Pd,h3,h4,h5,fun V hV hJ=>hq _ _ (h6 V hV hJ),fun e V hV hP=>hq _ _ (h7 e V hV hP)⟩) h0) h
 |.yld gs l1 d y xs l2 ks,Q,Q',s,h,hq=>Dr (fun s0 h0=>Jy (fun s1 h1=>VG (fun v ch h2=>Jy (fun s' h3=>hq _ _ h3) h2) h1) h0) h
theorem Xt {α:Type}(St:α->BO) (Inv:α->Prop) (μ:α->Nat) {gs:List E8}{ks os:List Nat}{a:PC}(x0:α) (h0:Cd gs s fun s1=>s1.nrm ks os=St x0) (hI:Inv x0)
  (step:∀x,Inv x->pw E a (JE (fun s'=>Cd gs s' fun s1=>∃y,s1.nrm ks os=St y/\Inv y/\μ y<μ x) Q) (St x)):pw E (.loop gs ks os a) Q s:=by
 refine⟨fun n s'=>∃x,s'=St x/\Inv x/\μ x=n,Dr (fun s1 h=>⟨μ x0,x0,h,hI,rfl⟩) h0,?_⟩
 rintro n s' ⟨x,rfl,hx,rfl⟩
 refine G3 (step x hx) fun e s' h=>?_
 cases e with
 |normal =>
  refine Dr (fun s1 h=>?_) h
  obtain⟨y,h1,h2,h3⟩:=h
  exact⟨μ y,h3,y,h1,h2,rfl⟩
 |exit i=>exact h
 |ret=>exact h
theorem XB (l:List (Nat×AV)) (t:Nat) (v:AV):B8 (F5 l) t v=F5 ((t,v)::l):=rfl
theorem bn (l:List (Nat×(Nat×AW))) (cn:Nat->Nat) (o:Nat):(AI.mk (Bl l) cn).drop o=⟨Bl (l.filter fun p=>!(p.1 == o)),cn⟩:=by
 simp only[AI.drop,AI.mk.injEq,and_true]
 funext t
 induction l with
 |nil=>simp only[B8,List.filter_nil,Bl];split<;>rfl
 |cons p l ih =>
  simp only[B8] at ih ⊢
  by_cases h:t=o
  ·subst h
   simp only[if_true] at ih ⊢
   by_cases h1:p.1=t
   ·simp[List.filter_cons,h1];simpa using ih
   ·have:(!(p.1 == t))=true:=by simpa using h1
    rw[List.filter_cons,if_pos this]
    obtain⟨k,v⟩:=p
    simp only[Bl] at h1 ⊢
    rw[if_neg (Ne.symm h1)];exact ih
  ·simp only[if_neg h] at ih ⊢
   obtain⟨k,v⟩:=p
   by_cases h1:k=o
   ·subst h1
    have:(!((k,v).1 == k))=false:=by simp
    rw[List.filter_cons,if_neg (by simp),←ih]
    simp only[Bl]
    rw[if_neg h]
   ·rw[List.filter_cons,if_pos (by simpa using h1)]
    simp only[Bl]
    rw[ih]
def gH (f:Nat->AV) (V:AI) (os ks:List Nat):List (Nat×AV):=ks.map fun k=>(k,(f k).nrm V os)
def ES (V:AI) (os:List Nat):List Nat->List (Nat×(Nat×AW))
 |[]=>[]
 |o::l=>match V.ob o with
  |some (_,x)=>(match x.nrm V os with|some y=>(o,(0,y))::ES V os l|none=>ES V os l)
  |none=>ES V os l
theorem dk (f:Nat->AV) (V:AI) (ks os:List Nat):(BO.mk f V).nrm ks os=⟨F5 (ks.map fun k=>(k,(f k).nrm V os)),⟨Bl (ES V os os),fun _=>1⟩⟩:=by
 have h1:(fun t=>if ks.contains t then (f t).nrm V os else .undef)=F5 (ks.map fun k=>(k,(f k).nrm V os)):=by
  funext t
  induction ks with
  |nil=>simp[F5]
  |cons k ks ih =>
   simp only[List.map_cons,J1,List.contains_cons]
   by_cases h:t=k
   ·subst h;simp
   ·have:(t == k)=false:=by simpa using h
    rw[this,Bool.false_or,if_neg h];exact ih
 have h2:∀l:List Nat,(fun o=>if l.contains o then (match V.ob o with
   |some (_,x)=>match x.nrm V os with|some y=>some (0,y)|none=>none
   |none=>none) else none)=Bl (ES V os l):=by
  intro l
  funext t
  induction l with
  |nil=>simp[ES,Bl]
  |cons k l ih =>
   simp only[List.contains_cons]
   have hnot:∀(t:Nat),V.ob t=none->Bl (ES V os l) t=none:=by
    intro t ht
    clear ih
    induction l with
    |nil=>rfl
    |cons a l ih2 =>
     simp only[ES]
     cases ha:V.ob a with
     |none=>exact ih2
     |some p =>
      obtain⟨g,x⟩:=p
      simp only
      have hne:t≠a:=by rintro rfl;rw[ht] at ha;cases ha
      cases x.nrm V os with
      |none=>exact ih2
      |some y=>simp only[Bl,if_neg hne];exact ih2
   have hnot2:∀(t g:Nat) (x:AW),V.ob t=some (g,x)->x.nrm V os=none->Bl (ES V os l) t=none:=by
    intro t g x ht hx
    clear ih hnot
    induction l with
    |nil=>rfl
    |cons a l ih2 =>
     simp only[ES]
     cases ha:V.ob a with
     |none=>exact ih2
     |some p =>
      obtain⟨g',x'⟩:=p
      simp only
      by_cases hne:t=a
      ·subst hne
       rw[ht] at ha;cases ha
       rw[hx];exact ih2
      ·cases x'.nrm V os with
       |none=>exact ih2
       |some y=>simp only[Bl,if_neg hne];exact ih2
   by_cases h:t=k
   ·subst h
    simp only[beq_self_eq_true,Bool.true_or,if_true,ES]
    cases hk:V.ob t with
    |none=>simp only;exact(hnot t hk).symm
    |some p =>
     obtain⟨g,x⟩:=p
     simp only
     cases hx:x.nrm V os with
     |none=>simp only;exact(hnot2 t g x hk hx).symm
     |some y=>simp[Bl]
   ·have:(t == k)=false:=by simpa using h
    rw[this,Bool.false_or]
    simp only[ES]
    cases V.ob k with
    |none=>exact ih
    |some p =>
     obtain⟨g,x⟩:=p
     simp only
     cases x.nrm V os with
     |none=>exact ih
     |some y=>simp only[Bl,if_neg h];exact ih
 show BO.mk _ _=_
 rw[h1,AI.nrm]
 exact congrArg (fun ob=>BO.mk _ ⟨ob,fun _=>1⟩) (h2 os)
theorem Ti (V:AI) (os:List Nat):ES V os []=[]:=rfl
theorem R8 (V:AI) (os:List Nat) (o:Nat) (l:List Nat):ES V os (o::l)=match V.ob o with
 |some (_,x)=>(match x.nrm V os with|some y=>(o,(0,y))::ES V os l|none=>ES V os l)
 |none=>ES V os l:=rfl
theorem X8 {V:AI} {os ety es nl l}:(AW.row ety es nl l).nrm V os=some (.row ety es nl l):=rfl
theorem X9 {V:AI} {os a b c d e}:(AW.mat a b c d e).nrm V os=some (.mat a b c d e):=rfl
theorem X' {V:AI} {os k o g}:(AV.mref k o g).nrm V os=if AV.nrm.live V os o g then .mref k o 0 else .undef:=rfl
theorem YC {V:AI} {os sl cs off}:(AV.ablk sl cs off).nrm V os=if (AV.nrm.nrmL V os cs).all AV.one then .ablk sl (AV.nrm.nrmL V os cs) off else .undef:=rfl
theorem X_ {V:AI} {os t l}:(AW.map t l).nrm V os=some (.map t l):=rfl
theorem TR {V:AI} {os xs}:(AW.cells xs).nrm V os=if (xs.map (AV.nrm V os)).all AV.one then some (.cells (xs.map (AV.nrm V os))) else none:=rfl
theorem ew {V:AI} {os x}:(AV.d x).nrm V os=.d x:=rfl
theorem Vt {V:AI} {os}:AV.undef.nrm V os=.undef:=rfl
theorem aq {V:AI} {os o g}:(AV.own o g).nrm V os=if AV.nrm.live V os o g then .own o 0 else .undef:=rfl
theorem YA {V:AI} {os o g}:(AV.map o g).nrm V os=if AV.nrm.live V os o g then .map o 0 else .undef:=rfl
theorem ap {V:AI} {os o g off}:(AV.ptr o g off).nrm V os=if AV.nrm.live V os o g then .ptr o 0 off else .undef:=rfl
theorem di {V:AI} {os f cs}:(AV.fn f cs).nrm V os=.fn f (AV.nrm.nrmL V os cs):=rfl
theorem YD {V:AI} {os}:AV.nrm.nrmL V os []=[]:=rfl
theorem Vu {V:AI} {os x xs}:AV.nrm.nrmL V os (x::xs)=x.nrm V os::AV.nrm.nrmL V os xs:=rfl
theorem a_ {V:AI}{os:List Nat}{o g:Nat}:AV.nrm.live V os o g=(os.contains o && match V.ob o with|some (g',_)=>g' == g|none=>false):=rfl
end Go.Pw
