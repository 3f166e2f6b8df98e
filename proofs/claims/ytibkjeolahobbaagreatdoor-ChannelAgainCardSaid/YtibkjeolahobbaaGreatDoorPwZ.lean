/- A part of the proof. -/
import Derived.Test.YtibkjeolahobbaaGreatDoorPwY
set_option linter.all false
namespace Go.Pw
def Et:List (Nat×AV)->Nat->AV
 |[]=>fun _=>.undef
 |(k,v)::l=>fun t=>if t=k then v else Et l t
theorem LY (k:Nat) (v:AV) (l:List (Nat×AV)) (t:Nat):Et ((k,v)::l) t=if t=k then v else Et l t:=rfl
theorem dH (t:Nat):Et [] t=.undef:=rfl
theorem Wr (k:Nat) (v:Nat×Aa) (l:List (Nat×(Nat×Aa))) (t:Nat):BW ((k,v)::l) t=if t=k then some v else BW l t:=rfl
theorem ZY (t:Nat):BW [] t=none:=rfl
theorem cQ (l:List (Nat×AV)) (V:AJ) (t:Nat) (v:AV) (ch:Bq):put ⟨Et l,V⟩ (some t) v ch=⟨Et ((t,v)::l),V.app ch⟩:=rfl
theorem cR (f:Nat->AV) (V:AJ) (v:AV) (ch:Bq):put ⟨f,V⟩ none v ch=⟨f,V.app ch⟩:=rfl
theorem ew (V:AJ):V.app .none=V:=rfl
theorem jS (V:AJ) (a b:Bq):V.app (.seq a b)=(V.app a).app b:=rfl
theorem ey (l:List (Nat×(Nat×Aa))) (cn:Nat->Nat) (o g:Nat) (x:Aa):(AJ.mk (BW l) cn).app (.keep o g x)=⟨BW ((o,(g,x))::l),cn⟩:=rfl
theorem aY (l:List (Nat×(Nat×Aa))) (cn:Nat->Nat) (o:Nat) (x:Aa):(AJ.mk (BW l) cn).app (.fresh o x)=⟨BW ((o,(cn o,x))::l),CF cn o (cn o+1)⟩:=rfl
theorem lM (ob:Nat->Option (Nat×Aa)) (cn:Nat->Nat) (o g:Nat):(AJ.mk ob cn).get o g=match ob o with|some (g',x)=>if g=g' then some x else none|none=>none:=rfl
theorem AW (ds:List D):BV.enter ds=⟨Et (ds.zipIdx.map fun(d,k)=>(k,.d d)),⟨BW [],fun _=>0⟩⟩:=by
 have key:∀(ds:List D) (n t:Nat),Et ((ds.zipIdx n).map fun(d,k)=>(k,.d d)) t=if t<n then .undef else (match ds[t-n]? with|some d=>.d d|none=>.undef):=by
  intro ds
  induction ds with
  |nil=>intro n t;simp[Et]
  |cons d ds ih =>
   intro n t
   simp only[List.zipIdx_cons,List.map_cons,LY]
   rw[ih]
   by_cases h:t=n
   ·subst h;simp
   ·by_cases h2:t<n
    ·simp[h,h2,Nat.lt_succ_of_lt h2]
    ·have h3:¬t<n+1:=by omega
     have h4:t-n=(t-(n+1))+1:=by omega
     simp only[h,h2,h3,if_false]
     rw[h4,List.getElem?_cons_succ]
 unfold BV.enter
 congr 1
 funext t
 rw[key];simp
 cases ds[t]?<;>rfl
theorem iH (f:Nat->AV) (V:AJ) (ks:List Nat):(BV.mk f V).keep ks=⟨Et (ks.map fun k=>(k,f k)),V⟩:=by
 unfold BV.keep
 congr 1
 funext t
 induction ks with
 |nil=>simp[Et]
 |cons k ks ih =>
  simp only[List.map_cons,LY,List.contains_cons]
  by_cases h:t=k
  ·subst h;simp
  ·have:(t == k)=false:=by simpa using h
   rw[this,Bool.false_or,if_neg h];exact ih
variable {E:Cl}{Q:B2->BV->Prop}{s s':BV}{K:AV->Bq->Prop}{KS:BV->Prop}
theorem Xb (b:Bool) (A B:Prop):Qv (.d (.bool b)) A B=HQ b A B:=rfl
theorem kc {gs l1 d y xs l2 ks}:pw E (.yld gs l1 d y xs l2 ks) Q s=CS gs s fun s0=>KQ E l1 s0 fun s1=>RN (y.val s1.sl) (xs.map (J0.val s1.sl)) s1.V fun v ch=>KQ E l2 (put s1 d v ch) fun s'=>Q .normal (s'.keep ks):=rfl
theorem gY:pw E .dead Q s=False:=rfl
theorem gU:pw E .skip Q s=Q .normal s:=rfl
theorem kf {gs l ks}:pw E (.reg gs l ks) Q s=CS gs s fun s'=>KQ E l s' fun s'=>Q .normal (s'.keep ks):=rfl
theorem gX {gs l ks}:pw E (.draw gs l ks) Q s=CS gs s fun s'=>RU E l [] s' fun s'=>Q .normal (s'.keep ks):=rfl
theorem kd {a b}:pw E (.seq a b) Q s=pw E a (KK (pw E b Q) Q) s:=rfl
theorem gZ {c a b}:pw E (.cond c a b) Q s=Qv (c.val s.sl) (pw E a Q s) (pw E b Q s):=rfl
theorem cP {id a}:pw E (.block id a) Q s=pw E a (Jb id Q) s:=rfl
theorem gW {id}:pw E (.exit id) Q s=Q (.exit id) s:=rfl
theorem ke:pw E .ret Q s=Q .ret s:=rfl
theorem Sm {A:BV->Prop}:KK A Q .normal s=A s:=rfl
theorem WE {A:BV->Prop} {i}:KK A Q (.exit i) s=Q (.exit i) s:=rfl
theorem Yi {A:BV->Prop}:KK A Q .ret s=Q .ret s:=rfl
theorem Rm {i}:Jb i Q .normal s=Q .normal s:=rfl
theorem Xi {i}:Jb i Q .ret s=Q .ret s:=rfl
theorem Vk {i j}:Jb i Q (.exit j) s=if j=i then Q .normal s else Q (.exit j) s:=rfl
theorem W5:CS [] s KS=KS s:=rfl
theorem VA {g gs}:CS (g::gs) s KS=E7 g s fun s'=>CS gs s' KS:=rfl
theorem bd:KQ E [] s KS=KS s:=rfl
theorem Y6 {I l}:KQ E (I::l) s KS=EQ E I s fun v ch=>KQ E l (put s I.dst v ch) KS:=rfl
theorem UH {d op xs} {sl:Nat->AV}{V:AJ}:EQ E ⟨d,none,op,xs⟩ ⟨sl,V⟩ K=ev E d V op (xs.map (J0.val sl)) K:=rfl
section
variable {dst:Option Nat}{V:AJ}
theorem lX {x}:ev E dst V .mov [x] K=K x .none:=rfl
theorem iq {c x y}:ev E dst V .pick [.d (.bool c),x,y] K=HQ c (K x .none) (K y .none):=rfl
theorem lc {b k k' x y}:ev E dst V (.bin b) [.d (.int k x),.d (.int k' y)] K=DD b k k' x y (K · .none):=rfl
theorem lW {b}:ev E dst V (.un .not) [.d (.bool b)] K=K (.d (.bool (!b))) .none:=rfl
end
theorem MH {I:Eo}{K K':AV->Bq->Prop}(h:EQ E I s K) (hk:∀v ch,K v ch->K' v ch):EQ E I s K':=by
 obtain⟨v,ch,h1,_,h3⟩:=Rv h
 exact h3 s K' (fun _ _=>rfl) (fun _ _=>⟨rfl,rfl⟩) (hk v ch h1)
theorem LV {KS KS':BV->Prop}(hk:∀s,KS s->KS' s):∀{l:List Eo}{s:BV},KQ E l s KS->KQ E l s KS'
 |[],s,h=>hk s h
 |I::l,s,h=>MH h fun v ch h'=>LV hk h'
theorem R7 {KS KS':BV->Prop}(hk:∀s,KS s->KS' s):∀{l:List (Eo×List Nat)}{r:List RL}{s:BV},RU E l r s KS->RU E l r s KS'
 |[],r,s,h=>hk s h
 |(I,dy)::l,r,s,h=>MH h fun v ch h'=>⟨h'.1,R7 hk h'.2⟩
theorem W6 {KS KS':BV->Prop}(hk:∀s,KS s->KS' s) {g:Ef}(h:E7 g s KS):E7 g s KS':=by
 unfold E7 at *
 split at h
 ·split at h
  ·split at h
   ·exact hk _ h
   ·exact h.elim
  ·exact hk _ h
 ·split at h
  ·split at h
   ·split at h
    ·exact hk _ h
    ·exact h.elim
   ·exact h.elim
  ·exact hk _ h
 ·split at h
  ·split at h
   ·split at h
    ·exact hk _ h
    ·exact h.elim
   ·exact hk _ h
  ·exact hk _ h
 ·split at h
  ·split at h
   ·exact hk _ h
   ·exact h.elim
  ·exact hk _ h
 ·split at h
  ·split at h
   ·exact hk _ h
   ·exact h.elim
  ·exact hk _ h
 ·split at h
  ·split at h
   ·split at h
    ·split at h
     ·exact hk _ h
     ·exact h.elim
    ·exact hk _ h
   ·exact hk _ h
  ·exact hk _ h
 ·split at h
  ·exact⟨h.1,hk _ h.2⟩
  ·exact hk _ h
 ·split at h
  ·exact⟨h.1,hk _ h.2⟩
  ·exact hk _ h
 ·split at h
  ·split at h
   ·split at h
    ·exact⟨h.1,h.2.1,hk _ h.2.2⟩
    ·exact hk _ h
   ·exact hk _ h
  ·exact hk _ h
 ·exact hk _ h
 ·exact hk _ h
theorem NA {KS KS':BV->Prop}(hk:∀s,KS s->KS' s):∀{t:fK}{s:BV},S8 E t s KS->S8 E t s KS'
 |.done,s,h=>hk s h
 |.step I r,s,h=>MH h fun v ch h'=>NA hk h'
 |.both a b,s,h=>⟨NA hk h.1,NA hk h.2⟩
theorem C8:∀{gs:List Ef}{s:BV}{KS KS':BV->Prop},(∀s,KS s->KS' s)->CS gs s KS->CS gs s KS'
 |[],s,_,_,hk,h=>hk s h
 |g::gs,s,_,_,hk,h=>W6 (fun s' h'=>C8 hk h') h
theorem Yb {y:AV}{xs:List AV}{V:AJ}{K K':AV->Bq->Prop}(hk:∀v ch,K v ch->K' v ch) (h:RN y xs V K):RN y xs V K':=by
 unfold RN at *
 split at h
 ·split at h
  ·split at h
   ·exact⟨h.1,hk _ _ h.2.1,hk _ _ h.2.2⟩
   ·exact h.elim
  ·exact h.elim
 ·exact h.elim
theorem R_ {v:AV}{K K':FuncId->List D->List D->Prop}(hk:∀f pre post,K f pre post->K' f pre post) (h:Uj E v K):Uj E v K':=by
 unfold Uj at *
 split at h
 ·exact⟨h.1,hk _ _ _ h.2⟩
 ·exact⟨h.1,hk _ _ _ h.2⟩
 ·exact h.elim
theorem GI:∀{p:PC}{Q Q':B2->BV->Prop}{s:BV},pw E p Q s->(∀e s,Q e s->Q' e s)->pw E p Q' s
 |.skip,Q,Q',s,h,hq=>hq _ _ h
 |.reg gs l ks,Q,Q',s,h,hq=>C8 (fun s' h'=>LV (fun s'' h''=>hq _ _ h'') h') h
 |.draw gs l ks,Q,Q',s,h,hq=>C8 (fun s' h'=>R7 (fun s'' h''=>hq _ _ h'') h') h
 |.any gs t ks,Q,Q',s,h,hq=>C8 (fun s' h'=>NA (fun s'' h''=>hq _ _ h'') h') h
 |.seq a b,Q,Q',s,h,hq=>GI (p:=a) h fun e s' h'=>by
  cases e with
  |normal=>exact GI (p:=b) h' hq
  |exit i=>exact hq _ _ h'
  |ret=>exact hq _ _ h'
 |.cond c a b,Q,Q',s,h,hq=>by
  simp only[pw,Qv] at h ⊢
  split at h
  ·exact⟨fun hb=>GI (h.1 hb) hq,fun hb=>GI (h.2 hb) hq⟩
  ·exact h.elim
 |.block id a,Q,Q',s,h,hq=>GI (p:=a) h fun e s' h'=>by
  cases e with
  |normal=>exact hq _ _ h'
  |ret=>exact hq _ _ h'
  |exit i =>
   simp only[Jb] at h' ⊢
   split at h'
   ·rename_i e;rw[if_pos e];exact hq _ _ h'
   ·rename_i e;rw[if_neg e];exact hq _ _ h'
 |.loop gs ks os a,Q,Q',s,h,hq=>by
  obtain⟨J,h0,h1⟩:=h
  refine⟨J,h0,fun n s' hJ=>GI (p:=a) (h1 n s' hJ) fun e s'' h'=>?_⟩
  cases e with
  |normal=>exact h'
  |exit i=>exact hq _ _ h'
  |ret=>exact hq _ _ h'
 |.exit id,Q,Q',s,h,hq=>hq _ _ h
 |.ret,Q,Q',s,h,hq=>hq _ _ h
 |.dead,Q,Q',s,h,hq=>h.elim
 |.scope a,Q,Q',s,h,hq=>GI (p:=a) h hq
 |.lab,Q,Q',s,h,hq=>hq _ _ h
 |.rngF gs g ps ks os b gs2 os2 a,Q,Q',s,h,hq=>C8 (fun s0 h0=>R_ (fun f pre post ⟨h1,els,h2,JJ,Pd,h3,h4,h5,h6,h7⟩ =>
  ⟨h1,els,h2,JJ,Pd,h3,h4,h5,fun V hV hJ=>hq _ _ (h6 V hV hJ),fun e V hV hP=>hq _ _ (h7 e V hV hP)⟩) h0) h
 |.yld gs l1 d y xs l2 ks,Q,Q',s,h,hq=>C8 (fun s0 h0=>LV (fun s1 h1=>Yb (fun v ch h2=>LV (fun s' h3=>hq _ _ h3) h2) h1) h0) h
theorem cN {α:Type}(St:α->BV) (Inv:α->Prop) (μ:α->Nat) {gs:List Ef}{ks os:List Nat}{a:PC}(x0:α) (h0:CS gs s fun s1=>s1.nrm ks os=St x0) (hI:Inv x0)
  (step:∀x,Inv x->pw E a (KK (fun s'=>CS gs s' fun s1=>∃y,s1.nrm ks os=St y/\Inv y/\μ y<μ x) Q) (St x)):pw E (.loop gs ks os a) Q s:=by
 refine⟨fun n s'=>∃x,s'=St x/\Inv x/\μ x=n,C8 (fun s1 h=>⟨μ x0,x0,h,hI,rfl⟩) h0,?_⟩
 rintro n s' ⟨x,rfl,hx,rfl⟩
 refine GI (step x hx) fun e s' h=>?_
 cases e with
 |normal =>
  refine C8 (fun s1 h=>?_) h
  obtain⟨y,h1,h2,h3⟩:=h
  exact⟨μ y,h3,y,h1,h2,rfl⟩
 |exit i=>exact h
 |ret=>exact h
theorem bA (l:List (Nat×AV)) (t:Nat) (v:AV):CF (Et l) t v=Et ((t,v)::l):=rfl
theorem i8 (l:List (Nat×(Nat×Aa))) (cn:Nat->Nat) (o:Nat):(AJ.mk (BW l) cn).drop o=⟨BW (l.filter fun p=>!(p.1 == o)),cn⟩:=by
 simp only[AJ.drop,AJ.mk.injEq,and_true]
 funext t
 induction l with
 |nil=>simp only[CF,List.filter_nil,BW];split<;>rfl
 |cons p l ih =>
  simp only[CF] at ih ⊢
  by_cases h:t=o
  ·subst h
   simp only[if_true] at ih ⊢
   by_cases h1:p.1=t
   ·simp[List.filter_cons,h1];simpa using ih
   ·have:(!(p.1 == t))=true:=by simpa using h1
    rw[List.filter_cons,if_pos this]
    obtain⟨k,v⟩:=p
    simp only[BW] at h1 ⊢
    rw[if_neg (Ne.symm h1)];exact ih
  ·simp only[if_neg h] at ih ⊢
   obtain⟨k,v⟩:=p
   by_cases h1:k=o
   ·subst h1
    have:(!((k,v).1 == k))=false:=by simp
    rw[List.filter_cons,if_neg (by simp),←ih]
    simp only[BW]
    rw[if_neg h]
   ·rw[List.filter_cons,if_pos (by simpa using h1)]
    simp only[BW]
    rw[ih]
def oH (f:Nat->AV) (V:AJ) (os ks:List Nat):List (Nat×AV):=ks.map fun k=>(k,(f k).nrm V os)
def EK (V:AJ) (os:List Nat):List Nat->List (Nat×(Nat×Aa))
 |[]=>[]
 |o::l=>match V.ob o with
  |some (_,x)=>(match x.nrm V os with|some y=>(o,(0,y))::EK V os l|none=>EK V os l)
  |none=>EK V os l
theorem cm (f:Nat->AV) (V:AJ) (ks os:List Nat):(BV.mk f V).nrm ks os=⟨Et (ks.map fun k=>(k,(f k).nrm V os)),⟨BW (EK V os os),fun _=>1⟩⟩:=by
 have h1:(fun t=>if ks.contains t then (f t).nrm V os else .undef)=Et (ks.map fun k=>(k,(f k).nrm V os)):=by
  funext t
  induction ks with
  |nil=>simp[Et]
  |cons k ks ih =>
   simp only[List.map_cons,LY,List.contains_cons]
   by_cases h:t=k
   ·subst h;simp
   ·have:(t == k)=false:=by simpa using h
    rw[this,Bool.false_or,if_neg h];exact ih
 have h2:∀l:List Nat,(fun o=>if l.contains o then (match V.ob o with
   |some (_,x)=>match x.nrm V os with|some y=>some (0,y)|none=>none
   |none=>none) else none)=BW (EK V os l):=by
  intro l
  funext t
  induction l with
  |nil=>simp[EK,BW]
  |cons k l ih =>
   simp only[List.contains_cons]
   have hnot:∀(t:Nat),V.ob t=none->BW (EK V os l) t=none:=by
    intro t ht
    clear ih
    induction l with
    |nil=>rfl
    |cons a l ih2 =>
     simp only[EK]
     cases ha:V.ob a with
     |none=>exact ih2
     |some p =>
      obtain⟨g,x⟩:=p
      simp only
      have hne:t≠a:=by rintro rfl;rw[ht] at ha;cases ha
      cases x.nrm V os with
      |none=>exact ih2
      |some y=>simp only[BW,if_neg hne];exact ih2
   have hnot2:∀(t g:Nat) (x:Aa),V.ob t=some (g,x)->x.nrm V os=none->BW (EK V os l) t=none:=by
    intro t g x ht hx
    clear ih hnot
    induction l with
    |nil=>rfl
    |cons a l ih2 =>
     simp only[EK]
     cases ha:V.ob a with
     |none=>exact ih2
     |some p =>
      obtain⟨g',x'⟩:=p
      simp only
      by_cases hne:t=a
      ·subst hne
       rw[ht] at ha;cases ha
       rw[hx];exact ih2
      ·cases x'.nrm V os with
       |none=>exact ih2
       |some y=>simp only[BW,if_neg hne];exact ih2
   by_cases h:t=k
   ·subst h
    simp only[beq_self_eq_true,Bool.true_or,if_true,EK]
    cases hk:V.ob t with
    |none=>simp only;exact(hnot t hk).symm
    |some p =>
     obtain⟨g,x⟩:=p
     simp only
     cases hx:x.nrm V os with
     |none=>simp only;exact(hnot2 t g x hk hx).symm
     |some y=>simp[BW]
   ·have:(t == k)=false:=by simpa using h
    rw[this,Bool.false_or]
    simp only[EK]
    cases V.ob k with
    |none=>exact ih
    |some p =>
     obtain⟨g,x⟩:=p
     simp only
     cases x.nrm V os with
     |none=>exact ih
     |some y=>simp only[BW,if_neg h];exact ih
 show BV.mk _ _=_
 rw[h1,AJ.nrm]
 exact congrArg (fun ob=>BV.mk _ ⟨ob,fun _=>1⟩) (h2 os)
theorem Ws (V:AJ) (os:List Nat):EK V os []=[]:=rfl
theorem U3 (V:AJ) (os:List Nat) (o:Nat) (l:List Nat):EK V os (o::l)=match V.ob o with
 |some (_,x)=>(match x.nrm V os with|some y=>(o,(0,y))::EK V os l|none=>EK V os l)
 |none=>EK V os l:=rfl
theorem cf {V:AJ} {os ety es nl l}:(Aa.row ety es nl l).nrm V os=some (.row ety es nl l):=rfl
theorem cg {V:AJ} {os a b c d e}:(Aa.mat a b c d e).nrm V os=some (.mat a b c d e):=rfl
theorem ci {V:AJ} {os k o g}:(AV.mref k o g).nrm V os=if AV.nrm.live V os o g then .mref k o 0 else .undef:=rfl
theorem co {V:AJ} {os sl cs off}:(AV.ablk sl cs off).nrm V os=if (AV.nrm.nrmL V os cs).all AV.one then .ablk sl (AV.nrm.nrmL V os cs) off else .undef:=rfl
theorem Wd {V:AJ} {os xs}:(Aa.cells xs).nrm V os=if (xs.map (AV.nrm V os)).all AV.one then some (.cells (xs.map (AV.nrm V os))) else none:=rfl
theorem mR {V:AJ} {os x}:(AV.d x).nrm V os=.d x:=rfl
theorem ZS {V:AJ} {os}:AV.undef.nrm V os=.undef:=rfl
theorem go {V:AJ} {os o g}:(AV.own o g).nrm V os=if AV.nrm.live V os o g then .own o 0 else .undef:=rfl
theorem gn {V:AJ} {os o g off}:(AV.ptr o g off).nrm V os=if AV.nrm.live V os o g then .ptr o 0 off else .undef:=rfl
theorem kn {V:AJ} {os f cs}:(AV.fn f cs).nrm V os=.fn f (AV.nrm.nrmL V os cs):=rfl
theorem cq {V:AJ} {os}:AV.nrm.nrmL V os []=[]:=rfl
theorem ZT {V:AJ} {os x xs}:AV.nrm.nrmL V os (x::xs)=x.nrm V os::AV.nrm.nrmL V os xs:=rfl
theorem h_ {V:AJ}{os:List Nat}{o g:Nat}:AV.nrm.live V os o g=(os.contains o && match V.ob o with|some (g',_)=>g' == g|none=>false):=rfl
end Go.Pw
