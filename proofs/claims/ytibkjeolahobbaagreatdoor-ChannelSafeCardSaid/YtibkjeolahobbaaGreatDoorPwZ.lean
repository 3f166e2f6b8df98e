/- A part of the proof. -/
import Derived.Test.YtibkjeolahobbaaGreatDoorPwY
set_option linter.all false
namespace Go.Pw
set_option linter.unusedSimpArgs false
set_option linter.unusedVariables false
def Eg:List (Nat×AV)→Nat→AV
 |[]=>fun _=>.undef
 |(k,v) :: l=>fun t=>if t=k then v else Eg l t
theorem LC (k:Nat) (v:AV) (l:List (Nat×AV)) (t:Nat):Eg ((k,v) :: l) t=if t=k then v else Eg l t:=rfl
theorem cF (t:Nat):Eg [] t=.undef:=rfl
theorem WP (k:Nat) (v:Nat×Aa) (l:List (Nat×(Nat×Aa))) (t:Nat):BS ((k,v) :: l) t=if t=k then some v else BS l t:=rfl
theorem Y8 (t:Nat):BS [] t=none:=rfl
theorem bZ (l:List (Nat×AV)) (V:AN) (t:Nat) (v:AV) (ch:Bt):put ⟨Eg l,V⟩ (some t) v ch=⟨Eg ((t,v) :: l),V.app ch⟩:=rfl
theorem ba (f:Nat→AV) (V:AN) (v:AV) (ch:Bt):put ⟨f,V⟩ none v ch=⟨f,V.app ch⟩:=rfl
theorem d0 (V:AN):V.app .none=V:=rfl
theorem iY (V:AN) (a b:Bt):V.app (.seq a b)=(V.app a).app b:=rfl
theorem d4 (l:List (Nat×(Nat×Aa))) (cn:Nat→Nat) (o g:Nat) (x:Aa):(AN.mk (BS l) cn).app (.keep o g x)=⟨BS ((o,(g,x)) :: l),cn⟩:=rfl
theorem Z5 (l:List (Nat×(Nat×Aa))) (cn:Nat→Nat) (o:Nat) (x:Aa):(AN.mk (BS l) cn).app (.fresh o x)=⟨BS ((o,(cn o,x)) :: l),B9 cn o (cn o+1)⟩:=rfl
theorem kT (ob:Nat→Option (Nat×Aa)) (cn:Nat→Nat) (o g:Nat):(AN.mk ob cn).get o g=match ob o with|some (g',x)=>if g=g' then some x else none|none=>none:=rfl
theorem AW (ds:List D):BR.enter ds=⟨Eg (ds.zipIdx.map fun(d,k)=>(k,.d d)),⟨BS [],fun _=>0⟩⟩:=by
 have key:∀(ds:List D) (n t:Nat),Eg ((ds.zipIdx n).map fun(d,k)=>(k,.d d)) t=if t < n then .undef else (match ds[t - n]? with|some d=>.d d|none=>.undef):=by
  intro ds
  induction ds with
  |nil=>intro n t;simp [Eg]
  |cons d ds ih =>
   intro n t
   simp only [List.zipIdx_cons,List.map_cons,LC]
   rw [ih]
   by_cases h:t=n
   ·subst h;simp
   ·by_cases h2:t < n
    ·simp [h,h2,Nat.lt_succ_of_lt h2]
    ·have h3:¬t < n+1:=by omega
     have h4:t - n=(t - (n+1))+1:=by omega
     simp only [h,h2,h3,if_false]
     rw [h4,List.getElem?_cons_succ]
 unfold BR.enter
 congr 1
 funext t
 rw [key];simp
 cases ds[t]?<;>rfl
theorem gV (f:Nat→AV) (V:AN) (ks:List Nat):(BR.mk f V).keep ks=⟨Eg (ks.map fun k=>(k,f k)),V⟩:=by
 unfold BR.keep
 congr 1
 funext t
 induction ks with
 |nil=>simp [Eg]
 |cons k ks ih =>
  simp only [List.map_cons,LC,List.contains_cons]
  by_cases h:t=k
  ·subst h;simp
  ·have:(t == k)=false:=by simpa using h
   rw [this,Bool.false_or,if_neg h];exact ih
variable {E:Ci} {Q:Bv→BR→Prop} {s s':BR} {K:AV→Bt→Prop} {KS:BR→Prop}
theorem XA (b:Bool) (A B:Prop):QK (.d (.bool b)) A B=HA b A B:=rfl
theorem jx {gs l1 d y xs l2 ks}:pw E (.yld gs l1 d y xs l2 ks) Q s=CK gs s fun s0=>J8 E l1 s0 fun s1=>Qp (y.val s1.sl) (xs.map (Kq.val s1.sl)) s1.V fun v ch=>J8 E l2 (put s1 d v ch) fun s'=>Q .normal (s'.keep ks):=rfl
theorem fj:pw E .dead Q s=False:=rfl
theorem fe:pw E .skip Q s=Q .normal s:=rfl
theorem j0 {gs l ks}:pw E (.reg gs l ks) Q s=CK gs s fun s'=>J8 E l s' fun s'=>Q .normal (s'.keep ks):=rfl
theorem fh {gs l ks}:pw E (.draw gs l ks) Q s=CK gs s fun s'=>Qt E l [] s' fun s'=>Q .normal (s'.keep ks):=rfl
theorem jy {a b}:pw E (.seq a b) Q s=pw E a (J2 (pw E b Q) Q) s:=rfl
theorem fk {c a b}:pw E (.cond c a b) Q s=QK (c.val s.sl) (pw E a Q s) (pw E b Q s):=rfl
theorem bX {id a}:pw E (.block id a) Q s=pw E a (JH id Q) s:=rfl
theorem fg {id}:pw E (.exit id) Q s=Q (.exit id) s:=rfl
theorem jz:pw E .ret Q s=Q .ret s:=rfl
theorem SG {A:BR→Prop}:J2 A Q .normal s=A s:=rfl
theorem Vk {A:BR→Prop} {i}:J2 A Q (.exit i) s=Q (.exit i) s:=rfl
theorem YE {A:BR→Prop}:J2 A Q .ret s=Q .ret s:=rfl
theorem Q_ {i}:JH i Q .normal s=Q .normal s:=rfl
theorem XG {i}:JH i Q .ret s=Q .ret s:=rfl
theorem VF {i j}:JH i Q (.exit j) s=if j=i then Q .normal s else Q (.exit j) s:=rfl
theorem Wb:CK [] s KS=KS s:=rfl
theorem Ui {g gs}:CK (g :: gs) s KS=Eu g s fun s'=>CK gs s' KS:=rfl
theorem a_:J8 E [] s KS=KS s:=rfl
theorem Yd {I l}:J8 E (I :: l) s KS=EC E I s fun v ch=>J8 E l (put s I.dst v ch) KS:=rfl
theorem Tl {d op xs} {sl:Nat→AV} {V:AN}:EC E ⟨d,none,op,xs⟩ ⟨sl,V⟩ K=ev E d V op (xs.map (Kq.val sl)) K:=rfl
section
variable {dst:Option Nat} {V:AN}
theorem kf {x}:ev E dst V .mov [x] K=K x .none:=rfl
theorem g6 {c x y}:ev E dst V .pick [.d (.bool c),x,y] K=HA c (K x .none) (K y .none):=rfl
theorem ki {b k k' x y}:ev E dst V (.bin b) [.d (.int k x),.d (.int k' y)] K=C6 b k k' x y (K · .none):=rfl
theorem ke {b}:ev E dst V (.un .not) [.d (.bool b)] K=K (.d (.bool (!b))) .none:=rfl
end
theorem Lt {I:GM} {K K':AV→Bt→Prop} (h:EC E I s K) (hk:∀v ch,K v ch→K' v ch):EC E I s K':=by
 obtain⟨v,ch,h1,_,h3⟩:=RK h
 exact h3 s K' (fun _ _=>rfl) (fun _ _=>⟨rfl,rfl⟩) (hk v ch h1)
theorem K_ {KS KS':BR→Prop} (hk:∀s,KS s→KS' s):∀{l:List GM} {s:BR},J8 E l s KS→J8 E l s KS'
 |[],s,h=>hk s h
 |I :: l,s,h=>Lt h fun v ch h'=>K_ hk h'
theorem RY {KS KS':BR→Prop} (hk:∀s,KS s→KS' s):∀{l:List (GM×List Nat)} {r:List Qn} {s:BR},Qt E l r s KS→Qt E l r s KS'
 |[],r,s,h=>hk s h
 |(I,dy) :: l,r,s,h=>Lt h fun v ch h'=>⟨h'.1,RY hk h'.2⟩
theorem Wc {KS KS':BR→Prop} (hk:∀s,KS s→KS' s) {g:EU} (h:Eu g s KS):Eu g s KS':=by
 unfold Eu at *
 split at h
 ·split at h
  ·split at h
   ·exact hk _ h
   ·exact h.elim
  ·exact hk _ h
 ·split at h
  ·split at h
   ·split at h
    ·exact hk _ h
    ·exact h.elim
   ·exact h.elim
  ·exact hk _ h
 ·split at h
  ·split at h
   ·split at h
    ·exact hk _ h
    ·exact h.elim
   ·exact hk _ h
  ·exact hk _ h
 ·split at h
  ·split at h
   ·exact hk _ h
   ·exact h.elim
  ·exact hk _ h
 ·split at h
  ·split at h
   ·exact hk _ h
   ·exact h.elim
  ·exact hk _ h
 ·split at h
  ·split at h
   ·split at h
    ·split at h
     ·exact hk _ h
     ·exact h.elim
    ·exact hk _ h
   ·exact hk _ h
  ·exact hk _ h
 ·split at h
  ·exact⟨h.1,hk _ h.2⟩
  ·exact hk _ h
 ·split at h
  ·exact⟨h.1,hk _ h.2⟩
  ·exact hk _ h
 ·split at h
  ·split at h
   ·split at h
    ·exact⟨h.1,h.2.1,hk _ h.2.2⟩
    ·exact hk _ h
   ·exact hk _ h
  ·exact hk _ h
 ·exact hk _ h
 ·exact hk _ h
theorem Mi {KS KS':BR→Prop} (hk:∀s,KS s→KS' s):∀{t:eE} {s:BR},Sc E t s KS→Sc E t s KS'
 |.done,s,h=>hk s h
 |.step I r,s,h=>Lt h fun v ch h'=>Mi hk h'
 |.both a b,s,h=>⟨Mi hk h.1,Mi hk h.2⟩
theorem C2:∀{gs:List EU} {s:BR} {KS KS':BR→Prop},(∀s,KS s→KS' s)→CK gs s KS→CK gs s KS'
 |[],s,_,_,hk,h=>hk s h
 |g :: gs,s,_,_,hk,h=>Wc (fun s' h'=>C2 hk h') h
theorem X9 {y:AV} {xs:List AV} {V:AN} {K K':AV→Bt→Prop} (hk:∀v ch,K v ch→K' v ch) (h:Qp y xs V K):Qp y xs V K':=by
 unfold Qp at *
 split at h
 ·split at h
  ·split at h
   ·exact⟨h.1,hk _ _ h.2.1,hk _ _ h.2.2⟩
   ·exact h.elim
  ·exact h.elim
 ·exact h.elim
theorem Ra {v:AV} {K K':FuncId→List D→List D→Prop} (hk:∀f pre post,K f pre post→K' f pre post) (h:UC E v K):UC E v K':=by
 unfold UC at *
 split at h
 ·exact⟨h.1,hk _ _ _ h.2⟩
 ·exact⟨h.1,hk _ _ _ h.2⟩
 ·exact h.elim
theorem F1:∀{p:PC} {Q Q':Bv→BR→Prop} {s:BR},pw E p Q s→(∀e s,Q e s→Q' e s)→pw E p Q' s
 |.skip,Q,Q',s,h,hq=>hq _ _ h
 |.reg gs l ks,Q,Q',s,h,hq=>C2 (fun s' h'=>K_ (fun s'' h''=>hq _ _ h'') h') h
 |.draw gs l ks,Q,Q',s,h,hq=>C2 (fun s' h'=>RY (fun s'' h''=>hq _ _ h'') h') h
 |.any gs t ks,Q,Q',s,h,hq=>C2 (fun s' h'=>Mi (fun s'' h''=>hq _ _ h'') h') h
 |.seq a b,Q,Q',s,h,hq=>F1 (p:=a) h fun e s' h'=>by
  cases e with
  |normal=>exact F1 (p:=b) h' hq
  |exit i=>exact hq _ _ h'
  |ret=>exact hq _ _ h'
 |.cond c a b,Q,Q',s,h,hq=>by
  simp only [pw,QK] at h ⊢
  split at h
  ·exact⟨fun hb=>F1 (h.1 hb) hq,fun hb=>F1 (h.2 hb) hq⟩
  ·exact h.elim
 |.block id a,Q,Q',s,h,hq=>F1 (p:=a) h fun e s' h'=>by
  cases e with
  |normal=>exact hq _ _ h'
  |ret=>exact hq _ _ h'
  |exit i =>
   simp only [JH] at h' ⊢
   split at h'
   ·rename_i e;rw [if_pos e];exact hq _ _ h'
   ·rename_i e;rw [if_neg e];exact hq _ _ h'
 |.loop gs ks os a,Q,Q',s,h,hq=>by
  obtain⟨J,h0,h1⟩:=h
  refine⟨J,h0,fun n s' hJ=>F1 (p:=a) (h1 n s' hJ) fun e s'' h'=>?_⟩
  cases e with
  |normal=>exact h'
  |exit i=>exact hq _ _ h'
  |ret=>exact hq _ _ h'
 |.exit id,Q,Q',s,h,hq=>hq _ _ h
 |.ret,Q,Q',s,h,hq=>hq _ _ h
 |.dead,Q,Q',s,h,hq=>h.elim
 |.scope a,Q,Q',s,h,hq=>F1 (p:=a) h hq
 |.lab,Q,Q',s,h,hq=>hq _ _ h
 |.rngF gs g ps ks os b gs2 os2 a,Q,Q',s,h,hq=>C2 (fun s0 h0=>Ra (fun f pre post ⟨h1,els,h2,JJ,Pd,h3,h4,h5,h6,h7⟩ =>
  ⟨h1,els,h2,JJ,Pd,h3,h4,h5,fun V hV hJ=>hq _ _ (h6 V hV hJ),fun e V hV hP=>hq _ _ (h7 e V hV hP)⟩) h0) h
 |.yld gs l1 d y xs l2 ks,Q,Q',s,h,hq=>C2 (fun s0 h0=>K_ (fun s1 h1=>X9 (fun v ch h2=>K_ (fun s' h3=>hq _ _ h3) h2) h1) h0) h
theorem bV {α:Type} (St:α→BR) (Inv:α→Prop) (μ:α→Nat) {gs:List EU} {ks os:List Nat} {a:PC} (x0:α) (h0:CK gs s fun s1=>s1.nrm ks os=St x0) (hI:Inv x0)
  (step:∀x,Inv x→pw E a (J2 (fun s'=>CK gs s' fun s1=>∃y,s1.nrm ks os=St y∧Inv y∧μ y < μ x) Q) (St x)):pw E (.loop gs ks os a) Q s:=by
 refine⟨fun n s'=>∃x,s'=St x∧Inv x∧μ x=n,C2 (fun s1 h=>⟨μ x0,x0,h,hI,rfl⟩) h0,?_⟩
 rintro n s' ⟨x,rfl,hx,rfl⟩
 refine F1 (step x hx) fun e s' h=>?_
 cases e with
 |normal =>
  refine C2 (fun s1 h=>?_) h
  obtain⟨y,h1,h2,h3⟩:=h
  exact⟨μ y,h3,y,h1,h2,rfl⟩
 |exit i=>exact h
 |ret=>exact h
theorem aS (l:List (Nat×AV)) (t:Nat) (v:AV):B9 (Eg l) t v=Eg ((t,v) :: l):=rfl
theorem iA (l:List (Nat×(Nat×Aa))) (cn:Nat→Nat) (o:Nat):(AN.mk (BS l) cn).drop o=⟨BS (l.filter fun p=>!(p.1 == o)),cn⟩:=by
 simp only [AN.drop,AN.mk.injEq,and_true]
 funext t
 induction l with
 |nil=>simp only [B9,List.filter_nil,BS];split<;>rfl
 |cons p l ih =>
  simp only [B9] at ih ⊢
  by_cases h:t=o
  ·subst h
   simp only [if_true] at ih ⊢
   by_cases h1:p.1=t
   ·simp [List.filter_cons,h1];simpa using ih
   ·have:(!(p.1 == t))=true:=by simpa using h1
    rw [List.filter_cons,if_pos this]
    obtain⟨k,v⟩:=p
    simp only [BS] at h1 ⊢
    rw [if_neg (Ne.symm h1)];exact ih
  ·simp only [if_neg h] at ih ⊢
   obtain⟨k,v⟩:=p
   by_cases h1:k=o
   ·subst h1
    have:(!((k,v).1 == k))=false:=by simp
    rw [List.filter_cons,if_neg (by simp),←ih]
    simp only [BS]
    rw [if_neg h]
   ·rw [List.filter_cons,if_pos (by simpa using h1)]
    simp only [BS]
    rw [ih]
def my (f:Nat→AV) (V:AN) (os ks:List Nat):List (Nat×AV):=ks.map fun k=>(k,(f k).nrm V os)
def D_ (V:AN) (os:List Nat):List Nat→List (Nat×(Nat×Aa))
 |[]=>[]
 |o :: l=>match V.ob o with
  |some (_,x)=>(match x.nrm V os with|some y=>(o,(0,y)) :: D_ V os l|none=>D_ V os l)
  |none=>D_ V os l
theorem bl (f:Nat→AV) (V:AN) (ks os:List Nat):(BR.mk f V).nrm ks os=⟨Eg (ks.map fun k=>(k,(f k).nrm V os)),⟨BS (D_ V os os),fun _=>1⟩⟩:=by
 have h1:(fun t=>if ks.contains t then (f t).nrm V os else .undef)=Eg (ks.map fun k=>(k,(f k).nrm V os)):=by
  funext t
  induction ks with
  |nil=>simp [Eg]
  |cons k ks ih =>
   simp only [List.map_cons,LC,List.contains_cons]
   by_cases h:t=k
   ·subst h;simp
   ·have:(t == k)=false:=by simpa using h
    rw [this,Bool.false_or,if_neg h];exact ih
 have h2:∀l:List Nat,(fun o=>if l.contains o then (match V.ob o with
   |some (_,x)=>match x.nrm V os with|some y=>some (0,y)|none=>none
   |none=>none) else none)=BS (D_ V os l):=by
  intro l
  funext t
  induction l with
  |nil=>simp [D_,BS]
  |cons k l ih =>
   simp only [List.contains_cons]
   have hnot:∀(t:Nat),V.ob t=none→BS (D_ V os l) t=none:=by
    intro t ht
    clear ih
    induction l with
    |nil=>rfl
    |cons a l ih2 =>
     simp only [D_]
     cases ha:V.ob a with
     |none=>exact ih2
     |some p =>
      obtain⟨g,x⟩:=p
      simp only
      have hne:t≠a:=by rintro rfl;rw [ht] at ha;cases ha
      cases x.nrm V os with
      |none=>exact ih2
      |some y=>simp only [BS,if_neg hne];exact ih2
   have hnot2:∀(t g:Nat) (x:Aa),V.ob t=some (g,x)→x.nrm V os=none→BS (D_ V os l) t=none:=by
    intro t g x ht hx
    clear ih hnot
    induction l with
    |nil=>rfl
    |cons a l ih2 =>
     simp only [D_]
     cases ha:V.ob a with
     |none=>exact ih2
     |some p =>
      obtain⟨g',x'⟩:=p
      simp only
      by_cases hne:t=a
      ·subst hne
       rw [ht] at ha;cases ha
       rw [hx];exact ih2
      ·cases x'.nrm V os with
       |none=>exact ih2
       |some y=>simp only [BS,if_neg hne];exact ih2
   by_cases h:t=k
   ·subst h
    simp only [beq_self_eq_true,Bool.true_or,if_true,D_]
    cases hk:V.ob t with
    |none=>simp only;exact(hnot t hk).symm
    |some p =>
     obtain⟨g,x⟩:=p
     simp only
     cases hx:x.nrm V os with
     |none=>simp only;exact(hnot2 t g x hk hx).symm
     |some y=>simp [BS]
   ·have:(t == k)=false:=by simpa using h
    rw [this,Bool.false_or]
    simp only [D_]
    cases V.ob k with
    |none=>exact ih
    |some p =>
     obtain⟨g,x⟩:=p
     simp only
     cases x.nrm V os with
     |none=>exact ih
     |some y=>simp only [BS,if_neg h];exact ih
 show BR.mk _ _=_
 rw [h1,AN.nrm]
 exact congrArg (fun ob=>BR.mk _ ⟨ob,fun _=>1⟩) (h2 os)
theorem WQ (V:AN) (os:List Nat):D_ V os []=[]:=rfl
theorem UZ (V:AN) (os:List Nat) (o:Nat) (l:List Nat):D_ V os (o :: l)=match V.ob o with
 |some (_,x)=>(match x.nrm V os with|some y=>(o,(0,y)) :: D_ V os l|none=>D_ V os l)
 |none=>D_ V os l:=rfl
theorem bh {V:AN} {os ety es nl l}:(Aa.row ety es nl l).nrm V os=some (.row ety es nl l):=rfl
theorem bi {V:AN} {os a b c d e}:(Aa.mat a b c d e).nrm V os=some (.mat a b c d e):=rfl
theorem bj {V:AN} {os k o g}:(AV.mref k o g).nrm V os=if AV.nrm.live V os o g then .mref k o 0 else .undef:=rfl
theorem bm {V:AN} {os sl cs off}:(AV.ablk sl cs off).nrm V os=if (AV.nrm.nrmL V os cs).all AV.one then .ablk sl (AV.nrm.nrmL V os cs) off else .undef:=rfl
theorem WB {V:AN} {os xs}:(Aa.cells xs).nrm V os=if (xs.map (AV.nrm V os)).all AV.one then some (.cells (xs.map (AV.nrm V os))) else none:=rfl
theorem lP {V:AN} {os x}:(AV.d x).nrm V os=.d x:=rfl
theorem Y1 {V:AN} {os}:AV.undef.nrm V os=.undef:=rfl
theorem f8 {V:AN} {os o g}:(AV.own o g).nrm V os=if AV.nrm.live V os o g then .own o 0 else .undef:=rfl
theorem f7 {V:AN} {os o g off}:(AV.ptr o g off).nrm V os=if AV.nrm.live V os o g then .ptr o 0 off else .undef:=rfl
theorem kA {V:AN} {os f cs}:(AV.fn f cs).nrm V os=.fn f (AV.nrm.nrmL V os cs):=rfl
theorem bn {V:AN} {os}:AV.nrm.nrmL V os []=[]:=rfl
theorem Y2 {V:AN} {os x xs}:AV.nrm.nrmL V os (x :: xs)=x.nrm V os :: AV.nrm.nrmL V os xs:=rfl
theorem gP {V:AN} {os:List Nat} {o g:Nat}:AV.nrm.live V os o g=(os.contains o && match V.ob o with|some (g',_)=>g' == g|none=>false):=rfl
end Go.Pw
