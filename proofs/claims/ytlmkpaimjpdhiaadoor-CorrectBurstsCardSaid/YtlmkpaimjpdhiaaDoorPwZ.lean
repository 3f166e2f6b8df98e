/- A part of the proof. -/
import Derived.Test.YtlmkpaimjpdhiaaDoorPwY
set_option linter.all false
namespace Go.Pw
set_option linter.unusedSimpArgs false
set_option linter.unusedVariables false
def Fp:List (Nat×AV)→Nat→AV
 |[]=>fun _=>.undef
 |(k,v) :: l=>fun t=>if t=k then v else Fp l t
theorem Jq (k:Nat) (v:AV) (l:List (Nat×AV)) (t:Nat):Fp ((k,v) :: l) t=if t=k then v else Fp l t:=rfl
theorem YA (t:Nat):Fp [] t=.undef:=rfl
theorem Tc (k:Nat) (v:Nat×AX) (l:List (Nat×(Nat×AX))) (t:Nat):Bg ((k,v) :: l) t=if t=k then some v else Bg l t:=rfl
theorem V4 (t:Nat):Bg [] t=none:=rfl
theorem Xn (l:List (Nat×AV)) (V:AN) (t:Nat) (v:AV) (ch:Bd):put ⟨Fp l,V⟩ (some t) v ch=⟨Fp ((t,v) :: l),V.app ch⟩:=rfl
theorem Xo (f:Nat→AV) (V:AN) (v:AV) (ch:Bd):put ⟨f,V⟩ none v ch=⟨f,V.app ch⟩:=rfl
theorem ZM (V:AN):V.app .none=V:=rfl
theorem bZ (V:AN) (a b:Bd):V.app (.seq a b)=(V.app a).app b:=rfl
theorem ZN (l:List (Nat×(Nat×AX))) (cn:Nat→Nat) (o g:Nat) (x:AX):(AN.mk (Bg l) cn).app (.keep o g x)=⟨Bg ((o,(g,x)) :: l),cn⟩:=rfl
theorem Wp (l:List (Nat×(Nat×AX))) (cn:Nat→Nat) (o:Nat) (x:AX):(AN.mk (Bg l) cn).app (.fresh o x)=⟨Bg ((o,(cn o,x)) :: l),B2 cn o (cn o+1)⟩:=rfl
theorem dP (ob:Nat→Option (Nat×AX)) (cn:Nat→Nat) (o g:Nat):(AN.mk ob cn).get o g=match ob o with|some (g',x)=>if g=g' then some x else none|none=>none:=rfl
theorem AR (ds:List D):Aw.enter ds=⟨Fp (ds.zipIdx.map fun(d,k)=>(k,.d d)),⟨Bg [],fun _=>0⟩⟩:=by
 have key:∀(ds:List D) (n t:Nat),Fp ((ds.zipIdx n).map fun(d,k)=>(k,.d d)) t=if t < n then .undef else (match ds[t - n]? with|some d=>.d d|none=>.undef):=by
  intro ds
  induction ds with
  |nil=>intro n t;simp [Fp]
  |cons d ds ih =>
   intro n t
   simp only [List.zipIdx_cons,List.map_cons,Jq]
   rw [ih]
   by_cases h:t=n
   ·subst h;simp
   ·by_cases h2:t < n
    ·simp [h,h2,Nat.lt_succ_of_lt h2]
    ·have h3:¬t < n+1:=by omega
     have h4:t - n=(t - (n+1))+1:=by omega
     simp only [h,h2,h3,if_false]
     rw [h4,List.getElem?_cons_succ]
 unfold Aw.enter
 congr 1
 funext t
 rw [key];simp
 cases ds[t]?<;>rfl
theorem aY (f:Nat→AV) (V:AN) (ks:List Nat):(Aw.mk f V).keep ks=⟨Fp (ks.map fun k=>(k,f k)),V⟩:=by
 unfold Aw.keep
 congr 1
 funext t
 induction ks with
 |nil=>simp [Fp]
 |cons k ks ih =>
  simp only [List.map_cons,Jq,List.contains_cons]
  by_cases h:t=k
  ·subst h;simp
  ·have:(t == k)=false:=by simpa using h
   rw [this,Bool.false_or,if_neg h];exact ih
variable {E:CZ} {Q:Bn→Aw→Prop} {s s':Aw} {K:AV→Bd→Prop} {KS:Aw→Prop}
theorem UJ (b:Bool) (A B:Prop):OH (.d (.bool b)) A B=GZ b A B:=rfl
theorem aA:pw E .dead Q s=False:=rfl
theorem Z9:pw E .skip Q s=Q .normal s:=rfl
theorem cw {gs l ks}:pw E (.reg gs l ks) Q s=CT gs s fun s'=>Kg E l s' fun s'=>Q .normal (s'.keep ks):=rfl
theorem Z' {gs l ks}:pw E (.draw gs l ks) Q s=CT gs s fun s'=>Om E l [] s' fun s'=>Q .normal (s'.keep ks):=rfl
theorem cu {a b}:pw E (.seq a b) Q s=pw E a (Iy (pw E b Q) Q) s:=rfl
theorem aB {c a b}:pw E (.cond c a b) Q s=OH (c.val s.sl) (pw E a Q s) (pw E b Q s):=rfl
theorem Xm {id a}:pw E (.block id a) Q s=pw E a (II id Q) s:=rfl
theorem Z_ {id}:pw E (.exit id) Q s=Q (.exit id) s:=rfl
theorem cv:pw E .ret Q s=Q .ret s:=rfl
theorem P1 {A:Aw→Prop}:Iy A Q .normal s=A s:=rfl
theorem S3 {A:Aw→Prop} {i}:Iy A Q (.exit i) s=Q (.exit i) s:=rfl
theorem VL {A:Aw→Prop}:Iy A Q .ret s=Q .ret s:=rfl
theorem O0 {i}:II i Q .normal s=Q .normal s:=rfl
theorem UN {i}:II i Q .ret s=Q .ret s:=rfl
theorem SW {i j}:II i Q (.exit j) s=if j=i then Q .normal s else Q (.exit j) s:=rfl
theorem Tr:CT [] s KS=KS s:=rfl
theorem R8 {g gs}:CT (g :: gs) s KS=EO g s fun s'=>CT gs s' KS:=rfl
theorem XW:Kg E [] s KS=KS s:=rfl
theorem Ve {I l}:Kg E (I :: l) s KS=Dr E I s fun v ch=>Kg E l (put s I.dst v ch) KS:=rfl
theorem RM {d op xs} {sl:Nat→AV} {V:AN}:Dr E ⟨d,none,op,xs⟩ ⟨sl,V⟩ K=ev E d V op (xs.map (KB.val sl)) K:=rfl
section
variable {dst:Option Nat} {V:AN}
theorem da {x}:ev E dst V .mov [x] K=K x .none:=rfl
theorem a_ {c x y}:ev E dst V .pick [.d (.bool c),x,y] K=GZ c (K x .none) (K y .none):=rfl
theorem df {b k k' x y}:ev E dst V (.bin b) [.d (.int k x),.d (.int k' y)] K=Cr b k k' x y (K · .none):=rfl
theorem dZ {b}:ev E dst V (.un .not) [.d (.bool b)] K=K (.d (.bool (!b))) .none:=rfl
end
theorem Kf {I:Fm} {K K':AV→Bd→Prop} (h:Dr E I s K) (hk:∀v ch,K v ch→K' v ch):Dr E I s K':=by
 obtain⟨v,ch,h1,_,h3⟩:=O8 h
 exact h3 s K' (fun _ _=>rfl) (fun _ _=>⟨rfl,rfl⟩) (hk v ch h1)
theorem Jm {KS KS':Aw→Prop} (hk:∀s,KS s→KS' s):∀{l:List Fm} {s:Aw},Kg E l s KS→Kg E l s KS'
 |[],s,h=>hk s h
 |I :: l,s,h=>Kf h fun v ch h'=>Jm hk h'
theorem PF {KS KS':Aw→Prop} (hk:∀s,KS s→KS' s):∀{l:List (Fm×List Nat)} {r:List Oh} {s:Aw},Om E l r s KS→Om E l r s KS'
 |[],r,s,h=>hk s h
 |(I,dy) :: l,r,s,h=>Kf h fun v ch h'=>⟨h'.1,PF hk h'.2⟩
theorem Tt {KS KS':Aw→Prop} (hk:∀s,KS s→KS' s) {g:Eg} (h:EO g s KS):EO g s KS':=by
 unfold EO at *
 split at h
 ·split at h
  ·split at h
   ·exact hk _ h
   ·exact h.elim
  ·exact hk _ h
 ·split at h
  ·split at h
   ·split at h
    ·exact hk _ h
    ·exact h.elim
   ·exact h.elim
  ·exact hk _ h
 ·split at h
  ·split at h
   ·split at h
    ·exact hk _ h
    ·exact h.elim
   ·exact hk _ h
  ·exact hk _ h
 ·split at h
  ·split at h
   ·exact hk _ h
   ·exact h.elim
  ·exact hk _ h
 ·split at h
  ·split at h
   ·exact hk _ h
   ·exact h.elim
  ·exact hk _ h
 ·split at h
  ·split at h
   ·split at h
    ·split at h
     ·exact hk _ h
     ·exact h.elim
    ·exact hk _ h
   ·exact hk _ h
  ·exact hk _ h
 ·split at h
  ·exact⟨h.1,hk _ h.2⟩
  ·exact hk _ h
 ·split at h
  ·exact⟨h.1,hk _ h.2⟩
  ·exact hk _ h
 ·split at h
  ·split at h
   ·split at h
    ·exact⟨h.1,h.2.1,hk _ h.2.2⟩
    ·exact hk _ h
   ·exact hk _ h
  ·exact hk _ h
 ·exact hk _ h
 ·exact hk _ h
theorem LO {KS KS':Aw→Prop} (hk:∀s,KS s→KS' s):∀{t:ZV} {s:Aw},QJ E t s KS→QJ E t s KS'
 |.done,s,h=>hk s h
 |.step I r,s,h=>Kf h fun v ch h'=>LO hk h'
 |.both a b,s,h=>⟨LO hk h.1,LO hk h.2⟩
theorem DP:∀{gs:List Eg} {s:Aw} {KS KS':Aw→Prop},(∀s,KS s→KS' s)→CT gs s KS→CT gs s KS'
 |[],s,_,_,hk,h=>hk s h
 |g :: gs,s,_,_,hk,h=>Tt (fun s' h'=>DP hk h') h
theorem VF {y:AV} {xs:List AV} {V:AN} {K K':AV→Bd→Prop} (hk:∀v ch,K v ch→K' v ch) (h:W3 y xs V K):W3 y xs V K':=by
 unfold W3 at *
 split at h
 ·split at h
  ·split at h
   ·exact⟨h.1,hk _ _ h.2.1,hk _ _ h.2.2⟩
   ·exact h.elim
  ·exact h.elim
 ·exact h.elim
theorem Vg {v:AV} {K K':FuncId→List D→List D→Prop} (hk:∀f pre post,K f pre post→K' f pre post) (h:Xe E v K):Xe E v K':=by
 unfold Xe at *
 split at h
 ·exact⟨h.1,hk _ _ _ h.2⟩
 ·exact h.elim
theorem Gs:∀{p:PC} {Q Q':Bn→Aw→Prop} {s:Aw},pw E p Q s→(∀e s,Q e s→Q' e s)→pw E p Q' s
 |.skip,Q,Q',s,h,hq=>hq _ _ h
 |.reg gs l ks,Q,Q',s,h,hq=>DP (fun s' h'=>Jm (fun s'' h''=>hq _ _ h'') h') h
 |.draw gs l ks,Q,Q',s,h,hq=>DP (fun s' h'=>PF (fun s'' h''=>hq _ _ h'') h') h
 |.any gs t ks,Q,Q',s,h,hq=>DP (fun s' h'=>LO (fun s'' h''=>hq _ _ h'') h') h
 |.seq a b,Q,Q',s,h,hq=>Gs (p:=a) h fun e s' h'=>by
  cases e with
  |normal=>exact Gs (p:=b) h' hq
  |exit i=>exact hq _ _ h'
  |ret=>exact hq _ _ h'
 |.cond c a b,Q,Q',s,h,hq=>by
  simp only [pw,OH] at h ⊢
  split at h
  ·exact⟨fun hb=>Gs (h.1 hb) hq,fun hb=>Gs (h.2 hb) hq⟩
  ·exact h.elim
 |.block id a,Q,Q',s,h,hq=>Gs (p:=a) h fun e s' h'=>by
  cases e with
  |normal=>exact hq _ _ h'
  |ret=>exact hq _ _ h'
  |exit i =>
   simp only [II] at h' ⊢
   split at h'
   ·rename_i e;rw [if_pos e];exact hq _ _ h'
   ·rename_i e;rw [if_neg e];exact hq _ _ h'
 |.loop gs ks os a,Q,Q',s,h,hq=>by
  obtain⟨J,h0,h1⟩:=h
  refine⟨J,h0,fun n s' hJ=>Gs (p:=a) (h1 n s' hJ) fun e s'' h'=>?_⟩
  cases e with
  |normal=>exact h'
  |exit i=>exact hq _ _ h'
  |ret=>exact hq _ _ h'
 |.exit id,Q,Q',s,h,hq=>hq _ _ h
 |.ret,Q,Q',s,h,hq=>hq _ _ h
 |.dead,Q,Q',s,h,hq=>h.elim
 |.scope a,Q,Q',s,h,hq=>Gs (p:=a) h hq
 |.lab,Q,Q',s,h,hq=>hq _ _ h
 |.rngF gs g ps ks os b gs2 os2 a,Q,Q',s,h,hq=>DP (fun s0 h0=>Vg (fun f pre post ⟨h1,els,h2,JJ,Pd,h3,h4,h5,h6,h7⟩ =>
  ⟨h1,els,h2,JJ,Pd,h3,h4,h5,fun V hV hJ=>hq _ _ (h6 V hV hJ),fun e V hV hP=>hq _ _ (h7 e V hV hP)⟩) h0) h
 |.yld gs l1 d y xs l2 ks,Q,Q',s,h,hq=>DP (fun s0 h0=>Jm (fun s1 h1=>VF (fun v ch h2=>Jm (fun s' h3=>hq _ _ h3) h2) h1) h0) h
theorem Xk {α:Type} (St:α→Aw) (Inv:α→Prop) (μ:α→Nat) {gs:List Eg} {ks os:List Nat} {a:PC} (x0:α) (h0:CT gs s fun s1=>s1.nrm ks os=St x0) (hI:Inv x0)
  (step:∀x,Inv x→pw E a (Iy (fun s'=>CT gs s' fun s1=>∃y,s1.nrm ks os=St y∧Inv y∧μ y < μ x) Q) (St x)):pw E (.loop gs ks os a) Q s:=by
 refine⟨fun n s'=>∃x,s'=St x∧Inv x∧μ x=n,DP (fun s1 h=>⟨μ x0,x0,h,hI,rfl⟩) h0,?_⟩
 rintro n s' ⟨x,rfl,hx,rfl⟩
 refine Gs (step x hx) fun e s' h=>?_
 cases e with
 |normal =>
  refine DP (fun s1 h=>?_) h
  obtain⟨y,h1,h2,h3⟩:=h
  exact⟨μ y,h3,y,h1,h2,rfl⟩
 |exit i=>exact h
 |ret=>exact h
theorem W_ (l:List (Nat×AV)) (t:Nat) (v:AV):B2 (Fp l) t v=Fp ((t,v) :: l):=rfl
theorem bF (l:List (Nat×(Nat×AX))) (cn:Nat→Nat) (o:Nat):(AN.mk (Bg l) cn).drop o=⟨Bg (l.filter fun p=>!(p.1 == o)),cn⟩:=by
 simp only [AN.drop,AN.mk.injEq,and_true]
 funext t
 induction l with
 |nil=>simp only [B2,List.filter_nil,Bg];split<;>rfl
 |cons p l ih =>
  simp only [B2] at ih ⊢
  by_cases h:t=o
  ·subst h
   simp only [if_true] at ih ⊢
   by_cases h1:p.1=t
   ·simp [List.filter_cons,h1];simpa using ih
   ·have:(!(p.1 == t))=true:=by simpa using h1
    rw [List.filter_cons,if_pos this]
    obtain⟨k,v⟩:=p
    simp only [Bg] at h1 ⊢
    rw [if_neg (Ne.symm h1)];exact ih
  ·simp only [if_neg h] at ih ⊢
   obtain⟨k,v⟩:=p
   by_cases h1:k=o
   ·subst h1
    have:(!((k,v).1 == k))=false:=by simp
    rw [List.filter_cons,if_neg (by simp),←ih]
    simp only [Bg]
    rw [if_neg h]
   ·rw [List.filter_cons,if_pos (by simpa using h1)]
    simp only [Bg]
    rw [ih]
def fg (f:Nat→AV) (V:AN) (os ks:List Nat):List (Nat×AV):=ks.map fun k=>(k,(f k).nrm V os)
def D4 (V:AN) (os:List Nat):List Nat→List (Nat×(Nat×AX))
 |[]=>[]
 |o :: l=>match V.ob o with
  |some (_,x)=>(match x.nrm V os with|some y=>(o,(0,y)) :: D4 V os l|none=>D4 V os l)
  |none=>D4 V os l
theorem dC (f:Nat→AV) (V:AN) (ks os:List Nat):(Aw.mk f V).nrm ks os=⟨Fp (ks.map fun k=>(k,(f k).nrm V os)),⟨Bg (D4 V os os),fun _=>1⟩⟩:=by
 have h1:(fun t=>if ks.contains t then (f t).nrm V os else .undef)=Fp (ks.map fun k=>(k,(f k).nrm V os)):=by
  funext t
  induction ks with
  |nil=>simp [Fp]
  |cons k ks ih =>
   simp only [List.map_cons,Jq,List.contains_cons]
   by_cases h:t=k
   ·subst h;simp
   ·have:(t == k)=false:=by simpa using h
    rw [this,Bool.false_or,if_neg h];exact ih
 have h2:∀l:List Nat,(fun o=>if l.contains o then (match V.ob o with
   |some (_,x)=>match x.nrm V os with|some y=>some (0,y)|none=>none
   |none=>none) else none)=Bg (D4 V os l):=by
  intro l
  funext t
  induction l with
  |nil=>simp [D4,Bg]
  |cons k l ih =>
   simp only [List.contains_cons]
   have hnot:∀(t:Nat),V.ob t=none→Bg (D4 V os l) t=none:=by
    intro t ht
    clear ih
    induction l with
    |nil=>rfl
    |cons a l ih2 =>
     simp only [D4]
     cases ha:V.ob a with
     |none=>exact ih2
     |some p =>
      obtain⟨g,x⟩:=p
      simp only
      have hne:t≠a:=by rintro rfl;rw [ht] at ha;cases ha
      cases x.nrm V os with
      |none=>exact ih2
      |some y=>simp only [Bg,if_neg hne];exact ih2
   have hnot2:∀(t g:Nat) (x:AX),V.ob t=some (g,x)→x.nrm V os=none→Bg (D4 V os l) t=none:=by
    intro t g x ht hx
    clear ih hnot
    induction l with
    |nil=>rfl
    |cons a l ih2 =>
     simp only [D4]
     cases ha:V.ob a with
     |none=>exact ih2
     |some p =>
      obtain⟨g',x'⟩:=p
      simp only
      by_cases hne:t=a
      ·subst hne
       rw [ht] at ha;cases ha
       rw [hx];exact ih2
      ·cases x'.nrm V os with
       |none=>exact ih2
       |some y=>simp only [Bg,if_neg hne];exact ih2
   by_cases h:t=k
   ·subst h
    simp only [beq_self_eq_true,Bool.true_or,if_true,D4]
    cases hk:V.ob t with
    |none=>simp only;exact(hnot t hk).symm
    |some p =>
     obtain⟨g,x⟩:=p
     simp only
     cases hx:x.nrm V os with
     |none=>simp only;exact(hnot2 t g x hk hx).symm
     |some y=>simp [Bg]
   ·have:(t == k)=false:=by simpa using h
    rw [this,Bool.false_or]
    simp only [D4]
    cases V.ob k with
    |none=>exact ih
    |some p =>
     obtain⟨g,x⟩:=p
     simp only
     cases x.nrm V os with
     |none=>exact ih
     |some y=>simp only [Bg,if_neg h];exact ih
 show Aw.mk _ _=_
 rw [h1,AN.nrm]
 exact congrArg (fun ob=>Aw.mk _ ⟨ob,fun _=>1⟩) (h2 os)
theorem Td (V:AN) (os:List Nat):D4 V os []=[]:=rfl
theorem Rz (V:AN) (os:List Nat) (o:Nat) (l:List Nat):D4 V os (o :: l)=match V.ob o with
 |some (_,x)=>(match x.nrm V os with|some y=>(o,(0,y)) :: D4 V os l|none=>D4 V os l)
 |none=>D4 V os l:=rfl
theorem Xx {V:AN} {os ety es nl l}:(AX.row ety es nl l).nrm V os=some (.row ety es nl l):=rfl
theorem Xy {V:AN} {os a b c d e}:(AX.mat a b c d e).nrm V os=some (.mat a b c d e):=rfl
theorem Xz {V:AN} {os k o g}:(AV.mref k o g).nrm V os=if AV.nrm.live V os o g then .mref k o 0 else .undef:=rfl
theorem X3 {V:AN} {os sl cs off}:(AV.ablk sl cs off).nrm V os=if (AV.nrm.nrmL V os cs).all AV.one then .ablk sl (AV.nrm.nrmL V os cs) off else .undef:=rfl
theorem TM {V:AN} {os xs}:(AX.cells xs).nrm V os=if (xs.map (AV.nrm V os)).all AV.one then some (.cells (xs.map (AV.nrm V os))) else none:=rfl
theorem eG {V:AN} {os x}:(AV.d x).nrm V os=.d x:=rfl
theorem Vu {V:AN} {os}:AV.undef.nrm V os=.undef:=rfl
theorem aM {V:AN} {os o g}:(AV.own o g).nrm V os=if AV.nrm.live V os o g then .own o 0 else .undef:=rfl
theorem aL {V:AN} {os o g off}:(AV.ptr o g off).nrm V os=if AV.nrm.live V os o g then .ptr o 0 off else .undef:=rfl
theorem dB {V:AN} {os f cs}:(AV.fn f cs).nrm V os=.fn f (AV.nrm.nrmL V os cs):=rfl
theorem X4 {V:AN} {os}:AV.nrm.nrmL V os []=[]:=rfl
theorem Vv {V:AN} {os x xs}:AV.nrm.nrmL V os (x :: xs)=x.nrm V os :: AV.nrm.nrmL V os xs:=rfl
theorem aW {V:AN} {os:List Nat} {o g:Nat}:AV.nrm.live V os o g=(os.contains o && match V.ob o with|some (g',_)=>g' == g|none=>false):=rfl
end Go.Pw
