/- A part of the proof. -/
import Derived.Test.YtpcpcjbbdgmohaaDoorPwY
set_option linter.all false
namespace Go.Pw
def ET:List (Nat×AV)->Nat->AV
 |[]=>fun _=>.undef
 |(k,v)::l=>fun t=>if t=k then v else ET l t
theorem Jv (k:Nat) (v:AV) (l:List (Nat×AV)) (t:Nat):ET ((k,v)::l) t=if t=k then v else ET l t:=rfl
theorem XP (t:Nat):ET [] t=.undef:=rfl
theorem TU (k:Nat) (v:Nat×AI) (l:List (Nat×(Nat×AI))) (t:Nat):Af ((k,v)::l) t=if t=k then some v else Af l t:=rfl
theorem VX (t:Nat):Af [] t=none:=rfl
theorem W4 (l:List (Nat×AV)) (V:AB) (t:Nat) (v:AV) (ch:B6):put ⟨ET l,V⟩ (some t) v ch=⟨ET ((t,v)::l),V.app ch⟩:=rfl
theorem W5 (f:Nat->AV) (V:AB) (v:AV) (ch:B6):put ⟨f,V⟩ none v ch=⟨f,V.app ch⟩:=rfl
theorem X8 (V:AB):V.app .none=V:=rfl
theorem Zt (V:AB) (a b:B6):V.app (.seq a b)=(V.app a).app b:=rfl
theorem X9 (l:List (Nat×(Nat×AI))) (cn:Nat->Nat) (o g:Nat) (x:AI):(AB.mk (Af l) cn).app (.keep o g x)=⟨Af ((o,(g,x))::l),cn⟩:=rfl
theorem WO (l:List (Nat×(Nat×AI))) (cn:Nat->Nat) (o:Nat) (x:AI):(AB.mk (Af l) cn).app (.fresh o x)=⟨Af ((o,(cn o,x))::l),BJ cn o (cn o+1)⟩:=rfl
theorem bJ (ob:Nat->Option (Nat×AI)) (cn:Nat->Nat) (o g:Nat):(AB.mk ob cn).get o g=match ob o with|some (g',x)=>if g=g' then some x else none|none=>none:=rfl
theorem Av (ds:List D):BP.enter ds=⟨ET (ds.zipIdx.map fun(d,k)=>(k,.d d)),⟨Af [],fun _=>0⟩⟩:=by
 have key:∀(ds:List D) (n t:Nat),ET ((ds.zipIdx n).map fun(d,k)=>(k,.d d)) t=if t<n then .undef else (match ds[t-n]? with|some d=>.d d|none=>.undef):=by
  intro ds
  induction ds with
  |nil=>intro n t;simp[ET]
  |cons d ds ih =>
   intro n t
   simp only[List.zipIdx_cons,List.map_cons,Jv]
   rw[ih]
   by_cases h:t=n
   ·subst h;simp
   ·by_cases h2:t<n
    ·simp[h,h2,Nat.lt_succ_of_lt h2]
    ·have h3:¬t<n+1:=by omega
     have h4:t-n=(t-(n+1))+1:=by omega
     simp only[h,h2,h3,if_false]
     rw[h4,List.getElem?_cons_succ]
 unfold BP.enter
 congr 1
 funext t
 rw[key];simp
 cases ds[t]?<;>rfl
theorem ZE (f:Nat->AV) (V:AB) (ks:List Nat):(BP.mk f V).keep ks=⟨ET (ks.map fun k=>(k,f k)),V⟩:=by
 unfold BP.keep
 congr 1
 funext t
 induction ks with
 |nil=>simp[ET]
 |cons k ks ih =>
  simp only[List.map_cons,Jv,List.contains_cons]
  by_cases h:t=k
  ·subst h;simp
  ·have:(t == k)=false:=by simpa using h
   rw[this,Bool.false_or,if_neg h];exact ih
variable {E:C2}{Q:CO->BP->Prop}{s s':BP}{K:AV->B6->Prop}{KS:BP->Prop}
theorem T4 (b:Bool) (A B:Prop):Ob (.d (.bool b)) A B=Gs b A B:=rfl
theorem ak {gs l1 d y xs l2 ks}:pw E (.yld gs l1 d y xs l2 ks) Q s=Cv gs s fun s0=>I7 E l1 s0 fun s1=>Ov (y.val s1.sl) (xs.map (IJ.val s1.sl)) s1.V fun v ch=>I7 E l2 (put s1 d v ch) fun s'=>Q .normal (s'.keep ks):=rfl
theorem Ys:pw E .dead Q s=False:=rfl
theorem Ym:pw E .skip Q s=Q .normal s:=rfl
theorem ao {gs l ks}:pw E (.reg gs l ks) Q s=Cv gs s fun s'=>I7 E l s' fun s'=>Q .normal (s'.keep ks):=rfl
theorem Yr {gs l ks}:pw E (.draw gs l ks) Q s=Cv gs s fun s'=>O0 E l [] s' fun s'=>Q .normal (s'.keep ks):=rfl
theorem am {a b}:pw E (.seq a b) Q s=pw E a (I2 (pw E b Q) Q) s:=rfl
theorem Yt {c a b}:pw E (.cond c a b) Q s=Ob (c.val s.sl) (pw E a Q s) (pw E b Q s):=rfl
theorem W3 {id a}:pw E (.block id a) Q s=pw E a (IG id Q) s:=rfl
theorem Yq {id}:pw E (.exit id) Q s=Q (.exit id) s:=rfl
theorem an:pw E .ret Q s=Q .ret s:=rfl
theorem QE {A:BP->Prop}:I2 A Q .normal s=A s:=rfl
theorem Sw {A:BP->Prop} {i}:I2 A Q (.exit i) s=Q (.exit i) s:=rfl
theorem Ux {A:BP->Prop}:I2 A Q .ret s=Q .ret s:=rfl
theorem PF {i}:IG i Q .normal s=Q .normal s:=rfl
theorem T_ {i}:IG i Q .ret s=Q .ret s:=rfl
theorem SX {i j}:IG i Q (.exit j) s=if j=i then Q .normal s else Q (.exit j) s:=rfl
theorem Td:Cv [] s KS=KS s:=rfl
theorem SB {g gs}:Cv (g::gs) s KS=HI g s fun s'=>Cv gs s' KS:=rfl
theorem Wr:I7 E [] s KS=KS s:=rfl
theorem VE {I l}:I7 E (I::l) s KS=EX E I s fun v ch=>I7 E l (put s I.dst v ch) KS:=rfl
theorem RE {d op xs} {sl:Nat->AV}{V:AB}:EX E ⟨d,none,op,xs⟩ ⟨sl,V⟩ K=ev E d V op (xs.map (IJ.val sl)) K:=rfl
section
variable {dst:Option Nat}{V:AB}
theorem bW {x}:ev E dst V .mov [x] K=K x .none:=rfl
theorem ZW {c x y}:ev E dst V .pick [.d (.bool c),x,y] K=Gs c (K x .none) (K y .none):=rfl
theorem bb {b k k' x y}:ev E dst V (.bin b) [.d (.int k x),.d (.int k' y)] K=D3 b k k' x y (K · .none):=rfl
theorem bV {b}:ev E dst V (.un .not) [.d (.bool b)] K=K (.d (.bool (!b))) .none:=rfl
end
theorem Kg {I:Ew}{K K':AV->B6->Prop}(h:EX E I s K) (hk:∀v ch,K v ch->K' v ch):EX E I s K':=by
 obtain⟨v,ch,h1,_,h3⟩:=PQ h
 exact h3 s K' (fun _ _=>rfl) (fun _ _=>⟨rfl,rfl⟩) (hk v ch h1)
theorem Jr {KS KS':BP->Prop}(hk:∀s,KS s->KS' s):∀{l:List Ew}{s:BP},I7 E l s KS->I7 E l s KS'
 |[],s,h=>hk s h
 |I::l,s,h=>Kg h fun v ch h'=>Jr hk h'
theorem PZ {KS KS':BP->Prop}(hk:∀s,KS s->KS' s):∀{l:List (Ew×List Nat)}{r:List Ou}{s:BP},O0 E l r s KS->O0 E l r s KS'
 |[],r,s,h=>hk s h
 |(I,dy)::l,r,s,h=>Kg h fun v ch h'=>⟨h'.1,PZ hk h'.2⟩
theorem Tf {KS KS':BP->Prop}(hk:∀s,KS s->KS' s) {g:EJ}(h:HI g s KS):HI g s KS':=by
 unfold HI at *
 split at h
 ·split at h
  ·split at h
   ·exact hk _ h
   ·exact h.elim
  ·exact hk _ h
 ·split at h
  ·split at h
   ·split at h
    ·exact hk _ h
    ·exact h.elim
   ·exact h.elim
  ·exact hk _ h
 ·split at h
  ·split at h
   ·split at h
    ·exact hk _ h
    ·exact h.elim
   ·exact hk _ h
  ·exact hk _ h
 ·split at h
  ·split at h
   ·exact hk _ h
   ·exact h.elim
  ·exact hk _ h
 ·split at h
  ·split at h
   ·exact hk _ h
   ·exact h.elim
  ·exact hk _ h
 ·split at h
  ·split at h
   ·split at h
    ·split at h
     ·exact hk _ h
     ·exact h.elim
    ·exact hk _ h
   ·exact hk _ h
  ·exact hk _ h
 ·split at h
  ·exact⟨h.1,hk _ h.2⟩
  ·exact hk _ h
 ·split at h
  ·exact⟨h.1,hk _ h.2⟩
  ·exact hk _ h
 ·split at h
  ·split at h
   ·split at h
    ·exact⟨h.1,h.2.1,hk _ h.2.2⟩
    ·exact hk _ h
   ·exact hk _ h
  ·exact hk _ h
 ·exact hk _ h
 ·exact hk _ h
 ·split at h
  ·split at h
   ·exact⟨h.1,h.2.1,h.2.2.1,h.2.2.2.1,hk _ h.2.2.2.2⟩
   ·exact h.elim
  ·exact hk _ h
theorem LM {KS KS':BP->Prop}(hk:∀s,KS s->KS' s):∀{t:YG}{s:BP},QW E t s KS->QW E t s KS'
 |.done,s,h=>hk s h
 |.step I r,s,h=>Kg h fun v ch h'=>LM hk h'
 |.both a b,s,h=>⟨LM hk h.1,LM hk h.2⟩
theorem DM:∀{gs:List EJ}{s:BP}{KS KS':BP->Prop},(∀s,KS s->KS' s)->Cv gs s KS->Cv gs s KS'
 |[],s,_,_,hk,h=>hk s h
 |g::gs,s,_,_,hk,h=>Tf (fun s' h'=>DM hk h') h
theorem Un {y:AV}{xs:List AV}{V:AB}{K K':AV->B6->Prop}(hk:∀v ch,K v ch->K' v ch) (h:Ov y xs V K):Ov y xs V K':=by
 unfold Ov at *
 split at h
 ·split at h
  ·split at h
   ·exact⟨h.1,hk _ _ h.2.1,hk _ _ h.2.2⟩
   ·exact h.elim
  ·exact h.elim
 ·exact h.elim
theorem Pa {v:AV}{K K':FuncId->List D->List D->Prop}(hk:∀f pre post,K f pre post->K' f pre post) (h:Rd E v K):Rd E v K':=by
 unfold Rd at *
 split at h
 ·exact⟨h.1,hk _ _ _ h.2⟩
 ·exact⟨h.1,hk _ _ _ h.2⟩
 ·exact h.elim
theorem Fv:∀{p:PC}{Q Q':CO->BP->Prop}{s:BP},pw E p Q s->(∀e s,Q e s->Q' e s)->pw E p Q' s
 |.skip,Q,Q',s,h,hq=>hq _ _ h
 |.reg gs l ks,Q,Q',s,h,hq=>DM (fun s' h'=>Jr (fun s'' h''=>hq _ _ h'') h') h
 |.draw gs l ks,Q,Q',s,h,hq=>DM (fun s' h'=>PZ (fun s'' h''=>hq _ _ h'') h') h
 |.any gs t ks,Q,Q',s,h,hq=>DM (fun s' h'=>LM (fun s'' h''=>hq _ _ h'') h') h
 |.seq a b,Q,Q',s,h,hq=>Fv (p:=a) h fun e s' h'=>by
  cases e with
  |normal=>exact Fv (p:=b) h' hq
  |exit i=>exact hq _ _ h'
  |ret=>exact hq _ _ h'
 |.cond c a b,Q,Q',s,h,hq=>by
  simp only[pw,Ob] at h ⊢
  split at h
  ·exact⟨fun hb=>Fv (h.1 hb) hq,fun hb=>Fv (h.2 hb) hq⟩
  ·exact h.elim
 |.block id a,Q,Q',s,h,hq=>Fv (p:=a) h fun e s' h'=>by
  cases e with
  |normal=>exact hq _ _ h'
  |ret=>exact hq _ _ h'
  |exit i =>
   simp only[IG] at h' ⊢
   split at h'
   ·rename_i e;rw[if_pos e];exact hq _ _ h'
   ·rename_i e;rw[if_neg e];exact hq _ _ h'
 |.loop gs ks os a,Q,Q',s,h,hq=>by
  obtain⟨J,h0,h1⟩:=h
  refine⟨J,h0,fun n s' hJ=>Fv (p:=a) (h1 n s' hJ) fun e s'' h'=>?_⟩
  cases e with
  |normal=>exact h'
  |exit i=>exact hq _ _ h'
  |ret=>exact hq _ _ h'
 |.exit id,Q,Q',s,h,hq=>hq _ _ h
 |.ret,Q,Q',s,h,hq=>hq _ _ h
 |.dead,Q,Q',s,h,hq=>h.elim
 |.scope a,Q,Q',s,h,hq=>Fv (p:=a) h hq
 |.lab,Q,Q',s,h,hq=>hq _ _ h
 |.rngF gs g ps ks os b gs2 os2 a,Q,Q',s,h,hq=>DM (fun s0 h0=>Pa (fun f pre post ⟨h1,els,h2,JJ,Pd,h3,h4,h5,h6,h7⟩ =>
  ⟨h1,els,h2,JJ,Pd,h3,h4,h5,fun V hV hJ=>hq _ _ (h6 V hV hJ),fun e V hV hP=>hq _ _ (h7 e V hV hP)⟩) h0) h
 |.yld gs l1 d y xs l2 ks,Q,Q',s,h,hq=>DM (fun s0 h0=>Jr (fun s1 h1=>Un (fun v ch h2=>Jr (fun s' h3=>hq _ _ h3) h2) h1) h0) h
theorem Wz {α:Type}(St:α->BP) (Inv:α->Prop) (μ:α->Nat) {gs:List EJ}{ks os:List Nat}{a:PC}(x0:α) (h0:Cv gs s fun s1=>s1.nrm ks os=St x0) (hI:Inv x0)
  (step:∀x,Inv x->pw E a (I2 (fun s'=>Cv gs s' fun s1=>∃y,s1.nrm ks os=St y/\Inv y/\μ y<μ x) Q) (St x)):pw E (.loop gs ks os a) Q s:=by
 refine⟨fun n s'=>∃x,s'=St x/\Inv x/\μ x=n,DM (fun s1 h=>⟨μ x0,x0,h,hI,rfl⟩) h0,?_⟩
 rintro n s' ⟨x,rfl,hx,rfl⟩
 refine Fv (step x hx) fun e s' h=>?_
 cases e with
 |normal =>
  refine DM (fun s1 h=>?_) h
  obtain⟨y,h1,h2,h3⟩:=h
  exact⟨μ y,h3,y,h1,h2,rfl⟩
 |exit i=>exact h
 |ret=>exact h
theorem Wb (l:List (Nat×AV)) (t:Nat) (v:AV):BJ (ET l) t v=ET ((t,v)::l):=rfl
theorem Zd (l:List (Nat×(Nat×AI))) (cn:Nat->Nat) (o:Nat):(AB.mk (Af l) cn).drop o=⟨Af (l.filter fun p=>!(p.1 == o)),cn⟩:=by
 simp only[AB.drop,AB.mk.injEq,and_true]
 funext t
 induction l with
 |nil=>simp only[BJ,List.filter_nil,Af];split<;>rfl
 |cons p l ih =>
  simp only[BJ] at ih ⊢
  by_cases h:t=o
  ·subst h
   simp only[if_true] at ih ⊢
   by_cases h1:p.1=t
   ·simp[List.filter_cons,h1];simpa using ih
   ·have:(!(p.1 == t))=true:=by simpa using h1
    rw[List.filter_cons,if_pos this]
    obtain⟨k,v⟩:=p
    simp only[Af] at h1 ⊢
    rw[if_neg (Ne.symm h1)];exact ih
  ·simp only[if_neg h] at ih ⊢
   obtain⟨k,v⟩:=p
   by_cases h1:k=o
   ·subst h1
    have:(!((k,v).1 == k))=false:=by simp
    rw[List.filter_cons,if_neg (by simp),←ih]
    simp only[Af]
    rw[if_neg h]
   ·rw[List.filter_cons,if_pos (by simpa using h1)]
    simp only[Af]
    rw[ih]
def dh (f:Nat->AV) (V:AB) (os ks:List Nat):List (Nat×AV):=ks.map fun k=>(k,(f k).nrm V os)
def ES (V:AB) (os:List Nat):List Nat->List (Nat×(Nat×AI))
 |[]=>[]
 |o::l=>match V.ob o with
  |some (_,x)=>(match x.nrm V os with|some y=>(o,(0,y))::ES V os l|none=>ES V os l)
  |none=>ES V os l
theorem XL (f:Nat->AV) (V:AB) (ks os:List Nat):(BP.mk f V).nrm ks os=⟨ET (ks.map fun k=>(k,(f k).nrm V os)),⟨Af (ES V os os),fun _=>1⟩⟩:=by
 have h1:(fun t=>if ks.contains t then (f t).nrm V os else .undef)=ET (ks.map fun k=>(k,(f k).nrm V os)):=by
  funext t
  induction ks with
  |nil=>simp[ET]
  |cons k ks ih =>
   simp only[List.map_cons,Jv,List.contains_cons]
   by_cases h:t=k
   ·subst h;simp
   ·have:(t == k)=false:=by simpa using h
    rw[this,Bool.false_or,if_neg h];exact ih
 have h2:∀l:List Nat,(fun o=>if l.contains o then (match V.ob o with
   |some (_,x)=>match x.nrm V os with|some y=>some (0,y)|none=>none
   |none=>none) else none)=Af (ES V os l):=by
  intro l
  funext t
  induction l with
  |nil=>simp[ES,Af]
  |cons k l ih =>
   simp only[List.contains_cons]
   have hnot:∀(t:Nat),V.ob t=none->Af (ES V os l) t=none:=by
    intro t ht
    clear ih
    induction l with
    |nil=>rfl
    |cons a l ih2 =>
     simp only[ES]
     cases ha:V.ob a with
     |none=>exact ih2
     |some p =>
      obtain⟨g,x⟩:=p
      simp only
      have hne:t≠a:=by rintro rfl;rw[ht] at ha;cases ha
      cases x.nrm V os with
      |none=>exact ih2
      |some y=>simp only[Af,if_neg hne];exact ih2
   have hnot2:∀(t g:Nat) (x:AI),V.ob t=some (g,x)->x.nrm V os=none->Af (ES V os l) t=none:=by
    intro t g x ht hx
    clear ih hnot
    induction l with
    |nil=>rfl
    |cons a l ih2 =>
     simp only[ES]
     cases ha:V.ob a with
     |none=>exact ih2
     |some p =>
      obtain⟨g',x'⟩:=p
      simp only
      by_cases hne:t=a
      ·subst hne
       rw[ht] at ha;cases ha
       rw[hx];exact ih2
      ·cases x'.nrm V os with
       |none=>exact ih2
       |some y=>simp only[Af,if_neg hne];exact ih2
   by_cases h:t=k
   ·subst h
    simp only[beq_self_eq_true,Bool.true_or,if_true,ES]
    cases hk:V.ob t with
    |none=>simp only;exact(hnot t hk).symm
    |some p =>
     obtain⟨g,x⟩:=p
     simp only
     cases hx:x.nrm V os with
     |none=>simp only;exact(hnot2 t g x hk hx).symm
     |some y=>simp[Af]
   ·have:(t == k)=false:=by simpa using h
    rw[this,Bool.false_or]
    simp only[ES]
    cases V.ob k with
    |none=>exact ih
    |some p =>
     obtain⟨g,x⟩:=p
     simp only
     cases x.nrm V os with
     |none=>exact ih
     |some y=>simp only[Af,if_neg h];exact ih
 show BP.mk _ _=_
 rw[h1,AB.nrm]
 exact congrArg (fun ob=>BP.mk _ ⟨ob,fun _=>1⟩) (h2 os)
theorem TV (V:AB) (os:List Nat):ES V os []=[]:=rfl
theorem R5 (V:AB) (os:List Nat) (o:Nat) (l:List Nat):ES V os (o::l)=match V.ob o with
 |some (_,x)=>(match x.nrm V os with|some y=>(o,(0,y))::ES V os l|none=>ES V os l)
 |none=>ES V os l:=rfl
theorem XI {V:AB} {os ety es nl l}:(AI.row ety es nl l).nrm V os=some (.row ety es nl l):=rfl
theorem TJ {V:AB} {os xs}:(AI.cells xs).nrm V os=if (xs.map (AV.nrm V os)).all AV.one then some (.cells (xs.map (AV.nrm V os))) else none:=rfl
theorem cH {V:AB} {os x}:(AV.d x).nrm V os=.d x:=rfl
theorem Y5 {V:AB} {os o g}:(AV.own o g).nrm V os=if AV.nrm.live V os o g then .own o 0 else .undef:=rfl
theorem Y4 {V:AB} {os o g off}:(AV.ptr o g off).nrm V os=if AV.nrm.live V os o g then .ptr o 0 off else .undef:=rfl
theorem ZB {V:AB}{os:List Nat}{o g:Nat}:AV.nrm.live V os o g=(os.contains o && match V.ob o with|some (g',_)=>g' == g|none=>false):=rfl
end Go.Pw
