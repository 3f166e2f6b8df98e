/- A part of the proof. -/
import Derived.Test.YtpcpcjbbdgmohaaPwY
set_option linter.all false
namespace Go.Pw
def Cy:List (Nat×AV)->Nat->AV
 |[]=>fun _=>.undef
 |(k,v)::l=>fun t=>if t=k then v else Cy l t
theorem I3 (k:Nat) (v:AV) (l:List (Nat×AV)) (t:Nat):Cy ((k,v)::l) t=if t=k then v else Cy l t:=rfl
theorem WE (t:Nat):Cy [] t=.undef:=rfl
theorem R6 (k:Nat) (v:Nat×AR) (l:List (Nat×(Nat×AR))) (t:Nat):Av ((k,v)::l) t=if t=k then some v else Av l t:=rfl
theorem T_ (t:Nat):Av [] t=none:=rfl
theorem Vd (l:List (Nat×AV)) (V:AK) (t:Nat) (v:AV) (ch:BM):put ⟨Cy l,V⟩ (some t) v ch=⟨Cy ((t,v)::l),V.app ch⟩:=rfl
theorem Ve (f:Nat->AV) (V:AK) (v:AV) (ch:BM):put ⟨f,V⟩ none v ch=⟨f,V.app ch⟩:=rfl
theorem Wq (V:AK):V.app .none=V:=rfl
theorem Yg (V:AK) (a b:BM):V.app (.seq a b)=(V.app a).app b:=rfl
theorem Wr (l:List (Nat×(Nat×AR))) (cn:Nat->Nat) (o g:Nat) (x:AR):(AK.mk (Av l) cn).app (.keep o g x)=⟨Av ((o,(g,x))::l),cn⟩:=rfl
theorem U2 (l:List (Nat×(Nat×AR))) (cn:Nat->Nat) (o:Nat) (x:AR):(AK.mk (Av l) cn).app (.fresh o x)=⟨Av ((o,(cn o,x))::l),CD cn o (cn o+1)⟩:=rfl
theorem Zt (ob:Nat->Option (Nat×AR)) (cn:Nat->Nat) (o g:Nat):(AK.mk ob cn).get o g=match ob o with|some (g',x)=>if g=g' then some x else none|none=>none:=rfl
theorem Ae (ds:List D):Ar.enter ds=⟨Cy (ds.zipIdx.map fun(d,k)=>(k,.d d)),⟨Av [],fun _=>0⟩⟩:=by
 have key:∀(ds:List D) (n t:Nat),Cy ((ds.zipIdx n).map fun(d,k)=>(k,.d d)) t=if t<n then .undef else (match ds[t-n]? with|some d=>.d d|none=>.undef):=by
  intro ds
  induction ds with
  |nil=>intro n t;simp[Cy]
  |cons d ds ih =>
   intro n t
   simp only[List.zipIdx_cons,List.map_cons,I3]
   rw[ih]
   by_cases h:t=n
   ·subst h;simp
   ·by_cases h2:t<n
    ·simp[h,h2,Nat.lt_succ_of_lt h2]
    ·have h3:¬t<n+1:=by omega
     have h4:t-n=(t-(n+1))+1:=by omega
     simp only[h,h2,h3,if_false]
     rw[h4,List.getElem?_cons_succ]
 unfold Ar.enter
 congr 1
 funext t
 rw[key];simp
 cases ds[t]?<;>rfl
theorem X2 (f:Nat->AV) (V:AK) (ks:List Nat):(Ar.mk f V).keep ks=⟨Cy (ks.map fun k=>(k,f k)),V⟩:=by
 unfold Ar.keep
 congr 1
 funext t
 induction ks with
 |nil=>simp[Cy]
 |cons k ks ih =>
  simp only[List.map_cons,I3,List.contains_cons]
  by_cases h:t=k
  ·subst h;simp
  ·have:(t == k)=false:=by simpa using h
   rw[this,Bool.false_or,if_neg h];exact ih
variable {E:CI}{Q:Bq->Ar->Prop}{s s':Ar}{K:AV->BM->Prop}{KS:Ar->Prop}
theorem Sb (b:Bool) (A B:Prop):NN (.d (.bool b)) A B=Fh b A B:=rfl
theorem VZ {a:PC}:pw E (.scope a) Q s=pw E a Q s:=rfl
theorem ZT {gs d it l2 ks}:pw E (.nxt gs d it l2 ks) Q s=B8 gs s fun s0=>KZ (it.val s0.sl) s0.V fun v ch=>Gv E l2 (put s0 d v ch) fun s'=>Q .normal (s'.keep ks):=rfl
theorem ZP {gs l1 d y xs l2 ks}:pw E (.yld gs l1 d y xs l2 ks) Q s=B8 gs s fun s0=>Gv E l1 s0 fun s1=>Na (y.val s1.sl) (xs.map (Gq.val s1.sl)) s1.V fun v ch=>Gv E l2 (put s1 d v ch) fun s'=>Q .normal (s'.keep ks):=rfl
theorem ZU:pw E .lab Q s=Q .normal s:=rfl
theorem Xa:pw E .dead Q s=False:=rfl
theorem XV:pw E .skip Q s=Q .normal s:=rfl
theorem ZS {gs l ks}:pw E (.reg gs l ks) Q s=B8 gs s fun s'=>Gv E l s' fun s'=>Q .normal (s'.keep ks):=rfl
theorem XZ {gs l ks}:pw E (.draw gs l ks) Q s=B8 gs s fun s'=>Nd E l [] s' fun s'=>Q .normal (s'.keep ks):=rfl
theorem ZQ {a b}:pw E (.seq a b) Q s=pw E a (Hk (pw E b Q) Q) s:=rfl
theorem Xb {c a b}:pw E (.cond c a b) Q s=NN (c.val s.sl) (pw E a Q s) (pw E b Q s):=rfl
theorem Vc {id a}:pw E (.block id a) Q s=pw E a (G8 id Q) s:=rfl
theorem XY {id}:pw E (.exit id) Q s=Q (.exit id) s:=rfl
theorem ZR:pw E .ret Q s=Q .ret s:=rfl
theorem Ov {A:Ar->Prop}:Hk A Q .normal s=A s:=rfl
theorem RM {A:Ar->Prop} {i}:Hk A Q (.exit i) s=Q (.exit i) s:=rfl
theorem TJ {A:Ar->Prop}:Hk A Q .ret s=Q .ret s:=rfl
theorem Nv {i}:G8 i Q .normal s=Q .normal s:=rfl
theorem Sg {i}:G8 i Q .ret s=Q .ret s:=rfl
theorem Q2 {i j}:G8 i Q (.exit j) s=if j=i then Q .normal s else Q (.exit j) s:=rfl
theorem SA:B8 [] s KS=KS s:=rfl
theorem Qd {g gs}:B8 (g::gs) s KS=Fd g s fun s'=>B8 gs s' KS:=rfl
theorem VQ:Gv E [] s KS=KS s:=rfl
theorem Tg {I l}:Gv E (I::l) s KS=De E I s fun v ch=>Gv E l (put s I.dst v ch) KS:=rfl
theorem Pt {d op xs} {sl:Nat->AV}{V:AK}:De E ⟨d,none,op,xs⟩ ⟨sl,V⟩ K=ev E d V op (xs.map (Gq.val sl)) K:=rfl
section
variable {dst:Option Nat}{V:AK}
theorem Z2 {x}:ev E dst V .mov [x] K=K x .none:=rfl
theorem YI {c x y}:ev E dst V .pick [.d (.bool c),x,y] K=Fh c (K x .none) (K y .none):=rfl
theorem Z5 {b k k' x y}:ev E dst V (.bin b) [.d (.int k x),.d (.int k' y)] K=C3 b k k' x y (K · .none):=rfl
theorem Z0 {b}:ev E dst V (.un .not) [.d (.bool b)] K=K (.d (.bool (!b))) .none:=rfl
end
theorem Jm {I:D0}{K K':AV->BM->Prop}(h:De E I s K) (hk:∀v ch,K v ch->K' v ch):De E I s K':=by
 obtain⟨v,ch,h1,_,h3⟩:=N6 h
 exact h3 s K' (fun _ _=>rfl) (fun _ _=>⟨rfl,rfl⟩) (hk v ch h1)
theorem GU {KS KS':Ar->Prop}(hk:∀s,KS s->KS' s):∀{l:List D0}{s:Ar},Gv E l s KS->Gv E l s KS'
 |[],s,h=>hk s h
 |I::l,s,h=>Jm h fun v ch h'=>GU hk h'
theorem OE {KS KS':Ar->Prop}(hk:∀s,KS s->KS' s):∀{l:List (D0×List Nat)}{r:List NZ}{s:Ar},Nd E l r s KS->Nd E l r s KS'
 |[],r,s,h=>hk s h
 |(I,dy)::l,r,s,h=>Jm h fun v ch h'=>⟨h'.1,OE hk h'.2⟩
theorem SB {KS KS':Ar->Prop}(hk:∀s,KS s->KS' s) {g:DK}(h:Fd g s KS):Fd g s KS':=by
 unfold Fd at *
 split at h
 ·split at h
  ·split at h
   ·exact hk _ h
   ·exact h.elim
  ·exact hk _ h
 ·split at h
  ·split at h
   ·split at h
    ·exact hk _ h
    ·exact h.elim
   ·exact h.elim
  ·exact hk _ h
 ·split at h
  ·split at h
   ·split at h
    ·exact hk _ h
    ·exact h.elim
   ·exact hk _ h
  ·exact hk _ h
 ·split at h
  ·split at h
   ·exact hk _ h
   ·exact h.elim
  ·exact hk _ h
 ·split at h
  ·split at h
   ·exact hk _ h
   ·exact h.elim
  ·exact hk _ h
 ·split at h
  ·split at h
   ·split at h
    ·split at h
     ·exact hk _ h
     ·exact h.elim
    ·exact hk _ h
   ·exact hk _ h
  ·exact hk _ h
 ·split at h
  ·exact⟨h.1,hk _ h.2⟩
  ·exact hk _ h
 ·split at h
  ·exact⟨h.1,hk _ h.2⟩
  ·exact hk _ h
 ·split at h
  ·split at h
   ·split at h
    ·exact⟨h.1,h.2.1,hk _ h.2.2⟩
    ·exact hk _ h
   ·exact hk _ h
  ·exact hk _ h
 ·exact hk _ h
 ·exact hk _ h
 ·split at h
  ·split at h
   ·exact⟨h.1,h.2.1,h.2.2.1,h.2.2.2.1,hk _ h.2.2.2.2⟩
   ·exact h.elim
  ·exact hk _ h
 ·unfold Qr at *
  split at h<;>exact hk _ h
theorem KV {KS KS':Ar->Prop}(hk:∀s,KS s->KS' s):∀{t:Wz}{s:Ar},PJ E t s KS->PJ E t s KS'
 |.done,s,h=>hk s h
 |.step I r,s,h=>Jm h fun v ch h'=>KV hk h'
 |.both a b,s,h=>⟨KV hk h.1,KV hk h.2⟩
theorem CW:∀{gs:List DK}{s:Ar}{KS KS':Ar->Prop},(∀s,KS s->KS' s)->B8 gs s KS->B8 gs s KS'
 |[],s,_,_,hk,h=>hk s h
 |g::gs,s,_,_,hk,h=>SB (fun s' h'=>CW hk h') h
theorem Ry {x:AV}{V:AK}{K K':AV->BM->Prop}(hk:∀v ch,K v ch->K' v ch) (h:KZ x V K):KZ x V K':=by
 unfold KZ at *
 split at h
 ·split at h
  ·split at h
   ·split at h
    ·exact⟨h.1,fun e he hs=>hk _ _ (h.2.1 e he hs),fun ha=>hk _ _ (h.2.2 ha)⟩
    ·exact h
   ·exact h
  ·exact⟨fun i hi hs=>hk _ _ (h.1 i hi hs),fun ha=>hk _ _ (h.2 ha)⟩
  ·exact h
 ·exact h
theorem TC {y:AV}{xs:List AV}{V:AK}{K K':AV->BM->Prop}(hk:∀v ch,K v ch->K' v ch) (h:Na y xs V K):Na y xs V K':=by
 unfold Na at *
 split at h
 ·split at h
  ·split at h
   ·exact⟨h.1,hk _ _ h.2.1,hk _ _ h.2.2⟩
   ·exact h.elim
  ·exact h.elim
 ·exact h.elim
theorem OG {v:AV}{K K':FuncId->List D->List D->Prop}(hk:∀f pre post,K f pre post->K' f pre post) (h:PD E v K):PD E v K':=by
 unfold PD at h
 split at h
 ·rename_i f cs
  unfold PD;simp only
  split at h
  ·exact⟨h.1,hk _ _ _ h.2⟩
  ·exact h.elim
 ·exact⟨h.1,hk _ _ _ h.2⟩
 ·exact h.elim
theorem En:∀{p:PC}{Q Q':Bq->Ar->Prop}{s:Ar},pw E p Q s->(∀e s,Q e s->Q' e s)->pw E p Q' s
 |.skip,Q,Q',s,h,hq=>hq _ _ h
 |.reg gs l ks,Q,Q',s,h,hq=>CW (fun s' h'=>GU (fun s'' h''=>hq _ _ h'') h') h
 |.draw gs l ks,Q,Q',s,h,hq=>CW (fun s' h'=>OE (fun s'' h''=>hq _ _ h'') h') h
 |.any gs t ks,Q,Q',s,h,hq=>CW (fun s' h'=>KV (fun s'' h''=>hq _ _ h'') h') h
 |.seq a b,Q,Q',s,h,hq=>En (p:=a) h fun e s' h'=>by
  cases e with
  |normal=>exact En (p:=b) h' hq
  |exit i=>exact hq _ _ h'
  |ret=>exact hq _ _ h'
 |.cond c a b,Q,Q',s,h,hq=>by
  simp only[pw,NN] at h ⊢
  split at h
  ·exact⟨fun hb=>En (h.1 hb) hq,fun hb=>En (h.2 hb) hq⟩
  ·exact h.elim
 |.block id a,Q,Q',s,h,hq=>En (p:=a) h fun e s' h'=>by
  cases e with
  |normal=>exact hq _ _ h'
  |ret=>exact hq _ _ h'
  |exit i =>
   simp only[G8] at h' ⊢
   split at h'
   ·rename_i e;rw[if_pos e];exact hq _ _ h'
   ·rename_i e;rw[if_neg e];exact hq _ _ h'
 |.loop gs ks os a,Q,Q',s,h,hq=>by
  obtain⟨J,h0,h1⟩:=h
  refine⟨J,h0,fun n s' hJ=>En (p:=a) (h1 n s' hJ) fun e s'' h'=>?_⟩
  cases e with
  |normal=>exact h'
  |exit i=>exact hq _ _ h'
  |ret=>exact hq _ _ h'
 |.exit id,Q,Q',s,h,hq=>hq _ _ h
 |.ret,Q,Q',s,h,hq=>hq _ _ h
 |.dead,Q,Q',s,h,hq=>h.elim
 |.scope a,Q,Q',s,h,hq=>En (p:=a) h hq
 |.lab,Q,Q',s,h,hq=>hq _ _ h
 |.rngF gs g ps ks os b gs2 os2 a,Q,Q',s,h,hq=>CW (fun s0 h0=>OG (fun f pre post ⟨h1,els,h2,JJ,Pd,h3,h4,h5,h6,h7⟩ =>
  ⟨h1,els,h2,JJ,Pd,h3,h4,h5,fun V hV hJ=>hq _ _ (h6 V hV hJ),fun e V hV hP=>hq _ _ (h7 e V hV hP)⟩) h0) h
 |.nxt gs d it l2 ks,Q,Q',s,h,hq=>CW (fun s0 h0=>Ry (fun v ch h2=>GU (fun s' h3=>hq _ _ h3) h2) h0) h
 |.yld gs l1 d y xs l2 ks,Q,Q',s,h,hq=>CW (fun s0 h0=>GU (fun s1 h1=>TC (fun v ch h2=>GU (fun s' h3=>hq _ _ h3) h2) h1) h0) h
theorem Va {α:Type}(St:α->Ar) (Inv:α->Prop) (μ:α->Nat) {gs:List DK}{ks os:List Nat}{a:PC}(x0:α) (h0:B8 gs s fun s1=>s1.nrm ks os=St x0) (hI:Inv x0)
  (step:∀x,Inv x->pw E a (Hk (fun s'=>B8 gs s' fun s1=>∃y,s1.nrm ks os=St y/\Inv y/\μ y<μ x) Q) (St x)):pw E (.loop gs ks os a) Q s:=by
 refine⟨fun n s'=>∃x,s'=St x/\Inv x/\μ x=n,CW (fun s1 h=>⟨μ x0,x0,h,hI,rfl⟩) h0,?_⟩
 rintro n s' ⟨x,rfl,hx,rfl⟩
 refine En (step x hx) fun e s' h=>?_
 cases e with
 |normal =>
  refine CW (fun s1 h=>?_) h
  obtain⟨y,h1,h2,h3⟩:=h
  exact⟨μ y,h3,y,h1,h2,rfl⟩
 |exit i=>exact h
 |ret=>exact h
theorem U_ (l:List (Nat×AV)) (t:Nat) (v:AV):CD (Cy l) t v=Cy ((t,v)::l):=rfl
theorem YO (l:List (Nat×(Nat×AR))) (cn:Nat->Nat) (o:Nat):(AK.mk (Av l) cn).drop o=⟨Av (l.filter fun p=>!(p.1 == o)),cn⟩:=by
 simp only[AK.drop,AK.mk.injEq,and_true]
 funext t
 induction l with
 |nil=>simp only[CD,List.filter_nil,Av];split<;>rfl
 |cons p l ih =>
  simp only[CD] at ih ⊢
  by_cases h:t=o
  ·subst h
   simp only[if_true] at ih ⊢
   by_cases h1:p.1=t
   ·simp[List.filter_cons,h1];simpa using ih
   ·have:(!(p.1 == t))=true:=by simpa using h1
    rw[List.filter_cons,if_pos this]
    obtain⟨k,v⟩:=p
    simp only[Av] at h1 ⊢
    rw[if_neg (Ne.symm h1)];exact ih
  ·simp only[if_neg h] at ih ⊢
   obtain⟨k,v⟩:=p
   by_cases h1:k=o
   ·subst h1
    have:(!((k,v).1 == k))=false:=by simp
    rw[List.filter_cons,if_neg (by simp),←ih]
    simp only[Av]
    rw[if_neg h]
   ·rw[List.filter_cons,if_pos (by simpa using h1)]
    simp only[Av]
    rw[ih]
def bq (f:Nat->AV) (V:AK) (os ks:List Nat):List (Nat×AV):=ks.map fun k=>(k,(f k).nrm V os)
def Da (V:AK) (os:List Nat):List Nat->List (Nat×(Nat×AR))
 |[]=>[]
 |o::l=>match V.ob o with
  |some (_,x)=>(match x.nrm V os with|some y=>(o,(0,y))::Da V os l|none=>Da V os l)
  |none=>Da V os l
theorem V4 (f:Nat->AV) (V:AK) (ks os:List Nat):(Ar.mk f V).nrm ks os=⟨Cy (ks.map fun k=>(k,(f k).nrm V os)),⟨Av (Da V os os),fun _=>1⟩⟩:=by
 have h1:(fun t=>if ks.contains t then (f t).nrm V os else .undef)=Cy (ks.map fun k=>(k,(f k).nrm V os)):=by
  funext t
  induction ks with
  |nil=>simp[Cy]
  |cons k ks ih =>
   simp only[List.map_cons,I3,List.contains_cons]
   by_cases h:t=k
   ·subst h;simp
   ·have:(t == k)=false:=by simpa using h
    rw[this,Bool.false_or,if_neg h];exact ih
 have h2:∀l:List Nat,(fun o=>if l.contains o then (match V.ob o with
   |some (_,x)=>match x.nrm V os with|some y=>some (0,y)|none=>none
   |none=>none) else none)=Av (Da V os l):=by
  intro l
  funext t
  induction l with
  |nil=>simp[Da,Av]
  |cons k l ih =>
   simp only[List.contains_cons]
   have hnot:∀(t:Nat),V.ob t=none->Av (Da V os l) t=none:=by
    intro t ht
    clear ih
    induction l with
    |nil=>rfl
    |cons a l ih2 =>
     simp only[Da]
     cases ha:V.ob a with
     |none=>exact ih2
     |some p =>
      obtain⟨g,x⟩:=p
      simp only
      have hne:t≠a:=by rintro rfl;rw[ht] at ha;cases ha
      cases x.nrm V os with
      |none=>exact ih2
      |some y=>simp only[Av,if_neg hne];exact ih2
   have hnot2:∀(t g:Nat) (x:AR),V.ob t=some (g,x)->x.nrm V os=none->Av (Da V os l) t=none:=by
    intro t g x ht hx
    clear ih hnot
    induction l with
    |nil=>rfl
    |cons a l ih2 =>
     simp only[Da]
     cases ha:V.ob a with
     |none=>exact ih2
     |some p =>
      obtain⟨g',x'⟩:=p
      simp only
      by_cases hne:t=a
      ·subst hne
       rw[ht] at ha;cases ha
       rw[hx];exact ih2
      ·cases x'.nrm V os with
       |none=>exact ih2
       |some y=>simp only[Av,if_neg hne];exact ih2
   by_cases h:t=k
   ·subst h
    simp only[beq_self_eq_true,Bool.true_or,if_true,Da]
    cases hk:V.ob t with
    |none=>simp only;exact(hnot t hk).symm
    |some p =>
     obtain⟨g,x⟩:=p
     simp only
     cases hx:x.nrm V os with
     |none=>simp only;exact(hnot2 t g x hk hx).symm
     |some y=>simp[Av]
   ·have:(t == k)=false:=by simpa using h
    rw[this,Bool.false_or]
    simp only[Da]
    cases V.ob k with
    |none=>exact ih
    |some p =>
     obtain⟨g,x⟩:=p
     simp only
     cases x.nrm V os with
     |none=>exact ih
     |some y=>simp only[Av,if_neg h];exact ih
 show Ar.mk _ _=_
 rw[h1,AK.nrm]
 exact congrArg (fun ob=>Ar.mk _ ⟨ob,fun _=>1⟩) (h2 os)
theorem R7 (V:AK) (os:List Nat):Da V os []=[]:=rfl
theorem Qa (V:AK) (os:List Nat) (o:Nat) (l:List Nat):Da V os (o::l)=match V.ob o with
 |some (_,x)=>(match x.nrm V os with|some y=>(o,(0,y))::Da V os l|none=>Da V os l)
 |none=>Da V os l:=rfl
theorem Vv {V:AK} {os ety es nl l}:(AR.row ety es nl l).nrm V os=some (.row ety es nl l):=rfl
theorem Rm {V:AK} {os xs}:(AR.cells xs).nrm V os=if (xs.map (AV.nrm V os)).all AV.one then some (.cells (xs.map (AV.nrm V os))) else none:=rfl
theorem ae {V:AK} {os x}:(AV.d x).nrm V os=.d x:=rfl
theorem Xn {V:AK} {os o g}:(AV.own o g).nrm V os=if AV.nrm.live V os o g then .own o 0 else .undef:=rfl
theorem Vz {V:AK} {os o g}:(AV.map o g).nrm V os=if AV.nrm.live V os o g then .map o 0 else .undef:=rfl
theorem Xm {V:AK} {os o g off}:(AV.ptr o g off).nrm V os=if AV.nrm.live V os o g then .ptr o 0 off else .undef:=rfl
theorem Zc {V:AK} {os f cs}:(AV.fn f cs).nrm V os=.fn f (AV.nrm.nrmL V os cs):=rfl
theorem V5 {V:AK} {os}:AV.nrm.nrmL V os []=[]:=rfl
theorem Xy {V:AK}{os:List Nat}{o g:Nat}:AV.nrm.live V os o g=(os.contains o && match V.ob o with|some (g',_)=>g' == g|none=>false):=rfl
end Go.Pw
