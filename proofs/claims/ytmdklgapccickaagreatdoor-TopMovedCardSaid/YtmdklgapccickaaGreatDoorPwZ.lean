/- Part. -/
import Derived.Test.YtmdklgapccickaaGreatDoorPwY
set_option linter.all false
open List renaming filter_cons->aa,map_cons->ax,contains_cons->ay
open Bool renaming false_or->az
namespace Go.Pw
def Dm:List (Nat×AV)->Nat->AV
 |[]=>fun _=>.undef
 |(k,v)::l=>fun t=>if t=k then v else Dm l t
theorem Oc(k:Nat)(v:AV)(l:List (Nat×AV))(t:Nat):Dm ((k,v)::l) t=if t=k then v else Dm l t:=rfl
theorem pV(t:Nat):Dm [] t=.undef:=rfl
theorem fS(k:Nat)(v:Nat×AY)(l:List (Nat×(Nat×AY)))(t:Nat):BH ((k,v)::l) t=if t=k then some v else BH l t:=rfl
theorem kn(t:Nat):BH [] t=none:=rfl
theorem oc(l:List (Nat×AV))(V:AO)(t:Nat)(v:AV)(ch:Bs):put ⟨Dm l,V⟩ (some t) v ch=⟨Dm ((t,v)::l),V.app ch⟩:=rfl
theorem od(f:Nat->AV)(V:AO)(v:AV)(ch:Bs):put ⟨f,V⟩ none v ch=⟨f,V.app ch⟩:=rfl
theorem rk(V:AO):V.app .none=V:=rfl
theorem wp(V:AO)(a b:Bs):V.app (.seq a b)=(V.app a).app b:=rfl
theorem rm(l:List (Nat×(Nat×AY)))(cn:Nat->Nat)(o g:Nat)(x:AY):(AO.mk (BH l) cn).app (.keep o g x)=⟨BH ((o,(g,x))::l),cn⟩:=rfl
theorem mc(l:List (Nat×(Nat×AY)))(cn:Nat->Nat)(o:Nat)(x:AY):(AO.mk (BH l) cn).app (.fresh o x)=⟨BH ((o,(cn o,x))::l),CB cn o (cn o+1)⟩:=rfl
theorem zH(ob:Nat->Option (Nat×AY))(cn:Nat->Nat)(o g:Nat):(AO.mk ob cn).get o g=match ob o with|some (g',x)=>if g=g' then some x else none|none=>none:=rfl
theorem AN(ds:List D):BG.enter ds=⟨Dm (ds.zipIdx.map fun(d,k)=>(k,.d d)),⟨BH [],fun _=>0⟩⟩:=by
 have key:∀(ds:List D) (n t:Nat),Dm ((ds.zipIdx n).map fun(d,k)=>(k,.d d)) t=if t<n then .undef else(match ds[t-n]? with|some d=>.d d|none=>.undef):=by
  intro ds
  induction ds with
  |nil=>intro n t;simp[Dm]
  |cons d ds ih =>
   intro n t;simp only[List.zipIdx_cons,ax,Oc];rw[ih]
   by_cases h:t=n
   ·subst h;simp
   ·by_cases h2:t<n
    ·simp[h,h2,Nat.lt_succ_of_lt h2]
    ·have i:¬t<n+1:=by omega
     have e:t-n=(t-(n+1))+1:=by omega
     simp only[h,h2,i,if_false];rw[e,List.getElem?_cons_succ]
 unfold BG.enter;congr 1;funext t;rw[key];simp
 cases ds[t]?<;>rfl
theorem ub(f:Nat->AV)(V:AO)(ks:List Nat):(BG.mk f V).keep ks=⟨Dm (ks.map fun k=>(k,f k)),V⟩:=by
 unfold BG.keep;congr 1;funext t
 induction ks with
 |nil=>simp[Dm]
 |cons k ks ih =>
  simp only[ax,Oc,ay]
  by_cases h:t=k
  ·subst h;simp
  ·have:(t == k)=false:=by simpa using h
   rw[this,az,if_neg h];exact ih
variable {E:CW}{Q:Bk->BG->Prop}{s s':BG}{K:AV->Bs->Prop}{KS:BG->Prop}
theorem gY(b:Bool)(A B:Prop):V5 (.d (.bool b)) A B=JL b A B:=rfl
theorem yZ{gs d it l2 ks}:pw E (.nxt gs d it l2 ks) Q s=B5 gs s fun s0=>Qz (it.val s0.sl) s0.V fun v ch=>Lf E l2 (put s0 d v ch) fun s'=>Q .normal (s'.keep ks):=rfl
theorem yV{gs l1 d y xs l2 ks}:pw E (.yld gs l1 d y xs l2 ks) Q s=B5 gs s fun s0=>Lf E l1 s0 fun s1=>Ux E (y.val s1.sl) (xs.map (Jk.val s1.sl)) s1.V fun v ch=>Lf E l2 (put s1 d v ch) fun s'=>Q .normal (s'.keep ks):=rfl
theorem td:pw E .dead Q s=False:=rfl
theorem tW:pw E .skip Q s=Q .normal s:=rfl
theorem yY{gs l ks}:pw E (.reg gs l ks) Q s=B5 gs s fun s'=>Lf E l s' fun s'=>Q .normal (s'.keep ks):=rfl
theorem tZ{gs l ks}:pw E (.draw gs l ks) Q s=B5 gs s fun s'=>Wm E l [] s' fun s'=>Q .normal (s'.keep ks):=rfl
theorem ya{gs t ks}:pw E (.any gs t ks) Q s=B5 gs s fun s'=>Ov E t s' fun s'=>Q .normal (s'.keep ks):=rfl
theorem ot:Ov E .done s KS=KS s:=rfl
theorem oq{I r}:Ov E (.step I r) s KS=Ey E I s fun v ch=>Ov E r (put s I.dst v ch) KS:=rfl
theorem ou{a b}:Ov E (.both a b) s KS=(Ov E a s KS/\Ov E b s KS):=rfl
theorem yW{a b}:pw E (.seq a b) Q s=pw E a (L5 (pw E b Q) Q) s:=rfl
theorem te{c a b}:pw E (.cond c a b) Q s=V5 (c.val s.sl) (pw E a Q s) (pw E b Q s):=rfl
theorem oa{id a}:pw E (.block id a) Q s=pw E a (Lx id Q) s:=rfl
theorem tY{id}:pw E (.exit id) Q s=Q (.exit id) s:=rfl
theorem yX:pw E .ret Q s=Q .ret s:=rfl
theorem YW{A:BG->Prop}:L5 A Q .normal s=A s:=rfl
theorem eI{A:BG->Prop}{i}:L5 A Q (.exit i) s=Q (.exit i) s:=rfl
theorem jg{A:BG->Prop}:L5 A Q .ret s=Q .ret s:=rfl
theorem XC{i}:Lx i Q .normal s=Q .normal s:=rfl
theorem gk{i}:Lx i Q .ret s=Q .ret s:=rfl
theorem dX{i j}:Lx i Q (.exit j) s=if j=i then Q .normal s else Q (.exit j) s:=rfl
theorem fo:B5 [] s KS=KS s:=rfl
theorem cN{g gs}:B5 (g::gs) s KS=E3 g s fun s'=>B5 gs s' KS:=rfl
theorem ny:Lf E [] s KS=KS s:=rfl
theorem j9{I l}:Lf E (I::l) s KS=Ey E I s fun v ch=>Lf E l (put s I.dst v ch) KS:=rfl
theorem aj{d op xs}{sl:Nat->AV}{V:AO}:Ey E ⟨d,none,op,xs⟩ ⟨sl,V⟩ K=ev E d V op (xs.map (Jk.val sl)) K:=rfl
section
variable {dst:Option Nat}{V:AO}
theorem zX{x}:ev E dst V .mov [x] K=K x .none:=rfl
theorem vP{c x y}:ev E dst V .pick [.d (.bool c),x,y] K=JL c (K x .none) (K y .none):=rfl
theorem za{b k k' x y}:ev E dst V (.bin b) [.d (.int k x),.d (.int k' y)] K=Dn b k k' x y (K · .none):=rfl
theorem zW{b}:ev E dst V (.un .not) [.d (.bool b)] K=K (.d (.bool (!b))) .none:=rfl
end
theorem Pp{I:Fu}{K K':AV->Bs->Prop}(h:Ey E I s K)(hk:∀v ch,K v ch->K' v ch):Ey E I s K':=by
 obtain⟨v,ch,h1,_,e⟩:=XQ h;exact e s K' (fun _ _=>rfl) (fun _ _=>⟨rfl,rfl⟩) (hk v ch h1)
theorem KX{KS KS':BG->Prop}(hk:∀s,KS s->KS' s):∀{l:List Fu}{s:BG},Lf E l s KS->Lf E l s KS'
 |[],s,h=>hk s h
 |I::l,s,h=>Pp h fun v ch h'=>KX hk h'
theorem Xc{KS KS':BG->Prop}(hk:∀s,KS s->KS' s):∀{l:List (Fu×List Nat)}{r:List Wh}{s:BG},Wm E l r s KS->Wm E l r s KS'
 |[],r,s,h=>hk s h
 |(I,dy)::l,r,s,h=>Pp h fun v ch h'=>⟨h'.1,Xc hk h'.2⟩
theorem fq{KS KS':BG->Prop}(hk:∀s,KS s->KS' s){g:EE}(h:E3 g s KS):E3 g s KS':=by
 unfold E3 at *;split at h
 ·split at h
  ·split at h
   ·exact hk _ h
   ·exact h.elim
  ·exact hk _ h
 ·split at h
  ·split at h
   ·split at h
    ·exact hk _ h
    ·exact h.elim
   ·exact h.elim
  ·exact hk _ h
 ·split at h
  ·split at h
   ·exact⟨h.1,hk _ h.2⟩
   ·exact h.elim
  ·exact hk _ h
 ·split at h
  ·split at h
   ·exact hk _ h
   ·exact h.elim
  ·exact hk _ h
 ·split at h
  ·split at h
   ·split at h
    ·split at h
     ·exact hk _ h
     ·exact h.elim
    ·exact hk _ h
   ·exact hk _ h
  ·exact hk _ h
 ·split at h
  ·exact⟨h.1,hk _ h.2⟩
  ·exact hk _ h
 ·split at h
  ·exact⟨h.1,hk _ h.2⟩
  ·exact hk _ h
 ·split at h
  ·split at h
   ·split at h
    ·exact⟨h.1,h.2.1,hk _ h.2.2⟩
    ·exact hk _ h
   ·exact hk _ h
  ·exact hk _ h
 ·split at h
  ·split at h
   ·exact⟨h.1,hk _ h.2⟩
   ·exact⟨h.1,fun nl l hp=>hk _ (h.2 nl l hp)⟩
   ·exact hk _ h
  ·exact hk _ h
 ·exact h.elim
theorem Qx{KS KS':BG->Prop}(hk:∀s,KS s->KS' s):∀{t:sA}{s:BG},Ov E t s KS->Ov E t s KS'
 |.done,s,h=>hk s h
 |.step I r,s,h=>Pp h fun v ch h'=>Qx hk h'
 |.both a b,s,h=>⟨Qx hk h.1,Qx hk h.2⟩
theorem DH:∀{gs:List EE}{s:BG}{KS KS':BG->Prop},(∀s,KS s->KS' s)->B5 gs s KS->B5 gs s KS'
 |[],s,_,_,hk,h=>hk s h
 |g::gs,s,_,_,hk,h=>fq (fun s' h'=>DH hk h') h
theorem fM{x:AV}{V:AO}{K K':AV->Bs->Prop}(hk:∀v ch,K v ch->K' v ch)(h:Qz x V K):Qz x V K':=by
 unfold Qz at *;split at h
 ·split at h
  ·exact⟨fun i hi hs=>hk _ _ (h.1 i hi hs),fun e=>hk _ _ (h.2 e)⟩
  ·exact h
 ·exact h
theorem jS{y:AV}{xs:List AV}{V:AO}{K K':AV->Bs->Prop}(hk:∀v ch,K v ch->K' v ch)(h:Ux E y xs V K):Ux E y xs V K':=by
 unfold Ux at *;split at h
 ·obtain⟨h1,o,els,n,Post,h2,e,j,i⟩:=h;exact⟨h1,o,els,n,Post,h2,e,j,fun n1 st1 r hp=>⟨(i n1 st1 r hp).1,hk _ _ (i n1 st1 r hp).2⟩⟩
 ·split at h
  ·split at h
   ·obtain⟨k,h1,h2,e⟩:=h;exact⟨k,h1,hk _ _ h2,hk _ _ e⟩
   ·exact h.elim
  ·exact h.elim
 ·exact h.elim
theorem Xe{v:AV}{K K':FuncId->List D->List D->Prop}(hk:∀f pre e,K f pre e->K' f pre e)(h:Yv E v K):Yv E v K':=by
 unfold Yv at h;split at h
 ·rename_i f cs;unfold Yv;simp only;split at h
  ·exact⟨h.1,hk _ _ _ h.2⟩
  ·exact h.elim
 ·exact⟨h.1,hk _ _ _ h.2⟩
 ·exact h.elim
theorem Hi:∀{p:PC}{Q Q':Bk->BG->Prop}{s:BG},pw E p Q s->(∀e s,Q e s->Q' e s)->pw E p Q' s
 |.skip,Q,Q',s,h,hq=>hq _ _ h
 |.reg gs l ks,Q,Q',s,h,hq=>DH (fun s' h'=>KX (fun s'' j=>hq _ _ j) h') h
 |.draw gs l ks,Q,Q',s,h,hq=>DH (fun s' h'=>Xc (fun s'' j=>hq _ _ j) h') h
 |.any gs t ks,Q,Q',s,h,hq=>DH (fun s' h'=>Qx (fun s'' j=>hq _ _ j) h') h
 |.seq a b,Q,Q',s,h,hq=>Hi (p:=a) h fun e s' h'=>by
  cases e with
  |normal=>exact Hi (p:=b) h' hq
  |exit i=>exact hq _ _ h'
  |ret=>exact hq _ _ h'
 |.cond c a b,Q,Q',s,h,hq=>by
  simp only[pw,V5]at h ⊢;split at h
  ·exact⟨fun hb=>Hi (h.1 hb) hq,fun hb=>Hi (h.2 hb) hq⟩
  ·exact h.elim
 |.block id a,Q,Q',s,h,hq=>Hi (p:=a) h fun e s' h'=>by
  cases e with
  |normal=>exact hq _ _ h'
  |ret=>exact hq _ _ h'
  |exit i =>
   simp only[Lx]at h' ⊢;split at h'
   ·rename_i e;rw[if_pos e];exact hq _ _ h'
   ·rename_i e;rw[if_neg e];exact hq _ _ h'
 |.loop gs ks os a,Q,Q',s,h,hq=>by
  obtain⟨J,h0,h1⟩:=h;refine⟨J,h0,fun n s' q=>Hi (p:=a) (h1 n s' q) fun e s'' h'=>?_⟩
  cases e with
  |normal=>exact h'
  |exit i=>exact hq _ _ h'
  |ret=>exact hq _ _ h'
 |.exit id,Q,Q',s,h,hq=>hq _ _ h
 |.ret,Q,Q',s,h,hq=>hq _ _ h
 |.dead,Q,Q',s,h,hq=>h.elim
 |.scope a,Q,Q',s,h,hq=>Hi (p:=a) h hq
 |.lab,Q,Q',s,h,hq=>hq _ _ h
 |.rngF gs g ps ks os b gs2 os2 a,Q,Q',s,h,hq=>DH (fun s0 h0=>Xe (fun f pre post ⟨h1,els,h2,JJ,Pd,m,u,x,A,z⟩ =>
  ⟨h1,els,h2,JJ,Pd,m,u,x,fun n V o B q=>hq _ _ (A n V o B q),fun e V o r=>hq _ _ (z e V o r)⟩) h0) h
 |.nxt gs d it l2 ks,Q,Q',s,h,hq=>DH (fun s0 h0=>fM (fun v ch h2=>KX (fun s' m=>hq _ _ m) h2) h0) h
 |.yld gs l1 d y xs l2 ks,Q,Q',s,h,hq=>DH (fun s0 h0=>KX (fun s1 h1=>jS (fun v ch h2=>KX (fun s' m=>hq _ _ m) h2) h1) h0) h
theorem oY{α:Type}(St:α->BG)(Inv:α->Prop)(μ:α->Nat){gs:List EE}{ks os:List Nat}{a:PC}(j:α)(h0:B5 gs s fun s1=>s1.nrm ks os=St j)(m:Inv j)
  (step:∀x,Inv x->pw E a (L5 (fun s'=>B5 gs s' fun s1=>∃y,s1.nrm ks os=St y/\Inv y/\μ y<μ x) Q) (St x)):pw E (.loop gs ks os a) Q s:=by
 refine⟨fun n s'=>∃x,s'=St x/\Inv x/\μ x=n,DH (fun s1 h=>⟨μ j,j,h,m,rfl⟩) h0,?_⟩;rintro n s' ⟨x,rfl,hx,rfl⟩;refine Hi (step x hx) fun e s' h=>?_
 cases e with
 |normal =>
  refine DH (fun s1 h=>?_) h;obtain⟨y,h1,h2,l⟩:=h;exact⟨μ y,l,y,h1,h2,rfl⟩
 |exit i=>exact h
 |ret=>exact h
theorem nA(l:List (Nat×AV))(t:Nat)(v:AV):CB (Dm l) t v=Dm ((t,v)::l):=rfl
theorem vX(l:List (Nat×(Nat×AY)))(cn:Nat->Nat)(o:Nat):(AO.mk (BH l) cn).drop o=⟨BH (l.filter fun p=>!(p.1 == o)),cn⟩:=by
 simp only[AO.drop,AO.mk.injEq,and_true];funext t
 induction l with
 |nil=>simp only[CB,List.filter_nil,BH];split<;>rfl
 |cons p l ih =>
  simp only[CB]at ih ⊢
  by_cases h:t=o
  ·subst h;simp only[if_true]at ih ⊢
   by_cases h1:p.1=t
   ·simp[aa,h1];simpa using ih
   ·have:(!(p.1 == t))=true:=by simpa using h1
    rw[aa,if_pos this];obtain⟨k,v⟩:=p;simp only[BH]at h1 ⊢;rw[if_neg (Ne.symm h1)];exact ih
  ·simp only[if_neg h]at ih ⊢;obtain⟨k,v⟩:=p
   by_cases h1:k=o
   ·subst h1;have:(!((k,v).1 == k))=false:=by simp
    rw[aa,if_neg (by simp),←ih];simp only[BH];rw[if_neg h]
   ·rw[aa,if_pos (by simpa using h1)];simp only[BH];rw[ih]
def FG(V:AO)(os:List Nat):List Nat->List (Nat×(Nat×AY))
 |[]=>[]
 |o::l=>match V.ob o with
  |some (_,x)=>(match x.nrm V os with|some y=>(o,(0,y))::FG V os l|none=>FG V os l)
  |none=>FG V os l
theorem o_(f:Nat->AV)(V:AO)(ks os:List Nat):(BG.mk f V).nrm ks os=⟨Dm (ks.map fun k=>(k,(f k).nrm V os)),⟨BH (FG V os os),fun _=>1⟩⟩:=by
 have h1:(fun t=>if ks.contains t then(f t).nrm V os else .undef)=Dm (ks.map fun k=>(k,(f k).nrm V os)):=by
  funext t
  induction ks with
  |nil=>simp[Dm]
  |cons k ks ih =>
   simp only[ax,Oc,ay]
   by_cases h:t=k
   ·subst h;simp
   ·have:(t == k)=false:=by simpa using h
    rw[this,az,if_neg h];exact ih
 have h2:∀l:List Nat,(fun o=>if l.contains o then(match V.ob o with
   |some (_,x)=>match x.nrm V os with|some y=>some (0,y)|none=>none
   |none=>none)else none)=BH (FG V os l):=by
  intro l;funext t
  induction l with
  |nil=>simp[FG,BH]
  |cons k l ih =>
   simp only[ay]
   have i:∀(t:Nat),V.ob t=none->BH (FG V os l) t=none:=by
    intro t ht;clear ih
    induction l with
    |nil=>rfl
    |cons a l e =>
     simp only[FG]
     cases ha:V.ob a with
     |none=>exact e
     |some p =>
      obtain⟨g,x⟩:=p;simp only;have hne:t≠a:=by rintro rfl;rw[ht]at ha;cases ha
      cases x.nrm V os with
      |none=>exact e
      |some y=>simp only[BH,if_neg hne];exact e
   have j:∀(t g:Nat) (x:AY),V.ob t=some (g,x)->x.nrm V os=none->BH (FG V os l) t=none:=by
    intro t g x ht hx;clear ih i
    induction l with
    |nil=>rfl
    |cons a l e =>
     simp only[FG]
     cases ha:V.ob a with
     |none=>exact e
     |some p =>
      obtain⟨g',x'⟩:=p;simp only
      by_cases hne:t=a
      ·subst hne;rw[ht]at ha;cases ha;rw[hx];exact e
      ·cases x'.nrm V os with
       |none=>exact e
       |some y=>simp only[BH,if_neg hne];exact e
   by_cases h:t=k
   ·subst h;simp only[beq_self_eq_true,Bool.true_or,if_true,FG]
    cases hk:V.ob t with
    |none=>simp only;exact(i t hk).symm
    |some p =>
     obtain⟨g,x⟩:=p;simp only
     cases hx:x.nrm V os with
     |none=>simp only;exact(j t g x hk hx).symm
     |some y=>simp[BH]
   ·have:(t == k)=false:=by simpa using h
    rw[this,az];simp only[FG]
    cases V.ob k with
    |none=>exact ih
    |some p =>
     obtain⟨g,x⟩:=p;simp only
     cases x.nrm V os with
     |none=>exact ih
     |some y=>simp only[BH,if_neg h];exact ih
 show BG.mk _ _=_;rw[h1,AO.nrm];exact congrArg (fun ob=>BG.mk _ ⟨ob,fun _=>1⟩) (h2 os)
theorem fT(V:AO)(os:List Nat):FG V os []=[]:=rfl
theorem bt(V:AO)(os:List Nat)(o:Nat)(l:List Nat):FG V os (o::l)=match V.ob o with
 |some (_,x)=>(match x.nrm V os with|some y=>(o,(0,y))::FG V os l|none=>FG V os l)
 |none=>FG V os l:=rfl
theorem oz{V:AO}{os ety es nl l}:(AY.row ety es nl l).nrm V os=some (.row ety es nl l):=rfl
theorem o4{V:AO}{os a b c d e}:(AY.mat a b c d e).nrm V os=some (.mat a b c d e):=rfl
theorem o7{V:AO}{os k o g}:(AV.mref k o g).nrm V os=if AV.nrm.live V os o g then .mref k o 0 else .undef:=rfl
theorem pA{V:AO}{os sl cs off}:(AV.ablk sl cs off).nrm V os=if(AV.nrm.nrmL V os cs).all AV.one then .ablk sl (AV.nrm.nrmL V os cs) off else .undef:=rfl
theorem o5{V:AO}{os t l}:(AY.map t l).nrm V os=some (.map t l):=rfl
theorem fA{V:AO}{os xs}:(AY.cells xs).nrm V os=if(xs.map (AV.nrm V os)).all AV.one then some (.cells (xs.map (AV.nrm V os)))else none:=rfl
theorem AAe{V:AO}{os x}:(AV.d x).nrm V os=.d x:=rfl
theorem kd{V:AO}{os}:AV.undef.nrm V os=.undef:=rfl
theorem uE{V:AO}{os o g}:(AV.own o g).nrm V os=if AV.nrm.live V os o g then .own o 0 else .undef:=rfl
theorem o8{V:AO}{os o g}:(AV.map o g).nrm V os=if AV.nrm.live V os o g then .map o 0 else .undef:=rfl
theorem uD{V:AO}{os o g off}:(AV.ptr o g off).nrm V os=if AV.nrm.live V os o g then .ptr o 0 off else .undef:=rfl
theorem yn{V:AO}{os f cs}:(AV.fn f cs).nrm V os=.fn f (AV.nrm.nrmL V os cs):=rfl
theorem pB{V:AO}{os}:AV.nrm.nrmL V os []=[]:=rfl
theorem ke{V:AO}{os x xs}:AV.nrm.nrmL V os (x::xs)=x.nrm V os::AV.nrm.nrmL V os xs:=rfl
theorem uV{V:AO}{os:List Nat}{o g:Nat}:AV.nrm.live V os o g=(os.contains o && match V.ob o with|some (g',_)=>g' == g|none=>false):=rfl
end Go.Pw
