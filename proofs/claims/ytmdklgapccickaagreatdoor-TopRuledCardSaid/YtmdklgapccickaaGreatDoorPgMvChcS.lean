/- A part of the proof. -/
import Derived.Test.YtmdklgapccickaaGreatDoorPgMvChrV
import Derived.Test.YtmdklgapccickaaGreatDoorPgMvChcJ
import Derived.Test.YtmdklgapccickaaGreatDoorPgMvChcD
set_option linter.all false
open Go Go.Pw Go.Proofs
namespace Go.Pw
set_option maxRecDepth 100000
set_option maxHeartbeats 12800000
section
attribute [local congr] Bm BC BD Ak Bn Aq Au Ar Aj Af AY AU Am AZ BR BS BP Ao An Ad Ap Ae BH BZ Ab BM BN BI BJ BL BK BF BG BB Bq BE Al Aa Ba Ag Av BQ
attribute [local irreducible] IntKind.wrap A0 Option.getD and or
theorem YN {k v:D}{l:List (D×D)}(h:CG k l=none) (hk:Dl k k=true):CG k (l++[(k,v)])=some v:=by
 induction l with
 |nil=>simp[CG,hk]
 |cons e l ih =>
  simp only[CG] at h
  split at h
  ·cases h
  ·rename_i hne;simp only[List.cons_append,CG,hne];exact ih h
theorem bh {k:D}{l:List (D×D)}(h:CG k l=none):D6 k l=none:=by
 induction l with
 |nil=>rfl
 |cons e l ih =>
  simp only[CG] at h
  split at h
  ·cases h
  ·rename_i hne;simp only[D6,hne,ih h];rfl
theorem f7 {α:Type}(l:List α) (x:α):(l++[x])[l.length]?=some x:=by simp
theorem eQ {α:Type}(l:List α) (x y:α):(l++[x]).set l.length y=l++[y]:=by simp
theorem fX (m:Dv):(NM m).length=m.length:=by simp[NM]
theorem bR (m:Dv) (a b v:Int):NM m++[(.agg [.int .i64 a,.int .i64 b],.int .i64 v)]=NM (m++[((a,b),v)]):=by simp[NM,oJ,R2]
theorem R' {k:G6}{m:Dv}(h:G1 k m=none) (v:Int):v∈([]:List Int)\/(k,v)∉m:=by
 refine .inr fun hm=>?_
 induction m with
 |nil=>cases hm
 |cons e m ih =>
  simp only[G1] at h
  split at h
  ·cases h
  ·rename_i hne
   rcases List.mem_cons.1 hm with rfl|hm
   ·exact hne rfl
   ·exact ih h hm
theorem WV {k:G6}{m:Dv}(h:∀v,(k,v)∉m):G1 k m=none:=by
 cases hl:G1 k m with
 |none=>rfl
 |some v=>exact absurd (Pe hl) (h v)
def GCode.decW (c:GCode) (rec:Int->Dv->Option (List Int)×Dv) (s:Int) (own:List Int):Nat->Int->Dv->Option (List Int)×Dv
 |0,_,m=>(none,m)
 |n+1,w,m =>
  if own=B8 c.out.toNat (c.wrd s w) then
   match (rec (c.nxt s w) m).1 with
   |some l=>(some (w::l),(rec (c.nxt s w) m).2)
   |none=>c.decW rec s own n (w+1) (rec (c.nxt s w) m).2
  else c.decW rec s own n (w+1) m
def GCode.decM (c:GCode) (bits:List Int):Nat->Int->Int->Dv->Option (List Int)×Dv
 |0,_,_,m=>(some [],m)
 |k+1,s,p,m =>
  if G1 (s,p) m=none then
   match (c.decW (fun s' m'=>c.decM bits k s' (p+1) m') s ((bits.drop (p*c.out).toNat).take c.out.toNat) c.W 0 m).1 with
   |some l=>(some l,(c.decW (fun s' m'=>c.decM bits k s' (p+1) m') s ((bits.drop (p*c.out).toNat).take c.out.toNat) c.W 0 m).2)
   |none=>(none,(c.decW (fun s' m'=>c.decM bits k s' (p+1) m') s ((bits.drop (p*c.out).toNat).take c.out.toNat) c.W 0 m).2++[((s,p),1)])
  else (none,m)
def GCode.Tab (c:GCode) (m:Dv):Prop:=(m.map (·.1)).Nodup/\∀e,e∈m->e.2=1/\c.isState e.1.1=true/\0<=e.1.2/\e.1.2<=24
theorem GCode.Tab.len {c:GCode}(h:c.ok=true) {m:Dv}(ht:c.Tab m):m.length<=100:=by
 have hd:=GCode.ok_head h
 have:=nodup_lt 100 (m.map fun e=>(e.1.1*25+e.1.2).toNat) ?_ ?_
 ·simpa using this
 ·have h1:=ht.1
  rw[List.nodup_iff_pairwise_ne,List.pairwise_map] at h1 ⊢
  refine List.Pairwise.imp_of_mem (fun {a b} ha hb hab he=>hab ?_) h1
  have ka:=ht.2 a ha
  have kb:=ht.2 b hb
  simp only[GCode.isState,DE,decide_eq_true_eq] at ka kb
  exact Prod.ext (by omega) (by omega)
 ·intro x hx
  simp only[List.mem_map] at hx
  obtain⟨e,he,rfl⟩:=hx
  have ka:=ht.2 e he
  simp only[GCode.isState,DE,decide_eq_true_eq] at ka
  omega
def Je (p:Int) (m m':Dv):Prop:=∀e,e∈m'->e∈m\/p<=e.1.2
theorem Je.refl (p:Int) (m:Dv):Je p m m:=fun e he=>.inl he
theorem Je.trans {p:Int}{a b d:Dv}(h:Je p a b) (k:Je p b d):Je p a d:=fun e he=>(k e he).elim (h e) .inr
theorem Og (c:GCode) (h:c.ok=true) {rec:Int->Dv->Option (List Int)×Dv}{s p:Int}{own:List Int}(hs:c.isState s=true)
  (hrec:∀s' m,c.isState s'=true->c.Tab m->c.Tab (rec s' m).2/\Je (p+1) m (rec s' m).2):∀(n:Nat) (w:Int) (m:Dv),0<=w->w+n<=c.W->c.Tab m->c.Tab (c.decW rec s own n w m).2/\Je (p+1) m (c.decW rec s own n w m).2
 |0,w,m,_,_,ht=>⟨ht,Je.refl _ _⟩
 |n+1,w,m,h0,h1,ht=>by
  have hWe:=GCode.W_eq' c
  simp only[GCode.decW]
  split
  ·obtain⟨h2,h3⟩:=hrec (c.nxt s w) m (GCode.nxt_state h hs (by simp only[GCode.isWord,DE,decide_eq_true_eq];omega)) ht
   split
   ·exact⟨h2,h3⟩
   ·obtain⟨h4,h5⟩:=Og c h hs hrec n (w+1) _ (by omega) (by omega) h2
    exact⟨h4,h3.trans h5⟩
  ·exact Og c h hs hrec n (w+1) m (by omega) (by omega) ht
theorem SQ (c:GCode) (h:c.ok=true) (bits:List Int):∀(k:Nat) (s p:Int) (m:Dv),c.isState s=true->0<=p->p+k<=24->c.Tab m->c.Tab (c.decM bits k s p m).2/\Je p m (c.decM bits k s p m).2
 |0,s,p,m,_,_,_,ht=>⟨ht,Je.refl _ _⟩
 |k+1,s,p,m,hs,h0,h24,ht=>by
  simp only[GCode.decM]
  split
  ·rename_i hn
   obtain⟨h1,h2⟩:=Og c h (own:=(bits.drop (p*c.out).toNat).take c.out.toNat) hs (rec:=fun s' m'=>c.decM bits k s' (p+1) m') (p:=p) (fun s' m' hs' ht'=>SQ c h bits k s' (p+1) m' hs' (by omega) (by omega) ht') c.W 0 m (by omega) (by omega) ht
   have h2':Je p m (c.decW (fun s' m'=>c.decM bits k s' (p+1) m') s ((bits.drop (p*c.out).toNat).take c.out.toNat) c.W 0 m).2:=fun e he=>(h2 e he).imp id fun h=>by omega
   split
   ·exact⟨h1,h2'⟩
   ·refine⟨⟨?_,fun e he=>?_⟩,fun e he=>?_⟩
    ·rw[List.map_append,List.nodup_append]
     refine⟨h1.1,by simp,fun a ha b hb=>?_⟩
     simp at hb;subst hb
     rintro rfl
     simp only[List.mem_map] at ha
     obtain⟨e,he,hek⟩:=ha
     rcases h2 e he with he|he
     ·have:=R' hn e.2
      rcases this with h|h
      ·cases h
      ·exact h (by rw[←hek];exact he)
     ·rw[hek] at he;simp only at he;omega
    ·rcases List.mem_append.1 he with he|he
     ·exact h1.2 e he
     ·simp at he;subst he;exact⟨rfl,hs,h0,by simp only;omega⟩
    ·rcases List.mem_append.1 he with he|he
     ·exact h2' e he
     ·simp at he;subst he;exact .inr (by simp)
  ·exact⟨ht,Je.refl _ _⟩
theorem SP (c:GCode) {rec:Int->Dv->Option (List Int)×Dv}{s:Int}{own:List Int}{k:Nat}(hrec:∀s' m l,(rec s' m).1=some l->l.length=k):∀(n:Nat) (w:Int) (m:Dv) (l:List Int),(c.decW rec s own n w m).1=some l->l.length=k+1
 |0,w,m,l,h=>by simp[GCode.decW] at h
 |n+1,w,m,l,h=>by
  simp only[GCode.decW] at h
  split at h
  ·split at h
   ·rename_i l' hl'
    simp at h;subst h
    simp[hrec _ _ _ hl']
   ·exact SP c hrec n _ _ l h
  ·exact SP c hrec n _ _ l h
theorem W4 (c:GCode) (bits:List Int):∀(k:Nat) (s p:Int) (m:Dv) (l:List Int),(c.decM bits k s p m).1=some l->l.length=k
 |0,s,p,m,l,h=>by simp[GCode.decM] at h;subst h;rfl
 |k+1,s,p,m,l,h=>by
  simp only[GCode.decM] at h
  split at h
  ·split at h
   ·rename_i l' hl'
    simp at h;subst h
    exact SP c (fun s' m' l h=>W4 c bits k s' (p+1) m' l h) _ _ _ _ hl'
   ·cases h
  ·cases h
def jd (o:Option (List Int)):D:=match o with|some l=>.list false (BU l)|none=>.list true []
theorem Gf {l:List Int}:jd (some l)=.list false (BU l):=rfl
theorem EK:jd none=.list true []:=rfl
theorem Kh (n1 n2:Bool) (xs ys:List Int):Cc E0 GQ [.list n1 (BU xs),.list n2 (BU ys)] (.bool (decide (xs=ys))):=by
 refine AN Ix Ay (by simp) fun hwf=>?_
 simp only[FL,Ea,EZ,EM,Fd,Fc,HI,Fb,CI,CX,CY,Eb,C9,List.length_map,CR,true_and,and_true] at hwf
 rw[AP];unfold F5
 by_cases hl:xs.length=ys.length
 ·refine' HO
  all_goals try exact Ca
  refine Bh (α:=Int) (fun x=>[(13,.d (.int .i64 x))]) (fun x=>[]) (fun x=>0<=x/\x<=xs.length/\xs.take x.toNat=ys.take x.toNat) (fun x=>(xs.length-x).toNat) ?a1_0 ?hI1 ?step1
  case' step1=>(rintro i hI;try dsimp only at hI)
  case' hI1=>try dsimp only
  ·simp
  ·obtain⟨hi0,hi1,heq⟩:=hI
   by_cases hi:i<xs.length
   ·have hx:=take_get (xs:=xs) (i:=i.toNat) (by omega)
    have hy:=take_get (xs:=ys) (i:=i.toNat) (by omega)
    have hii:(i+1).toNat=i.toNat+1:=by omega
    by_cases he:xs[i.toNat]?.getD 0=ys[i.toNat]?.getD 0
    ·refine' HO
     all_goals (try simp (disch:=omega) only[IE] at *)
     all_goals try exact Ca
     all_goals (rw[hii,hx,hy,heq,he])
    ·have hne:¬xs=ys:=fun e=>he (by rw[e])
     refine' HO
     all_goals try exact Ca
     all_goals first|(exfalso;omega)|simp[hne]
   ·have hxy:xs=ys:=by
     have h1:xs.take i.toNat=xs:=List.take_of_length_le (by omega)
     have h2:ys.take i.toNat=ys:=List.take_of_length_le (by omega)
     rw[←h1,heq,h2]
    refine' HO
    all_goals try exact Ca
    all_goals simp[hxy]
 ·have hne:¬xs=ys:=fun e=>hl (by rw[e])
  refine' HO
  all_goals first|(exfalso;omega)|simp[hne]
def GCode.decR (c:GCode) (s:Int) (bits:List Int):Option (List Int)×Int :=
 if !c.ok then (none,40) else if !c.isState s then (none,41)
 else if !(Bf bits && decide ((bits.length:Int).tmod c.out=0) && decide ((bits.length:Int)<=c.out*24)) then (none,1)
 else match (c.decM bits (bits.length/c.out.toNat) s 0 []).1 with
  |some l=>(some l,0)
  |none=>(none,3)
theorem K3 (c:GCode) (h:c.ok=true) (nb:Bool) (bits:List Int) (hlen:bits.length<=120):∀(k:Nat) (s p:Int) (m:Dv),c.isState s=true->0<=p->(p+k)*c.out=bits.length->p+k<=24->c.Tab m ->
  Ft E0 HU [(900003,0,.map qf (NM m))] [.d (Fo c),.d (.agg [.int .i64 s,.int .i64 p]),.d (.list nb (BU bits)),.map 900003 0] [(900003,0,.map qf (NM (c.decM bits k s p m).2))]
   (.tup [.d (jd (c.decM bits k s p m).1),.d (.bool (c.decM bits k s p m).1.isSome)]):=by
 intro k
 have hd:=GCode.ok_head h
 induction k with
 |zero =>
  intro s p m hs h0 hp h24 ht
  refine CT Ga Ay (by simp) (by simp[Jv,Dt,C_,AW.isHist]) (by simp[It]) fun hwf hwo=>?_
  rw[Cg];unfold FN
  have hp':p*c.out=bits.length:=by simpa using hp
  have hw:IntKind.i64.wrap (p*c.out)=bits.length:=by rw[hp'];exact Bd _ (by omega)
  (try (simp -implicitDefEqProofs only[go_sem,GCode.decM,AR,AQ,Ax,hw,Gf,WZ,Option.isSome_some]));repeat' first|(with_reducible first|exact tI|refine aI ?_ ?_|intro _)|((first|with_reducible refine Gs ?_ ?_<;>intro _)<;>try (simp -implicitDefEqProofs only[go_sem,GCode.decM,AR,AQ,Ax,hw,Gf,WZ,Option.isSome_some]))|simp (disch:=omega) only[IE]
  all_goals (exfalso;simp_all;done)
 |succ k ih =>
  intro s p m hs h0 hp h24 ht
  obtain⟨Q,hQ⟩:∃Q,p*c.out=Q:=⟨_,rfl⟩
  have hexp:(p+((k+1:Nat):Int))*c.out=Q+c.out+k*c.out:=by
   rw[←hQ,Int.add_mul];simp[Int.add_mul];omega
  have hko:0<=(k:Int)*c.out:=Int.mul_nonneg (by omega) (by omega)
  have hQ0:0<=Q:=by rw[←hQ];exact Int.mul_nonneg h0 (by omega)
  rw[hexp] at hp
  have hp2:(p+1+(k:Int))*c.out=bits.length:=by
   rw[show p+1+(k:Int)=p+((k+1:Nat):Int) by omega,hexp,hp]
  have h12:=Jt (b:=c.bits) (by omega)
  have hWe:=GCode.W_eq' c
  have hWb:c.W<=4:=by simp only[GCode.W];omega
  have hs':=hs
  simp only[GCode.isState,DE,decide_eq_true_eq] at hs'
  have hrow:=GCode.ok_next h s.toNat (by omega)
  have hnc:((2^c.bits.toNat:Nat):Int)=2^c.bits.toNat:=by simp
  have hwQ:IntKind.i64.wrap (p*c.out)=Q:=by rw[hQ];exact Bd _ (by omega)
  have hwp:IntKind.i64.wrap (p+1)=p+1:=Bd _ (by omega)
  refine CT Ga Ay (by simp) (by simp[Jv,Dt,C_,AW.isHist]) (by simp[It]) fun hwf hwo=>?_
  rw[Cg];unfold FN
  obtain⟨own,hown⟩:∃own,(bits.drop Q.toNat).take c.out.toNat=own:=⟨_,rfl⟩
  obtain⟨G,hG⟩:∃G,c.decW (fun s' m'=>c.decM bits k s' (p+1) m') s own c.W 0 m=G:=⟨_,rfl⟩
  have hgoal:c.decM bits (k+1) s p m=if G1 (s,p) m=none then (match G.1 with
    |some l=>(some l,G.2)
    |none=>(none,G.2++[((s,p),1)])) else (none,m):=by
   simp only[GCode.decM,hQ,hown,hG]
  generalize c.decM bits (k+1) s p m=R at hgoal
  cases hlk:G1 (s,p) m with
  |some v =>
   have hv:=(ht.2 _ (Pe hlk)).1
   simp only at hv
   subst hv
   simp only[hlk,reduceCtorEq,if_false] at hgoal
   subst hgoal
   refine' PB @AR @AQ @Ax hwQ @Jy hlk @EK @Option.isSome_none.{0}
   all_goals try exact Ca
  |none =>
   simp only[hlk,if_true] at hgoal
   have htG:=Og c h (own:=own) hs (rec:=fun s' m'=>c.decM bits k s' (p+1) m') (p:=p) (fun s' m' hs' ht'=>SQ c h bits k s' (p+1) m' hs' (by omega) (by omega) ht') c.W 0 m (by omega) (by omega) ht
   rw[hG] at htG
   refine' Gr @AR @AQ @Ax hwQ @Jy hlk @Option.map_none.{0,0} hown;repeat' first|(refine' CQ;(first|refine AG (EQ c (by omega)) ?_)<;>refine' Gr @AR @AQ @Ax hwQ @Jy hlk @Option.map_none.{0,0} hown)|refine' CP|done
   all_goals try exact Ca
   refine B4 (α:=Int×Dv) (l0:=?l2) (m0:=?m2) (fun x=>[(42,.d (.int .i64 x.1))]) (fun x=>[(900003,.map qf (NM x.2))]) (fun x=>0<=x.1/\x.1<=c.W/\c.Tab x.2/\c.decW (fun s' m'=>c.decM bits k s' (p+1) m') s own (c.W-x.1.toNat) x.1 x.2=G) (fun x=>(c.W-x.1).toNat) (?a2_0,m) ?h02 ?he2 ?he22 ?hI2 ?step2
   case h02=>(simp -implicitDefEqProofs only[go_sem];rfl)
   case he2=>rfl
   case he22=>rfl
   case' step2=>(rintro⟨w,mm⟩ hI;try dsimp only at hI)
   case' hI2=>try dsimp only
   ·exact⟨by omega,by omega,ht,hG⟩
   ·obtain⟨hw0,hwW,htm,heq⟩:=hI
    by_cases hw:w<c.W
    ·have hiw:c.isWord w=true:=by simp only[GCode.isWord,DE,decide_eq_true_eq];rw[hWe] at hw;omega
     have hst:=GCode.nxt_state h hs hiw
     have cb:=Fh c s w h hs hiw
     have hstep:c.decW (fun s' m'=>c.decM bits k s' (p+1) m') s own (c.W-w.toNat) w mm=if own=B8 c.out.toNat (c.wrd s w) then
       match (c.decM bits k (c.nxt s w) (p+1) mm).1 with
       |some l=>(some (w::l),(c.decM bits k (c.nxt s w) (p+1) mm).2)
       |none=>c.decW (fun s' m'=>c.decM bits k s' (p+1) m') s own (c.W-(w+1).toNat) (w+1) (c.decM bits k (c.nxt s w) (p+1) mm).2
      else c.decW (fun s' m'=>c.decM bits k s' (p+1) m') s own (c.W-(w+1).toNat) (w+1) mm:=by
      rw[show c.W-w.toNat=(c.W-(w+1).toNat)+1 by omega]
      simp only[GCode.decW]
     rw[hstep] at heq
     clear hstep
     have ci:=ih (c.nxt s w) (p+1) mm hst (by omega) hp2 (by omega) htm
     have hti:=(SQ c h bits k (c.nxt s w) (p+1) mm hst (by omega) (by omega) htm).1
     generalize hR0:c.decM bits k (c.nxt s w) (p+1) mm=R0 at *
     obtain⟨o0,m0⟩:=R0
     dsimp only at ci hti heq
     have hop:=fun n1 n2=>Kh n1 n2 own (B8 c.out.toNat (c.wrd s w))
     by_cases he:own=B8 c.out.toNat (c.wrd s w)
     ·rw[if_pos he] at heq
      simp only[decide_eq_true he] at hop
      cases o0 with
      |some l =>
       dsimp only at heq
       subst heq
       dsimp only at hgoal
       subst hgoal
       refine' Gr @AR @AQ @Ax @DF (c.nxt_eq) hwp @Gf @Option.isSome_some.{0};repeat' first|(refine' CQ;(first|refine AG cb ?_|refine AG (hop _ _) ?_|refine Cz ([((900003,0),(900003,0))]) ([((900003,0),(900003,0))]) (ci) ?_)<;>refine' Gr @AR @AQ @Ax @DF (c.nxt_eq) hwp @Gf @Option.isSome_some.{0})|refine' CP|done
       all_goals try exact Ca
       ·have:=W4 c bits k (c.nxt s w) (p+1) mm l (by rw[hR0])
        omega
       ·rename_i hl0;subst hl0;rfl
       ·rfl
      |none =>
       dsimp only at heq
       refine' Gr @AR @AQ @Ax @DF (c.nxt_eq) hwp @EK @Option.isSome_none.{0};repeat' first|(refine' CQ;(first|refine AG cb ?_|refine AG (hop _ _) ?_|refine Cz ([((900003,0),(900003,0))]) ([((900003,0),(900003,0))]) (ci) ?_)<;>refine' Gr @AR @AQ @Ax @DF (c.nxt_eq) hwp @EK @Option.isSome_none.{0})|refine' CP|done
       all_goals (try simp (disch:=omega) only[IE] at *)
       all_goals try exact Ca
       all_goals first|exact hti|exact heq|(simp_all;done)|skip
     ·rw[if_neg he] at heq
      simp only[decide_eq_false he] at hop
      refine' UB @AR @AQ @Ax @DF (c.nxt_eq) hwp;repeat' first|(refine' CQ;(first|refine AG cb ?_|refine AG (hop _ _) ?_)<;>refine' UB @AR @AQ @Ax @DF (c.nxt_eq) hwp)|refine' CP|done
      all_goals (try simp (disch:=omega) only[IE] at *)
      all_goals try exact Ca
      all_goals first|exact htm|exact heq|(simp_all;done)|skip
    ·have hz:c.W-w.toNat=0:=by omega
     rw[hz,GCode.decW] at heq
     subst heq
     dsimp only at hgoal htG
     subst hgoal
     have hno:G1 (s,p) mm=none:=WV fun v hv=>by
      rcases htG.2 _ hv with hv|hv
      ·rcases R' hlk v with h|h
       ·cases h
       ·exact h hv
      ·simp only at hv;omega
     have hml:=htm.len h
     have hk0:CG (.agg [.int .i64 s,.int .i64 p]) (NM mm)=none:=by rw[Jy,hno];rfl
     have hk1:=bh hk0
     have hk2:=YN (v:=.int .i64 0) hk0 ((QV (s,p) (s,p)).trans (by simp))
     have hg:=f7 (NM mm) (.agg [.int .i64 s,.int .i64 p],.int .i64 0)
     have hst2:=(eQ (NM mm) (.agg [.int .i64 s,.int .i64 p],.int .i64 0) (.agg [.int .i64 s,.int .i64 p],.int .i64 1)).trans (bR mm s p 1)
     have hw1:IntKind.i64.wrap 1=1:=Bd 1 (by omega)
     refine' PB @AR @AQ @Ax hk0 hk1 hk2 hg (aI hst2 (aI hw1 (aI @EK @Option.isSome_none.{0})))
     all_goals first|omega|exact hst2|(rw[fX];omega)|skip
theorem QB (c:GCode) (s:Int) (nb:Bool) (bits:List Int):Cc E0 L9 [Fo c,.int .i64 s,.list nb (BU bits)] (.tup [jd (c.decR s bits).1,.int .i64 (c.decR s bits).2]):=by
 refine AN P4 Ay (by simp) fun hwf=>?_
 simp only[FL,Ea,EZ,EM,Fd,Fc,HI,Fb,CI,CX,CY,Eb,C9,List.length_map,CR,true_and,and_true,AR,AQ,Ax] at hwf
 rw[AP];unfold Kb
 cases hok:c.ok with
 |false =>
  have hr:c.decR s bits=(none,40):=by simp[GCode.decR,hok]
  rw[hr]
  refine' MR @AR @AQ @Ax @EK;repeat' first|(refine' CQ;(first|refine AG (GN c s) ?_)<;>refine' MR @AR @AQ @Ax @EK)|refine' CP|done
  all_goals simp_all
 |true =>
 cases hst:c.isState s with
 |false =>
  have hr:c.decR s bits=(none,41):=by simp[GCode.decR,hok,hst]
  rw[hr]
  refine' MR @AR @AQ @Ax @EK;repeat' first|(refine' CQ;(first|refine AG (GN c s) ?_)<;>refine' MR @AR @AQ @Ax @EK)|refine' CP|done
  all_goals simp_all
 |true =>
 have hd:=GCode.ok_head hok
 have co:=GN c s
 simp only[hok,hst,Bool.not_true,Bool.false_eq_true,if_false] at co
 have hw24:IntKind.i64.wrap (c.out*24)=c.out*24:=Bd _ (by omega)
 cases hg:(Bf bits && decide ((bits.length:Int).tmod c.out=0) && decide ((bits.length:Int)<=c.out*24)) with
 |false =>
  have hr:c.decR s bits=(none,1):=by simp only[GCode.decR,hok,hst,hg];rfl
  rw[hr]
  refine' lz @AR @AQ @Ax @EK hw24;repeat' first|(refine' CQ;(first|refine AG co ?_|refine AG (E' nb bits) ?_)<;>refine' lz @AR @AQ @Ax @EK hw24)|refine' CP|done
  all_goals first|omega|(simp_all;done)|(exfalso;simp_all;omega)
 |true =>
  have hg':=hg
  simp only[Bool.and_eq_true,decide_eq_true_eq] at hg'
  obtain⟨⟨hab,hmod⟩,hl24⟩:=hg'
  have hr:c.decR s bits=match (c.decM bits (bits.length/c.out.toNat) s 0 []).1 with
    |some l=>(some l,0)
    |none=>(none,3):=by simp only[GCode.decR,hok,hst,hg];rfl
  rw[hr]
  have hlen:bits.length<=120:=by omega
  obtain⟨k,hk⟩:∃k,bits.length/c.out.toNat=k:=⟨_,rfl⟩
  have hkk:((0:Int)+(k:Int))*c.out=bits.length:=by
   have e1:(bits.length:Int)%c.out=0:=by rw[Int.tmod_eq_emod_of_nonneg (by omega)] at hmod;exact hmod
   have e2:((k:Nat):Int)=(bits.length:Int)/c.out:=by
    rw[←hk,Int.natCast_ediv];congr 1;omega
   rw[Int.zero_add,e2]
   exact Int.ediv_mul_cancel (Int.dvd_of_emod_eq_zero e1)
  have hk24:(0:Int)+k<=24:=by
   have h5:((0:Int)+k)*c.out<=24*c.out:=by rw[hkk,Int.mul_comm 24];exact hl24
   exact Int.le_of_mul_le_mul_right h5 (by omega)
  rw[hk]
  have ci:=K3 c hok nb bits hlen k s 0 [] hst (by omega) hkk hk24 ⟨by simp,fun e he=>(by cases he)⟩
  generalize c.decM bits k s 0 []=R at *
  obtain⟨o0,m0⟩:=R
  have hm0:NM []=[]:=rfl
  rw[hm0] at ci
  cases o0 with
  |some l =>
   dsimp only at ci ⊢
   refine' UB @AR @AQ @Ax @Gf @Option.isSome_some.{0} hw24;repeat' first|(refine' CQ;(first|refine AG co ?_|refine AG (E' nb bits) ?_|refine Cz ([((900003,0),(47,0))]) ([((900003,0),(47,0))]) (ci) ?_)<;>refine' UB @AR @AQ @Ax @Gf @Option.isSome_some.{0} hw24)|refine' CP|done
   all_goals first|omega|(simp_all;done)
  |none =>
   dsimp only at ci ⊢
   refine' UB @AR @AQ @Ax @EK @Option.isSome_none.{0} hw24;repeat' first|(refine' CQ;(first|refine AG co ?_|refine AG (E' nb bits) ?_|refine Cz ([((900003,0),(47,0))]) ([((900003,0),(47,0))]) (ci) ?_)<;>refine' UB @AR @AQ @Ax @EK @Option.isSome_none.{0} hw24)|refine' CP|done
   all_goals first|omega|(simp_all;done)
end
def GCode.apPW (c:GCode) (rec:Int->List Int->Int) (s first:Int) (mark:List Int):Nat->Int->Int->Int
 |0,_,least=>least
 |k+1,w,least =>
  let bits:=(B8 c.out.toNat (c.wrd s w)).drop first.toNat
  let n:=min mark.length bits.length
  c.apPW rec s first mark k (w+1) (min least (Lh (mark.take n) bits+rec (c.nxt s w) (mark.drop n)))
def GCode.apP (c:GCode):Nat->Int->Int->List Int->Int
 |0,_,_,_=>0
 |n+1,s,first,mark=>if mark=[] then 0 else c.apPW (fun s' mk=>c.apP n s' 0 mk) s first mark c.W 0 16
def GCode.MemGood (c:GCode) (M:List Int) (m:Dv):Prop:=∀e,e∈m->0<=e.1.2/\e.1.2<=M.length/\e.2=c.apP e.1.2.toNat e.1.1 0 (M.drop (M.length-e.1.2.toNat))
def GCode.ownB (c:GCode) (bits:List Int) (p:Int):List Int:=(bits.drop (p*c.out).toNat).take c.out.toNat
def GCode.decPW (c:GCode) (rec:Int->Option (List Int)) (s:Int) (own:List Int):Nat->Int->Option (List Int)
 |0,_=>none
 |n+1,w =>
  if own=B8 c.out.toNat (c.wrd s w) then
   match rec (c.nxt s w) with
   |some l=>some (w::l)
   |none=>c.decPW rec s own n (w+1)
  else c.decPW rec s own n (w+1)
def GCode.decP (c:GCode) (bits:List Int):Nat->Int->Int->Option (List Int)
 |0,_,_=>some []
 |k+1,s,p=>c.decPW (fun s'=>c.decP bits k s' (p+1)) s (c.ownB bits p) c.W 0
def GCode.TabOk (c:GCode) (bits:List Int) (K:Int) (m:Dv):Prop:=∀e,e∈m->c.decP bits (K-e.1.2).toNat e.1.1 e.1.2=none
theorem VH (c:GCode) {bits:List Int}{K:Int}{rec:Int->Dv->Option (List Int)×Dv}{r:Int->Option (List Int)}{s:Int}{own:List Int}
  (h:∀s' m,c.TabOk bits K m->(rec s' m).1=r s'/\c.TabOk bits K (rec s' m).2):∀(n:Nat) (w:Int) (m:Dv),c.TabOk bits K m ->
  (c.decW rec s own n w m).1=c.decPW r s own n w/\c.TabOk bits K (c.decW rec s own n w m).2
 |0,w,m,hm=>⟨rfl,hm⟩
 |n+1,w,m,hm=>by
  simp only[GCode.decW,GCode.decPW]
  obtain⟨h1,h2⟩:=h (c.nxt s w) m hm
  split
  ·rw[h1]
   cases hr:r (c.nxt s w) with
   |some l=>exact⟨rfl,h2⟩
   |none=>exact VH c h n (w+1) _ h2
  ·exact VH c h n (w+1) m hm
theorem RK (c:GCode) (bits:List Int) (K:Int):∀(k:Nat) (s p:Int) (m:Dv),p+k=K->c.TabOk bits K m->(c.decM bits k s p m).1=c.decP bits k s p/\c.TabOk bits K (c.decM bits k s p m).2
 |0,s,p,m,_,hm=>⟨rfl,hm⟩
 |k+1,s,p,m,hK,hm=>by
  simp only[GCode.decM]
  have hp:c.decP bits (k+1) s p=c.decPW (fun s'=>c.decP bits k s' (p+1)) s (c.ownB bits p) c.W 0:=rfl
  by_cases hl:G1 (s,p) m=none
  ·rw[if_pos hl]
   obtain⟨h1,h2⟩:=VH c (bits:=bits) (K:=K) (rec:=fun s' m'=>c.decM bits k s' (p+1) m') (r:=fun s'=>c.decP bits k s' (p+1)) (s:=s) (own:=c.ownB bits p) (fun s' m' hm'=>RK c bits K k s' (p+1) m' (by omega) hm') c.W 0 m hm
   have hown:(bits.drop (p*c.out).toNat).take c.out.toNat=c.ownB bits p:=rfl
   rw[hown,hp,←h1]
   generalize c.decW (fun s' m'=>c.decM bits k s' (p+1) m') s (c.ownB bits p) c.W 0 m=X at *
   obtain⟨o,m'⟩:=X
   cases o with
   |some l=>exact⟨rfl,h2⟩
   |none =>
    refine⟨rfl,fun e he=>?_⟩
    rcases List.mem_append.1 he with he|he
    ·exact h2 e he
    ·simp at he;subst he
     simp only
     rw[show (K-p).toNat=k+1 by omega,hp,←h1]
  ·rw[if_neg hl]
   cases hv:G1 (s,p) m with
   |none=>exact absurd hv hl
   |some v =>
    have:=hm _ (Pe hv)
    simp only at this
    rw[show (K-p).toNat=k+1 by omega] at this
    exact⟨this.symm,hm⟩
theorem NX (c:GCode) {r:Int->Option (List Int)}{s:Int}{own:List Int}:∀(n:Nat) (w:Int) (l:List Int),0<=w->c.decPW r s own n w=some l->∃w' l',l=w'::l'/\w<=w'/\w' < w+n/\own=B8 c.out.toNat (c.wrd s w')/\r (c.nxt s w')=some l'
 |0,w,l,_,h=>by simp[GCode.decPW] at h
 |n+1,w,l,h0,h=>by
  simp only[GCode.decPW] at h
  split at h
  ·rename_i ho
   split at h
   ·rename_i l' hl'
    simp at h;subst h
    exact⟨w,l',rfl,by omega,by omega,ho,hl'⟩
   ·obtain⟨w',l',h1,h2,h3,h4⟩:=NX c n (w+1) l (by omega) h
    exact⟨w',l',h1,by omega,by omega,h4⟩
  ·obtain⟨w',l',h1,h2,h3,h4⟩:=NX c n (w+1) l (by omega) h
   exact⟨w',l',h1,by omega,by omega,h4⟩
theorem NY (c:GCode) {r:Int->Option (List Int)}{s:Int}{own:List Int}:∀(n:Nat) (w:Int),c.decPW r s own n w=none->∀w',w<=w'->w' < w+n->own=B8 c.out.toNat (c.wrd s w')->r (c.nxt s w')=none
 |0,w,h,w',h1,h2,_=>by omega
 |n+1,w,h,w',h1,h2,ho=>by
  simp only[GCode.decPW] at h
  by_cases hw:w'=w
  ·subst hw
   rw[if_pos ho] at h
   split at h
   ·cases h
   ·rename_i hn;exact hn
  ·split at h
   ·split at h
    ·cases h
    ·exact NY c n (w+1) h w' (by omega) (by omega) ho
   ·exact NY c n (w+1) h w' (by omega) (by omega) ho
theorem T7 (c:GCode) (h:c.ok=true) (bits:List Int):∀(k:Nat) (s p:Int) (l:List Int),0<=p->(p+k)*c.out=bits.length->c.decP bits k s p=some l->l.length=k/\(∀w,w∈l->c.isWord w=true)/\(c.stream s l).1=bits.drop (p*c.out).toNat
 |0,s,p,l,h0,hp,hl=>by
  simp[GCode.decP] at hl;subst hl
  refine⟨rfl,fun w hw=>(by cases hw),?_⟩
  simp only[GCode.stream]
  rw[List.drop_eq_nil_of_le]
  simp at hp;omega
 |k+1,s,p,l,h0,hp,hl=>by
  have hd:=GCode.ok_head h
  have hWe:=GCode.W_eq' c
  obtain⟨w,l',rfl,h1,h2,h3,h4⟩:=NX c c.W 0 l (by omega) hl
  have hp2:(p+1+(k:Int))*c.out=bits.length:=by rw[←hp];congr 1;omega
  obtain⟨i1,i2,i3⟩:=T7 c h bits k (c.nxt s w) (p+1) l' (by omega) hp2 h4
  refine⟨by simp[i1],fun w' hw'=>?_,?_⟩
  ·rcases List.mem_cons.1 hw' with rfl|hw'
   ·simp only[GCode.isWord,DE,decide_eq_true_eq];omega
   ·exact i2 w' hw'
  ·simp only[GCode.stream]
   rw[i3,←h3,GCode.ownB]
   have hq:0<=p*c.out:=Int.mul_nonneg h0 (by omega)
   have e:((p+1)*c.out).toNat=(p*c.out).toNat+c.out.toNat:=by rw[Int.add_mul];omega
   rw[e,←List.drop_drop,List.take_append_drop]
theorem T8 (c:GCode) (h:c.ok=true) (bits:List Int):∀(k:Nat) (s p:Int) (l:List Int),0<=p->l.length=k->(∀w,w∈l->c.isWord w=true)->(c.stream s l).1=bits.drop (p*c.out).toNat->c.decP bits k s p≠none
 |0,s,p,l,_,_,_,_=>by simp[GCode.decP]
 |k+1,s,p,[],_,hl,_,_=>by cases hl
 |k+1,s,p,w::l,h0,hl,hw,hs=>by
  intro hn
  have hd:=GCode.ok_head h
  have hWe:=GCode.W_eq' c
  have hww:=hw w (by simp)
  simp only[GCode.isWord,DE,decide_eq_true_eq] at hww
  have hbl:=Fp c.out.toNat (c.wrd s w)
  simp only[GCode.stream] at hs
  have ho:c.ownB bits p=B8 c.out.toNat (c.wrd s w):=by
   rw[GCode.ownB,←hs,List.take_left' hbl]
  have hr:=NY c c.W 0 hn w (by omega) (by omega) ho
  have hq:0<=p*c.out:=Int.mul_nonneg h0 (by omega)
  have e:((p+1)*c.out).toNat=(p*c.out).toNat+c.out.toNat:=by rw[Int.add_mul];omega
  refine T8 c h bits k (c.nxt s w) (p+1) l (by omega) (by simpa using hl) (fun w' hw'=>hw w' (by simp[hw'])) ?_ hr
  rw[e,←List.drop_drop,←hs,List.drop_left' hbl]
theorem W3 (c:GCode) (h:c.ok=true) {s:Int}{data:List Int}(hw:∀w,w∈data->c.isWord w=true) :
  ∃l,(c.decM (c.stream s data).1 data.length s 0 []).1=some l/\l.length=data.length/\(∀w,w∈l->c.isWord w=true)/\(c.stream s l).1=(c.stream s data).1:=by
 have hd:=GCode.ok_head h
 have he:=(RK c (c.stream s data).1 data.length data.length s 0 [] (by omega) fun e he=>by cases he).1
 have hn:=T8 c h (c.stream s data).1 data.length s 0 data (by omega) rfl hw (by simp)
 cases hp:c.decP (c.stream s data).1 data.length s 0 with
 |none=>exact absurd hp hn
 |some l =>
  have hl:((0:Int)+(data.length:Nat))*c.out=((c.stream s data).1.length:Nat):=by
   rw[ND,Int.natCast_mul,Int.zero_add];congr 1;omega
  obtain⟨h1,h2,h3⟩:=T7 c h (c.stream s data).1 data.length s 0 l (by omega) hl hp
  exact⟨l,by rw[he,hp],h1,h2,by simpa using h3⟩
def GCode.lev (c:GCode):Nat->List G6
 |0=>c.pairs0
 |j+1=>c.level (c.lev j) (decide ((j:Int)+1=1))
theorem GCode.wrd_range (c:GCode) (h:c.ok=true) {s w:Int}(hs:c.isState s=true) (hw:c.isWord w=true):0<=c.wrd s w/\c.wrd s w<=2^c.out.toNat-1:=by
 have hd:=GCode.ok_head h
 have hWe:=GCode.W_eq' c
 simp only[GCode.isState,GCode.isWord,DE,decide_eq_true_eq] at hs hw
 obtain⟨h1,h2⟩:=GCode.ok_words h s.toNat (by omega)
 refine h2 _ (FV ?_)
 rw[h1]
 have:((2^c.bits.toNat:Nat):Int)=2^c.bits.toNat:=by simp
 omega
section
attribute [local congr] Bm BC BD Ak Bn Aq Au Ar Aj Af AY AU Am AZ BR BS BP Ao An Ad Ap Ae BH BZ Ab BM BN BI BJ BL BK BF BG BB Bq BE Al Aa Ba Ag Av BQ
attribute [local irreducible] IntKind.wrap A0 Option.getD and or
theorem PS (c:GCode) (y0:Int) (h:0<=c.out/\c.out<=5) (hx:0<=y0/\y0<=1000):Cc E0 L1 [Fo c,.int .i64 y0] (.list (B8 c.out.toNat y0).isEmpty (BU (B8 c.out.toNat y0))):=by
 refine AN Pt Ay (by simp) fun hwf=>?_
 rw[AP];unfold KQ
 refine' Pb @AR @AQ @Ax
 all_goals (try simp (disch:=omega) only[IE] at *)
 refine Bh (α:=Int×Bool×(List Int)) (fun x=>[(6,.d (.int .i64 x.1))]) (fun x=>[(21,.row UJ 1 x.2.1 (BU x.2.2))]) (fun x=>-1<=x.1/\x.1<c.out/\x.2.2.length+x.1=c.out-1/\x.2.1=x.2.2.isEmpty/\x.2.2++B8 (x.1+1).toNat y0=B8 c.out.toNat y0) (fun x=>(x.1+1).toNat) (?a1_0,?a1_1,[]) ?hI1 ?step1
 case' step1=>(rintro⟨i,nl,acc⟩ hI;try dsimp only at hI)
 case' hI1=>try dsimp only
 ·simp;(try omega)
 ·obtain⟨h1,h2,h3,h4,h5⟩:=hI
  by_cases hi:0<=i
  ·have hb:B8 (i+1).toNat y0=(y0/2^i.toNat%2)::B8 i.toNat y0:=by rw[show (i+1).toNat=i.toNat+1 by omega,B8]
   rw[hb] at h5
   have hu:IntKind.u64.wrap i=i:=ZQ _ (by omega)
   refine' K5 hu
   all_goals (try simp (disch:=omega) only[IE] at *)
   all_goals try exact Ca
   all_goals (rw[←h5,show (i-1+1).toNat=i.toNat by omega];simp)
  ·have h0:(i+1).toNat=0:=by omega
   rw[h0,B8,List.append_nil] at h5
   refine' HO
   all_goals try exact Ca
   all_goals (rw[←h5,h4])
theorem PR (c:GCode) (h:c.ok=true) (s:Int) (nl:Bool) (l:List Int) (hs:c.isState s=true) (hw:∀w,w∈l->c.isWord w=true) (hl:l.length<=24) :
  Cc E0 L0 [Fo c,.int .i64 s,.list nl (BU l)] (.tup [.list (c.stream s l).1.isEmpty (BU (c.stream s l).1),.int .i64 (c.stream s l).2]):=by
 refine AN Ps Ay (by simp) fun hwf=>?_
 have hd:=GCode.ok_head h
 rw[AP];unfold KP
 refine' Pb @AR @AQ @Ax
 refine Bh (α:=Int×Int×Bool×(List Int)) (fun x=>[(8,.d (.int .i64 x.1)),(1,.d (.int .i64 x.2.1))]) (fun x=>[(29,.row UJ 1 x.2.2.1 (BU x.2.2.2))]) (fun x=>0<=x.1/\x.1<=l.length/\c.isState x.2.1=true/\x.2.2.1=x.2.2.2.isEmpty/\x.2.2.2.length<=5*x.1/\(x.2.2.2++(c.stream x.2.1 (l.drop x.1.toNat)).1,(c.stream x.2.1 (l.drop x.1.toNat)).2)=c.stream s l) (fun x=>(l.length-x.1).toNat) (?a2_0,s,?a2_2,[]) ?hI2 ?step2
 case' step2=>(rintro⟨i,t,n2,acc⟩ hI;try dsimp only at hI)
 case' hI2=>try dsimp only
 ·simp[hs]
 ·obtain⟨hi0,hi1,ht,hn,ha,heq⟩:=hI
  by_cases hi:i<l.length
  ·have hiw:c.isWord (l[i.toNat]?.getD 0)=true:=hw _ (FV (by omega))
   have hr:=GCode.wrd_range c h ht hiw
   have hp5:(2:Int)^c.out.toNat<=32:=by
    have:c.out.toNat=1\/c.out.toNat=2\/c.out.toNat=3\/c.out.toNat=4\/c.out.toNat=5:=by omega
    rcases this with h|h|h|h|h<;>rw[h]<;>decide
   have hst:=GCode.nxt_state h ht hiw
   have cs:=PS c (c.wrd t (l[i.toNat]?.getD 0)) (by omega) (by omega)
   have hbl:=Fp c.out.toNat (c.wrd t (l[i.toNat]?.getD 0))
   have hdr:l.drop i.toNat=(l[i.toNat]?.getD 0)::l.drop (i+1).toNat:=by rw[JW (xs:=l) (i:=i.toNat) (by omega),show (i+1).toNat=i.toNat+1 by omega]
   rw[hdr] at heq
   simp only[GCode.stream] at heq
   have ht':=ht
   have hiw':=hiw
   simp only[GCode.isState,GCode.isWord,DE,decide_eq_true_eq] at ht' hiw'
   have hr1:=GCode.ok_words h t.toNat (by omega)
   have hr2:=GCode.ok_next h t.toNat (by omega)
   have hnc:((2^c.bits.toNat:Nat):Int)=2^c.bits.toNat:=by simp
   generalize hw0:l[i.toNat]?.getD 0=w at *
   generalize B8 c.out.toNat (c.wrd t w)=B at *
   have hBe:B.isEmpty=false:=by cases B with
    |nil=>simp at hbl;omega
    |cons _ _=>rfl
   refine' sJ @AR @AQ @Ax @DF (c.nxt_eq) (c.wrd_eq) hw0;repeat' first|(refine' CQ;(first|refine AG cs ?_)<;>refine' sJ @AR @AQ @Ax @DF (c.nxt_eq) (c.wrd_eq) hw0)|refine' CP|done
   all_goals (try simp (disch:=omega) only[IE] at *)
   all_goals try exact Ca
   all_goals first|exact hst|(rw[c.nxt_eq,←heq];simp;done)|(simp;omega)|(subst hn;cases acc<;>cases B<;>simp_all;done)|skip
  ·have h0:l.drop i.toNat=[]:=List.drop_eq_nil_of_le (by omega)
   rw[h0] at heq
   simp only[GCode.stream,List.append_nil] at heq
   refine' HO
   all_goals try exact Ca
   all_goals (rw[←heq];try simp[hn])
def sh (o:Option (List Int)):D:=match o with|some l=>.list l.isEmpty (BU l)|none=>.list true []
def si (o:Option (List Int)):D:=.bool o.isSome
abbrev tS:=List (Option (List Int))
def GCode.tbl (c:GCode) (bits:List Int) (K:Nat) (q:Nat):tS:=(List.range c.words.length).map fun(s:Nat)=>c.decP bits (K-q) (s:Int) (q:Int)
end
section
attribute [local congr] Bm BC BD Ak Bn Aq Au Ar Aj Af AY AU Am AZ BR BS BP Ao An Ad Ap Ae BH BZ Ab BM BN BI BJ BL BK BF BG BB Bq BE Al Aa Ba Ag Av BQ
attribute [local irreducible] IntKind.wrap A0 Option.getD and or
end
section
attribute [local congr] Bm BC BD Ak Bn Aq Au Ar Aj Af AY AU Am AZ BR BS BP Ao An Ad Ap Ae BH BZ Ab BM BN BI BJ BL BK BF BG BB Bq BE Al Aa Ba Ag Av BQ
attribute [local irreducible] IntKind.wrap A0 Option.getD and or
theorem kl (c:GCode) (s:Int) (bits:List Int) (hok:c.ok=true) (hst:c.isState s=true) (K:Nat) (hK:bits.length/c.out.toNat=K)
  (hg:(Bf bits && decide ((bits.length:Int).tmod c.out=0) && decide ((bits.length:Int)<=c.out*24))=true) :
  c.decR s bits=match c.decP bits K s 0 with|some l=>(some l,0)|none=>(none,3):=by
 have h1:=(RK c bits K K s 0 [] (by omega) fun e he=>by cases he).1
 have:c.decR s bits=match (c.decM bits K s 0 []).1 with|some l=>(some l,0)|none=>(none,3):=by
  rw[←hK];simp only[GCode.decR,hok,hst,hg];rfl
 rw[this,h1]
def rP (r:Bool×List Int):Bool×List Int:=(false,r.2)
def sG (c:GCode):GCode:=⟨c.bits,c.out,c.least,c.most,c.words.isEmpty,c.words.map rP,c.next.isEmpty,c.next.map rP⟩
end
section
attribute [local congr] Bm BC BD Ak Bn Aq Au Ar Aj Af AY AU Am AZ BR BS BP Ao An Ad Ap Ae BH BZ Ab BM BN BI BJ BL BK BF BG BB Bq BE Al Aa Ba Ag Av BQ
attribute [local irreducible] IntKind.wrap A0 Option.getD and or
def tw (l:Rows) (n:Nat):Rows:=(l.take n).map rP
end
end Go.Pw
