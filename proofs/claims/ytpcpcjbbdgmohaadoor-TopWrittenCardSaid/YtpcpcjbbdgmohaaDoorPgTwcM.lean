/- A part of the proof. -/
import Derived.Test.YtpcpcjbbdgmohaaDoorPgTwcA
import Derived.Test.YtpcpcjbbdgmohaaDoorTwcSpec2
import Derived.Test.YtpcpcjbbdgmohaaDoorTwcK
import Derived.Test.YtpcpcjbbdgmohaaDoorTwcJ
set_option linter.all false
section
open Go Go.Pw Go.Proofs
namespace Go.Pw
set_option maxRecDepth 100000
set_option maxHeartbeats 800000
attribute [local congr] Bx A9 A_ Au Bz A0 A2 A1 Ar An Ai Ab Av Aj Ax BG BK BI BJ BH BL BD Ay Aw Al Az Am BB BT Ak BE BF BC A' BA B1
attribute [local irreducible] IntKind.wrap BM Option.getD and or
abbrev C1:=List (Bo×Int)
def eL (e:Bo×Int):D×D:=(Iq e.1,.int .i64 e.2)
def Kq (m:C1):List (D×D):=m.map eL
def Fu (k:Bo):C1->Option Int
 |[]=>none
 |e::m=>if k=e.1 then some e.2 else Fu k m
def em (k:Bo) (v:Int):C1->C1
 |[]=>[(k,v)]
 |e::m=>if k=e.1 then (e.1,v)::m else e::em k v m
theorem Mr (p q:Bo):Cp (Iq p) (Iq q)=decide (p=q):=by
 obtain⟨a,b⟩:=p;obtain⟨a',b'⟩:=q
 simp[Cp,Iq,D.cells,EE,FD,Prod.ext_iff]
theorem V3 (k:Bo) (m:C1):Fv (Iq k) (Kq m)=(Fu k m).map (.int .i64):=by
 induction m with
 |nil=>rfl
 |cons e m ih =>
  simp only[Kq,List.map_cons,Fv,eL,Mr,Fu] at ih ⊢
  by_cases h:k=e.1
  ·simp[h]
  ·simp only[decide_eq_true_eq,h,if_false];exact ih
theorem Gb (a b:Int) (m:C1):Fv (.agg [.int .i64 a,.int .i64 b]) (Kq m)=(Fu (a,b) m).map (.int .i64):=V3 (a,b) m
theorem MP {k:Bo}{m:C1}{v:Int}(h:Fu k m=some v):(k,v)∈m:=by
 induction m with
 |nil=>cases h
 |cons e m ih =>
  simp only[Fu] at h
  split at h
  ·rename_i he;simp at h;subst he h;simp
  ·exact List.mem_cons_of_mem _ (ih h)
def GCode.apW (c:GCode) (rec:Int->List Int->C1->Int×C1) (s first:Int) (mark:List Int):Nat->Int->Int->C1->Int×C1
 |0,_,least,m=>(least,m)
 |k+1,w,least,m =>
  let bits:=(CW c.out.toNat (c.wrd s w)).drop first.toNat
  let n:=min mark.length bits.length
  let r:=rec (c.nxt s w) (mark.drop n) m
  c.apW rec s first mark k (w+1) (min least (bo (mark.take n) bits+r.1)) r.2
def GCode.apM (c:GCode):Nat->Int->Int->List Int->C1->Int×C1
 |0,_,_,_,m=>(0,m)
 |n+1,s,first,mark,m =>
  if mark=[] then (0,m) else
  match Fu (s,mark.length) m with
  |some v=>if first=0 then (v,m) else c.apW (fun s' mk m'=>c.apM n s' 0 mk m') s first mark c.W 0 16 m
  |none=>let r:=c.apW (fun s' mk m'=>c.apM n s' 0 mk m') s first mark c.W 0 16 m
   if first=0 then (r.1,em (s,mark.length) r.1 r.2) else r
def gm (m:C1):Prop:=∀e,e∈m->0<=e.2/\e.2<=16
theorem GCode.W_eq' (c:GCode):(c.W:Int)=2^c.bits.toNat:=by simp[GCode.W]
abbrev fo:K_:=(true,[some .i64,some .i64])
end Go.Pw
end
section
open Go Go.Pw Go.Proofs
namespace Go.Pw
set_option maxRecDepth 100000
set_option maxHeartbeats 800000
attribute [local congr] Bx A9 A_ Au Bz A0 A2 A1 Ar An Ai Ab Av Aj Ax BG BK BI BJ BH BL BD Ay Aw Al Az Am BB BT Ak BE BF BC A' BA B1
attribute [local irreducible] IntKind.wrap BM Option.getD and or
def GCode.apFirst (c:GCode) (mark:List Int) (s:Int):Nat->Int->Int->C1->Int×C1
 |0,_,least,m=>(least,m)
 |k+1,f,least,m=>c.apFirst mark s k (f+1) (min least (c.apM 16 s f mark m).1) (c.apM 16 s f mark m).2
def GCode.apStates (c:GCode) (mark:List Int):Nat->Int->Int->C1->Int×C1
 |0,_,least,m=>(least,m)
 |k+1,s,least,m=>c.apStates mark k (s+1) (c.apFirst mark s c.out.toNat 0 least m).1 (c.apFirst mark s c.out.toNat 0 least m).2
def GCode.apart (c:GCode) (mark:List Int):Int:=(c.apStates mark c.words.length 0 16 []).1
def GCode.apartR (c:GCode) (mark:List Int):Int×Int:=if !c.ok then (0,40) else if !U0 mark then (0,1) else (c.apart mark,0)
def dA (bits:List Int):List Int->List Int->List Int
 |out,[]=>out
 |out,s::l=>dA bits (if 0<=s/\s<bits.length then out.set s.toNat (1-bits[s.toNat]?.getD 0) else out) l
end Go.Pw
end
section
open Go Go.Pw Go.Proofs
namespace Go.Pw
set_option maxRecDepth 100000
set_option maxHeartbeats 1600000
attribute [local congr] Bx A9 A_ Au Bz A0 A2 A1 Ar An Ai Ab Av Aj Ax BG BK BI BJ BH BL BD Ay Aw Al Az Am BB BT Ak BE BF BC A' BA B1
attribute [local irreducible] IntKind.wrap BM Option.getD and or
theorem Tj {k v:D}{l:List (D×D)}(h:Fv k l=none) (hk:Cp k k=true):Fv k (l++[(k,v)])=some v:=by
 induction l with
 |nil=>simp[Fv,hk]
 |cons e l ih =>
  simp only[Fv] at h
  split at h
  ·cases h
  ·rename_i hne;simp only[List.cons_append,Fv,hne];exact ih h
theorem V_ {k:D}{l:List (D×D)}(h:Fv k l=none):E_ k l=none:=by
 induction l with
 |nil=>rfl
 |cons e l ih =>
  simp only[Fv] at h
  split at h
  ·cases h
  ·rename_i hne;simp only[E_,hne,ih h];rfl
theorem Yo {α:Type}(l:List α) (x:α):(l++[x])[l.length]?=some x:=by simp
theorem XY {α:Type}(l:List α) (x y:α):(l++[x]).set l.length y=l++[y]:=by simp
theorem YN (m:C1):(Kq m).length=m.length:=by simp[Kq]
theorem Vw (m:C1) (a b v:Int):Kq m++[(.agg [.int .i64 a,.int .i64 b],.int .i64 v)]=Kq (m++[((a,b),v)]):=by simp[Kq,eL,Iq]
theorem N4 {k:Bo}{m:C1}(h:Fu k m=none) (v:Int):v∈([]:List Int)\/(k,v)∉m:=by
 refine .inr fun hm=>?_
 induction m with
 |nil=>cases hm
 |cons e m ih =>
  simp only[Fu] at h
  split at h
  ·cases h
  ·rename_i hne
   rcases List.mem_cons.1 hm with rfl|hm
   ·exact hne rfl
   ·exact ih h hm
theorem R9 {k:Bo}{m:C1}(h:∀v,(k,v)∉m):Fu k m=none:=by
 cases hl:Fu k m with
 |none=>rfl
 |some v=>exact absurd (MP hl) (h v)
def GCode.decW (c:GCode) (rec:Int->C1->Option (List Int)×C1) (s:Int) (own:List Int):Nat->Int->C1->Option (List Int)×C1
 |0,_,m=>(none,m)
 |n+1,w,m =>
  if own=CW c.out.toNat (c.wrd s w) then
   match (rec (c.nxt s w) m).1 with
   |some l=>(some (w::l),(rec (c.nxt s w) m).2)
   |none=>c.decW rec s own n (w+1) (rec (c.nxt s w) m).2
  else c.decW rec s own n (w+1) m
def GCode.decM (c:GCode) (bits:List Int):Nat->Int->Int->C1->Option (List Int)×C1
 |0,_,_,m=>(some [],m)
 |k+1,s,p,m =>
  if Fu (s,p) m=none then
   match (c.decW (fun s' m'=>c.decM bits k s' (p+1) m') s ((bits.drop (p*c.out).toNat).take c.out.toNat) c.W 0 m).1 with
   |some l=>(some l,(c.decW (fun s' m'=>c.decM bits k s' (p+1) m') s ((bits.drop (p*c.out).toNat).take c.out.toNat) c.W 0 m).2)
   |none=>(none,(c.decW (fun s' m'=>c.decM bits k s' (p+1) m') s ((bits.drop (p*c.out).toNat).take c.out.toNat) c.W 0 m).2++[((s,p),1)])
  else (none,m)
def GCode.Tab (c:GCode) (m:C1):Prop:=(m.map (·.1)).Nodup/\∀e,e∈m->e.2=1/\c.isState e.1.1=true/\0<=e.1.2/\e.1.2<=24
theorem GCode.Tab.len {c:GCode}(h:c.ok=true) {m:C1}(ht:c.Tab m):m.length<=100:=by
 have hd:=GCode.ok_head h
 have:=nodup_lt 100 (m.map fun e=>(e.1.1*25+e.1.2).toNat) ?_ ?_
 ·simpa using this
 ·have h1:=ht.1
  rw[List.nodup_iff_pairwise_ne,List.pairwise_map] at h1 ⊢
  refine List.Pairwise.imp_of_mem (fun {a b} ha hb hab he=>hab ?_) h1
  have ka:=ht.2 a ha
  have kb:=ht.2 b hb
  simp only[GCode.isState,Dp,decide_eq_true_eq] at ka kb
  exact Prod.ext (by omega) (by omega)
 ·intro x hx
  simp only[List.mem_map] at hx
  obtain⟨e,he,rfl⟩:=hx
  have ka:=ht.2 e he
  simp only[GCode.isState,Dp,decide_eq_true_eq] at ka
  omega
def Hx (p:Int) (m m':C1):Prop:=∀e,e∈m'->e∈m\/p<=e.1.2
theorem Hx.refl (p:Int) (m:C1):Hx p m m:=fun e he=>.inl he
theorem Hx.trans {p:Int}{a b d:C1}(h:Hx p a b) (k:Hx p b d):Hx p a d:=fun e he=>(k e he).elim (h e) .inr
theorem Lv (c:GCode) (h:c.ok=true) {rec:Int->C1->Option (List Int)×C1}{s p:Int}{own:List Int}(hs:c.isState s=true)
  (hrec:∀s' m,c.isState s'=true->c.Tab m->c.Tab (rec s' m).2/\Hx (p+1) m (rec s' m).2):∀(n:Nat) (w:Int) (m:C1),0<=w->w+n<=c.W->c.Tab m->c.Tab (c.decW rec s own n w m).2/\Hx (p+1) m (c.decW rec s own n w m).2
 |0,w,m,_,_,ht=>⟨ht,Hx.refl _ _⟩
 |n+1,w,m,h0,h1,ht=>by
  have hWe:=GCode.W_eq' c
  simp only[GCode.decW]
  split
  ·obtain⟨h2,h3⟩:=hrec (c.nxt s w) m (GCode.nxt_state h hs (by simp only[GCode.isWord,Dp,decide_eq_true_eq];omega)) ht
   split
   ·exact⟨h2,h3⟩
   ·obtain⟨h4,h5⟩:=Lv c h hs hrec n (w+1) _ (by omega) (by omega) h2
    exact⟨h4,h3.trans h5⟩
  ·exact Lv c h hs hrec n (w+1) m (by omega) (by omega) ht
theorem OL (c:GCode) (h:c.ok=true) (bits:List Int):∀(k:Nat) (s p:Int) (m:C1),c.isState s=true->0<=p->p+k<=24->c.Tab m->c.Tab (c.decM bits k s p m).2/\Hx p m (c.decM bits k s p m).2
 |0,s,p,m,_,_,_,ht=>⟨ht,Hx.refl _ _⟩
 |k+1,s,p,m,hs,h0,h24,ht=>by
  simp only[GCode.decM]
  split
  ·rename_i hn
   obtain⟨h1,h2⟩:=Lv c h (own:=(bits.drop (p*c.out).toNat).take c.out.toNat) hs (rec:=fun s' m'=>c.decM bits k s' (p+1) m') (p:=p) (fun s' m' hs' ht'=>OL c h bits k s' (p+1) m' hs' (by omega) (by omega) ht') c.W 0 m (by omega) (by omega) ht
   have h2':Hx p m (c.decW (fun s' m'=>c.decM bits k s' (p+1) m') s ((bits.drop (p*c.out).toNat).take c.out.toNat) c.W 0 m).2:=fun e he=>(h2 e he).imp id fun h=>by omega
   split
   ·exact⟨h1,h2'⟩
   ·refine⟨⟨?_,fun e he=>?_⟩,fun e he=>?_⟩
    ·rw[List.map_append,List.nodup_append]
     refine⟨h1.1,by simp,fun a ha b hb=>?_⟩
     simp at hb;subst hb
     rintro rfl
     simp only[List.mem_map] at ha
     obtain⟨e,he,hek⟩:=ha
     rcases h2 e he with he|he
     ·have:=N4 hn e.2
      rcases this with h|h
      ·cases h
      ·exact h (by rw[←hek];exact he)
     ·rw[hek] at he;simp only at he;omega
    ·rcases List.mem_append.1 he with he|he
     ·exact h1.2 e he
     ·simp at he;subst he;exact⟨rfl,hs,h0,by simp only;omega⟩
    ·rcases List.mem_append.1 he with he|he
     ·exact h2' e he
     ·simp at he;subst he;exact .inr (by simp)
  ·exact⟨ht,Hx.refl _ _⟩
theorem OJ (c:GCode) {rec:Int->C1->Option (List Int)×C1}{s:Int}{own:List Int}{k:Nat}(hrec:∀s' m l,(rec s' m).1=some l->l.length=k):∀(n:Nat) (w:Int) (m:C1) (l:List Int),(c.decW rec s own n w m).1=some l->l.length=k+1
 |0,w,m,l,h=>by simp[GCode.decW] at h
 |n+1,w,m,l,h=>by
  simp only[GCode.decW] at h
  split at h
  ·split at h
   ·rename_i l' hl'
    simp at h;subst h
    simp[hrec _ _ _ hl']
   ·exact OJ c hrec n _ _ l h
  ·exact OJ c hrec n _ _ l h
theorem Sa (c:GCode) (bits:List Int):∀(k:Nat) (s p:Int) (m:C1) (l:List Int),(c.decM bits k s p m).1=some l->l.length=k
 |0,s,p,m,l,h=>by simp[GCode.decM] at h;subst h;rfl
 |k+1,s,p,m,l,h=>by
  simp only[GCode.decM] at h
  split at h
  ·split at h
   ·rename_i l' hl'
    simp at h;subst h
    exact OJ c (fun s' m' l h=>Sa c bits k s' (p+1) m' l h) _ _ _ _ hl'
   ·cases h
  ·cases h
def af (o:Option (List Int)):D:=match o with|some l=>.list false (A4 l)|none=>.list true []
theorem E3 {l:List Int}:af (some l)=.list false (A4 l):=rfl
theorem CM:af none=.list true []:=rfl
theorem NH (n1 n2:Bool) (xs ys:List Int):DE E0 FO [.list n1 (A4 xs),.list n2 (A4 ys)] (.bool (decide (xs=ys))):=by
 refine AP HN A5 (by simp) fun hwf=>?_
 simp only[Dt,DM,DL,DC,EK,EJ,Fk,EI,Be,Br,Bs,DD,CC,List.length_map,CK,true_and,and_true] at hwf
 rw[AU];unfold Ez
 by_cases hl:xs.length=ys.length
 ·(try (simp -implicitDefEqProofs only[go_sem]));repeat' first|(with_reducible first|exact tI|refine aI ?_ ?_|intro _)|((first|with_reducible refine AN ?_ ?_<;>intro _)<;>try (simp -implicitDefEqProofs only[go_sem]))|simp (disch:=omega) only[Ap]|((with_reducible refine Ae ?_);refine⟨_,rfl,?_,?_⟩)
  all_goals first|omega|(simp<;>omega)|skip
  refine AX (α:=Int) (l0:=?l1) (m0:=?m1) (fun x=>[(13,.d (.int .i64 x))]) (fun x=>[]) (fun x=>0<=x/\x<=xs.length/\xs.take x.toNat=ys.take x.toNat) (fun x=>(xs.length-x).toNat) ?a1_0 ?h01 ?he1 ?he21 ?hI1 ?step1
  case h01=>(simp -implicitDefEqProofs only[go_sem];rfl)
  case he1=>rfl
  case he21=>rfl
  case' step1=>(rintro i hI;try dsimp only at hI)
  case' hI1=>try dsimp only
  ·simp
  ·obtain⟨hi0,hi1,heq⟩:=hI
   by_cases hi:i<xs.length
   ·have hx:=take_get (xs:=xs) (i:=i.toNat) (by omega)
    have hy:=take_get (xs:=ys) (i:=i.toNat) (by omega)
    have hii:(i+1).toNat=i.toNat+1:=by omega
    by_cases he:xs[i.toNat]?.getD 0=ys[i.toNat]?.getD 0
    ·(try (simp -implicitDefEqProofs only[go_sem]));repeat' first|(with_reducible first|exact tI|refine aI ?_ ?_|intro _)|((first|with_reducible refine AN ?_ ?_<;>intro _)<;>try (simp -implicitDefEqProofs only[go_sem]))|simp (disch:=omega) only[Ap]|((with_reducible refine Ae ?_);refine⟨_,rfl,?_,?_⟩)
     all_goals (try simp (disch:=omega) only[Ap] at *)
     all_goals first|omega|(simp<;>omega)|skip
     all_goals (rw[hii,hx,hy,heq,he])
    ·have hne:¬xs=ys:=fun e=>he (by rw[e])
     (try (simp -implicitDefEqProofs only[go_sem]));repeat' first|(with_reducible first|exact tI|refine aI ?_ ?_|intro _)|((first|with_reducible refine AN ?_ ?_<;>intro _)<;>try (simp -implicitDefEqProofs only[go_sem]))|simp (disch:=omega) only[Ap]|((with_reducible refine Ae ?_);refine⟨_,rfl,?_,?_⟩)
     all_goals first|omega|(simp<;>omega)|skip
     all_goals first|(exfalso;omega)|simp[hne]
   ·have hxy:xs=ys:=by
     have h1:xs.take i.toNat=xs:=List.take_of_length_le (by omega)
     have h2:ys.take i.toNat=ys:=List.take_of_length_le (by omega)
     rw[←h1,heq,h2]
    (try (simp -implicitDefEqProofs only[go_sem]));repeat' first|(with_reducible first|exact tI|refine aI ?_ ?_|intro _)|((first|with_reducible refine AN ?_ ?_<;>intro _)<;>try (simp -implicitDefEqProofs only[go_sem]))|simp (disch:=omega) only[Ap]|((with_reducible refine Ae ?_);refine⟨_,rfl,?_,?_⟩)
    all_goals first|omega|(simp<;>omega)|skip
    all_goals simp[hxy]
 ·have hne:¬xs=ys:=fun e=>hl (by rw[e])
  (try (simp -implicitDefEqProofs only[go_sem]));repeat' first|(with_reducible first|exact tI|refine aI ?_ ?_|intro _)|((first|with_reducible refine AN ?_ ?_<;>intro _)<;>try (simp -implicitDefEqProofs only[go_sem]))|simp (disch:=omega) only[Ap]|((with_reducible refine Ae ?_);refine⟨_,rfl,?_,?_⟩)
  all_goals first|(exfalso;omega)|simp[hne]
theorem I' (c:GCode) (h:c.ok=true) (nb:Bool) (bits:List Int) (hlen:bits.length<=120):∀(k:Nat) (s p:Int) (m:C1),c.isState s=true->0<=p->(p+k)*c.out=bits.length->p+k<=24->c.Tab m ->
  HI E0 GK [(900003,0,.map fo (Kq m))] [.d (E7 c),.d (.agg [.int .i64 s,.int .i64 p]),.d (.list nb (A4 bits)),.map 900003 0] [(900003,0,.map fo (Kq (c.decM bits k s p m).2))]
   (.tup [.d (af (c.decM bits k s p m).1),.d (.bool (c.decM bits k s p m).1.isSome)]):=by
 intro k
 have hd:=GCode.ok_head h
 induction k with
 |zero =>
  intro s p m hs h0 hp h24 ht
  refine C4 FX A5 (by simp) (by simp[MN,B6,Dv,AW.isHist]) (by simp[EF]) fun hwf hwo=>?_
  rw[D8];unfold EO
  have hp':p*c.out=bits.length:=by simpa using hp
  have hw:IntKind.i64.wrap (p*c.out)=bits.length:=by rw[hp'];exact Af _ (by omega)
  (try (simp -implicitDefEqProofs only[go_sem,GCode.decM,AH,AF,AR,hw,E3,SC,Option.isSome_some]));repeat' first|(with_reducible first|exact tI|refine aI ?_ ?_|intro _)|((first|with_reducible refine AN ?_ ?_<;>intro _)<;>try (simp -implicitDefEqProofs only[go_sem,GCode.decM,AH,AF,AR,hw,E3,SC,Option.isSome_some]))|simp (disch:=omega) only[Ap]|((with_reducible refine AZ ?_);refine⟨(_,_),rfl,?_,?_⟩)
  all_goals (exfalso;simp_all;done)
 |succ k ih =>
  intro s p m hs h0 hp h24 ht
  obtain⟨Q,hQ⟩:∃Q,p*c.out=Q:=⟨_,rfl⟩
  have hexp:(p+((k+1:Nat):Int))*c.out=Q+c.out+k*c.out:=by
   rw[←hQ,Int.add_mul];simp[Int.add_mul];omega
  have hko:0<=(k:Int)*c.out:=Int.mul_nonneg (by omega) (by omega)
  have hQ0:0<=Q:=by rw[←hQ];exact Int.mul_nonneg h0 (by omega)
  rw[hexp] at hp
  have hp2:(p+1+(k:Int))*c.out=bits.length:=by
   rw[show p+1+(k:Int)=p+((k+1:Nat):Int) by omega,hexp,hp]
  have h12:=IC (b:=c.bits) (by omega)
  have hWe:=GCode.W_eq' c
  have hWb:c.W<=4:=by simp only[GCode.W];omega
  have hs':=hs
  simp only[GCode.isState,Dp,decide_eq_true_eq] at hs'
  have hrow:=GCode.ok_next h s.toNat (by omega)
  have hnc:((2^c.bits.toNat:Nat):Int)=2^c.bits.toNat:=by simp
  have hwQ:IntKind.i64.wrap (p*c.out)=Q:=by rw[hQ];exact Af _ (by omega)
  have hwp:IntKind.i64.wrap (p+1)=p+1:=Af _ (by omega)
  refine C4 FX A5 (by simp) (by simp[MN,B6,Dv,AW.isHist]) (by simp[EF]) fun hwf hwo=>?_
  rw[D8];unfold EO
  obtain⟨own,hown⟩:∃own,(bits.drop Q.toNat).take c.out.toNat=own:=⟨_,rfl⟩
  obtain⟨G,hG⟩:∃G,c.decW (fun s' m'=>c.decM bits k s' (p+1) m') s own c.W 0 m=G:=⟨_,rfl⟩
  have hgoal:c.decM bits (k+1) s p m=if Fu (s,p) m=none then (match G.1 with
    |some l=>(some l,G.2)
    |none=>(none,G.2++[((s,p),1)])) else (none,m):=by
   simp only[GCode.decM,hQ,hown,hG]
  generalize c.decM bits (k+1) s p m=R at hgoal
  cases hlk:Fu (s,p) m with
  |some v =>
   have hv:=(ht.2 _ (MP hlk)).1
   simp only at hv
   subst hv
   simp only[hlk,reduceCtorEq,if_false] at hgoal
   subst hgoal
   (try (simp -implicitDefEqProofs only[go_sem,AH,AF,AR,hwQ,Gb,hlk,CM,Option.isSome_none]));repeat' first|(with_reducible first|exact tI|refine aI ?_ ?_|intro _)|((first|with_reducible refine AN ?_ ?_<;>intro _)<;>try (simp -implicitDefEqProofs only[go_sem,AH,AF,AR,hwQ,Gb,hlk,CM,Option.isSome_none]))|simp (disch:=omega) only[Ap]|((with_reducible refine AZ ?_);refine⟨(_,_),rfl,?_,?_⟩)
   all_goals first|omega|(simp<;>omega)|skip
  |none =>
   simp only[hlk,if_true] at hgoal
   have htG:=Lv c h (own:=own) hs (rec:=fun s' m'=>c.decM bits k s' (p+1) m') (p:=p) (fun s' m' hs' ht'=>OL c h bits k s' (p+1) m' hs' (by omega) (by omega) ht') c.W 0 m (by omega) (by omega) ht
   rw[hG] at htG
   (try (simp -implicitDefEqProofs only[go_sem,AH,AF,AR,hwQ,Gb,hlk,Option.map_none,hown]));repeat' first|(with_reducible first|exact tI|refine aI ?_ ?_|intro _)|((first|with_reducible refine AN ?_ ?_<;>intro _|(with_reducible refine isCall ?_);first|refine AG (CD c (by omega)) ?_)<;>try (simp -implicitDefEqProofs only[go_sem,AH,AF,AR,hwQ,Gb,hlk,Option.map_none,hown]))|simp (disch:=omega) only[Ap]|((with_reducible refine AZ ?_);refine⟨(_,_),rfl,?_,?_⟩)
   all_goals first|omega|(simp<;>omega)|skip
   refine AX (α:=Int×C1) (l0:=?l2) (m0:=?m2) (fun x=>[(42,.d (.int .i64 x.1))]) (fun x=>[(900003,.map fo (Kq x.2))]) (fun x=>0<=x.1/\x.1<=c.W/\c.Tab x.2/\c.decW (fun s' m'=>c.decM bits k s' (p+1) m') s own (c.W-x.1.toNat) x.1 x.2=G) (fun x=>(c.W-x.1).toNat) (?a2_0,m) ?h02 ?he2 ?he22 ?hI2 ?step2
   case h02=>(simp -implicitDefEqProofs only[go_sem];rfl)
   case he2=>rfl
   case he22=>rfl
   case' step2=>(rintro⟨w,mm⟩ hI;try dsimp only at hI)
   case' hI2=>try dsimp only
   ·exact⟨by omega,by omega,ht,hG⟩
   ·obtain⟨hw0,hwW,htm,heq⟩:=hI
    by_cases hw:w<c.W
    ·have hiw:c.isWord w=true:=by simp only[GCode.isWord,Dp,decide_eq_true_eq];rw[hWe] at hw;omega
     have hst:=GCode.nxt_state h hs hiw
     have cb:=GI c s w h hs hiw
     have hstep:c.decW (fun s' m'=>c.decM bits k s' (p+1) m') s own (c.W-w.toNat) w mm=if own=CW c.out.toNat (c.wrd s w) then
       match (c.decM bits k (c.nxt s w) (p+1) mm).1 with
       |some l=>(some (w::l),(c.decM bits k (c.nxt s w) (p+1) mm).2)
       |none=>c.decW (fun s' m'=>c.decM bits k s' (p+1) m') s own (c.W-(w+1).toNat) (w+1) (c.decM bits k (c.nxt s w) (p+1) mm).2
      else c.decW (fun s' m'=>c.decM bits k s' (p+1) m') s own (c.W-(w+1).toNat) (w+1) mm:=by
      rw[show c.W-w.toNat=(c.W-(w+1).toNat)+1 by omega]
      simp only[GCode.decW]
     rw[hstep] at heq
     clear hstep
     have ci:=ih (c.nxt s w) (p+1) mm hst (by omega) hp2 (by omega) htm
     have hti:=(OL c h bits k (c.nxt s w) (p+1) mm hst (by omega) (by omega) htm).1
     generalize hR0:c.decM bits k (c.nxt s w) (p+1) mm=R0 at *
     obtain⟨o0,m0⟩:=R0
     dsimp only at ci hti heq
     have hop:=fun n1 n2=>NH n1 n2 own (CW c.out.toNat (c.wrd s w))
     by_cases he:own=CW c.out.toNat (c.wrd s w)
     ·rw[if_pos he] at heq
      simp only[decide_eq_true he] at hop
      cases o0 with
      |some l =>
       dsimp only at heq
       subst heq
       dsimp only at hgoal
       subst hgoal
       (try (simp -implicitDefEqProofs only[go_sem,AH,AF,AR,CG,c.nxt_eq,hwp,E3,Option.isSome_some]));repeat' first|(with_reducible first|exact tI|refine aI ?_ ?_|intro _)|((first|with_reducible refine AN ?_ ?_<;>intro _|(with_reducible refine isCall ?_);first|refine AG cb ?_|refine AG (hop _ _) ?_|(refine D_ ([((900003,0),(900003,0))]) ([((900003,0),(900003,0))]) (ci) (by repeat' first|exact True.intro|exact rfl|refine And.intro ?_ ?_) (by simp[Handed,DG.get,AW.ren,AV.ren,AV.ren.renL,AI.get,Bl,Bu,DR,AI.reach,AV.sites,AV.sites.sitesL,AI.osites]) (by simp[B0,EF,B6,DG.get,DR,Dv,B8]) (by rfl) (by simp only[Db,DG.get,AW.ren,AV.ren,AV.ren.renL,and_self,and_true,true_and,if_true,reduceIte];rfl) ?_))<;>try (simp -implicitDefEqProofs only[go_sem,AH,AF,AR,CG,c.nxt_eq,hwp,E3,Option.isSome_some]))|simp (disch:=omega) only[Ap]|((with_reducible refine AZ ?_);refine⟨(_,_),rfl,?_,?_⟩)
       all_goals first|omega|(simp<;>omega)|skip
       ·have:=Sa c bits k (c.nxt s w) (p+1) mm l (by rw[hR0])
        omega
       ·rename_i hl0;subst hl0;rfl
       ·rfl
      |none =>
       dsimp only at heq
       (try (simp -implicitDefEqProofs only[go_sem,AH,AF,AR,CG,c.nxt_eq,hwp,CM,Option.isSome_none]));repeat' first|(with_reducible first|exact tI|refine aI ?_ ?_|intro _)|((first|with_reducible refine AN ?_ ?_<;>intro _|(with_reducible refine isCall ?_);first|refine AG cb ?_|refine AG (hop _ _) ?_|(refine D_ ([((900003,0),(900003,0))]) ([((900003,0),(900003,0))]) (ci) (by repeat' first|exact True.intro|exact rfl|refine And.intro ?_ ?_) (by simp[Handed,DG.get,AW.ren,AV.ren,AV.ren.renL,AI.get,Bl,Bu,DR,AI.reach,AV.sites,AV.sites.sitesL,AI.osites]) (by simp[B0,EF,B6,DG.get,DR,Dv,B8]) (by rfl) (by simp only[Db,DG.get,AW.ren,AV.ren,AV.ren.renL,and_self,and_true,true_and,if_true,reduceIte];rfl) ?_))<;>try (simp -implicitDefEqProofs only[go_sem,AH,AF,AR,CG,c.nxt_eq,hwp,CM,Option.isSome_none]))|simp (disch:=omega) only[Ap]|((with_reducible refine AZ ?_);refine⟨(_,_),rfl,?_,?_⟩)
       all_goals (try simp (disch:=omega) only[Ap] at *)
       all_goals first|omega|(simp<;>omega)|skip
       all_goals first|exact hti|exact heq|(simp_all;done)|skip
     ·rw[if_neg he] at heq
      simp only[decide_eq_false he] at hop
      (try (simp -implicitDefEqProofs only[go_sem,AH,AF,AR,CG,c.nxt_eq,hwp]));repeat' first|(with_reducible first|exact tI|refine aI ?_ ?_|intro _)|((first|with_reducible refine AN ?_ ?_<;>intro _|(with_reducible refine isCall ?_);first|refine AG cb ?_|refine AG (hop _ _) ?_)<;>try (simp -implicitDefEqProofs only[go_sem,AH,AF,AR,CG,c.nxt_eq,hwp]))|simp (disch:=omega) only[Ap]|((with_reducible refine AZ ?_);refine⟨(_,_),rfl,?_,?_⟩)
      all_goals (try simp (disch:=omega) only[Ap] at *)
      all_goals first|omega|(simp<;>omega)|skip
      all_goals first|exact htm|exact heq|(simp_all;done)|skip
    ·have hz:c.W-w.toNat=0:=by omega
     rw[hz,GCode.decW] at heq
     subst heq
     dsimp only at hgoal htG
     subst hgoal
     have hno:Fu (s,p) mm=none:=R9 fun v hv=>by
      rcases htG.2 _ hv with hv|hv
      ·rcases N4 hlk v with h|h
       ·cases h
       ·exact h hv
      ·simp only at hv;omega
     have hml:=htm.len h
     have hk0:Fv (.agg [.int .i64 s,.int .i64 p]) (Kq mm)=none:=by rw[Gb,hno];rfl
     have hk1:=V_ hk0
     have hk2:=Tj (v:=.int .i64 0) hk0 ((Mr (s,p) (s,p)).trans (by simp))
     have hg:=Yo (Kq mm) (.agg [.int .i64 s,.int .i64 p],.int .i64 0)
     have hst2:=(XY (Kq mm) (.agg [.int .i64 s,.int .i64 p],.int .i64 0) (.agg [.int .i64 s,.int .i64 p],.int .i64 1)).trans (Vw mm s p 1)
     have hw1:IntKind.i64.wrap 1=1:=Af 1 (by omega)
     (try (simp -implicitDefEqProofs only[go_sem,AH,AF,AR,hk0,hk1,hk2,hg,hst2,hw1,CM,Option.isSome_none]));repeat' first|(with_reducible first|exact tI|refine aI ?_ ?_|intro _)|((first|with_reducible refine AN ?_ ?_<;>intro _)<;>try (simp -implicitDefEqProofs only[go_sem,AH,AF,AR,hk0,hk1,hk2,hg,hst2,hw1,CM,Option.isSome_none]))|simp (disch:=omega) only[Ap]|((with_reducible refine AZ ?_);refine⟨(_,_),rfl,?_,?_⟩)
     all_goals first|omega|exact hst2|(rw[YN];omega)|skip
def GCode.decR (c:GCode) (s:Int) (bits:List Int):Option (List Int)×Int :=
 if !c.ok then (none,40) else if !c.isState s then (none,41)
 else if !(BR bits && decide ((bits.length:Int).tmod c.out=0) && decide ((bits.length:Int)<=c.out*24)) then (none,1)
 else match (c.decM bits (bits.length/c.out.toNat) s 0 []).1 with
  |some l=>(some l,0)
  |none=>(none,3)
theorem Hs (c:GCode) (s:Int) (nb:Bool) (bits:List Int):DE E0 Jt [E7 c,.int .i64 s,.list nb (A4 bits)] (.tup [af (c.decR s bits).1,.int .i64 (c.decR s bits).2]):=by
 refine AP MY A5 (by simp) fun hwf=>?_
 simp only[Dt,DM,DL,DC,EK,EJ,Fk,EI,Be,Br,Bs,DD,CC,List.length_map,CK,true_and,and_true,AH,AF,AR] at hwf
 rw[AU];unfold Ip
 cases hok:c.ok with
 |false =>
  have hr:c.decR s bits=(none,40):=by simp[GCode.decR,hok]
  rw[hr]
  (try (simp -implicitDefEqProofs only[go_sem,AH,AF,AR,CM]));repeat' first|(with_reducible first|exact tI|refine aI ?_ ?_|intro _)|((first|with_reducible refine AN ?_ ?_<;>intro _|(with_reducible refine isCall ?_);first|refine AG (FM c s) ?_)<;>try (simp -implicitDefEqProofs only[go_sem,AH,AF,AR,CM]))|simp (disch:=omega) only[Ap]
  all_goals simp_all
 |true =>
 cases hst:c.isState s with
 |false =>
  have hr:c.decR s bits=(none,41):=by simp[GCode.decR,hok,hst]
  rw[hr]
  (try (simp -implicitDefEqProofs only[go_sem,AH,AF,AR,CM]));repeat' first|(with_reducible first|exact tI|refine aI ?_ ?_|intro _)|((first|with_reducible refine AN ?_ ?_<;>intro _|(with_reducible refine isCall ?_);first|refine AG (FM c s) ?_)<;>try (simp -implicitDefEqProofs only[go_sem,AH,AF,AR,CM]))|simp (disch:=omega) only[Ap]
  all_goals simp_all
 |true =>
 have hd:=GCode.ok_head hok
 have co:=FM c s
 simp only[hok,hst,Bool.not_true,Bool.false_eq_true,if_false] at co
 have hw24:IntKind.i64.wrap (c.out*24)=c.out*24:=Af _ (by omega)
 cases hg:(BR bits && decide ((bits.length:Int).tmod c.out=0) && decide ((bits.length:Int)<=c.out*24)) with
 |false =>
  have hr:c.decR s bits=(none,1):=by simp only[GCode.decR,hok,hst,hg];rfl
  rw[hr]
  (try (simp -implicitDefEqProofs only[go_sem,AH,AF,AR,CM,hw24]));repeat' first|(with_reducible first|exact tI|refine aI ?_ ?_|intro _)|((first|with_reducible refine AN ?_ ?_<;>intro _|(with_reducible refine isCall ?_);first|refine AG co ?_|refine AG (HQ nb bits) ?_)<;>try (simp -implicitDefEqProofs only[go_sem,AH,AF,AR,CM,hw24]))|simp (disch:=omega) only[Ap]
  all_goals first|omega|(simp_all;done)|(exfalso;simp_all;omega)
 |true =>
  have hg':=hg
  simp only[Bool.and_eq_true,decide_eq_true_eq] at hg'
  obtain⟨⟨hab,hmod⟩,hl24⟩:=hg'
  have hr:c.decR s bits=match (c.decM bits (bits.length/c.out.toNat) s 0 []).1 with
    |some l=>(some l,0)
    |none=>(none,3):=by simp only[GCode.decR,hok,hst,hg];rfl
  rw[hr]
  have hlen:bits.length<=120:=by omega
  obtain⟨k,hk⟩:∃k,bits.length/c.out.toNat=k:=⟨_,rfl⟩
  have hkk:((0:Int)+(k:Int))*c.out=bits.length:=by
   have e1:(bits.length:Int)%c.out=0:=by rw[Int.tmod_eq_emod_of_nonneg (by omega)] at hmod;exact hmod
   have e2:((k:Nat):Int)=(bits.length:Int)/c.out:=by
    rw[←hk,Int.natCast_ediv];congr 1;omega
   rw[Int.zero_add,e2]
   exact Int.ediv_mul_cancel (Int.dvd_of_emod_eq_zero e1)
  have hk24:(0:Int)+k<=24:=by
   have h5:((0:Int)+k)*c.out<=24*c.out:=by rw[hkk,Int.mul_comm 24];exact hl24
   exact Int.le_of_mul_le_mul_right h5 (by omega)
  rw[hk]
  have ci:=I' c hok nb bits hlen k s 0 [] hst (by omega) hkk hk24 ⟨by simp,fun e he=>(by cases he)⟩
  generalize c.decM bits k s 0 []=R at *
  obtain⟨o0,m0⟩:=R
  have hm0:Kq []=[]:=rfl
  rw[hm0] at ci
  cases o0 with
  |some l =>
   dsimp only at ci ⊢
   (try (simp -implicitDefEqProofs only[go_sem,AH,AF,AR,E3,Option.isSome_some,hw24]));repeat' first|(with_reducible first|exact tI|refine aI ?_ ?_|intro _)|((first|with_reducible refine AN ?_ ?_<;>intro _|(with_reducible refine isCall ?_);first|refine AG co ?_|refine AG (HQ nb bits) ?_|(refine D_ ([((900003,0),(47,0))]) ([((900003,0),(47,0))]) (ci) (by repeat' first|exact True.intro|exact rfl|refine And.intro ?_ ?_) (by simp[Handed,DG.get,AW.ren,AV.ren,AV.ren.renL,AI.get,Bl,Bu,DR,AI.reach,AV.sites,AV.sites.sitesL,AI.osites]) (by simp[B0,EF,B6,DG.get,DR,Dv,B8]) (by rfl) (by simp only[Db,DG.get,AW.ren,AV.ren,AV.ren.renL,and_self,and_true,true_and,if_true,reduceIte];rfl) ?_))<;>try (simp -implicitDefEqProofs only[go_sem,AH,AF,AR,E3,Option.isSome_some,hw24]))|simp (disch:=omega) only[Ap]
   all_goals first|omega|(simp_all;done)
  |none =>
   dsimp only at ci ⊢
   (try (simp -implicitDefEqProofs only[go_sem,AH,AF,AR,CM,Option.isSome_none,hw24]));repeat' first|(with_reducible first|exact tI|refine aI ?_ ?_|intro _)|((first|with_reducible refine AN ?_ ?_<;>intro _|(with_reducible refine isCall ?_);first|refine AG co ?_|refine AG (HQ nb bits) ?_|(refine D_ ([((900003,0),(47,0))]) ([((900003,0),(47,0))]) (ci) (by repeat' first|exact True.intro|exact rfl|refine And.intro ?_ ?_) (by simp[Handed,DG.get,AW.ren,AV.ren,AV.ren.renL,AI.get,Bl,Bu,DR,AI.reach,AV.sites,AV.sites.sitesL,AI.osites]) (by simp[B0,EF,B6,DG.get,DR,Dv,B8]) (by rfl) (by simp only[Db,DG.get,AW.ren,AV.ren,AV.ren.renL,and_self,and_true,true_and,if_true,reduceIte];rfl) ?_))<;>try (simp -implicitDefEqProofs only[go_sem,AH,AF,AR,CM,Option.isSome_none,hw24]))|simp (disch:=omega) only[Ap]
   all_goals first|omega|(simp_all;done)
end Go.Pw
end
section
open Go Go.Pw Go.Proofs
namespace Go.Pw
def GCode.apPW (c:GCode) (rec:Int->List Int->Int) (s first:Int) (mark:List Int):Nat->Int->Int->Int
 |0,_,least=>least
 |k+1,w,least =>
  let bits:=(CW c.out.toNat (c.wrd s w)).drop first.toNat
  let n:=min mark.length bits.length
  c.apPW rec s first mark k (w+1) (min least (bo (mark.take n) bits+rec (c.nxt s w) (mark.drop n)))
def GCode.apP (c:GCode):Nat->Int->Int->List Int->Int
 |0,_,_,_=>0
 |n+1,s,first,mark=>if mark=[] then 0 else c.apPW (fun s' mk=>c.apP n s' 0 mk) s first mark c.W 0 16
def GCode.MemGood (c:GCode) (M:List Int) (m:C1):Prop:=∀e,e∈m->0<=e.1.2/\e.1.2<=M.length/\e.2=c.apP e.1.2.toNat e.1.1 0 (M.drop (M.length-e.1.2.toNat))
theorem Sj {xs:List Int}(h:BR xs=true) (i:Nat) {v:Int}(hv:Dp v 0 1=true):BR (xs.set i v)=true:=by
 simp only[BR,List.all_eq_true] at *
 intro x hx
 rcases List.mem_or_eq_of_mem_set hx with h1|rfl
 ·exact h x h1
 ·exact hv
end Go.Pw
end
section
open Go Go.Pw Go.Proofs
namespace Go.Pw
def GCode.ownB (c:GCode) (bits:List Int) (p:Int):List Int:=(bits.drop (p*c.out).toNat).take c.out.toNat
def GCode.decPW (c:GCode) (rec:Int->Option (List Int)) (s:Int) (own:List Int):Nat->Int->Option (List Int)
 |0,_=>none
 |n+1,w =>
  if own=CW c.out.toNat (c.wrd s w) then
   match rec (c.nxt s w) with
   |some l=>some (w::l)
   |none=>c.decPW rec s own n (w+1)
  else c.decPW rec s own n (w+1)
def GCode.decP (c:GCode) (bits:List Int):Nat->Int->Int->Option (List Int)
 |0,_,_=>some []
 |k+1,s,p=>c.decPW (fun s'=>c.decP bits k s' (p+1)) s (c.ownB bits p) c.W 0
def GCode.TabOk (c:GCode) (bits:List Int) (K:Int) (m:C1):Prop:=∀e,e∈m->c.decP bits (K-e.1.2).toNat e.1.1 e.1.2=none
theorem Qv (c:GCode) {bits:List Int}{K:Int}{rec:Int->C1->Option (List Int)×C1}{r:Int->Option (List Int)}{s:Int}{own:List Int}
  (h:∀s' m,c.TabOk bits K m->(rec s' m).1=r s'/\c.TabOk bits K (rec s' m).2):∀(n:Nat) (w:Int) (m:C1),c.TabOk bits K m ->
  (c.decW rec s own n w m).1=c.decPW r s own n w/\c.TabOk bits K (c.decW rec s own n w m).2
 |0,w,m,hm=>⟨rfl,hm⟩
 |n+1,w,m,hm=>by
  simp only[GCode.decW,GCode.decPW]
  obtain⟨h1,h2⟩:=h (c.nxt s w) m hm
  split
  ·rw[h1]
   cases hr:r (c.nxt s w) with
   |some l=>exact⟨rfl,h2⟩
   |none=>exact Qv c h n (w+1) _ h2
  ·exact Qv c h n (w+1) m hm
theorem NU (c:GCode) (bits:List Int) (K:Int):∀(k:Nat) (s p:Int) (m:C1),p+k=K->c.TabOk bits K m->(c.decM bits k s p m).1=c.decP bits k s p/\c.TabOk bits K (c.decM bits k s p m).2
 |0,s,p,m,_,hm=>⟨rfl,hm⟩
 |k+1,s,p,m,hK,hm=>by
  simp only[GCode.decM]
  have hp:c.decP bits (k+1) s p=c.decPW (fun s'=>c.decP bits k s' (p+1)) s (c.ownB bits p) c.W 0:=rfl
  by_cases hl:Fu (s,p) m=none
  ·rw[if_pos hl]
   obtain⟨h1,h2⟩:=Qv c (bits:=bits) (K:=K) (rec:=fun s' m'=>c.decM bits k s' (p+1) m') (r:=fun s'=>c.decP bits k s' (p+1)) (s:=s) (own:=c.ownB bits p) (fun s' m' hm'=>NU c bits K k s' (p+1) m' (by omega) hm') c.W 0 m hm
   have hown:(bits.drop (p*c.out).toNat).take c.out.toNat=c.ownB bits p:=rfl
   rw[hown,hp,←h1]
   generalize c.decW (fun s' m'=>c.decM bits k s' (p+1) m') s (c.ownB bits p) c.W 0 m=X at *
   obtain⟨o,m'⟩:=X
   cases o with
   |some l=>exact⟨rfl,h2⟩
   |none =>
    refine⟨rfl,fun e he=>?_⟩
    rcases List.mem_append.1 he with he|he
    ·exact h2 e he
    ·simp at he;subst he
     simp only
     rw[show (K-p).toNat=k+1 by omega,hp,←h1]
  ·rw[if_neg hl]
   cases hv:Fu (s,p) m with
   |none=>exact absurd hv hl
   |some v =>
    have:=hm _ (MP hv)
    simp only at this
    rw[show (K-p).toNat=k+1 by omega] at this
    exact⟨this.symm,hm⟩
theorem K0 (c:GCode) {r:Int->Option (List Int)}{s:Int}{own:List Int}:∀(n:Nat) (w:Int) (l:List Int),0<=w->c.decPW r s own n w=some l->∃w' l',l=w'::l'/\w<=w'/\w' < w+n/\own=CW c.out.toNat (c.wrd s w')/\r (c.nxt s w')=some l'
 |0,w,l,_,h=>by simp[GCode.decPW] at h
 |n+1,w,l,h0,h=>by
  simp only[GCode.decPW] at h
  split at h
  ·rename_i ho
   split at h
   ·rename_i l' hl'
    simp at h;subst h
    exact⟨w,l',rfl,by omega,by omega,ho,hl'⟩
   ·obtain⟨w',l',h1,h2,h3,h4⟩:=K0 c n (w+1) l (by omega) h
    exact⟨w',l',h1,by omega,by omega,h4⟩
  ·obtain⟨w',l',h1,h2,h3,h4⟩:=K0 c n (w+1) l (by omega) h
   exact⟨w',l',h1,by omega,by omega,h4⟩
theorem K1 (c:GCode) {r:Int->Option (List Int)}{s:Int}{own:List Int}:∀(n:Nat) (w:Int),c.decPW r s own n w=none->∀w',w<=w'->w' < w+n->own=CW c.out.toNat (c.wrd s w')->r (c.nxt s w')=none
 |0,w,h,w',h1,h2,_=>by omega
 |n+1,w,h,w',h1,h2,ho=>by
  simp only[GCode.decPW] at h
  by_cases hw:w'=w
  ·subst hw
   rw[if_pos ho] at h
   split at h
   ·cases h
   ·rename_i hn;exact hn
  ·split at h
   ·split at h
    ·cases h
    ·exact K1 c n (w+1) h w' (by omega) (by omega) ho
   ·exact K1 c n (w+1) h w' (by omega) (by omega) ho
theorem MZ (c:GCode) (h:c.ok=true) (bits:List Int):∀(k:Nat) (s p:Int) (l:List Int),0<=p->(p+k)*c.out=bits.length->c.decP bits k s p=some l->l.length=k/\(∀w,w∈l->c.isWord w=true)/\(c.stream s l).1=bits.drop (p*c.out).toNat
 |0,s,p,l,h0,hp,hl=>by
  simp[GCode.decP] at hl;subst hl
  refine⟨rfl,fun w hw=>(by cases hw),?_⟩
  simp only[GCode.stream]
  rw[List.drop_eq_nil_of_le]
  simp at hp;omega
 |k+1,s,p,l,h0,hp,hl=>by
  have hd:=GCode.ok_head h
  have hWe:=GCode.W_eq' c
  obtain⟨w,l',rfl,h1,h2,h3,h4⟩:=K0 c c.W 0 l (by omega) hl
  have hp2:(p+1+(k:Int))*c.out=bits.length:=by rw[←hp];congr 1;omega
  obtain⟨i1,i2,i3⟩:=MZ c h bits k (c.nxt s w) (p+1) l' (by omega) hp2 h4
  refine⟨by simp[i1],fun w' hw'=>?_,?_⟩
  ·rcases List.mem_cons.1 hw' with rfl|hw'
   ·simp only[GCode.isWord,Dp,decide_eq_true_eq];omega
   ·exact i2 w' hw'
  ·simp only[GCode.stream]
   rw[i3,←h3,GCode.ownB]
   have hq:0<=p*c.out:=Int.mul_nonneg h0 (by omega)
   have e:((p+1)*c.out).toNat=(p*c.out).toNat+c.out.toNat:=by rw[Int.add_mul];omega
   rw[e,←List.drop_drop,List.take_append_drop]
theorem Px (c:GCode) (h:c.ok=true) (bits:List Int):∀(k:Nat) (s p:Int) (l:List Int),0<=p->l.length=k->(∀w,w∈l->c.isWord w=true)->(c.stream s l).1=bits.drop (p*c.out).toNat->c.decP bits k s p≠none
 |0,s,p,l,_,_,_,_=>by simp[GCode.decP]
 |k+1,s,p,[],_,hl,_,_=>by cases hl
 |k+1,s,p,w::l,h0,hl,hw,hs=>by
  intro hn
  have hd:=GCode.ok_head h
  have hWe:=GCode.W_eq' c
  have hww:=hw w (by simp)
  simp only[GCode.isWord,Dp,decide_eq_true_eq] at hww
  have hbl:=En c.out.toNat (c.wrd s w)
  simp only[GCode.stream] at hs
  have ho:c.ownB bits p=CW c.out.toNat (c.wrd s w):=by
   rw[GCode.ownB,←hs,List.take_left' hbl]
  have hr:=K1 c c.W 0 hn w (by omega) (by omega) ho
  have hq:0<=p*c.out:=Int.mul_nonneg h0 (by omega)
  have e:((p+1)*c.out).toNat=(p*c.out).toNat+c.out.toNat:=by rw[Int.add_mul];omega
  refine Px c h bits k (c.nxt s w) (p+1) l (by omega) (by simpa using hl) (fun w' hw'=>hw w' (by simp[hw'])) ?_ hr
  rw[e,←List.drop_drop,←hs,List.drop_left' hbl]
theorem SZ (c:GCode) (h:c.ok=true) {s:Int}{data:List Int}(hw:∀w,w∈data->c.isWord w=true) :
  ∃l,(c.decM (c.stream s data).1 data.length s 0 []).1=some l/\l.length=data.length/\(∀w,w∈l->c.isWord w=true)/\(c.stream s l).1=(c.stream s data).1:=by
 have hd:=GCode.ok_head h
 have he:=(NU c (c.stream s data).1 data.length data.length s 0 [] (by omega) fun e he=>by cases he).1
 have hn:=Px c h (c.stream s data).1 data.length s 0 data (by omega) rfl hw (by simp)
 cases hp:c.decP (c.stream s data).1 data.length s 0 with
 |none=>exact absurd hp hn
 |some l =>
  have hl:((0:Int)+(data.length:Nat))*c.out=((c.stream s data).1.length:Nat):=by
   rw[Kj,Int.natCast_mul,Int.zero_add];congr 1;omega
  obtain⟨h1,h2,h3⟩:=MZ c h (c.stream s data).1 data.length s 0 l (by omega) hl hp
  exact⟨l,by rw[he,hp],h1,h2,by simpa using h3⟩
end Go.Pw
end
