/- Part. -/
import Derived.Test.YtmdklgapccickaaGreatDoorPgMvG
set_option linter.all false
open List renaming mem_cons->aa,length_set->ax,mem_cons_of_mem->ay,getElem?_eq_some_iff->az,getElem?_set_self->ck,getElem?_set_ne->cp,mem_cons_self->c8,mem_of_getElem?->ea,pairwise_append->eb,all_eq_true->f0,isEmpty_iff->hU,drop_sublist->hX,take_append_drop->hY,pairwise_cons->i5,length_cons->i7,getElem?_eq_getElem->j0,mem_append->j4,mem_singleton->kk,mem_of_mem_drop->la
open Int renaming toNat_natCast->cw,le_refl->et
open Go Go.Pw Go.Proofs
namespace Go.Pw
set_option maxRecDepth 100000
set_option maxHeartbeats 6400000
section
attribute [local irreducible] IntKind.wrap Ah Option.getD and or
theorem YK(f:B9)(h:f.Base)(hm:f.gr.any (fun x=>!E1 f x)=false)(r:f.gr.length<=12)(hd:f.gr.Pairwise fun a b=>a.id≠b.id)
  (s1 s2:List BK) (u:s1.Perm f.gr) (m:s1.Pairwise fun a b=>a.id<b.id) (t:s2.Perm s1) (o:s2.Pairwise fun a b=>a.st<b.st) (q:∀n,n<=s2.length->xd f (HG f s2 n)) (b:Int) :
  BU E0 G7 [HX f,.int .i64 b] (.tup [.int .i64 (HS (HG f s2 s2.length) b).1,.int .i64 (HS (HG f s2 s2.length) b).2]):=by
 have cL:=xK f h hm r hd s1 s2 u m t o q;obtain⟨p,hp⟩:∃p,HG f s2 s2.length=p:=⟨_,rfl⟩
 rw[hp]at cL ⊢;rw[Aj,Ao]at cL;simp only[y4]at cL;have j:HS p b=if b<0\/(p.bl.length:Int)<=b then(0,1)else if p.bl[b.toNat]?.getD 0=-1 then(0,3)else(p.bl[b.toNat]?.getD 0,0):=rfl
 refine AL S4 AR (by simp) fun y=>?_
 rw[AN];unfold MO
 by_cases h1:b<0
 ·rw[j,if_pos (.inl h1)];refine' FA @Aj @Ao h1;repeat' first|(refine' BJ;(first|refine B_ ([]) ([((24,0),(10,0)),((80,0),(10010,0)),((92,0),(20010,0)),((22,0),(30010,0))]) (cL) ?_)<;>refine' FA @Aj @Ao h1)|refine' BI|done
  all_goals first|omega|rfl|exact .inl True.intro
 ·by_cases h2:(p.bl.length:Int)<=b
  ·rw[j,if_pos (.inr h2)];refine' Gj @Aj @Ao h1 h2;repeat' first|(refine' BJ;(first|refine B_ ([]) ([((24,0),(10,0)),((80,0),(10010,0)),((92,0),(20010,0)),((22,0),(30010,0))]) (cL) ?_)<;>refine' Gj @Aj @Ao h1 h2)|refine' BI|done
   all_goals first|omega|rfl|exact .inl True.intro
  ·rw[j,if_neg (by omega)];obtain⟨n,hn⟩:∃n:Nat,b=(n:Int):=⟨b.toNat,by omega⟩
   subst hn;rw[cw];have i:n<p.bl.length:=by omega
   obtain⟨v,hv⟩:∃v,p.bl[n]?.getD 0=v:=⟨_,rfl⟩
   rw[hv];have e:(n:Int)<(p.bl.length:Int):=by omega
   by_cases l:v=-1
   ·rw[if_pos l];refine' EP @Aj @Ao h1 h2 i e hv l;repeat' first|(refine' BJ;(first|refine B_ ([]) ([((24,0),(10,0)),((80,0),(10010,0)),((92,0),(20010,0)),((22,0),(30010,0))]) (cL) ?_)<;>refine' EP @Aj @Ao h1 h2 i e hv l)|refine' BI|done
    all_goals first|omega|rfl|exact .inl True.intro
   ·rw[if_neg l];refine' EP @Aj @Ao h1 h2 i e hv l;repeat' first|(refine' BJ;(first|refine B_ ([]) ([((24,0),(10,0)),((80,0),(10010,0)),((92,0),(20010,0)),((22,0),(30010,0))]) (cL) ?_)<;>refine' EP @Aj @Ao h1 h2 i e hv l)|refine' BI|done
    all_goals first|omega|rfl|exact .inl True.intro
end
section
def yd(f:B9)(p:Z1):Bool:=decide (p.fr.length=f.d.zones.length) && (decide (p.bl.length<=5200) && (p.gv.all (fun q=>decide (1<=q.2/\q.2<=1000)) && p.fr.all (fun r=>decide (r.2.Pairwise fun a b:Int=>a<b) && (decide (r.2.length<=5200) && (!r.1 || r.2.isEmpty)))))
theorem rI{gv:List (Int×Int)}(h:∀q∈gv,1<=q.2/\q.2<=1000)(t:Int):0<=C2 gv t/\C2 gv t<=1000:=by
 induction gv with
 |nil=>simp[C2]
 |cons q l ih =>
  have e:=h q (c8 ..);rw[C2];split
  ·omega
  ·exact ih fun q e=>h q (ay _ e)
theorem yc{f:B9}{p:Z1}(h:yd f p=true):xd f p:=by
 simp only[yd,Bool.and_eq_true,decide_eq_true_eq,f0,Bool.or_eq_true,Bool.not_eq_true',hU]at h;obtain⟨h1,h2,j,i⟩:=h
 have hk:∀k:Nat,(p.fr[k]?.getD ((true,[]):Fr))=(true,[])\/(p.fr[k]?.getD ((true,[]):Fr))∈p.fr:=fun k=>by
  cases e:p.fr[k]? with
  |none=>exact .inl rfl
  |some x=>exact .inr (ea e)
 refine⟨h1,h2,fun q l=>(j q l).1,rI j,fun k=>?_,fun k=>?_,fun k=>?_⟩
 ·rcases hk k with e|e
  ·rw[e];exact List.Pairwise.nil
  ·exact(i _ e).1
 ·rcases hk k with e|e
  ·rw[e];exact Nat.zero_le _
  ·exact(i _ e).2.1
 ·rcases hk k with e|e
  ·rw[e];exact fun _=>rfl
  ·intro ht;rcases(i _ e).2.2 with h|h
   ·rw[ht]at h;cases h
   ·exact h
def ABo:List BK:=[⟨1,5,4⟩,⟨2,9,22⟩,⟨3,7,33⟩,⟨4,8,23⟩,⟨5,6,30⟩]
def vM:List BK:=[⟨1,5,4⟩,⟨5,6,30⟩,⟨3,7,33⟩,⟨4,8,23⟩,⟨2,9,22⟩]
theorem zS:(List.range 6).all (fun n=>yd Nl (HG Nl vM n))=true:=by decide +kernel
theorem vL:Nl.Base:=⟨by decide +kernel,by decide,by decide,by decide +kernel,by decide⟩
theorem zT:Nl.gr.any (fun x=>!E1 Nl x)=false:=by decide +kernel
attribute [local irreducible] IntKind.wrap Ah Option.getD and or
theorem cm:BU E0 G7 [HX Nl,.int .i64 26] (.tup [.int .i64 32,.int .i64 0]):=by
 have h:=YK Nl vL zT (by decide) (by decide) ABo vM (.refl _) (by decide) (by decide +kernel) (by decide) (fun n hn=>yc (f0.1 zS n (List.mem_range.2 (by change n<=5 at hn;omega)))) 26;have e:HS (HG Nl vM vM.length) 26=(32,0):=co;rw[e]at h;exact h
theorem Vc(l h:Int):BU E0 SI [.int .i64 l,.int .i64 h] (.agg [.int .i64 l,.int .i64 h]):=by
 refine AL Vx AR (by simp) fun e=>?_
 rw[AN];unfold PH;refine' FP
 all_goals first|rfl
theorem Q9:BU E0 Mm [] (K8 Nl.d):=by
 refine AL Rf AR (by simp) fun e=>?_
 have c1:=Vc;rw[AN];unfold Kp;refine' Fp;repeat' first|(refine' BJ;(first|refine AF (c1 _ _) ?_)<;>refine' Fp)|refine' BI|done
 all_goals first|rfl
theorem Q8:BU E0 Ml [] (HX Nl):=by
 refine AL Re AR (by simp) fun e=>?_
 have c1:=Q9;rw[Aw,AX]at c1;rw[AN];unfold Ko;refine' Fp;repeat' first|(refine' BJ;(first|refine AF c1 ?_)<;>refine' Fp)|refine' BI|done
 all_goals first|rfl
end
structure zt (f:B9) (N:Nat) (p:Z1):Prop where
 n:p.fr.length=f.d.zones.length
 bl:∀(b:Nat) (x:Int),p.bl[b]?=some x->x=-1\/(0<=x/\C2 p.gv x=0/\∀(k:Nat) (q:Fr),p.fr[k]?=some q->x∉q.2)
 inj:∀(b b':Nat) (x:Int),p.bl[b]?=some x->p.bl[b']?=some x->x≠-1->b=b'
 fr:∀(k:Nat) (q:Fr) (x:Int),p.fr[k]?=some q->x∈q.2->0<=x/\C2 p.gv x=0/\I7 f.d x f.d.zones.length=k
 srt:∀(k:Nat) (q:Fr),p.fr[k]?=some q->q.2.Pairwise (fun a b:Int=>a<b)
 nl:∀(k:Nat) (q:Fr),p.fr[k]?=some q->q.1=true->q.2=[]
 len:∀(k:Nat) (q:Fr),p.fr[k]?=some q->q.2.length<=5200
 bll:p.bl.length<=5200
 gvs:∀q∈p.gv,1<=q.2/\q.2<=(N:Int)+1
theorem frG{fr:List Fr}{k:Nat}:fr[k]?=none/\(fr[k]?.getD ((true,[]):Fr))=(true,[])\/fr[k]?=some (fr[k]?.getD ((true,[]):Fr)):=by
 cases e:fr[k]? with
 |none=>exact .inl ⟨rfl,rfl⟩
 |some x=>exact .inr rfl
theorem vg{f:B9}{N:Nat}{p:Z1}(h:zt f N p)(j:N<=900):xd f p:=by
 refine⟨h.n,h.bll,fun q i=>(h.gvs q i).1,rI fun q i=>by have:=h.gvs q i;omega,fun k=>?_,fun k=>?_,fun k=>?_⟩
 ·rcases frG (fr:=p.fr) (k:=k)with⟨_,e⟩|e
  ·rw[e];exact List.Pairwise.nil
  ·exact h.srt k _ e
 ·rcases frG (fr:=p.fr) (k:=k)with⟨_,e⟩|e
  ·rw[e];exact Nat.zero_le _
  ·exact h.len k _ e
 ·rcases frG (fr:=p.fr) (k:=k)with⟨_,e⟩|e
  ·rw[e];exact fun _=>rfl
  ·exact h.nl k _ e
theorem zB{gv:List (Int×Int)}{s N:Int}(h:∀q∈gv,1<=q.2/\q.2<=N)(i:0<=N):∀q∈Ek gv s,1<=q.2/\q.2<=N+1:=by
 induction gv with
 |nil=>intro q e;simp[Ek]at e;rw[e];exact⟨by omega,by show(1:Int)<=N+1;omega⟩
 |cons p l ih =>
  have hp:=h p (c8 ..);intro q e;rw[Ek]at e;split at e
  ·rcases aa.1 e with rfl|e
   ·exact⟨by show 1<=p.2+1;omega,by show p.2+1<=N+1;omega⟩
   ·have:=h q (ay _ e);omega
  ·rcases aa.1 e with rfl|e
   ·omega
   ·exact ih (fun q e=>h q (ay _ e)) q e
theorem vY(l:List Int)(i:Nat):(K9 l i).Sublist l:=by
 unfold K9;have h:=List.Sublist.append (List.Sublist.refl (l.take i)) (hX 1 (l.drop i));rw[List.drop_drop,hY]at h;rw[Nat.add_comm i 1]at *;rw[Nat.add_comm]at h;simpa[Nat.add_comm]using h
theorem vZ{l:List Int}{s:Int}(h:l.Pairwise (fun a b:Int=>a<b))(hs:s∈l):s∉K9 l (Lj l s):=by
 induction l with
 |nil=>cases hs
 |cons a t ih =>
  rw[i5]at h
  by_cases j:a=s
  ·subst j
   have h0:Lj (a::t) a=0:=by
    unfold Lj;rw[List.filter_eq_nil_iff.2,List.length_nil];intro x hx;rcases aa.1 hx with rfl|hx
    ·simp
    ·have:=h.1 x hx;simp;omega
   rw[h0];show a∉t;intro hm;have:=h.1 a hm;omega
  ·have i:s∈t:=by
    rcases aa.1 hs with e|e
    ·exact absurd e.symm j
    ·exact e
   have m:=h.1 s i
   have h1:Lj (a::t) s=Lj t s+1:=by
    unfold Lj;rw[List.filter_cons_of_pos (by simpa using m),i7]
   rw[h1];show s∉a::K9 t (Lj t s);intro hm;rcases aa.1 hm with e|e
   ·exact j e.symm
   ·exact ih h.2 i e
theorem Tg{fr:List Fr}{own:Nat}(h0:0<fr.length):∀{n k:Nat},Lo fr own n=some k->k<fr.length/\(fr[k]?.getD ((true,[]):Fr)).2.length≠0
 |0,k,h=>by cases h
 |n+1,k,h=>by
  rw[Vh]at h;split at h
  ·rename_i j e
   cases h
   exact Tg h0 e
  ·split at h
   ·cases h
   ·rename_i hne
    cases h
    exact⟨Nat.mod_lt _ h0,hne⟩
theorem AAf{f:B9}{N:Nat}{p:Z1}(h:zt f N p){s:Int}(hs:s∉(p.fr[I7 f.d s f.d.zones.length]?.getD ((true,[]):Fr)).2){k:Nat}{q:Fr}(hk:p.fr[k]?=some q):s∉q.2:=fun hm=>by
 have h1:=(h.fr k q s hk hm).2.2;rw[h1,hk]at hs;exact hs hm
theorem dR{f:B9}{N:Nat}{p:Z1}(h:zt f N p)(hz:0<f.d.zones.length)(s:Int)(ξ:0<=s):zt f (N+1) (MY f.d p s)/\(MY f.d p s).bl.length=p.bl.length /\
  ∀(b:Nat) (x:Int),p.bl[b]?=some x->∃y,(MY f.d p s).bl[b]?=some y/\(x=-1->y=-1)/\(x≠-1->x≠s->y=x)/\(x≠-1->x=s->y≠x):=by
 have J:∀q∈Ek p.gv s,1<=q.2/\q.2<=((N+1:Nat):Int)+1:=fun q m=>by
  have:=zB (s:=s) h.gvs (by omega) q m;push_cast;omega
 have L:∀{x:Int},x≠s->C2 (Ek p.gv s) x=C2 p.gv x:=fun h=>ga h
 unfold MY;split
 ·rename_i h0;have hx:∀{x:Int},C2 p.gv x=0->x≠s:=fun h1 e=>by rw[e]at h1;omega
  refine⟨⟨h.n,fun b x hb=>?_,h.inj,fun k q x hk hm=>?_,h.srt,h.nl,h.len,h.bll,J⟩,rfl,fun b x hb=>⟨x,hb,fun e=>e,fun _ _=>rfl,fun h1 h2=>?_⟩⟩
  ·rcases h.bl b x hb with e|⟨e1,e2,i⟩
   ·exact .inl e
   ·exact .inr ⟨e1,by show C2 (Ek p.gv s) x=0;rw[L (hx e2)];exact e2,i⟩
  ·obtain⟨e1,e2,i⟩:=h.fr k q x hk hm;exact⟨e1,by show C2 (Ek p.gv s) x=0;rw[L (hx e2)];exact e2,i⟩
  ·rcases h.bl b x hb with e|⟨_,e2,_⟩
   ·exact absurd e h1
   ·exact absurd h2 (hx e2)
 ·rename_i h0;split
  ·rename_i hs;obtain⟨own,ho⟩:∃own,I7 f.d s f.d.zones.length=own:=⟨_,rfl⟩
   rw[ho]at hs ⊢
   have m:p.fr[own]?=some (p.fr[own]?.getD ((true,[]):Fr)):=by
    rcases frG (fr:=p.fr) (k:=own)with⟨_,e⟩|e
    ·rw[e]at hs;cases hs
    ·exact e
   obtain⟨q0,β⟩:∃q0,(p.fr[own]?.getD ((true,[]):Fr))=q0:=⟨_,rfl⟩
   rw[β]at hs m ⊢;have ν:own<p.fr.length:=(az.1 m).1;have Y:=vY q0.2 (Lj q0.2 s);have μ:=vZ (h.srt own q0 m) hs
   have A:∀{k:Nat}{q:Fr},(p.fr.set own (false,K9 q0.2 (Lj q0.2 s)))[k]?=some q->(k=own/\q=(false,K9 q0.2 (Lj q0.2 s)))\/(k≠own/\p.fr[k]?=some q):=fun {k q} hk=>by
    by_cases e:own=k
    ·subst e;rw[ck ν]at hk
     cases hk;exact .inl ⟨rfl,rfl⟩
    ·rw[cp e]at hk;exact .inr ⟨fun h=>e h.symm,hk⟩
   have B:∀{k:Nat}{q:Fr}{x:Int},(p.fr.set own (false,K9 q0.2 (Lj q0.2 s)))[k]?=some q->x∈q.2->x≠s/\∃q',p.fr[k]?=some q'/\x∈q'.2:=fun {k q x} hk hm=>by
    rcases A hk with⟨rfl,rfl⟩|⟨hne,hk⟩
    ·exact⟨fun e=>μ (e▸hm),q0,m,Y.subset hm⟩
    ·refine⟨fun e=>?_,q,hk,hm⟩;have:=(h.fr k q x hk hm).2.2;rw[e,ho]at this;exact hne this.symm
   refine⟨⟨by simp only[ax];exact h.n,fun b x hb=>?_,h.inj,fun k q x hk hm=>?_,fun k q hk=>?_,fun k q hk ht=>?_,fun k q hk=>?_,h.bll,J⟩,rfl,fun b x hb=>⟨x,hb,fun e=>e,fun _ _=>rfl,fun h1 h2=>?_⟩⟩
   ·rcases h.bl b x hb with e|⟨e1,e2,i⟩
    ·exact .inl e
    ·refine .inr ⟨e1,?_,fun k q hk hm=>?_⟩
     ·show C2 (Ek p.gv s) x=0;rw[L (x:=x) (fun e=>i own q0 m (e▸hs))];exact e2
     ·obtain⟨_,q',u,r⟩:=B hk hm;exact i k q' u r
   ·obtain⟨hxs,q',u,r⟩:=B hk hm;obtain⟨e1,e2,i⟩:=h.fr k q' x u r;exact⟨e1,by show C2 (Ek p.gv s) x=0;rw[L hxs];exact e2,i⟩
   ·rcases A hk with⟨rfl,rfl⟩|⟨_,hk⟩
    ·exact(h.srt _ q0 m).sublist Y
    ·exact h.srt k q hk
   ·rcases A hk with⟨rfl,rfl⟩|⟨_,hk⟩
    ·cases ht
    ·exact h.nl k q hk ht
   ·rcases A hk with⟨rfl,rfl⟩|⟨_,hk⟩
    ·exact Nat.le_trans Y.length_le (h.len _ q0 m)
    ·exact h.len k q hk
   ·rcases h.bl b x hb with e|⟨_,_,i⟩
    ·exact absurd e h1
    ·exact absurd (h2▸hs) (i own q0 m)
  ·rename_i hs;have U:=fun {k q} hk=>AAf h hs (k:=k) (q:=q) hk
   split
   ·rename_i α
    have ζ:∀{b:Nat}{x:Int},p.bl[b]?=some x->x≠s:=fun {b x} hb e=>by
     have:=List.findIdx?_eq_none_iff.1 α x (ea hb);simp at this;exact this e
    refine⟨⟨h.n,fun b x hb=>?_,h.inj,fun k q x hk hm=>?_,h.srt,h.nl,h.len,h.bll,J⟩,rfl,fun b x hb=>⟨x,hb,fun e=>e,fun _ _=>rfl,fun h1 h2=>absurd h2 (ζ hb)⟩⟩
    ·rcases h.bl b x hb with e|⟨e1,e2,i⟩
     ·exact .inl e
     ·exact .inr ⟨e1,by show C2 (Ek p.gv s) x=0;rw[L (ζ hb)];exact e2,i⟩
    ·obtain⟨e1,e2,i⟩:=h.fr k q x hk hm;exact⟨e1,by show C2 (Ek p.gv s) x=0;rw[L (x:=x) (fun e=>U hk (e▸hm))];exact e2,i⟩
   ·rename_i b0 α;obtain⟨Z,δ,_⟩:=List.findIdx?_eq_some_iff_getElem.1 α;simp only[decide_eq_true_eq]at δ;have γ:p.bl[b0]?=some s:=by rw[j0 Z,δ]
    have l:∀{v:Int}{b:Nat}{x:Int},(p.bl.set b0 v)[b]?=some x->(b=b0/\x=v)\/(b≠b0/\p.bl[b]?=some x):=fun {v b x} hb=>by
     by_cases e:b0=b
     ·subst e;rw[ck Z]at hb
      cases hb;exact .inl ⟨rfl,rfl⟩
     ·rw[cp e]at hb;exact .inr ⟨fun h=>e h.symm,hb⟩
    have S:∀{b:Nat}{x:Int},b≠b0->p.bl[b]?=some x->x≠-1->x≠s:=fun {b x} hb hx h1 e=>hb (h.inj b b0 x hx (e▸γ) h1)
    have ε:∀(v:Int),v≠s->(s=-1->v=-1)->(p.bl.set b0 v).length=p.bl.length/\∀(b:Nat) (x:Int),p.bl[b]?=some x->∃y,(p.bl.set b0 v)[b]?=some y/\(x=-1->y=-1)/\(x≠-1->x≠s->y=x)/\(x≠-1->x=s->y≠x):=fun v hv θ=>by
     refine⟨ax,fun b x hb=>?_⟩
     by_cases e:b0=b
     ·subst e;rw[γ]at hb;cases hb;exact⟨v,ck Z,θ,fun _ h=>absurd rfl h,fun _ _=>hv⟩
     ·rw[cp e];exact⟨x,hb,fun e=>e,fun _ _=>rfl,fun h1 h2=>absurd h2 (S (fun h=>e h.symm) hb h1)⟩
    have κ:0<p.fr.length:=by rw[h.n];exact hz
    split
    ·obtain⟨m1,m2⟩:=ε (-1) (fun e=>by omega) (fun _=>rfl);refine⟨⟨h.n,fun b x hb=>?_,fun b b' x hb j hx=>?_,fun k q x hk hm=>?_,h.srt,h.nl,h.len,by rw[ax];exact h.bll,J⟩,m1,m2⟩
     ·rcases l hb with⟨_,e⟩|⟨hne,hb⟩
      ·exact .inl e
      ·rcases h.bl b x hb with e|⟨e1,e2,i⟩
       ·exact .inl e
       ·exact .inr ⟨e1,by show C2 (Ek p.gv s) x=0;rw[L (S hne hb (by omega))];exact e2,i⟩
     ·rcases l hb with⟨_,e⟩|⟨hne,hb⟩
      ·exact absurd e hx
      ·rcases l j with⟨_,e⟩|⟨hne',j⟩
       ·exact absurd e hx
       ·exact h.inj b b' x hb j hx
     ·obtain⟨e1,e2,i⟩:=h.fr k q x hk hm;exact⟨e1,by show C2 (Ek p.gv s) x=0;rw[L (x:=x) (fun e=>U hk (e▸hm))];exact e2,i⟩
    ·rename_i G ι;obtain⟨η,O⟩:=Tg κ ι
     have m:p.fr[G]?=some (p.fr[G]?.getD ((true,[]):Fr)):=by
      rcases frG (fr:=p.fr) (k:=G)with⟨_,e⟩|e
      ·rw[e]at O;exact absurd rfl O
      ·exact e
     obtain⟨q0,β⟩:∃q0,(p.fr[G]?.getD ((true,[]):Fr))=q0:=⟨_,rfl⟩
     rw[β]at O m ⊢
     obtain⟨T,t0,z⟩:∃T t,q0.2=T::t:=by
      cases e:q0.2 with
      |nil=>rw[e]at O;exact absurd rfl O
      |cons x t=>exact⟨x,t,rfl⟩
     have hv:q0.2[0]?.getD 0=T:=by rw[z];rfl
     have hd:q0.2.drop 1=t0:=by rw[z];rfl
     rw[hv,hd];have M:T∈q0.2:=by rw[z];exact c8 ..
     obtain⟨f1,f2,f3⟩:=h.fr G q0 T m M;have X:T≠s:=fun e=>U m (e▸M)
     have R:=h.srt G q0 m;rw[z,i5]at R
     have o:∀{k:Nat}{q:Fr},(p.fr.set G (q0.1,t0))[k]?=some q->(k=G/\q=(q0.1,t0))\/(k≠G/\p.fr[k]?=some q):=fun {k q} hk=>by
      by_cases e:G=k
      ·subst e;rw[ck η]at hk
       cases hk;exact .inl ⟨rfl,rfl⟩
      ·rw[cp e]at hk;exact .inr ⟨fun h=>e h.symm,hk⟩
     have B:∀{k:Nat}{q:Fr}{x:Int},(p.fr.set G (q0.1,t0))[k]?=some q->x∈q.2->x≠T/\∃q',p.fr[k]?=some q'/\x∈q'.2:=fun {k q x} hk hm=>by
      rcases o hk with⟨rfl,rfl⟩|⟨hne,hk⟩
      ·refine⟨fun e=>?_,q0,m,by rw[z];exact ay _ hm⟩;have:=R.1 x hm;omega
      ·refine⟨fun e=>?_,q,hk,hm⟩;have:=(h.fr k q x hk hm).2.2;rw[e,f3]at this;exact hne this.symm
     obtain⟨m1,m2⟩:=ε T X (fun e=>by omega);refine⟨⟨by rw[ax];exact h.n,fun b x hb=>?_,fun b b' x hb j hx=>?_,fun k q x hk hm=>?_,fun k q hk=>?_,fun k q hk ht=>?_,fun k q hk=>?_,by rw[ax];exact h.bll,J⟩,m1,m2⟩
     ·rcases l hb with⟨_,rfl⟩|⟨hne,hb⟩
      ·exact .inr ⟨f1,by show C2 (Ek p.gv s) _=0;rw[L X];exact f2,fun k q hk hm=>(B hk hm).1 rfl⟩
      ·rcases h.bl b x hb with e|⟨e1,e2,i⟩
       ·exact .inl e
       ·refine .inr ⟨e1,by show C2 (Ek p.gv s) x=0;rw[L (S hne hb (by omega))];exact e2,fun k q hk hm=>?_⟩;obtain⟨_,q',u,r⟩:=B hk hm;exact i k q' u r
     ·have key:∀{b b':Nat},x=T->p.bl[b']?=some x->b=b':=fun {b b'} e2 j=>by
       rcases h.bl b' x j with e|⟨_,_,e5⟩
       ·exact absurd e hx
       ·exact absurd (e2▸M) (e5 G q0 m)
      rcases l hb with⟨e1,e2⟩|⟨hne,hb⟩<;>rcases l j with⟨i,e4⟩|⟨hne',j⟩
      ·rw[e1,i]
      ·exact key e2 j
      ·exact(key e4 hb).symm
      ·exact h.inj b b' x hb j hx
     ·obtain⟨hne,q',u,r⟩:=B hk hm;obtain⟨e1,e2,i⟩:=h.fr k q' x u r;exact⟨e1,by show C2 (Ek p.gv s) x=0;rw[L (x:=x) (fun e=>U u (e▸r))];exact e2,i⟩
     ·rcases o hk with⟨rfl,rfl⟩|⟨_,hk⟩
      ·exact R.2
      ·exact h.srt k q hk
     ·rcases o hk with⟨rfl,rfl⟩|⟨_,hk⟩
      ·have:=h.nl _ q0 m ht;rw[z]at this;cases this
      ·exact h.nl k q hk ht
     ·rcases o hk with⟨rfl,rfl⟩|⟨_,hk⟩
      ·have:=h.len _ q0 m;rw[z,i7]at this;show t0.length<=5200;omega
      ·exact h.len k q hk
theorem Oi{pr:List Int}{a x:Int}:∀{n:Nat},x∈MZ pr a n->a<=x/\x<a+n/\C2 (pr.map fun x=>(x,1)) x=0
 |n+1,h=>by
  rw[Uf]at h;split at h
  ·rename_i h0;rcases j4.1 h with h|h
   ·have:=Oi h;omega
   ·rw[kk]at h;subst h;omega
  ·have:=Oi h;omega
theorem K4(pr:List Int)(a:Int):∀n:Nat,(MZ pr a n).Pairwise (fun a b:Int=>a<b)
 |0=>List.Pairwise.nil
 |n+1=>by
  rw[Uf];split
  ·rw[eb];refine⟨K4 pr a n,List.pairwise_singleton ..,fun x hx y e=>?_⟩;rw[kk]at e;have:=Oi hx;omega
  ·exact K4 pr a n
theorem QZ{d:AQ}(h:d.ok=true){k:Nat}:∀{j:Nat},k<=j->j<=d.zones.length->IH d k<=IH d j
 |0,h1,_=>by rw[show k=0 by omega];exact et _
 |j+1,h1,h2=>by
  by_cases e:k=j+1
  ·rw[e];exact et _
  ·have l:=QZ h (k:=k) (j:=j) (by omega) (by omega);have i:=SN h j (by omega);rw[IH];omega
theorem iW{d:AQ}(h:d.ok=true){k:Nat}{x:Int}(h1:IH d k<=x)(h2:x<IH d (k+1)):∀{n:Nat},k<n->n<=d.zones.length->I7 d x n=k
 |n+1,h3,h4=>by
  rw[oh]
  by_cases e:k=n
  ·subst e;rw[if_pos ⟨h1,h2⟩]
  ·have i:=QZ h (k:=k+1) (j:=n) (by omega) (by omega);rw[if_neg (by omega)];exact iW h h1 h2 (by omega) (by omega)
theorem Oh{f:B9}(h:f.d.ok=true){k:Nat}(hk:k<f.d.zones.length){x:Int}(hx:x∈HN f k):0<=x/\IH f.d k<=x/\x<IH f.d (k+1)/\C2 (f.pr.map fun x=>(x,1)) x=0/\I7 f.d x f.d.zones.length=k:=by
 obtain⟨h1,h2,e⟩:=Oi hx;have i:=QZ h (k:=k) (j:=k+1) (by omega) (by omega);have l:=(Uw h k (by omega)).1;exact⟨by omega,h1,by omega,e,iW h h1 (by omega) hk (Nat.le_refl _)⟩
theorem YX{l:List Int}(h:l.Pairwise (fun a b:Int=>a<b))(c:Nat){x:Int}(h1:x∈l.take c):x∉l.drop c:=fun h2=>by
 rw[←hY c l,eb]at h;have:=h.2.2 x h1 x h2;omega
theorem jH{f:B9}(h:f.d.ok=true):∀{n:Nat},n<=f.d.zones.length->(TI f n).Pairwise (fun a b:Int=>a<b)/\∀x∈TI f n,0<=x/\x<IH f.d n/\C2 (f.pr.map fun x=>(x,1)) x=0/\∀k,k<f.d.zones.length->x∉(HN f k).drop (Zb f k)
 |0,_=>⟨List.Pairwise.nil,fun x hx=>by cases hx⟩
 |n+1,hn=>by
  obtain⟨o,m⟩:=jH h (n:=n) (by omega);have hm:=QZ h (k:=n) (j:=n+1) (by omega) hn;have hg:∀x,x∈(HN f n).take (Zb f n)->x∈HN f n:=fun x hx=>List.mem_of_mem_take hx
  rw[WC];refine⟨?_,fun x hx=>?_⟩
  ·rw[eb];refine⟨o,(K4 ..).sublist (List.take_sublist _ _),fun x hx y p=>?_⟩;have h1:=m x hx;have h2:=Oh h (by omega) (hg y p);omega
  ·rcases j4.1 hx with hx|hx
   ·obtain⟨e1,e2,l,i⟩:=m x hx;exact⟨e1,by omega,l,i⟩
   ·obtain⟨e1,e2,l,i,q⟩:=Oh h (by omega) (hg x hx);refine⟨e1,l,i,fun k hk hd=>?_⟩
    by_cases e:k=n
    ·subst e;exact YX (K4 ..) _ hx hd
    ·have:=(Oh h hk (la hd)).2.2.2.2;exact e (this.symm.trans q)
theorem Ng{f:B9}{n k:Nat}{q:Fr}(h:(Wu f n)[k]?=some q):k<n/\q=((HN f k).isEmpty,(HN f k).drop (Zb f k)):=by
 obtain⟨h1,h2⟩:=az.1 h;rw[Vi]at h1;refine⟨h1,?_⟩;rw[←h2];simp[Wu]
theorem vi{f:B9}(h:f.Base):zt f 0 (N2 f):=by
 obtain⟨b1,b2⟩:=jH h.d (Nat.le_refl _);have p:=FQ h.d;have o:=p.z2;refine⟨Vi f _,fun b x hb=>?_,fun b b' x hb l _=>?_,fun k q x hk hm=>?_,fun k q hk=>?_,fun k q hk ht=>?_,fun k q hk=>?_,?_,fun q t=>?_⟩
 ·obtain⟨e1,e2,n,j⟩:=b2 x (ea hb);refine .inr ⟨e1,n,fun k q hk=>?_⟩;obtain⟨i,rfl⟩:=Ng hk;exact j k i
 ·obtain⟨h1,h2⟩:=az.1 hb;obtain⟨m,u⟩:=az.1 l;rw[List.pairwise_iff_getElem]at b1;rcases Nat.lt_trichotomy b b' with e|e|e
  ·have:=b1 b b' h1 m e;change(N2 f).bl[b]<(N2 f).bl[b']at this;omega
  ·exact e
  ·have:=b1 b' b m h1 e;change(N2 f).bl[b']<(N2 f).bl[b]at this;omega
 ·obtain⟨i,rfl⟩:=Ng hk;obtain⟨e1,e2,n,j,r⟩:=Oh h.d i (la hm);exact⟨e1,j,r⟩
 ·obtain⟨i,rfl⟩:=Ng hk;exact(K4 ..).sublist (hX _ _)
 ·obtain⟨i,rfl⟩:=Ng hk;have:HN f k=[]:=hU.1 ht;show(HN f k).drop _=[]
  rw[this,List.drop_nil]
 ·obtain⟨i,rfl⟩:=Ng hk;have h1:=Oj f.pr (IH f.d k) (IH f.d (k+1)-IH f.d k).toNat;have h2:=SN h.d k i;have m:IH f.d (k+1)=IH f.d k+f.d.heads*(f.d.zones[k]?.getD default).1*(f.d.zones[k]?.getD default).2:=rfl;change((MZ f.pr (IH f.d k) (IH f.d (k+1)-IH f.d k).toNat).drop _).length<=5200;rw[List.length_drop];omega
 ·have:=WD h.d _ (Nat.le_refl _);show(TI f f.d.zones.length).length<=5200;omega
 ·obtain⟨x,_,rfl⟩:=List.mem_map.1 t;exact⟨et _,by show(1:Int)<=_;omega⟩
theorem Uz{f:B9}{N:Nat}{p:Z1}(h:zt f N p)(q:0<f.d.zones.length)(s:Int)(hs:0<=s)(b:Nat)(hb:b<p.bl.length) :
  ∃m j n k:Int,HS p (b:Int)=(m,j)/\HS (MY f.d p s) (b:Int)=(n,k)/\(j=0\/j=3)/\(k=0\/k=3)/\(j=3->k=3)/\(j=0->m≠s->n=m)/\(j=0->m=s->k=0->n≠m):=by
 obtain⟨_,h2,A⟩:=dR h q s hs;have hx:=j0 hb;obtain⟨x,l⟩:∃x,p.bl[b]=x:=⟨_,rfl⟩
 rw[l]at hx;obtain⟨y,t,z,u,r⟩:=A b x hx
 have e1:HS p (b:Int)=if x=-1 then(0,3)else(x,0):=by
  unfold HS;rw[if_neg (by omega),cw,hx,Option.getD_some]
 have e2:HS (MY f.d p s) (b:Int)=if y=-1 then(0,3)else(y,0):=by
  unfold HS;rw[if_neg (by omega),cw,t,Option.getD_some]
 by_cases e:x=-1
 ·have i:=z e;rw[if_pos e]at e1;rw[if_pos i]at e2;exact⟨_,_,_,_,e1,e2,.inr rfl,.inr rfl,fun _=>rfl,fun h=>by omega,fun h=>by omega⟩
 ·rw[if_neg e]at e1
  by_cases hxs:x=s
  ·by_cases i:y=-1
   ·rw[if_pos i]at e2;exact⟨_,_,_,_,e1,e2,.inl rfl,.inr rfl,fun _=>rfl,fun _ h=>absurd hxs h,fun _ _ h=>by omega⟩
   ·rw[if_neg i]at e2;exact⟨_,_,_,_,e1,e2,.inl rfl,.inl rfl,fun h=>by omega,fun _ h=>absurd hxs h,fun _ _ _=>r e hxs⟩
  ·have o:=u e hxs;rw[if_neg (by omega)]at e2;exact⟨_,_,_,_,e1,e2,.inl rfl,.inl rfl,fun h=>by omega,fun _ _=>o,fun _ h=>absurd h hxs⟩
end Go.Pw
