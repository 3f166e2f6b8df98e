/- Part. -/
import Derived.Test.YtmdklgapccickaaGreatDoorPgMvChI
import Derived.Test.YtmdklgapccickaaGreatDoorPgMvChcD
set_option linter.all false
open List renaming mem_append->aa,mem_cons->ax,mem_singleton->ay,mem_map->ck,pairwise_cons->cp,length_append->cw,mem_cons_of_mem->c8,pairwise_of_forall->ea,length_cons->eb,map_cons->et
open Nat renaming le_refl->az
section
namespace Go.Pw
abbrev Ee:=Cd×Int×List Int
inductive ABt where
 |go (q:List Ee)
 |bad (s:Int) (d:List Int)
def GCode.bfsW(c:GCode)(t:Ee):Nat->Int->List Ee->ABt
 |0,_,Q=>.go Q
 |k+1,w,Q=>match c.stp t.1 w with
  |none=>.bad t.2.1 (t.2.2++[w])
  |some r=>bfsW c t k (w+1) (Q++[(r,t.2.1,t.2.2++[w])])
def GCode.bfs(c:GCode):Nat->List Ee->List Cd->Option (Int×List Int)
 |0,_,_=>none
 |_+1,[],_=>none
 |k+1,t::Q,seen=>if t.1∈seen then bfs c k Q seen else match c.bfsW t c.W 0 Q with
  |.bad s d=>some (s,d)
  |.go Q'=>bfs c k Q' (seen++[t.1])
def GCode.queue0(c:GCode):List Ee:=c.starts.map fun r=>(r,r.1,[])
def GCode.bfsR(c:GCode):Option (Int×List Int):=c.bfs 600 c.queue0 []
def R7(Q:List Ee)(seen:List Cd):Nat:=(105-seen.length)*5+Q.length
open GCode
theorem dZ{c:GCode}{t:Ee}:∀{k:Nat}{w:Int}{Q:List Ee}{s:Int}{d:List Int},c.bfsW t k w Q=.bad s d->∃v,w<=v/\v<w+k/\c.stp t.1 v=none/\s=t.2.1/\d=t.2.2++[v]
 |0,w,Q,s,d,h=>by rw[bfsW]at h;cases h
 |k+1,w,Q,s,d,h=>by
  rw[bfsW]at h
  cases hs:c.stp t.1 w with
  |none=>rw[hs]at h;cases h;exact⟨w,by omega,by omega,hs,rfl,rfl⟩
  |some r =>
   rw[hs]at h;obtain⟨v,h1,h2,e⟩:=dZ h;exact⟨v,by omega,by omega,e⟩
theorem Up{c:GCode}{t:Ee}:∀{k:Nat}{w:Int}{Q Q':List Ee},c.bfsW t k w Q=.go Q'->∃N:List Ee,Q'=Q++N/\N.length=k/\(∀u,u∈N->∃v,w<=v/\v<w+k/\c.stp t.1 v=some u.1/\u.2=(t.2.1,t.2.2++[v]))/\∀v,w<=v->v<w+k->∃r,c.stp t.1 v=some r/\(r,t.2.1,t.2.2++[v])∈N
 |0,w,Q,Q',h=>by
  rw[bfsW]at h;cases h;exact⟨[],by simp,rfl,fun u hu=>(by cases hu),fun v h1 h2=>by omega⟩
 |k+1,w,Q,Q',h=>by
  rw[bfsW]at h
  cases hs:c.stp t.1 w with
  |none=>rw[hs]at h;cases h
  |some r =>
   rw[hs]at h;obtain⟨N,h1,h2,m,j⟩:=Up h;refine⟨(r,t.2.1,t.2.2++[w])::N,by rw[h1];simp,by simp[h2],?_,?_⟩
   ·intro u hu;rcases ax.1 hu with e|e
    ·rw[e];exact⟨w,by omega,by omega,hs,rfl⟩
    ·obtain⟨v,k1,k2,i⟩:=m u e;exact⟨v,by omega,by omega,i⟩
   ·intro v k1 k2
    by_cases hv:v=w
    ·rw[hv];exact⟨r,hs,by simp⟩
    ·obtain⟨q,i,l⟩:=j v (by omega) (by omega);exact⟨q,i,by simp[l]⟩
structure Jl (c:GCode) (Q:List Ee) (seen:List Cd):Prop where
 a:∀t,t∈Q->c.isState t.2.1=true/\c.areW t.2.2/\c.path (t.2.1,0,false) t.2.2=some t.1
 b:Q.Pairwise fun t u=>t.2.2.length<=u.2.2.length
 b2:∀t u,t∈Q->u∈Q->u.2.2.length<=t.2.2.length+1
 lv:∃lv:Cd->Nat,(∀r,r∈seen->∀w,c.isWord w=true->∃r',c.stp r w=some r'/\((r'∈seen/\lv r'<=lv r+1)\/∃t,t∈Q/\t.1=r'/\t.2.2.length<=lv r+1)) /\
  (∀r,r∈c.starts->(r∈seen/\lv r=0)\/∃t,t∈Q/\t.1=r/\t.2.2.length=0)/\(∀r t,r∈seen->t∈Q->lv r<=t.2.2.length)
 e:seen.Nodup/\∀r,r∈seen->c.RunOk r
 f:∀t,t∈Q->t.2.2.length<=seen.length
theorem Jl.len{c:GCode}(h:c.ok=true){Q:List Ee}{seen:List Cd}(j:Jl c Q seen):seen.length<=104:=by
 have hd:=ok_head h
 have hs:∀q,q∈seen->0<=q.1/\q.1<=3/\0<=q.2.1/\q.2.1<=12:=fun q i=>by
  have:=j.e.2 q i;unfold RunOk at this;simp only[isState,Cw,decide_eq_true_eq]at this;omega
 have hm:=nodup_lt 104 (seen.map fun q=>(q.1*26+q.2.1*2+(if q.2.2 then 1 else 0)).toNat) (by
  have:=j.e.1;rw[List.Nodup,List.pairwise_map];refine List.Pairwise.imp_of_mem ?_ this;intro a b p hb hne m;have h1:=hs a p;have h2:=hs b hb;apply hne;obtain⟨n,l,r⟩:=a;obtain⟨b1,b2,o⟩:=b;simp only at h1 h2 m
  cases r<;>cases o<;>simp only[Bool.false_eq_true,if_true,if_false]at m
  ·rw[show n=b1 by omega,show l=b2 by omega]
  ·omega
  ·omega
  ·rw[show n=b1 by omega,show l=b2 by omega]) fun x hx=>by
   simp only[ck]at hx;obtain⟨q,i,rfl⟩:=hx;have:=hs q i;split<;>omega
 simpa using hm
theorem Jl.start{c:GCode}(h:c.ok=true):Jl c c.queue0 []:=by
 have hm:∀t,t∈c.queue0->t.2.2=[]/\∃s,c.isState s=true/\t=((s,0,false),s,[]):=by
  intro t ht;unfold queue0 starts at ht;rw[List.map_map,ck]at ht;obtain⟨s,hs,rfl⟩:=ht;rw[List.mem_range]at hs;exact⟨rfl,s,by simp only[isState,Cw,decide_eq_true_eq];omega,rfl⟩
 refine⟨?_,?_,?_,⟨fun _=>0,fun r hr=>(by cases hr),fun r hr=>.inr ⟨(r,r.1,[]),?_,rfl,rfl⟩,fun r t hr=>(by cases hr)⟩,⟨List.nodup_nil,fun r hr=>(by cases hr)⟩,?_⟩
 ·intro t ht;obtain⟨_,s,hs,rfl⟩:=hm t ht;exact⟨hs,fun w e=>(by cases e),rfl⟩
 ·refine List.Pairwise.imp_of_mem ?_ (ea (fun _ _=>True.intro):c.queue0.Pairwise fun _ _=>True);intro t u ht hu _;rw[(hm t ht).1];simp
 ·intro t u ht hu;rw[(hm u hu).1];simp
 ·unfold queue0;exact ck.2 ⟨r,hr,rfl⟩
 ·intro t ht;rw[(hm t ht).1];simp
theorem Jl.old{c:GCode}{t:Ee}{Q:List Ee}{seen:List Cd}(j:Jl c (t::Q) seen)(ht:t.1∈seen):Jl c Q seen:=by
 obtain⟨lv,l1,l2,m⟩:=j.lv;have o:=m t.1 t ht (by simp);refine⟨fun u hu=>j.a u (by simp[hu]),(cp.1 j.b).2,fun u v hu hv=>j.b2 u v (by simp[hu]) (by simp[hv]),⟨lv,?_,?_,fun r u hr hu=>m r u hr (by simp[hu])⟩,j.e,fun u hu=>j.f u (by simp[hu])⟩
 ·intro r hr w n;obtain⟨r',h1,h2⟩:=l1 r hr w n;refine⟨r',h1,?_⟩;rcases h2 with h2|⟨u,l,h,i⟩
  ·exact .inl h2
  ·rcases ax.1 l with e|e
   ·subst e;rw[←h];exact .inl ⟨ht,by omega⟩
   ·exact .inr ⟨u,e,h,i⟩
 ·intro r hr;rcases l2 r hr with h2|⟨u,l,h,i⟩
  ·exact .inl h2
  ·rcases ax.1 l with e|e
   ·subst e;rw[←h];exact .inl ⟨ht,by omega⟩
   ·exact .inr ⟨u,e,h,i⟩
theorem Jl.new{c:GCode}(h:c.ok=true){t:Ee}{Q Q':List Ee}{seen:List Cd}(j:Jl c (t::Q) seen)(ht:¬t.1∈seen)(O:c.bfsW t c.W 0 Q=.go Q'):Jl c Q' (seen++[t.1]):=by
 obtain⟨N,rfl,S,o,y⟩:=Up O;obtain⟨lv,l1,l2,L⟩:=j.lv;obtain⟨G,A,B⟩:=j.a t (by simp);have m:=cp.1 j.b
 have i:∀u,u∈N->u.2.2.length=t.2.2.length+1:=fun u hu=>by
  obtain⟨v,_,_,_,z⟩:=o u hu;rw[z];simp
 have hne:∀r,r∈seen->r≠t.1:=fun r hr e=>ht (by rw[←e];exact hr)
 refine⟨?_,?_,?_,⟨fun r=>if r=t.1 then t.2.2.length else lv r,?_,?_,?_⟩,⟨?_,?_⟩,?_⟩
 ·intro u hu;rcases aa.1 hu with e|e
  ·exact j.a u (by simp[e])
  ·obtain⟨v,k1,k2,R,z⟩:=o u e;rw[z];refine⟨G,?_,?_⟩
   ·intro x hx;rcases aa.1 hx with e2|e2
    ·exact A x e2
    ·rw[ay.1 e2];exact word_iff.1 ⟨k1,k2⟩
   ·show c.path (t.2.1,0,false) (t.2.2++[v])=_;rw[path_snoc,B];exact R
 ·rw[List.pairwise_append];refine⟨m.2,?_,?_⟩
  ·refine List.Pairwise.imp_of_mem ?_ (ea (fun _ _=>True.intro):N.Pairwise fun _ _=>True);intro u v hu hv _;rw[i u hu,i v hv];exact az _
  ·intro u hu v hv;rw[i v hv];exact j.b2 t u (by simp) (by simp[hu])
 ·intro u v hu hv
  have n:t.2.2.length<=u.2.2.length:=by
   rcases aa.1 hu with e|e
   ·exact m.1 u e
   ·rw[i u e];omega
  have J:v.2.2.length<=t.2.2.length+1:=by
   rcases aa.1 hv with e|e
   ·exact j.b2 t v (by simp) (by simp[e])
   ·rw[i v e];exact az _
  omega
 ·intro r hr w q;rcases aa.1 hr with e|e
  ·obtain⟨r',h1,h2⟩:=l1 r e w q;refine⟨r',h1,?_⟩;simp only[if_neg (hne r e)];rcases h2 with⟨h2,h3⟩|⟨u,h3,h4,h5⟩
   ·refine .inl ⟨by simp[h2],?_⟩;rw[if_neg (hne r' h2)];exact h3
   ·rcases ax.1 h3 with e2|e2
    ·subst e2;refine .inl ⟨by simp[h4],?_⟩;rw[if_pos h4.symm];exact h5
    ·exact .inr ⟨u,by simp[e2],h4,h5⟩
  ·have p:=ay.1 e;subst p;obtain⟨r',k1,k2⟩:=y w (word_iff.2 q).1 (word_iff.2 q).2;refine⟨r',k1,.inr ⟨_,aa.2 (.inr k2),rfl,?_⟩⟩;simp
 ·intro r hr;rcases l2 r hr with⟨h2,h3⟩|⟨u,h3,h4,h5⟩
  ·refine .inl ⟨by simp[h2],?_⟩;show(if r=t.1 then t.2.2.length else lv r)=0;rw[if_neg (hne r h2)];exact h3
  ·rcases ax.1 h3 with e|e
   ·subst e;refine .inl ⟨by simp[h4],?_⟩;show(if r=u.1 then u.2.2.length else lv r)=0;rw[if_pos h4.symm];exact h5
   ·exact .inr ⟨u,by simp[e],h4,h5⟩
 ·intro r u hr hu
  have n:t.2.2.length<=u.2.2.length:=by
   rcases aa.1 hu with e|e
   ·exact m.1 u e
   ·rw[i u e];omega
  by_cases l:r=t.1
  ·simp only[if_pos l];exact n
  ·simp only[if_neg l];rcases aa.1 hr with e|e
   ·have:=L r t e (by simp);omega
   ·exact absurd (ay.1 e) l
 ·rw[List.nodup_append];exact⟨j.e.1,by simp,fun a M b hb=>by rw[ay.1 hb];exact hne a M⟩
 ·intro r hr;rcases aa.1 hr with e|e
  ·exact j.e.2 r e
  ·rw[ay.1 e];exact path_ok h (start_ok h G) A B
 ·intro u hu;rw[cw];have:=j.f t (by simp);rcases aa.1 hu with e|e
  ·have:=j.f u (by simp[e]);simp;omega
  ·rw[i u e];simp;omega
theorem WE{c:GCode}{Q:List Ee}{seen:List Cd}{lv:Cd->Nat}{n:Nat}(l1:∀r,r∈seen->∀w,c.isWord w=true->∃r',c.stp r w=some r'/\((r'∈seen/\lv r'<=lv r+1)\/∃t,t∈Q/\t.1=r'/\t.2.2.length<=lv r+1))
  (hn:∀t,t∈Q->n<=t.2.2.length):∀(e:List Int) (r:Cd),r∈seen->c.areW e->lv r+e.length<=n->c.path r e≠none
 |[],r,_,_,_=>by rw[path];simp
 |w::l,r,hr,hw,hl=>by
  obtain⟨r',h1,h2⟩:=l1 r hr w (hw w (by simp));rw[path,h1];simp only[eb]at hl;rcases h2 with⟨h2,h3⟩|⟨t,h3,h4,h5⟩
  ·exact WE l1 hn l r' h2 (fun x hx=>hw x (by simp[hx])) (by omega)
  ·have:=hn t h3
   have h:l=[]:=by
    cases l with
    |nil=>rfl
    |cons a b=>simp at hl;omega
   subst h;simp[path]
theorem Jl.least{c:GCode}{t:Ee}{Q:List Ee}{seen:List Cd}(j:Jl c (t::Q) seen):¬c.Brk t.2.2.length:=by
 rintro⟨s,l,h1,h2,p,n⟩;obtain⟨lv,l1,l2,q⟩:=j.lv
 have h:∀u,u∈t::Q->t.2.2.length<=u.2.2.length:=fun u hu=>by
  rcases ax.1 hu with e|e
  ·rw[e];exact az _
  ·exact(cp.1 j.b).1 u e
 have m:((s,0,false):Cd)∈c.starts:=starts_mem.2 ⟨s,[],h1,rfl,fun w o=>(by cases o),rfl⟩;rcases l2 _ m with⟨h5,h6⟩|⟨u,h5,h6,h7⟩
 ·exact WE l1 h l _ h5 p (by rw[h6,h2];omega) n
 ·have:=h u h5
  have i:l=[]:=by
   cases l with
   |nil=>rfl
   |cons a b=>simp at h2;omega
  subst i
  cases n
theorem Jl.done{c:GCode}{seen:List Cd}(j:Jl c [] seen):∀k,¬c.Brk k:=by
 rintro k ⟨s,h,h1,h2,m,l⟩;obtain⟨lv,l1,l2,o⟩:=j.lv;have e:((s,0,false):Cd)∈c.starts:=starts_mem.2 ⟨s,[],h1,rfl,fun w i=>(by cases i),rfl⟩;rcases l2 _ e with⟨h5,h6⟩|⟨u,h5,_⟩
 ·exact WE (n:=lv (s,0,false)+h.length) l1 (fun t ht=>(by cases ht)) h _ h5 m (az _) l
 ·cases h5
def sF(c:GCode):Option (Int×List Int)->Prop
 |none=>∀k,¬c.Brk k
 |some (s,d)=>c.isState s=true/\c.areW d/\c.path (s,0,false) d=none/\0<d.length/\¬c.Brk (d.length-1)
theorem Jl.bad{c:GCode}{t:Ee}{Q:List Ee}{seen:List Cd}(j:Jl c (t::Q) seen){Q1:List Ee}{s:Int}{d:List Int}(l:c.bfsW t c.W 0 Q1=.bad s d):sF c (some (s,d)):=by
 obtain⟨v,h1,h2,n,rfl,rfl⟩:=dZ l;obtain⟨m,h,i⟩:=j.a t (by simp);refine⟨m,?_,?_,by simp,?_⟩
 ·intro x hx;rcases aa.1 hx with e|e
  ·exact h x e
  ·rw[ay.1 e];exact word_iff.1 ⟨h1,h2⟩
 ·rw[path_snoc,i];exact n
 ·simpa using j.least
theorem ABQ{c:GCode}(h:c.ok=true):c.W<=4:=by
 have hd:=ok_head h;unfold W;have:c.bits.toNat=1\/c.bits.toNat=2:=by omega
 rcases this with e|e<;>rw[e]<;>decide
theorem gm{c:GCode}(h:c.ok=true):∀{k:Nat}{Q:List Ee}{seen:List Cd},Jl c Q seen->R7 Q seen<k->sF c (c.bfs k Q seen)
 |0,Q,seen,j,hk=>by omega
 |k+1,[],seen,j,hk=>by rw[bfs];exact j.done
 |k+1,t::Q,seen,j,hk=>by
  rw[bfs];unfold R7 at hk;simp only[eb]at hk
  by_cases ht:t.1∈seen
  ·rw[if_pos ht];exact gm h (j.old ht) (by unfold R7;omega)
  ·rw[if_neg ht]
   cases hq:c.bfsW t c.W 0 Q with
   |bad s d=>exact j.bad hq
   |go Q' =>
    have e:=j.new h ht hq;have hl:=e.len h;rw[cw]at hl;simp at hl;obtain⟨N,h1,h2,_⟩:=Up hq;have i:=ABQ h;exact gm h e (by unfold R7;rw[h1];simp only[cw,List.length_singleton];omega)
theorem wX{c:GCode}(h:c.ok=true):sF c c.bfsR:=by
 have hd:=ok_head h;refine gm h (Jl.start h) ?_;unfold R7 queue0 starts;simp;omega
end Go.Pw
end
section
namespace Go.Pw
def fB(least most:Int):List Int->Int->Bool->(Int×Bool)×Bool
 |[],z,o=>((z,o),true)
 |b::l,z,o=>if b=0 then(if most<z+1 then((z+1,o),false)else fB least most l (z+1) o)
  else(if o=true/\z<least then((z,o),false)else fB least most l 0 true)
theorem iz(a m:Int):∀(l:List Int) (z:Int) (o:Bool),sB a m l z o=if(fB a m l z o).2 then some (fB a m l z o).1 else none
 |[],z,o=>rfl
 |b::l,z,o=>by
  rw[sB,fB];split
  ·split
   ·rfl
   ·exact iz a m l _ _
  ·split
   ·rfl
   ·exact iz a m l _ _
def GCode.stepR(c:GCode)(r:Cd)(w:Int):Cd×Bool :=
 let f:=fB c.least c.most (CJ c.out.toNat (c.wrd r.1 w)) r.2.1 r.2.2
 if f.2 then((c.nxt r.1 w,f.1.1,f.1.2),true)else((r.1,f.1.1,f.1.2),false)
theorem U_{c:GCode}{r:Cd}{w:Int}{q:Cd}(h:c.stp r w=some q):c.stepR r w=(q,true):=by
 unfold GCode.stp at h;unfold GCode.stepR;rw[iz]at h
 cases hf:(fB c.least c.most (CJ c.out.toNat (c.wrd r.1 w)) r.2.1 r.2.2).2 with
 |true=>rw[hf]at h;simp at h;simp[hf,h]
 |false=>rw[hf]at h;simp at h
theorem U'{c:GCode}{r:Cd}{w:Int}(h:c.stp r w=none):∃q,c.stepR r w=(q,false):=by
 unfold GCode.stp at h;unfold GCode.stepR;rw[iz]at h
 cases hf:(fB c.least c.most (CJ c.out.toNat (c.wrd r.1 w)) r.2.1 r.2.2).2 with
 |true=>rw[hf]at h;simp at h
 |false=>simp[hf]
def oH(r:Cd):List D:=[.int .i64 r.1,.int .i64 r.2.1,.bool r.2.2]
def T2(r:Cd):D:=.agg (oH r)
theorem FN(r:Cd):oH r=[.int .i64 r.1,.int .i64 r.2.1,.bool r.2.2]:=rfl
theorem FM(r:Cd):T2 r=.agg (oH r):=rfl
def XK(t:Ee):D:=.agg [.int .i64 t.1.1,.int .i64 t.1.2.1,.bool t.1.2.2,.int .i64 t.2.1,.list t.2.2.isEmpty (Ad t.2.2)]
theorem nF(t:Ee):XK t=.agg [.int .i64 t.1.1,.int .i64 t.1.2.1,.bool t.1.2.2,.int .i64 t.2.1,.list t.2.2.isEmpty (Ad t.2.2)]:=rfl
def EV(l:List Ee):List D:=l.map XK
theorem Ep(l:List Ee):(EV l).length=l.length:=by simp[EV]
theorem eE:EV []=[]:=rfl
theorem GQ(l:List Ee):Cc 5 (EV l)=True:=KU fun _=>rfl
theorem aW(l:List Ee)(n:Nat):(EV l).drop n=EV (l.drop n):=by simp[EV]
theorem Y5{l:List Ee}{i:Nat}{A:D->Prop}:Au (EV l)[i]? A=(i<l.length/\A (XK (l[i]?.getD default))):=GN
abbrev G3:=List (Cd×Int)
def Vf(e:Cd×Int):D×D:=(T2 e.1,.int .i64 e.2)
def Ej(m:G3):List (D×D):=m.map Vf
def F9(k:Cd):G3->Option Int
 |[]=>none
 |e::m=>if k=e.1 then some e.2 else F9 k m
def Iu(k:Cd)(v:Int):G3->G3
 |[]=>[(k,v)]
 |e::m=>if k=e.1 then(e.1,v)::m else e::Iu k v m
theorem Od(p q:Cd):D2 (T2 p) (T2 q)=decide (p=q):=by
 obtain⟨a,b,o⟩:=p;obtain⟨h,b',o'⟩:=q;have e:(o == o')=decide (o=o'):=by cases o<;>cases o'<;>rfl
 simp[D2,T2,oH,D.cells,Fl,GM,Prod.ext_iff,e]
theorem ko(k:Cd)(m:G3):C0 (T2 k) (Ej m)=(F9 k m).map (.int .i64):=by
 induction m with
 |nil=>rfl
 |cons e m ih =>
  simp only[Ej,et,C0,Vf,Od,F9]at ih ⊢
  by_cases h:k=e.1
  ·simp[h]
  ·simp only[decide_eq_true_eq,h,if_false];exact ih
theorem Vb{k:Cd}{m:G3}:F9 k m=none↔k∉m.map (·.1):=by
 induction m with
 |nil=>simp[F9]
 |cons e m ih =>
  rw[F9]
  by_cases h:k=e.1
  ·simp[h]
  ·rw[if_neg h,ih];simp[h]
theorem j8(k:Cd)(v:Int)(m:G3):(Iu k v m).map (·.1)=if k∈m.map (·.1)then m.map (·.1)else m.map (·.1)++[k]:=by
 induction m with
 |nil=>simp[Iu]
 |cons e m ih =>
  rw[Iu]
  by_cases h:k=e.1
  ·simp[h]
  ·rw[if_neg h];simp only[et,ih,ax,h,false_or];split<;>simp
theorem kp(k:Cd)(v:Int)(m:G3):F9 k (Iu k v m)=some v:=by
 induction m with
 |nil=>simp[Iu,F9]
 |cons e m ih =>
  rw[Iu]
  by_cases h:k=e.1
  ·rw[if_pos h,F9,if_pos h]
  ·rw[if_neg h,F9,if_neg h,ih]
theorem nu{k:Cd}{v:Int}{m:G3}{e:Cd×Int}(h:e∈Iu k v m):e=(k,v)\/e∈m:=by
 induction m with
 |nil=>simp[Iu]at h;exact .inl h
 |cons x m ih =>
  simp only[Iu]at h;split at h
  ·rename_i hk;rcases ax.1 h with h|h
   ·exact .inl (by rw[h,hk])
   ·exact .inr (c8 _ h)
  ·rcases ax.1 h with h|h
   ·exact .inr (by rw[h];simp)
   ·exact(ih h).imp id (c8 _)
theorem kq{k:Cd}{m:G3}{v:Int}(h:F9 k m=some v):(k,v)∈m:=by
 induction m with
 |nil=>cases h
 |cons e m ih =>
  simp only[F9]at h;split at h
  ·rename_i i;simp at h;subst i h;simp
  ·exact c8 _ (ih h)
def GCode.holdsD(c:GCode):D:=match c.bfsR with
 |none=>.tup [.bool true,.agg [.int .i64 0,.list true []],.int .i64 0]
 |some (s,d)=>.tup [.bool false,.agg [.int .i64 s,.list false (Ad d)],.int .i64 0]
end Go.Pw
end
section
namespace Go.Pw
theorem mX(n:Nat)(w:Int):∀b,b∈CJ n w->b=0\/b=1:=by
 induction n with
 |zero=>intro b hb;cases hb
 |succ n ih =>
  intro b hb;rw[CJ]at hb;rcases ax.1 hb with e|e
  ·have h1:=Int.emod_nonneg (w/2^n) (show(2:Int)≠0 by decide);have h2:=Int.emod_lt_of_pos (w/2^n) (show(0:Int)<2 by decide);omega
  ·exact ih b e
end Go.Pw
end
section
open Go Go.Pw Go.Proofs
namespace Go.Pw
set_option maxRecDepth 100000
set_option maxHeartbeats 1600000
theorem ABn{a m:Int}{l:List Int}{z:Int}{o:Bool}:fB a m (0::l) z o=if m<z+1 then((z+1,o),false)else fB a m l (z+1) o:=by rw[fB,if_pos rfl]
theorem ABm{a m:Int}{l:List Int}{z:Int}{o:Bool}:fB a m (1::l) z o=if o=true/\z<a then((z,o),false)else fB a m l 0 true:=by rw[fB,if_neg (by decide)]
theorem lw{l:List Int}{i:Int}(h0:0<=i)(h:i<l.length):l.drop i.toNat=(l[i.toNat]?.getD 0)::l.drop (i+1).toNat:=by
 rw[show(i+1).toNat=i.toNat+1 by omega];exact Hw (by omega)
theorem se{c:GCode}{r:Cd}{w:Int}{F:(Int×Bool)×Bool}(h:fB c.least c.most (CJ c.out.toNat (c.wrd r.1 w)) r.2.1 r.2.2=F):c.stepR r w=if F.2 then((c.nxt r.1 w,F.1.1,F.1.2),true)else((r.1,F.1.1,F.1.2),false):=by
 unfold GCode.stepR;rw[h]
attribute [local irreducible] IntKind.wrap Ah Option.getD and or
theorem IR(c:GCode)(h:c.ok=true)(r:Cd)(hr:c.RunOk r)(w:Int)(O:c.isWord w=true):BU E0 KC [Hz c,T2 r,.int .i64 w] (.tup [T2 (c.stepR r w).1,.bool (c.stepR r w).2]):=by
 refine AL O4 AR (by simp) fun Z=>?_
 have hd:=GCode.ok_head h;obtain⟨rs,T,M⟩:=r;obtain⟨B,U,L⟩:=hr;simp only at B U L;have cb:=IT c rs w h B O;have A:=mX c.out.toNat (c.wrd rs w);have Y:=Hm c.out.toNat (c.wrd rs w);obtain⟨F,X⟩:∃F,fB c.least c.most (CJ c.out.toNat (c.wrd rs w)) T M=F:=⟨_,rfl⟩
 have y:=se (r:=(rs,T,M)) (w:=w) X;rw[y];simp only at y ⊢;have β:=P1 (b:=c.bits) (by omega);have u:=GCode.ok_next h rs.toNat (by simp only[GCode.isState,Cw,decide_eq_true_eq]at B;omega);have p:=B;simp only[GCode.isState,Cw,decide_eq_true_eq]at p;have q:=O;simp only[GCode.isWord,Cw,decide_eq_true_eq]at q;obtain⟨N,S⟩:∃N,c.nxt rs w=N:=⟨_,rfl⟩
 rw[S];generalize CJ c.out.toNat (c.wrd rs w)=xs at *;rw[AN];unfold I3;refine' Gj @An @Ak @FM @FN;repeat' first|(refine' BJ;(first|refine AF cb ?_)<;>refine' Gj @An @Ak @FM @FN)|refine' BI|done
 all_goals try exact BL
 refine AZ (α:=Int×Int×Bool) (fun x=>[(16,.d (.int .i64 x.1))]) (fun x=>[(4,.cells [.d (.int .i64 rs),.d (.int .i64 x.2.1),.d (.bool x.2.2)])]) (fun x=>(0<=x.1/\x.1<=xs.length)/\(0<=x.2.1/\x.2.1<=c.most)/\fB c.least c.most (xs.drop x.1.toNat) x.2.1 x.2.2=F) (fun x=>(xs.length-x.1).toNat) (?a1_0,?a1_1,?a1_2) ?hI1 ?step1
 case' step1=>(rintro⟨i,z,o⟩ R;try dsimp only at R)
 case' hI1=>try dsimp only
 ·exact⟨⟨by omega,by omega⟩,⟨U,L⟩,X⟩
 ·obtain⟨⟨m,q2⟩,⟨q3,q4⟩,e⟩:=R
  by_cases hi:i<xs.length
  ·have t:IntKind.i64.wrap (i+1)=i+1:=Am _ (by omega);have n:IntKind.i64.wrap (z+1)=z+1:=Am _ (by omega);rw[lw m hi]at e;have hb:=A _ (D6 (l:=xs) (i:=i.toNat) (by omega));obtain⟨b,j⟩:∃b,xs[i.toNat]?.getD 0=b:=⟨_,rfl⟩
   rw[j]at e hb;rcases hb with rfl|rfl
   ·rw[ABn]at e
    by_cases hm:c.most<z+1
    ·rw[if_pos hm]at e;subst e;refine' P4 @An @Ak @FM @FN j hi m (aI t (aI n hm))
     all_goals first|omega|rfl|(simp;done)
    ·rw[if_neg hm]at e;refine' P4 @An @Ak @FM @FN j hi m (aI t (aI n hm))
     all_goals first|omega|rfl|exact e|(simp;done)
   ·rw[ABm]at e;have hm:¬c.most<z:=by omega
    by_cases ho:o=true
    ·subst ho
     by_cases hl:z<c.least
     ·rw[if_pos ⟨rfl,hl⟩]at e;subst e;refine' P4 @An @Ak @FM @FN j hi m (aI t (aI n (aI hm hl)))
      all_goals first|omega|rfl|(simp;done)
     ·rw[if_neg (fun hh=>hl hh.2)]at e;refine' P4 @An @Ak @FM @FN j hi m (aI t (aI n (aI hm hl)))
      all_goals first|omega|rfl|exact e|(simp;done)
    ·have G:o=false:=by cases o with|true=>exact absurd rfl ho|false=>rfl
     subst G;rw[if_neg (fun hh=>ho hh.1)]at e;refine' P4 @An @Ak @FM @FN j hi m (aI t (aI n hm))
     all_goals first|omega|rfl|exact e|(simp;done)
  ·rw[List.drop_eq_nil_of_le (by omega),fB]at e;subst e;have s1:rs<c.next.length:=by omega
   have s2:rs.toNat<c.next.length:=by omega
   have s3:=p.1;have γ:((2^c.bits.toNat:Nat):Int)=2^c.bits.toNat:=by simp
   have s4:w<((c.next[rs.toNat]?.getD default).2.length:Int):=by rw[u.1];omega
   have s5:=q.1;have J:(c.next[rs.toNat]?.getD default).2[w.toNat]?.getD 0=N:=S;have s6:w.toNat<(c.next[rs.toNat]?.getD default).2.length:=by omega
   refine' P4 @An @Ak @BB @ES @FM @FN hi (aI s1 (aI s2 (aI s3 (aI s4 (aI s5 (aI s6 J))))))
   all_goals first|omega|rfl|(simp;done)
end Go.Pw
end
section
open Go Go.Pw Go.Proofs
namespace Go.Pw
set_option maxRecDepth 100000
set_option maxHeartbeats 6400000
abbrev xB:LW:=(true,[some .i64,some .i64,none])
theorem P5(a z:Int)(o:Bool)(m:G3):C0 (.agg [.int .i64 a,.int .i64 z,.bool o]) (Ej m)=(F9 (a,z,o) m).map (.int .i64):=ko (a,z,o) m
theorem kE(a z:Int)(o:Bool):D2 (.agg [.int .i64 a,.int .i64 z,.bool o]) (.agg [.int .i64 a,.int .i64 z,.bool o])=true:=(Od (a,z,o) (a,z,o)).trans (by simp)
theorem bu{k v:D}{l:List (D×D)}(h:C0 k l=none)(hk:D2 k k=true):C0 k (l++[(k,v)])=some v:=by
 induction l with
 |nil=>simp[C0,hk]
 |cons e l ih =>
  simp only[C0]at h;split at h
  ·cases h
  ·rename_i hne;simp only[List.cons_append,C0,hne];exact ih h
theorem fe{k:D}{l:List (D×D)}(h:C0 k l=none):FH k l=none:=by
 induction l with
 |nil=>rfl
 |cons e l ih =>
  simp only[C0]at h;split at h
  ·cases h
  ·rename_i hne;simp only[FH,hne,ih h];rfl
theorem bp(m:G3):(Ej m).length=m.length:=by simp[Ej]
theorem Xq(m:G3)(a z:Int)(o:Bool)(v:Int):Ej m++[(.agg [.int .i64 a,.int .i64 z,.bool o],.int .i64 v)]=Ej (m++[((a,z,o),v)]):=by simp[Ej,Vf,T2,oH]
theorem nq{k:Cd}{m:G3}(h:F9 k m=none)(v:Int):Iu k v m=m++[(k,v)]:=by
 induction m with
 |nil=>rfl
 |cons e m ih =>
  rw[F9]at h;split at h
  ·cases h
  ·rename_i hne;rw[Iu,if_neg hne,ih h];rfl
theorem Xn{k:Cd}{v:Int}:∀{m:G3},F9 k m=some v->∃i,FH (T2 k) (Ej m)=some i/\i<m.length/\(Ej m)[i]?=some (T2 k,.int .i64 v)/\∀l,(Ej m).set i (T2 k,.int .i64 l)=Ej (Iu k l m)
 |[],h=>by cases h
 |e::m,h=>by
  rw[F9]at h
  by_cases j:k=e.1
  ·rw[if_pos j]at h;cases h;refine⟨0,?_,by simp,?_,fun l=>?_⟩
   ·simp[Ej,FH,Vf,Od,j]
   ·simp[Ej,Vf,j]
   ·simp[Ej,Iu,Vf,j]
  ·rw[if_neg j]at h;obtain⟨i,h1,h2,o,n⟩:=Xn h;refine⟨i+1,?_,by simp;omega,?_,fun l=>?_⟩
   ·simp only[Ej]at h1;simp[Ej,FH,Vf,Od,j,h1]
   ·simpa[Ej]using o
   ·rw[Iu,if_neg j];have:=n l;simp only[Ej]at this;simp[Ej,this]
def rx:PC :=
 .any [] (.both (.step (AA 48 8) (.step (AJ 49 0 10) (.step (AB 50 (.load true 3) 49) (.both (.step (AD 51 (.lookup false (true,[some .i64,some .i64,none]) (.int .i64 0)) 48 50) (.both (.step (AK 52 (.bin .add) 51 1) (.step (AD 53 (.mapent (true,[some .i64,some .i64,none]) (.int .i64 0)) 48 50) (.step (AW 54 1 53) (.step (Ae .entst [.t 48,.t 54,.t 52]) (.done))))) (.step (AD 53 (.mapent (true,[some .i64,some .i64,none]) (.int .i64 0)) 48 50) (.both (.step (AK 52 (.bin .add) 51 1) (.step (AW 54 1 53) (.step (Ae .entst [.t 48,.t 54,.t 52]) (.done)))) (.step (AW 54 1 53) (.step (AK 52 (.bin .add) 51 1) (.step (Ae .entst [.t 48,.t 54,.t 52]) (.done)))))))) (.step (AD 53 (.mapent (true,[some .i64,some .i64,none]) (.int .i64 0)) 48 50) (.both (.step (AD 51 (.lookup false (true,[some .i64,some .i64,none]) (.int .i64 0)) 48 50) (.both (.step (AK 52 (.bin .add) 51 1) (.step (AW 54 1 53) (.step (Ae .entst [.t 48,.t 54,.t 52]) (.done)))) (.step (AW 54 1 53) (.step (AK 52 (.bin .add) 51 1) (.step (Ae .entst [.t 48,.t 54,.t 52]) (.done)))))) (.step (AW 54 1 53) (.step (AD 51 (.lookup false (true,[some .i64,some .i64,none]) (.int .i64 0)) 48 50) (.step (AK 52 (.bin .add) 51 1) (.step (Ae .entst [.t 48,.t 54,.t 52]) (.done))))))))))) (.step (AJ 49 0 10) (.both (.step (AA 48 8) (.step (AB 50 (.load true 3) 49) (.both (.step (AD 51 (.lookup false (true,[some .i64,some .i64,none]) (.int .i64 0)) 48 50) (.both (.step (AK 52 (.bin .add) 51 1) (.step (AD 53 (.mapent (true,[some .i64,some .i64,none]) (.int .i64 0)) 48 50) (.step (AW 54 1 53) (.step (Ae .entst [.t 48,.t 54,.t 52]) (.done))))) (.step (AD 53 (.mapent (true,[some .i64,some .i64,none]) (.int .i64 0)) 48 50) (.both (.step (AK 52 (.bin .add) 51 1) (.step (AW 54 1 53) (.step (Ae .entst [.t 48,.t 54,.t 52]) (.done)))) (.step (AW 54 1 53) (.step (AK 52 (.bin .add) 51 1) (.step (Ae .entst [.t 48,.t 54,.t 52]) (.done)))))))) (.step (AD 53 (.mapent (true,[some .i64,some .i64,none]) (.int .i64 0)) 48 50) (.both (.step (AD 51 (.lookup false (true,[some .i64,some .i64,none]) (.int .i64 0)) 48 50) (.both (.step (AK 52 (.bin .add) 51 1) (.step (AW 54 1 53) (.step (Ae .entst [.t 48,.t 54,.t 52]) (.done)))) (.step (AW 54 1 53) (.step (AK 52 (.bin .add) 51 1) (.step (Ae .entst [.t 48,.t 54,.t 52]) (.done)))))) (.step (AW 54 1 53) (.step (AD 51 (.lookup false (true,[some .i64,some .i64,none]) (.int .i64 0)) 48 50) (.step (AK 52 (.bin .add) 51 1) (.step (Ae .entst [.t 48,.t 54,.t 52]) (.done)))))))))) (.step (AB 50 (.load true 3) 49) (.step (AA 48 8) (.both (.step (AD 51 (.lookup false (true,[some .i64,some .i64,none]) (.int .i64 0)) 48 50) (.both (.step (AK 52 (.bin .add) 51 1) (.step (AD 53 (.mapent (true,[some .i64,some .i64,none]) (.int .i64 0)) 48 50) (.step (AW 54 1 53) (.step (Ae .entst [.t 48,.t 54,.t 52]) (.done))))) (.step (AD 53 (.mapent (true,[some .i64,some .i64,none]) (.int .i64 0)) 48 50) (.both (.step (AK 52 (.bin .add) 51 1) (.step (AW 54 1 53) (.step (Ae .entst [.t 48,.t 54,.t 52]) (.done)))) (.step (AW 54 1 53) (.step (AK 52 (.bin .add) 51 1) (.step (Ae .entst [.t 48,.t 54,.t 52]) (.done)))))))) (.step (AD 53 (.mapent (true,[some .i64,some .i64,none]) (.int .i64 0)) 48 50) (.both (.step (AD 51 (.lookup false (true,[some .i64,some .i64,none]) (.int .i64 0)) 48 50) (.both (.step (AK 52 (.bin .add) 51 1) (.step (AW 54 1 53) (.step (Ae .entst [.t 48,.t 54,.t 52]) (.done)))) (.step (AW 54 1 53) (.step (AK 52 (.bin .add) 51 1) (.step (Ae .entst [.t 48,.t 54,.t 52]) (.done)))))) (.step (AW 54 1 53) (.step (AD 51 (.lookup false (true,[some .i64,some .i64,none]) (.int .i64 0)) 48 50) (.step (AK 52 (.bin .add) 51 1) (.step (Ae .entst [.t 48,.t 54,.t 52]) (.done))))))))))))) [3,5,7,8,10]
attribute [local irreducible] IntKind.wrap Ah Option.getD and or
theorem rv{P:Bk->BG->Prop}{j n:List D}{a z s0:Int}{o:Bool}{dd:D}{i l h:List AV}{m:G3}(hm:m.length<=1000)(hl:F9 (a,z,o) m=none)
  (hk:P .normal ⟨Dm [(3,.ptr 3 0 0),(5,.ptr 5 0 0),(7,.own 38 1),(8,.map 23 0),(10,.ptr 10 1 0)],⟨BH [(23,(0,.map xB (Ej (m++[((a,z,o),1)])))),(23,(0,.map xB (Ej (m++[((a,z,o),0)])))),(38,(1,.row 94 5 false j)),(10,(1,.cells [.d (.int .i64 a),.d (.int .i64 z),.d (.bool o),.d (.int .i64 s0),.d dd])),(10,(1,.cells h)),(3,(0,.cells i)),(5,(0,.cells l)),(23,(0,.map xB (Ej m))),(38,(0,.row 94 5 false n))],CB (CB (fun _=>1) 10 2) 38 2⟩⟩) :
  pw E0 rx P ⟨Dm [(3,.ptr 3 0 0),(5,.ptr 5 0 0),(7,.own 38 1),(8,.map 23 0),(10,.ptr 10 1 0)],⟨BH [(38,(1,.row 94 5 false j)),(10,(1,.cells [.d (.int .i64 a),.d (.int .i64 z),.d (.bool o),.d (.int .i64 s0),.d dd])),(10,(1,.cells h)),(3,(0,.cells i)),(5,(0,.cells l)),(23,(0,.map xB (Ej m))),(38,(0,.row 94 5 false n))],CB (CB (fun _=>1) 10 2) 38 2⟩⟩:=by
 have h1:=P5 a z o m;rw[hl]at h1;have e:C0 (.agg [.int .i64 a,.int .i64 z,.bool o]) (Ej m)=none:=h1;have h2:=fe e;have t:=bu (v:=.int .i64 0) e (kE a z o);have r:(Ej m++[(D.agg [.int .i64 a,.int .i64 z,.bool o],D.int .i64 0)])[(Ej m).length]?=some (D.agg [.int .i64 a,.int .i64 z,.bool o],D.int .i64 0):=by simp
 have p:(Ej m++[(D.agg [.int .i64 a,.int .i64 z,.bool o],D.int .i64 0)]).set (Ej m).length (D.agg [.int .i64 a,.int .i64 z,.bool o],D.int .i64 1)=Ej (m++[((a,z,o),1)]):=by rw[←Xq];simp
 have u:=bp m;have q:IntKind.i64.wrap (0+1)=1:=Am _ (by omega);rw[←Xq m a z o 0]at hk;unfold rx;refine' mA6 e h2 t r p q
 all_goals first|omega|exact hk|(rw[p];exact hk)
theorem ru{P:Bk->BG->Prop}{q t:List D}{a z s0:Int}{o:Bool}{dd:D}{p r e:List AV}{m:G3}(hm:m.length<=1000){v:Int}(hv:1<=v/\v<=1000)(hl:F9 (a,z,o) m=some v)
  (hk:P .normal ⟨Dm [(3,.ptr 3 0 0),(5,.ptr 5 0 0),(7,.own 38 1),(8,.map 23 0),(10,.ptr 10 1 0)],⟨BH [(23,(0,.map xB (Ej (Iu (a,z,o) (v+1) m)))),(38,(1,.row 94 5 false q)),(10,(1,.cells [.d (.int .i64 a),.d (.int .i64 z),.d (.bool o),.d (.int .i64 s0),.d dd])),(10,(1,.cells e)),(3,(0,.cells p)),(5,(0,.cells r)),(23,(0,.map xB (Ej m))),(38,(0,.row 94 5 false t))],CB (CB (fun _=>1) 10 2) 38 2⟩⟩) :
  pw E0 rx P ⟨Dm [(3,.ptr 3 0 0),(5,.ptr 5 0 0),(7,.own 38 1),(8,.map 23 0),(10,.ptr 10 1 0)],⟨BH [(38,(1,.row 94 5 false q)),(10,(1,.cells [.d (.int .i64 a),.d (.int .i64 z),.d (.bool o),.d (.int .i64 s0),.d dd])),(10,(1,.cells e)),(3,(0,.cells p)),(5,(0,.cells r)),(23,(0,.map xB (Ej m))),(38,(0,.row 94 5 false t))],CB (CB (fun _=>1) 10 2) 38 2⟩⟩:=by
 have h1:=P5 a z o m;rw[hl]at h1;have n:C0 (.agg [.int .i64 a,.int .i64 z,.bool o]) (Ej m)=some (.int .i64 v):=h1;obtain⟨i,h2,B,x,y⟩:=Xn hl;have j:FH (.agg [.int .i64 a,.int .i64 z,.bool o]) (Ej m)=some i:=h2;have l:(Ej m)[i]?=some (.agg [.int .i64 a,.int .i64 z,.bool o],.int .i64 v):=x;have h:(Ej m).set i (.agg [.int .i64 a,.int .i64 z,.bool o],.int .i64 (v+1))=Ej (Iu (a,z,o) (v+1) m):=y (v+1);have A:=bp m;have u:IntKind.i64.wrap (v+1)=v+1:=Am _ (by omega);unfold rx;refine' bq n j l h u
 all_goals first|omega|exact hk|(rw[h];exact hk)
end Go.Pw
end
