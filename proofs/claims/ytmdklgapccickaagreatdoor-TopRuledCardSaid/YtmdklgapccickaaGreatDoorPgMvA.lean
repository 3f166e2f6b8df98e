/- A part of the proof. -/
import Derived.Test.YtmdklgapccickaaGreatDoorPwInt
import Derived.Test.YtmdklgapccickaaGreatDoorMvPC
import Derived.Test.YtmdklgapccickaaGreatDoorPwYa
set_option linter.all false
open Go Go.Pw Go.Proofs
namespace Go.Pw
set_option maxRecDepth 100000
set_option maxHeartbeats 6400000
structure Bu where
 id:Int
 st:Int
 sec:Int
deriving DecidableEq
instance:Inhabited Bu:=⟨⟨0,0,0⟩⟩
def c_ (x:Bu):List D:=[.int .i64 x.id,.int .i64 x.st,.int .i64 x.sec]
def EX (x:Bu):D:=.agg (c_ x)
theorem EB (x:Bu):c_ x=[.int .i64 x.id,.int .i64 x.st,.int .i64 x.sec]:=rfl
theorem EA (x:Bu):EX x=.agg (c_ x):=rfl
def CE (l:List Bu):List D:=l.map EX
theorem Bo (l:List Bu):(CE l).length=l.length:=by simp[CE]
theorem ES (l:List Bu):C0 3 (CE l)=True:=K7 fun _=>rfl
theorem Em {l:List Bu}{i:Nat}{A:D->Prop}:BW (CE l)[i]? A=(i<l.length/\A (EX (l[i]?.getD default))):=Ht
theorem Wy (l:List Bu) (i:Nat) (x:Bu):(CE l).set i (.agg [.int .i64 x.id,.int .i64 x.st,.int .i64 x.sec])=CE (l.set i x):=by simp[CE,EX,c_,List.map_set]
theorem cz (l:List Bu) (x:Bu):CE l++[.agg [.int .i64 x.id,.int .i64 x.st,.int .i64 x.sec]]=CE (l++[x]):=by simp[CE,EX,c_]
def Xf (l:List Bu) (j:Nat):List Bu:=(l.set (j+1) (l[j]?.getD default)).set j (l[j+1]?.getD default)
theorem TV:∀(j:Nat) (l:List Bu),j+1<l.length->(Xf l j).Perm l
 |0,a::b::t,_=>by simpa[Xf] using List.Perm.swap a b t
 |j+1,a::t,h=>by
  have:=TV j t (by simpa using h)
  simpa[Xf] using List.Perm.cons a this
 |0,[],h=>by simp at h
 |0,[_],h=>by simp at h
 |j+1,[],h=>by simp at h
theorem Vi {l:List Bu}{j:Nat}(h:j+1<l.length) (p:Nat):(Xf l j)[p]?.getD default=if p=j then l[j+1]?.getD default else if p=j+1 then l[j]?.getD default else l[p]?.getD default:=by
 unfold Xf
 by_cases h1:p=j
 ·subst h1;rw[if_pos rfl,List.getElem?_set_self (by simp;omega),Option.getD_some]
 ·rw[if_neg h1,List.getElem?_set_ne (Ne.symm h1)]
  by_cases h2:p=j+1
  ·subst h2;rw[if_pos rfl,List.getElem?_set_self (by omega),Option.getD_some]
  ·rw[if_neg h2,List.getElem?_set_ne (Ne.symm h2)]
structure oi (k:Bu->Int) (l0 l:List Bu) (i:Nat):Prop where
 perm:l.Perm l0
 ord:∀p q,p<q->q<i->k (l[p]?.getD default)<=k (l[q]?.getD default)
structure dY (k:Bu->Int) (l0 l:List Bu) (i j:Nat):Prop where
 perm:l.Perm l0
 ord:∀p q,p<q->q<=i->q≠j->k (l[p]?.getD default)<=k (l[q]?.getD default)
theorem pG (k:Bu->Int) (l:List Bu):oi k l l 1:=⟨.refl _,fun p q h1 h2=>by omega⟩
theorem bg {k l0 l i} (h:oi k l0 l i):dY k l0 l i i:=⟨h.perm,fun p q h1 h2 h3=>h.ord p q h1 (by omega)⟩
theorem pt {k l0 l i} (h:dY k l0 l i 0):oi k l0 l (i+1):=⟨h.perm,fun p q h1 h2=>h.ord p q h1 (by omega) (by omega)⟩
theorem fk {k l0 l i j} (h:dY k l0 l i (j+1)) (hge:¬k (l[j+1]?.getD default)<k (l[j]?.getD default)):oi k l0 l (i+1):=⟨h.perm,fun p q h1 h2=>by
 by_cases hq:q=j+1
 ·subst hq
  by_cases hp:p=j
  ·subst hp;omega
  ·have:=h.ord p j (by omega) (by omega) (by omega);omega
 ·exact h.ord p q h1 (by omega) hq⟩
theorem fj {k l0 l i j} (h:dY k l0 l i (j+1)) (hlt:k (l[j+1]?.getD default)<k (l[j]?.getD default)) (hj:j+1<=i) (hi:i<l.length):dY k l0 (Xf l j) i j where
 perm:=(TV j l (by omega)).trans h.perm
 ord:=fun p q h1 h2 h3=>by
  rw[Vi (by omega),Vi (by omega),if_neg h3]
  by_cases hq:q=j+1
  ·subst hq
   rw[if_pos rfl]
   by_cases hp:p=j
   ·rw[if_pos hp];omega
   ·rw[if_neg hp,if_neg (by omega)];exact h.ord p j (by omega) (by omega) (by omega)
  ·rw[if_neg hq]
   by_cases hp:p=j
   ·rw[if_pos hp];exact h.ord (j+1) q (by omega) h2 hq
   ·rw[if_neg hp]
    by_cases hp2:p=j+1
    ·rw[if_pos hp2];exact h.ord j q (by omega) h2 hq
    ·rw[if_neg hp2];exact h.ord p q h1 h2 hq
theorem eK {k:Bu->Int}{l0 l s:List Bu}(h:oi k l0 l l.length) (hp:s.Perm l0) (hs:s.Pairwise fun a b=>k a<k b):l=s:=by
 have hl:l.Pairwise fun a b=>k a<=k b:=by
  rw[List.pairwise_iff_getElem]
  intro i j hi hj hij
  have:=h.ord i j hij hj
  rwa [List.getElem?_eq_getElem hi,List.getElem?_eq_getElem hj] at this
 have hinj:∀a b,a∈s->b∈s->k a=k b->a=b:=fun a b ha hb he=>by
  obtain⟨i,hi,rfl⟩:=List.getElem_of_mem ha
  obtain⟨j,hj,rfl⟩:=List.getElem_of_mem hb
  rw[List.pairwise_iff_getElem] at hs
  by_cases h1:i<j
  ·have:=hs i j hi hj h1;omega
  ·by_cases h2:j<i
   ·have:=hs j i hj hi h2;omega
   ·have:i=j:=by omega
    subst this;rfl
 refine List.Perm.eq_of_pairwise (le:=fun a b=>k a<=k b) (fun a b ha hb h1 h2=>?_) hl (hs.imp fun h=>Int.le_of_lt h) (h.perm.trans hp.symm)
 exact hinj a b (hp.symm.mem_iff.1 (h.perm.mem_iff.1 ha)) hb (Int.le_antisymm h1 h2)
def GA (N:Nat):List Nat->Nat
 |[]=>0
 |i::l=>GA N l*(N+1)+(i+1)
theorem QC {N:Nat}:∀{a b:List Nat},(∀i,i∈a->i<N)->(∀i,i∈b->i<N)->GA N a=GA N b->a=b
 |[],[],_,_,_=>rfl
 |[],j::b,_,_,h=>by rw[GA,GA] at h;omega
 |i::a,[],_,_,h=>by rw[GA,GA] at h;omega
 |i::a,j::b,ha,hb,h=>by
  have hi:=ha i (by simp);have hj:=hb j (by simp)
  rw[GA,GA] at h
  have h1:(GA N a*(N+1)+(i+1))%(N+1)=(GA N b*(N+1)+(j+1))%(N+1):=by rw[h]
  rw[Nat.mul_add_mod_self_right,Nat.mul_add_mod_self_right,Nat.mod_eq_of_lt (by omega),Nat.mod_eq_of_lt (by omega)] at h1
  have h2:GA N a=GA N b:=by
   have:GA N a*(N+1)=GA N b*(N+1):=by omega
   exact Nat.eq_of_mul_eq_mul_right (by omega) this
  rw[QC (fun x hx=>ha x (by simp[hx])) (fun x hx=>hb x (by simp[hx])) h2,show i=j by omega]
structure XP (N:Nat) (l:List Nat):Prop where
 lt:∀i,i∈l->i<N
 nd:l.Nodup
def o5 (vs:List (List D)):RD where
 nx n x m:=∃l i,n=GA vs.length l/\XP vs.length (i::l)/\vs[i]?=some x/\m=GA vs.length (i::l)
 fin n:=∃l,n=GA vs.length l/\XP vs.length l/\∀i,i<vs.length->i∈l
theorem dL {N:Nat}{l:List Nat}(h:XP N l) (ha:∀i,i<N->i∈l):l.Perm (List.range N):=by
 refine(List.perm_ext_iff_of_nodup h.nd List.nodup_range).2 fun i=>?_
 rw[List.mem_range]
 exact⟨h.lt i,ha i⟩
theorem Zq {α:Type}{p q:α->Bool}(h:∀x,q x=true->p x=true):∀{l:List α}{x:α},x∈l->p x=true->q x=false->(l.filter q).length<(l.filter p).length
 |[],x,hx,_,_=>by cases hx
 |y::l,x,hx,h1,h2=>by
  have hle:(l.filter q).length<=(l.filter p).length:=by
   clear hx
   induction l with
   |nil=>simp
   |cons z l ih =>
    rw[List.filter_cons,List.filter_cons]
    cases hq:q z with
    |true=>rw[h z hq];simp;exact ih
    |false=>cases hp:p z<;>simp<;>omega
  rw[List.filter_cons,List.filter_cons]
  rcases List.mem_cons.1 hx with rfl|hx
  ·rw[h1,h2];simp;omega
  ·have:=Zq h hx h1 h2
   cases hq:q y with
   |true=>rw[h y hq];simpa using this
   |false=>cases hp:p y<;>simp<;>omega
def mG (N:Nat) (seen:List Nat):Nat:=((List.range N).filter fun i=>!seen.contains i).length
theorem ia {N i:Nat}{seen:List Nat}(hi:i<N) (hs:seen.contains i=false):mG N (seen++[i])<mG N seen :=
 Zq (fun x hx=>by simp at hx ⊢;exact hx.1) (List.mem_range.2 hi) (by rw[hs];rfl) (by simp)
section
attribute [local congr] Bm BC BD Ak Bn Aq Au Ar Aj Af AY AU Am AZ BR BS BP Ao An Ad Ap Ae BH BZ Ab BM BN BI BJ BL BK BF BG BB Bq BE Al Aa Ba Ag Av BQ
attribute [local irreducible] IntKind.wrap A0 Option.getD and or
theorem Um (x y:Bu) (h1:0<=x.id/\x.id<=1000000) (h2:0<=y.id/\y.id<=1000000):Cc E0 C7 [EX x,EX y] (.int .i64 (x.id-y.id)):=by
 refine AN HB Ay (by simp) fun hwf=>?_
 have w:IntKind.i64.wrap (x.id-y.id)=x.id-y.id:=Bd _ (by omega)
 rw[AP];unfold FF
 refine' Pb @EA @EB w
 all_goals first|rfl|trace_state
theorem bd (x y:Bu) (h1:0<=x.st/\x.st<=1000000) (h2:0<=y.st/\y.st<=1000000):Cc E0 GS [EX x,EX y] (.int .i64 (x.st-y.st)):=by
 refine AN Px Ay (by simp) fun hwf=>?_
 have w:IntKind.i64.wrap (x.st-y.st)=x.st-y.st:=Bd _ (by omega)
 rw[AP];unfold KU
 refine' Pb @EA @EB w
 all_goals first|rfl|trace_state
theorem OA (l s:List Bu) (hl:l.length<=12) (k:Bu->Int) (f:FuncId) (hb:Bk E0.P f=true) (cf:∀x y,x∈l->y∈l->Cc E0 f [EX x,EX y] (.int .i64 (k x-k y))) (hp:s.Perm l) (hs:s.Pairwise fun a b=>k a<k b) :
  Ft E0 DM [(900000,0,.row 65 3 false (CE l))] [.own 900000 0,.d (.int .i64 0),.d (.int .i64 l.length),.d (.fn f [])] [(900000,0,.row 65 3 false (CE s))] (.tup []):=by
 refine CT Et Ay (by simp) (by simp[Jv,Dt,C_,AW.isHist]) (by simp[It,C_]) fun hwf hwo=>?_
 rw[Cg];unfold DA
 have w1:IntKind.i64.wrap (0+1)=1:=Bd _ (by omega)
 have w0:IntKind.i64.wrap 1=1:=Bd _ (by omega)
 refine' Pc w1 w0
 all_goals try exact Ca
 refine Bh (α:=Nat×(List Bu)) (fun x=>[(8,.d (.int .i64 (x.1:Int)))]) (fun x=>[(900000,.row 65 3 false (CE x.2))]) (fun x=>(x.1=1\/x.1<=l.length)/\1<=x.1/\oi k l x.2 x.1) (fun x=>l.length-x.1) (1,l) ?hI1 ?step1
 case' step1=>(rintro⟨i,L⟩ hI;try dsimp only at hI)
 case' hI1=>try dsimp only
 ·exact⟨.inl rfl,by omega,pG k l⟩
 ·obtain⟨h1,h2,h3⟩:=hI
  have hL:L.length=l.length:=h3.perm.length_eq
  by_cases hi:i<l.length
  ·have hi':(i:Int)<(l.length:Int):=by omega
   have wi:=Mi (i:=i) (by omega)
   refine' K5 hi'
   all_goals try exact Ca
   refine Bh (α:=Nat×(List Bu)) (fun x=>[(9,.d (.int .i64 (x.1:Int)))]) (fun x=>[(900000,.row 65 3 false (CE x.2))]) (fun x=>x.1<=i/\dY k l x.2 i x.1) (fun x=>x.1) (i,L) ?hI2 ?step2
   case' step2=>(rintro⟨j,M⟩ hI2;try dsimp only at hI2)
   case' hI2=>try dsimp only
   ·exact⟨Nat.le_refl _,bg h3⟩
   ·obtain⟨j1,j2⟩:=hI2
    have hM:M.length=l.length:=j2.perm.length_eq
    rcases j with _|j
    ·have hfin:=pt j2
     refine' K5 wi
     all_goals first|omega|exact hfin|trace_state
    ·have wj:IntKind.i64.wrap (((j+1:Nat):Int)-1)=(j:Int):=by rw[Bd _ (by omega)];omega
     have hj1:((j+1:Nat):Int)<(M.length:Int):=by omega
     have hj0:(j:Int)<(M.length:Int):=by omega
     have hj2:j+1<M.length:=by omega
     have hj3:j<M.length:=by omega
     have hpos:0<((j+1:Nat):Int):=by omega
     have hmx:M[j+1]?.getD default∈l:=j2.perm.mem_iff.1 (by rw[List.getElem?_eq_getElem hj2,Option.getD_some];exact List.getElem_mem hj2)
     have hmy:M[j]?.getD default∈l:=j2.perm.mem_iff.1 (by rw[List.getElem?_eq_getElem hj3,Option.getD_some];exact List.getElem_mem hj3)
     have hsw:=fun h=>fj j2 h j1 (by omega)
     have hst:=fun h=>fk j2 h
     have hsd:Xf M j=(M.set (j+1) (M[j]?.getD default)).set j (M[j+1]?.getD default):=rfl
     rw[hsd] at hsw
     obtain⟨x,hx⟩:∃x,M[j+1]?.getD default=x:=⟨_,rfl⟩
     obtain⟨y,hy⟩:∃y,M[j]?.getD default=y:=⟨_,rfl⟩
     rw[hx] at hmx hst
     rw[hy] at hmy hst
     simp only[hx,hy] at hsw hst
     have c1:=cf x y hmx hmy
     by_cases hlt:k x-k y<0
     ·have hsw:=hsw (by omega)
      have hl2:(j:Int)<((M.set (j+1) y).length:Int):=by simp;omega
      have hl3:j<(M.set (j+1) y).length:=by simp;omega
      refine' Gr hj1 hj0 hj2 hj3 hpos wj hx (aI hy (aI hb (aI hlt (aI @Bo (aI @ES (aI @Em (aI @EA (aI @EB @Wy))))))));repeat' first|(refine' CQ;(first|refine AG c1 ?_)<;>refine' Gr hj1 hj0 hj2 hj3 hpos wj hx (aI hy (aI hb (aI hlt (aI @Bo (aI @ES (aI @Em (aI @EA (aI @EB @Wy)))))))))|refine' CP|done
      all_goals first|omega|exact .inl True.intro|exact hl2|exact hl3|exact hsw|trace_state
     ·have hfin:=hst (by omega)
      refine' Gr hj1 hj0 hj2 hj3 hpos wj hx (aI hy (aI hb (aI hlt (aI wi (aI @Bo (aI @ES (aI @Em (aI @EA @EB))))))));repeat' first|(refine' CQ;(first|refine AG c1 ?_)<;>refine' Gr hj1 hj0 hj2 hj3 hpos wj hx (aI hy (aI hb (aI hlt (aI wi (aI @Bo (aI @ES (aI @Em (aI @EA @EB)))))))))|refine' CP|done
      all_goals first|omega|exact hfin|trace_state
  ·have hi':¬(i:Int)<(l.length:Int):=by omega
   have hM:L=s:=by
    rcases h1 with h1|h1
    ·refine eK (k:=k) (l0:=l) ⟨h3.perm,fun p q h5 h6=>by omega⟩ hp hs
    ·have:i=L.length:=by omega
     rw[this] at h3
     exact eK h3 hp hs
   refine' Pc hi' hM
   all_goals first|omega|exact hM|rfl|trace_state
end
section
theorem Hk (l:List Bu):KI (CE l)=true:=by
 unfold KI CE;rw[List.all_map,List.all_eq_true];exact fun x _=>rfl
theorem SZ:Bk E0.P BA=true:=by kernel_rfl
theorem Z8:B1.noR=true:=by rfl
theorem I2:Bk E0.P C7=true:=by kernel_rfl
theorem Nh:Bk E0.P GS=true:=by kernel_rfl
theorem eh {E:CW} {rs o els s}:jF E rs o els .ret s=(Fy E s rs (fun _=>True)/\Tz els (s.V.ob o)):=rfl
theorem Tg {E:CW} {rs o els s}:jF E rs o els .normal s=(Fy E s rs (fun _=>True)/\Tz els (s.V.ob o)):=rfl
theorem pM {els g e n st}:Tz els (some (g,.hist e n st))=(e=els/\(st=true\/els.fin n)):=rfl
theorem bc {n:Int}(h:0<=n/\n<=12):∃b,ld[(IntKind.u8.wrap n).toNat]?=some b:=by
 have:n=0\/n=1\/n=2\/n=3\/n=4\/n=5\/n=6\/n=7\/n=8\/n=9\/n=10\/n=11\/n=12:=by omega
 rcases this with rfl|rfl|rfl|rfl|rfl|rfl|rfl|rfl|rfl|rfl|rfl|rfl|rfl
 ·exact⟨0,by kernel_rfl⟩
 ·exact⟨1,by kernel_rfl⟩
 ·exact⟨2,by kernel_rfl⟩
 ·exact⟨2,by kernel_rfl⟩
 ·exact⟨3,by kernel_rfl⟩
 ·exact⟨3,by kernel_rfl⟩
 ·exact⟨3,by kernel_rfl⟩
 ·exact⟨3,by kernel_rfl⟩
 ·exact⟨4,by kernel_rfl⟩
 ·exact⟨4,by kernel_rfl⟩
 ·exact⟨4,by kernel_rfl⟩
 ·exact⟨4,by kernel_rfl⟩
 ·exact⟨4,by kernel_rfl⟩
abbrev TP:HS:=(false,[some .i64])
def Wa (l:List Bu):List (D×D):=l.map fun x=>(.int .i64 x.id,EX x)
theorem U4 (l:List Bu):(Wa l).length=l.length:=by simp[Wa]
theorem kF {l:List Bu}{i:Nat}(h:i<l.length):(Wa l)[i]?=some (.int .i64 (l[i]?.getD default).id,EX (l[i]?.getD default)):=by simp[Wa,h]
def c9 (l:List Bu):List (List D):=l.map fun x=>[EX x]
theorem Fm (l:List Bu):(c9 l).length=l.length:=by simp[c9]
theorem Wz {l:List Bu}{i:Nat}(h:i<l.length):(c9 l)[i]?=some [EX (l[i]?.getD default)]:=by simp[c9,h]
def pick (l:List Bu) (p:List Nat):List Bu:=p.reverse.map fun i=>l[i]?.getD default
theorem aq (l:List Bu) (i:Nat) (p:List Nat):pick l (i::p)=pick l p++[l[i]?.getD default]:=by simp[pick]
theorem au {l:List Bu}{p:List Nat}(h:XP l.length p) (ha:∀i,i<l.length->i∈p):(pick l p).Perm l:=by
 have h1:p.reverse.Perm (List.range l.length):=(List.reverse_perm p).trans (dL h ha)
 have h2:=h1.map fun i=>l[i]?.getD default
 have h3:(List.range l.length).map (fun i=>l[i]?.getD default)=l:=by
  apply List.ext_getElem
  ·simp
  ·intro i h4 h5;simp[h5]
 rw[h3] at h2;exact h2
attribute [local congr] Bm BC BD Ak Bn Aq Au Ar Aj Af AY AU Am AZ BR BS BP Ao An Ad Ap Ae BH BZ Ab BM BN BI BJ BL BK BF BG BB Bq BE Al Aa Ba Ag Av BQ
attribute [local irreducible] IntKind.wrap A0 Option.getD and or
theorem TD (n:Int) (hn:0<=n/\n<=12):∃k,Cc E0 Km [.int .u64 n] (.int .i64 k):=by
 obtain⟨b,h3⟩:=bc hn
 have k1:¬4294967296<=n:=by omega
 have k2:¬65536<=n:=by omega
 have k3:¬256<=n:=by omega
 have c1:Cc E0 Im [.int .u64 n] (.int .i64 (IntKind.i64.wrap (0+IntKind.i64.wrap ((UInt8.toNat b:Nat):Int)))):=by
  refine AN Ma Ay (by simp) fun hwf=>?_
  rw[AP];unfold Hn
  refine' fY h3 k1 k2 k3
  all_goals first|omega|rfl|exact .inl True.intro|trace_state
 refine⟨IntKind.i64.wrap (0+IntKind.i64.wrap ((UInt8.toNat b:Nat):Int)),?_⟩
 refine AN OO Ay (by simp) fun hwf=>?_
 rw[AP];unfold JC
 refine' H9;repeat' first|(refine' CQ;(first|refine AG c1 ?_)<;>refine' H9)|refine' CP|done
 all_goals first|omega|rfl|exact .inl True.intro|trace_state
theorem nH (l s:List Bu) (hl:l.length<=12) (k:Bu->Int) (f:FuncId) (hb:Bk E0.P f=true) (cf:∀x y,x∈l->y∈l->Cc E0 f [EX x,EX y] (.int .i64 (k x-k y))) (hp:s.Perm l) (hs:s.Pairwise fun a b=>k a<k b) (m:Int) :
  Ft E0 D8 [(900000,0,.row 65 3 false (CE l))] [.own 900000 0,.d (.int .i64 0),.d (.int .i64 l.length),.d (.int .i64 m),.d (.fn f [])] [(900000,0,.row 65 3 false (CE s))] (.tup []):=by
 have c1:=OA l s hl k f hb cf hp hs
 have w1:IntKind.i64.wrap ((l.length:Int)-0)=(l.length:Int):=by rw[Bd _ (by omega)];omega
 have k1:(l.length:Int)<=12:=by omega
 refine CT Fg Ay (by simp) (by simp[Jv,Dt,C_,AW.isHist]) (by simp[It,C_]) fun hwf hwo=>?_
 rw[Cg];unfold Dw
 refine' HO
 all_goals try exact Ca
 refine Bh (α:=Int) (fun x=>[(1,.d (.int .i64 x))]) (fun x=>[]) (fun x=>x=0) (fun x=>x.toNat) 0 ?hI2 ?step2
 case' step2=>(rintro i hI;try dsimp only at hI)
 case' hI2=>try dsimp only
 ·subst hI
  refine' HR w1 k1;repeat' first|(refine' CQ;(first|refine Cz ([((900000,0),(900000,0))]) ([((900000,0),(900000,0))]) (c1) ?_)<;>refine' HR w1 k1)|refine' CP|done
  all_goals first|omega|rfl|exact .inl True.intro|trace_state
theorem lP (l s:List Bu) (hl:l.length<=12) (k:Bu->Int) (f:FuncId) (hb:Bk E0.P f=true) (cf:∀x y,x∈l->y∈l->Cc E0 f [EX x,EX y] (.int .i64 (k x-k y))) (hp:s.Perm l) (hs:s.Pairwise fun a b=>k a<k b) :
  Ft E0 DX [(900000,0,.row 65 3 false (CE l))] [.own 900000 0,.d (.fn f [])] [(900000,0,.row 65 3 false (CE s))] (.tup []):=by
 obtain⟨m,c1⟩:=TD (l.length:Int) (by omega)
 have c2:=nH l s hl k f hb cf hp hs m
 have w1:IntKind.u64.wrap (l.length:Int)=(l.length:Int):=ZQ _ (by omega)
 refine CT E1 Ay (by simp) (by simp[Jv,Dt,C_,AW.isHist]) (by simp[It,C_]) fun hwf hwo=>?_
 rw[Cg];unfold DI
 refine' HR w1 @Bo;repeat' first|(refine' CQ;(first|refine AG c1 ?_|refine Cz ([((900000,0),(900000,0))]) ([((900000,0),(900000,0))]) (c2) ?_)<;>refine' HR w1 @Bo)|refine' CP|done
 all_goals first|omega|rfl|exact .inl True.intro|trace_state
theorem aJ (l s:List Bu) (hl:l.length<=12) (k:Bu->Int) (f:FuncId) (hb:Bk E0.P f=true) (cf:∀x y,x∈l->y∈l->Cc E0 f [EX x,EX y] (.int .i64 (k x-k y))) (hp:s.Perm l) (hs:s.Pairwise fun a b=>k a<k b) :
  Ft E0 EF [(900000,0,.row 65 3 false (CE l))] [.own 900000 0,.d (.int .i64 l.length),.d (.fn f [])] [(900000,0,.row 65 3 false (CE s))] (.tup []):=by
 have c1:=OA l s hl k f hb cf hp hs
 have k1:¬(20:Int)<=(l.length:Int):=by omega
 have k2:¬(20:Int)<(l.length:Int):=by omega
 refine CT Fn Ay (by simp) (by simp[Jv,Dt,C_,AW.isHist]) (by simp[It,C_]) fun hwf hwo=>?_
 rw[Cg];unfold D5
 refine' HO
 all_goals try exact Ca
 refine Bh (α:=Int) (fun x=>[(7,.d (.int .i64 x))]) (fun x=>[]) (fun x=>x=0) (fun x=>x.toNat) 0 ?hI3 ?step3
 case' step3=>(rintro i hI;try dsimp only at hI)
 case' hI3=>try dsimp only
 ·subst hI
  refine' VX k1;repeat' first|(refine' CQ;(first|refine Cz ([((900000,0),(900000,0))]) ([((900000,0),(900000,0))]) (c1) ?_)<;>refine' VX k1)|refine' CP|done
  all_goals try exact Ca
  refine Bh (α:=Int) (fun x=>[(1000,.d (.int .i64 x))]) (fun x=>[]) (fun x=>x=0) (fun x=>x.toNat) 0 ?hI4 ?step4
  case' step4=>(rintro i hI2;try dsimp only at hI2)
  case' hI4=>try dsimp only
  ·subst hI2
   refine' K5 k2
   all_goals first|omega|rfl|exact .inl True.intro|trace_state
theorem dX (l s:List Bu) (hl:l.length<=12) (k:Bu->Int) (f:FuncId) (hb:Bk E0.P f=true) (cf:∀x y,x∈l->y∈l->Cc E0 f [EX x,EX y] (.int .i64 (k x-k y))) (hp:s.Perm l) (hs:s.Pairwise fun a b=>k a<k b) :
  Ft E0 Cp [(900000,0,.row 65 3 false (CE l))] [.own 900000 0,.d (.fn f [])] [(900000,0,.row 65 3 false (CE s))] (.tup []):=by
 have c1:=aJ l s hl k f hb cf hp hs
 refine CT EO Ay (by simp) (by simp[Jv,Dt,C_,AW.isHist]) (by simp[It,C_]) fun hwf hwo=>?_
 rw[Cg];unfold Ci
 refine' VX @Bo;repeat' first|(refine' CQ;(first|refine Cz ([((900000,0),(900000,0))]) ([((900000,0),(900000,0))]) (c1) ?_)<;>refine' VX @Bo)|refine' CP|done
 all_goals first|omega|rfl|exact .inl True.intro|trace_state
theorem XK (kvs:List (D×D)):Cc E0 Ce [.map TP kvs] (.fn BA [.ptr [.map TP kvs]]):=by
 refine AN ED Ay (by simp) fun hwf=>?_
 rw[AP];unfold CV
 refine' K5 @SZ
 all_goals first|omega|rfl|exact .inl True.intro|trace_state
theorem Z7 (l:List Bu):TG E0 BA [] [.ptr [.map TP (Wa l)]] (o5 (c9 l)):=by
 refine NF Dz Ay Z8 (by simp) fun hwf _=>?_
 rw[Cg];unfold B1
 refine' HO
 all_goals try exact Ca
 refine Bh (α:=(List Nat)) (fun x=>[]) (fun x=>[(6,.mitD TP (Wa l) x),(900000,.hist (o5 (c9 l)) (GA l.length x.reverse) false)]) (fun x=>XP l.length x.reverse) (fun x=>mG l.length x) [] ?hI5 ?step5
 case' step5=>(rintro seen hI;try dsimp only at hI)
 case' hI5=>try dsimp only
 ·exact⟨fun i h=>(by cases h),List.nodup_nil⟩
 ·refine' HO
  refine nO (fun i hi hs=>?_) (fun hall=>?_)
  ·rw[U4] at hi
   have hlast:(seen++[i]).getLast?=some i:=by simp
   have hg:=kF hi
   have hlt:=ia hi hs
   have hrv:(seen++[i]).reverse=i::seen.reverse:=by simp
   have hc:XP l.length (i::seen.reverse):=⟨fun j hj=>by
    rcases List.mem_cons.1 hj with rfl|hj
    ·exact hi
    ·exact hI.lt j hj,List.nodup_cons.2 ⟨by simpa using hs,hI.nd⟩⟩
   obtain⟨x,hx⟩:∃x,l[i]?.getD default=x:=⟨_,rfl⟩
   rw[hx] at hg
   have hv:=Wz hi
   rw[hx] at hv
   refine' fY hlast hg @EA @EB
   refine⟨_,⟨seen.reverse,i,by rw[Fm],by rw[Fm];exact hc,hv,rfl⟩,?_,?_⟩
   ·refine' HO
    all_goals first|omega|exact⟨seen++[i],by rw[hrv,Fm],by rw[hrv];exact hc,hlt⟩|trace_state
   ·refine' Pb @eh @Tg @pM
    all_goals first|omega|rfl|exact .inl True.intro|trace_state
  ·refine' Pb @eh @Tg @pM
   all_goals first|omega|rfl|exact .inr ⟨_,by rw[Fm],by rw[Fm];exact hI,fun i hi=>by simpa using hall i (by rw[U4];rw[Fm] at hi;exact hi)⟩|trace_state
end
section
def rV (l:List Bu):List Nat->List (Nat×Nat×AW)
 |[]=>[(5000002,0,.cells [.d (.list true [])])]
 |i::p=>[(11,0,.row 65 3 false (CE (pick l (i::p)))),(5000002,0,.cells [.own 11 0])]
theorem l5 (l:List Bu):rV l []=[(5000002,0,.cells [.d (.list true [])])]:=rfl
theorem Z0 (l:List Bu) (i:Nat) (p:List Nat):rV l (i::p)=[(11,0,.row 65 3 false (CE (pick l (i::p)))),(5000002,0,.cells [.own 11 0])]:=rfl
def pS (l:List Bu) (nl:Bool) (L:List D):Prop:=nl=false/\∃s,L=CE s/\s.Perm l
theorem Ut {E rs ety es P s}:ej E rs ety es P .ret s=Fy E s rs (Rr s.V ety es P):=rfl
theorem NJ {E rs ety es P s}:ej E rs ety es P .normal s=Fy E s rs (Rr s.V ety es P):=rfl
theorem Us {V ety es P o g}:Rr V ety es P [.own o g]=((∃nl l,V.get o g=some (.row ety es nl l)/\P nl l)\/V.get o g=some (.rowP ety es P)):=rfl
theorem nG (l:List Bu) (i:Nat):pick l [i]=[l[i]?.getD default]:=rfl
theorem e_ (l:List Bu) (p:List Nat):(pick l p).length=p.length:=by simp[pick]
theorem oP (x:Bu):CE [x]=[.agg [.int .i64 x.id,.int .i64 x.st,.int .i64 x.sec]]:=rfl
theorem gm {N:Nat}{p:List Nat}(h:XP N p):p.length<=N:=by
 have:=List.Nodup.length_le_of_subset h.nd (l₂:=List.range N) (fun i hi=>List.mem_range.2 (h.lt i hi))
 simpa using this
attribute [local congr] Bm BC BD Ak Bn Aq Au Ar Aj Af AY AU Am AZ BR BS BP Ao An Ad Ap Ae BH BZ Ab BM BN BI BJ BL BK BF BG BB Bq BE Al Aa Ba Ag Av BQ
attribute [local irreducible] IntKind.wrap A0 Option.getD and or
theorem df (l:List Bu) (h0:0<l.length) (hl:l.length<=1000):ZH E0 DP [.list true [],.fn BA [.ptr [.map TP (Wa l)]]] 65 3 (pS l):=by
 refine Ru Ev Ay (by simp) fun hwf=>?_
 rw[AP];unfold DC
 refine' HO
 all_goals try exact Ca
 refine ZZ (α:=List Nat) (fun p=>⟨Bt (rV l p),fun _=>1⟩) (fun n p=>n=GA l.length p/\XP l.length p) (fun e x=>False) [] (sl1:=EC ?l7) ?h07 (fun _=>rfl) SZ (by simp[PC.noR]) (Z7 l) ?hw7 ⟨rfl,fun i h=>(by cases h),List.nodup_nil⟩ ?step7 ?hend7 (fun e x h=>h.elim)
 case h07 =>
  simp -implicitDefEqProofs only[go_sem]
  simp only[or_true,true_or,true_and]
  rfl
 case hw7=>simp -implicitDefEqProofs only[go_sem,l5]
 case step7 =>
  rintro n p ds k ⟨q,i,hn,hc,hv,rfl⟩ ⟨rfl,hp⟩
  rw[Fm] at hn hc
  have hq:=QC hp.lt (fun j hj=>hc.lt j (List.mem_cons_of_mem _ hj)) hn
  subst hq
  have hi:i<l.length:=hc.lt i (by simp)
  rw[Wz hi] at hv
  obtain⟨x,hx⟩:∃x,l[i]?.getD default=x:=⟨_,rfl⟩
  rw[hx] at hv
  simp only[Option.some.injEq] at hv
  subst hv
  refine⟨rfl,?_⟩
  have hpl:=gm hp
  rcases p with _|⟨j,p⟩
  ·have hs1:[.agg [.int .i64 x.id,.int .i64 x.st,.int .i64 x.sec]]=CE (pick l [i]):=by rw[nG,hx,oP]
   refine' Pb @l5 @EA @EB
   all_goals first|omega|exact⟨[i],by rw[Z0,←hs1],by rw[Fm],hc⟩|trace_state
  ·have hs2:CE (pick l (j::p))++[.agg [.int .i64 x.id,.int .i64 x.st,.int .i64 x.sec]]=CE (pick l (i::j::p)):=by rw[cz,←hx,←aq]
   have hlt:(pick l (j::p)).length<=1073741823:=by rw[e_];omega
   refine' Zg @Z0 @EA @EB @Bo @ES
   all_goals first|exact hlt|omega|exact⟨i::j::p,by rw[Z0,←hs2],by rw[Fm],hc⟩|trace_state
 case hend7 =>
  rintro n p ⟨q,hn,hc,ha⟩ ⟨rfl,hp⟩
  rw[Fm] at hn hc ha
  have hq:=QC hp.lt hc.lt hn
  subst hq
  have hpp:=au hp ha
  rcases p with _|⟨j,p⟩
  ·exact absurd (ha 0 h0) (by simp)
  ·refine' fY @Z0 @Ut @NJ @Us
   all_goals first|omega|exact .inl ⟨_,_,rfl,rfl,_,rfl,hpp⟩|trace_state
theorem ZL (l:List Bu) (h0:0<l.length) (hl:l.length<=1000):ZH E0 FI [.fn BA [.ptr [.map TP (Wa l)]]] 65 3 (pS l):=by
 have c1:=df l h0 hl
 refine Ru G2 Ay (by simp) fun hwf=>?_
 rw[AP];unfold Ex
 refine' Gb @Ut @NJ @Us;repeat' first|(refine' CQ;(first|refine Zx (c1) (by simp[C_]) ?_)<;>refine' Gb @Ut @NJ @Us)|refine' CP|done
 all_goals first|omega|exact .inr True.intro|trace_state
theorem XL (l s:List Bu) (h0:0<l.length) (hl:l.length<=12) (k:Bu->Int) (f:FuncId) (hb:Bk E0.P f=true) (cf:∀x y,x∈l->y∈l->Cc E0 f [EX x,EX y] (.int .i64 (k x-k y))) (hp:s.Perm l) (hs:s.Pairwise fun a b=>k a<k b) :
  iC E0 Ei [.fn BA [.ptr [.map TP (Wa l)]],.fn f []] 65 3 false (CE s):=by
 have c1:=ZL l h0 (by omega)
 refine NH GM Ay (by simp) fun hwf=>?_
 rw[AP];unfold EV
 refine' H9;repeat' first|(refine' CQ;(first|refine Zx (c1) (by simp[C_]) ?_)<;>refine' H9)|refine' CP|done
 rintro nl L ⟨rfl,q,rfl,hq⟩
 have hql:=hq.length_eq
 have c2:=lP q s (by omega) k f hb (fun x y hx hy=>cf x y (hq.mem_iff.1 hx) (hq.mem_iff.1 hy)) (hp.trans hq.symm) hs
 refine' H9;repeat' first|(refine' CQ;(first|refine Cz ([((900000,0),(7,1))]) ([((900000,0),(7,1))]) (c2) ?_)<;>refine' H9)|refine' CP|done
 all_goals first|omega|rfl|exact .inl True.intro|trace_state
abbrev oc:HS:=(true,[some .i64,some .i64,some .i64])
theorem Qw (l s:List Bu) (c:List (D×D)) (h0:0<l.length) (hl:l.length<=12) (hid:∀x,x∈l->0<=x.id/\x.id<=1000000) (hp:s.Perm l) (hs:s.Pairwise fun a b=>a.id<b.id) :
  iC E0 Fs [.agg [.map TP (Wa l),.map oc c]] 65 3 false (CE s):=by
 have c1:=XK (Wa l)
 have c2:=XL l s h0 hl (·.id) C7 I2 (fun x y hx hy=>Um x y (hid x hx) (hid y hy)) hp hs
 refine NH Hx Ay (by simp) fun hwf=>?_
 rw[AP];unfold FX
 refine' VX @I2;repeat' first|(refine' CQ;(first|refine AG c1 ?_|refine RN (c2) (by simp[C_]) (by first|exact primL_ints _|exact primL_map (fun _=>rfl) _|exact Hk _|exact primL_zps _|simp[KI,D.cells,D.prim]) ?_)<;>refine' VX @I2)|refine' CP|done
 all_goals first|omega|rfl|exact Hk _|exact .inl True.intro|trace_state
end
section
theorem du:IntKind.i64.wrap 0=0:=by decide
theorem dt:IntKind.i64.wrap (0-((0:Nat):Int))=0:=by decide
theorem WD {α:Type}(n:Nat) (x:α) (h:0<n):(List.replicate n x).isEmpty=false:=by cases n with
 |zero=>omega
 |succ n=>rfl
def og (ls:List (Bool×List Bu)):List D:=ls.map fun p=>.list p.1 (CE p.2)
theorem FU (ls:List (Bool×List Bu)):(og ls).length=ls.length:=by simp[og]
theorem R_ (ls:List (Bool×List Bu)):C0 1 (og ls)=True:=K7 fun _=>rfl
theorem PY {ls:List (Bool×List Bu)}{i:Nat}{A:D->Prop}:BW (og ls)[i]? A=(i<ls.length/\A (.list (ls[i]?.getD default).1 (CE (ls[i]?.getD default).2))):=Ht (f:=fun p:Bool×List Bu=>D.list p.1 (CE p.2))
def flat (ls:List (Bool×List Bu)):List Bu:=ls.flatMap (·.2)
theorem n9 {ls:List (Bool×List Bu)}{i:Nat}(h:i<ls.length):flat (ls.take (i+1))=flat (ls.take i)++(ls[i]?.getD default).2:=by
 unfold flat
 rw[List.take_add_one,List.getElem?_eq_getElem h,List.flatMap_append];simp
theorem kT (ls:List (Bool×List Bu)) (i:Nat):(flat (ls.take i)).length<=(flat ls).length:=by
 have:flat ls=flat (ls.take i)++flat (ls.drop i):=by unfold flat;rw[←List.flatMap_append,List.take_append_drop]
 rw[this,List.length_append];omega
theorem gc (a b:List Bu):CE a++CE b=CE (a++b):=by simp[CE]
def Nf (l:List Bu):List (D×D):=l.map fun x=>(EX x,.int .i64 1)
theorem SW (l:List Bu):(Nf l).length=l.length:=by simp[Nf]
theorem Jz (a b:Int):Dl (.int .i64 a) (.int .i64 b)=decide (a=b):=by
 by_cases h:a=b<;>simp[Dl,E3,Fe,D.cells,h]
theorem Zi (x y:Bu):Dl (EX x) (EX y)=decide (x=y):=by
 obtain⟨a,b,c⟩:=x
 obtain⟨d,e,f⟩:=y
 by_cases h1:a=d<;>by_cases h2:b=e<;>by_cases h3:c=f<;>simp[EX,c_,Dl,E3,Fe,D.cells,h1,h2,h3]
theorem jD {A:List Bu}{x:Bu}(h:∀y,y∈A->y.id≠x.id):Qo (.int .i64 x.id) (EX x) (Wa A)=Wa (A++[x]):=by
 induction A with
 |nil=>rfl
 |cons y A ih =>
  have hy:=h y (by simp)
  have:=ih fun z hz=>h z (by simp[hz])
  simp only[Wa,List.map_cons,List.cons_append,Qo,Jz] at this ⊢
  rw[decide_eq_false (fun e=>hy e.symm),if_neg (by simp),this]
theorem gj {A:List Bu}{x:Bu}(h:∀y,y∈A->y≠x):CG (EX x) (Nf A)=none/\D6 (EX x) (Nf A)=none/\CG (EX x) (Nf A++[(EX x,.int .i64 0)])=some (.int .i64 0):=by
 induction A with
 |nil=>simp[Nf,CG,D6,Zi]
 |cons y A ih =>
  have hy:=h y (by simp)
  obtain⟨h1,h2,h3⟩:=ih fun z hz=>h z (by simp[hz])
  simp only[Nf] at h1 h2 h3
  have hne:decide (x=y)=false:=decide_eq_false fun e=>hy e.symm
  simp[Nf,CG,D6,Zi,hne,h1,h2,h3]
theorem oS (A:List Bu) (x:Bu):(Nf A++[(EX x,D.int .i64 0)])[A.length]?=some (EX x,.int .i64 0)/\(Nf A++[(EX x,D.int .i64 0)]).set A.length (EX x,.int .i64 1)=Nf (A++[x]):=by
 have:=SW A
 constructor
 ·rw[←this];simp
 ·rw[←this];simp[Nf]
theorem Xe {l:List Bu}{n:Nat}(h:n<l.length):l.take n++[l[n]?.getD default]=l.take (n+1):=by
 rw[List.take_add_one,List.getElem?_eq_getElem h];rfl
theorem XY (x:Int):Gt TP (.int .i64 x)=true:=by simp[TP,Gt,D.isAgg,D4,D.cells]
attribute [local congr] Bm BC BD Ak Bn Aq Au Ar Aj Af AY AU Am AZ BR BS BP Ao An Ad Ap Ae BH BZ Ab BM BN BI BJ BL BK BF BG BB Bq BE Al Aa Ba Ag Av BQ
attribute [local irreducible] IntKind.wrap A0 Option.getD and or
theorem dZ (n:Nat) (hn:0<n) (hl:n<=1000000):Ft E0 Cl [] [.d (.list true []),.d (.int .i64 n)] [(22,2,.row 65 3 false [])] (.own 22 2):=by
 refine CT Df Ay (by simp) (by simp[Jv,Dt,C_]) (by simp[It]) fun hwf hwo=>?_
 rw[Cg];unfold CZ
 have h0:¬(n:Int)<0:=by omega
 have h1:(0:Int)<(n:Int):=by omega
 have hw:IntKind.i64.wrap (n:Int)=(n:Int):=Bd _ (by omega)
 have hw2:IntKind.i64.wrap ((n:Int)-0)=(n:Int):=by rw[Int.sub_zero];exact hw
 have hu:C0 3 (List.replicate n (D.agg [D.int IntKind.i64 0,D.int IntKind.i64 0,D.int IntKind.i64 0]))=True:=eq_true fun x hx=>by rw[List.eq_of_mem_replicate hx];rfl
 (try (simp -implicitDefEqProofs only[go_sem,h0,h1,hw,WD n _ hn,List.length_replicate,du,dt,hw2,Int.sub_zero,hu]));repeat' first|(with_reducible first|exact tI|refine aI ?_ ?_|intro _)|((first|with_reducible refine Gs ?_ ?_<;>intro _)<;>try (simp -implicitDefEqProofs only[go_sem,h0,h1,hw,WD n _ hn,List.length_replicate,du,dt,hw2,Int.sub_zero,hu]))|simp (disch:=omega) only[IE]
 all_goals first|omega|rfl|(simp at *;done)|trace_state
theorem da:Cc E0 Cl [.list true [],.int .i64 0] (.list true []):=by
 refine AN Df Ay (by simp) fun hwf=>?_
 rw[AP];unfold CZ
 refine' Pb @du @dt @Int.sub_zero
 all_goals first|omega|rfl|(simp at *;done)|trace_state
theorem XO (b:Bool) (ls:List (Bool×List Bu)) (hl:ls.length<=10) (ht:(flat ls).length<=1000):Cc E0 Dg [.list b (og ls)] (.list (flat ls).isEmpty (CE (flat ls))):=by
 refine AN FK Ay (by simp) fun hwf=>?_
 rw[AP];unfold Dc
 have hfl:=kT ls
 have hfs:=fun i h=>@n9 ls i h
 have hft:flat (ls.take ls.length)=flat ls:=by rw[List.take_length]
 have hf0:flat (ls.take 0)=[]:=rfl
 refine' K5 @FU
 all_goals try exact Ca
 refine B4 (α:=Nat×Int) (l0:=?l1) (m0:=?m1) (fun x=>[(11,.d (.int .i64 (x.1:Int))),(3,.d (.int .i64 x.2))]) (fun x=>[]) (fun x=>x.1<=ls.length/\x.2=((flat (ls.take x.1)).length:Int)) (fun x=>ls.length-x.1) (0,0) ?h01 ?he1 ?he21 ?hI1 ?step1
 case h01=>(simp -implicitDefEqProofs only[go_sem,FU];rfl)
 case he1=>rfl
 case he21=>rfl
 case' step1=>(rintro⟨i,n⟩ hI;try dsimp only at hI)
 case' hI1=>try dsimp only
 ·exact⟨by omega,by rw[hf0];rfl⟩
 ·obtain⟨h1,h2⟩:=hI
  by_cases hi:i<ls.length
  ·have hi':(i:Int)<(ls.length:Int):=by omega
   have wi:=Mi (i:=i) (by omega)
   have hs:=hfs i hi
   have ha:=hfl i;have hb:=hfl (i+1)
   obtain⟨p,hp⟩:∃p,ls[i]?.getD default=p:=⟨_,rfl⟩
   rw[hp] at hs
   have hsl:(flat (ls.take (i+1))).length=(flat (ls.take i)).length+p.2.length:=by rw[hs,List.length_append]
   have wn:IntKind.i64.wrap (n+(p.2.length:Int))=((flat (ls.take (i+1))).length:Int):=by rw[Bd _ (by omega)];omega
   have hn0:¬((flat (ls.take (i+1))).length:Int)<0:=by omega
   refine' PB @FU @R_ @PY hi' hi hp wi (aI wn (aI hn0 @Bo))
   all_goals first|omega|rfl|exact .inl True.intro|trace_state
  ·have hi':¬(i:Int)<(ls.length:Int):=by omega
   have hie:i=ls.length:=by omega
   rw[hie,hft] at h2
   by_cases h0:(flat ls).length=0
   ·have hfe:flat ls=[]:=List.eq_nil_of_length_eq_zero h0
    have hal:∀i,i<=ls.length->flat (ls.take i)=[]:=fun i _=>List.eq_nil_of_length_eq_zero (by have:=hfl i;omega)
    have hn0:n=0:=by omega
    have c1:=da
    rw[hfe]
    refine' Gb @FU hi' hn0;repeat' first|(refine' CQ;(first|refine AG c1 ?_)<;>refine' Gb @FU hi' hn0)|refine' CP|done
    all_goals try exact Ca
    refine B4 (α:=Nat) (l0:=?l2) (m0:=?m2) (fun x=>[(27,.d (.int .i64 (x:Int)))]) (fun x=>[(33,.row 65 3 true [])]) (fun x=>x<=ls.length) (fun x=>ls.length-x) 0 ?h02 ?he2 ?he22 ?hI2 ?step2
    case h02=>(simp -implicitDefEqProofs only[go_sem,FU];rfl)
    case he2=>rfl
    case he22=>rfl
    case' step2=>(rintro i hI2;try dsimp only at hI2)
    case' hI2=>try dsimp only
    ·omega
    ·by_cases hi2:i<ls.length
     ·have hi2':(i:Int)<(ls.length:Int):=by omega
      have wi:=Mi (i:=i) (by omega)
      have hs:=hfs i hi2
      rw[hal i (by omega),hal (i+1) (by omega),List.nil_append] at hs
      have hp0:CE (ls[i]?.getD default).2=[]:=by rw[←hs];rfl
      refine' PB @FU @R_ @PY hi2' hi2 hp0 wi @Bo
      all_goals first|omega|rfl|exact .inl True.intro|trace_state
     ·have hi2':¬(i:Int)<(ls.length:Int):=by omega
      refine' Pc @FU hi2'
      all_goals first|omega|rfl|exact .inl True.intro|trace_state
   ·have c1:=dZ (flat ls).length (by omega) (by omega)
    have he:(flat ls).isEmpty=false:=by
     cases hq:flat ls with
     |nil=>rw[hq] at h0;exact absurd rfl h0
     |cons _ _=>rfl
    refine' Gb @FU hi' h2;repeat' first|(refine' CQ;(first|refine Cz ([]) ([((22,2),(24,1))]) (c1) ?_)<;>refine' Gb @FU hi' h2)|refine' CP|done
    all_goals try exact Ca
    refine B4 (α:=Nat×(List Bu)) (l0:=?l3) (m0:=?m3) (fun x=>[(27,.d (.int .i64 (x.1:Int)))]) (fun x=>[(24,.row 65 3 false (CE x.2))]) (fun x=>x.1<=ls.length/\x.2=flat (ls.take x.1)) (fun x=>ls.length-x.1) (0,[]) ?h03 ?he3 ?he23 ?hI3 ?step3
    case h03=>(simp -implicitDefEqProofs only[go_sem,FU];rfl)
    case he3=>rfl
    case he23=>rfl
    case' step3=>(rintro⟨i,A⟩ hI3;try dsimp only at hI3)
    case' hI3=>try dsimp only
    ·exact⟨by omega,hf0.symm⟩
    ·obtain⟨g1,g2⟩:=hI3
     by_cases hi2:i<ls.length
     ·have hi2':(i:Int)<(ls.length:Int):=by omega
      have wi:=Mi (i:=i) (by omega)
      have hs:=hfs i hi2
      have ha:=hfl i
      obtain⟨p,hp⟩:∃p,ls[i]?.getD default=p:=⟨_,rfl⟩
      rw[hp,←g2] at hs
      have hb:=hfl (i+1)
      have hAl:A.length<=1000:=by rw[g2];omega
      have hlt:A.length+p.2.length<=1073741824:=by
       have:(A++p.2).length<=1000:=by rw[←hs];omega
       rw[List.length_append] at this;omega
      refine' PB @FU @R_ @PY hi2' hi2 hp wi (aI @Bo (aI @ES @gc))
      all_goals first|omega|exact hs.symm|exact .inl True.intro|trace_state
     ·have hi2':¬(i:Int)<(ls.length:Int):=by omega
      have hie:i=ls.length:=by omega
      rw[hie,hft] at g2
      refine' fY @FU hi2' he g2
      all_goals first|omega|rfl|exact .inl True.intro|trace_state
end
section
theorem mJ (x:Bu):Gt oc (.agg [.int .i64 x.id,.int .i64 x.st,.int .i64 x.sec])=true:=by simp[oc,Gt,D.isAgg,D4,D.cells]
theorem RJ:D.nilmap.one=true:=rfl
theorem Zw:(AV.d .nilmap).cells?=some [.d .nilmap]:=rfl
attribute [local congr] Bm BC BD Ak Bn Aq Au Ar Aj Af AY AU Am AZ BR BS BP Ao An Ad Ap Ae BH BZ Ab BM BN BI BJ BL BK BF BG BB Bq BE Al Aa Ba Ag Av BQ
attribute [local irreducible] IntKind.wrap A0 Option.getD and or
theorem Qc (b:Bool) (ls:List (Bool×List Bu)) (hl:ls.length<=10) (ht:(flat ls).length<=1000) (hd:(flat ls).Pairwise fun a b=>a.id≠b.id) :
  Cc E0 Jf [.list b (og ls)] (.agg [.map TP (Wa (flat ls)),.map oc (Nf (flat ls))]):=by
 have c1:=XO b ls hl ht
 obtain⟨l,hfl⟩:∃l,flat ls=l:=⟨_,rfl⟩
 rw[hfl] at c1 ht hd ⊢
 refine AN NS Ay (by simp) fun hwf=>?_
 rw[AP];unfold IL
 refine' Gb @Bo @RJ @Zw;repeat' first|(refine' CQ;(first|refine AG c1 ?_)<;>refine' Gb @Bo @RJ @Zw)|refine' CP|done
 all_goals try exact Ca
 refine B4 (α:=Nat×(List Bu)) (l0:=?l1) (m0:=?m1) (fun x=>[(12,.d (.int .i64 (x.1:Int)))]) (fun x=>[(6,.map TP (Wa x.2)),(7,.map oc (Nf x.2))]) (fun x=>x.1<=l.length/\x.2=l.take x.1) (fun x=>l.length-x.1) (0,[]) ?h01 ?he1 ?he21 ?hI1 ?step1
 case h01=>(simp -implicitDefEqProofs only[go_sem,Bo,RJ,Zw];rfl)
 case he1=>rfl
 case he21=>rfl
 case' step1=>(rintro⟨i,A⟩ hI;try dsimp only at hI)
 case' hI1=>try dsimp only
 ·exact⟨by omega,rfl⟩
 ·obtain⟨h1,h2⟩:=hI
  by_cases hi:i<l.length
  ·have hi':(i:Int)<(l.length:Int):=by omega
   have wi:=Mi (i:=i) (by omega)
   have hs:=Xe hi
   have hAl:A.length=i:=by rw[h2,List.length_take];omega
   have hne:∀y,y∈A->y.id≠(l[i]?.getD default).id:=fun y hy=>by
    rw[h2] at hy
    obtain⟨j,hj,rfl⟩:=List.getElem_of_mem hy
    rw[List.length_take] at hj
    rw[List.getElem_take,List.getElem?_eq_getElem hi,Option.getD_some]
    rw[List.pairwise_iff_getElem] at hd
    exact hd j i (by omega) hi (by omega)
   obtain⟨x,hx⟩:∃x,l[i]?.getD default=x:=⟨_,rfl⟩
   rw[hx] at hs hne
   rw[←h2] at hs
   have s1:=jD hne
   obtain⟨s2,s3,s4⟩:=gj (A:=A) (x:=x) (fun y hy e=>hne y hy (by rw[e]))
   obtain⟨s5,s6⟩:=oS A x
   rw[EA,EB] at s1 s2 s3 s4 s5 s6
   have s7:=SW A
   have t1:=XY x.id
   have t2:=mJ x
   have w1:IntKind.i64.wrap (0+1)=1:=Bd _ (by omega)
   rw[hAl] at s5 s6
   refine' PB @Bo @ES @Em hi' hi hx @EA (aI @EB (aI s1 (aI s2 (aI s3 (aI s4 (aI s5 (aI s6 (aI s7 (aI hAl (aI t1 (aI t2 (aI w1 (aI wi (aI @RJ @Zw))))))))))))))
   all_goals first|omega|exact⟨(i+1,A++[x]),by rw[s6],⟨by show i+1<=l.length;omega,hs⟩,by show l.length-(i+1)<l.length-i;omega⟩|trace_state
  ·have hi':¬(i:Int)<(l.length:Int):=by omega
   have hA:A=l:=by rw[h2,show i=l.length by omega,List.take_length]
   refine' Pb @Bo hi' hA
   all_goals first|omega|rfl|exact .inl True.intro|trace_state
end
end Go.Pw
