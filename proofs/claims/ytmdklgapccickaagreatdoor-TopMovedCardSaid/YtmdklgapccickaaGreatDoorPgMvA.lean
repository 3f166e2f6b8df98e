/- Part. -/
import Derived.Test.YtmdklgapccickaaGreatDoorPwInt
import Derived.Test.YtmdklgapccickaaGreatDoorMvPC
import Derived.Test.YtmdklgapccickaaGreatDoorPwYa
set_option linter.all false
open List renaming getElem?_eq_getElem->aa,range->ax,filter_cons->az,mem_range->cw,length_append->c8,getElem?_set_self->ea,getElem?_set_ne->eb,pairwise_iff_getElem->et,getElem_of_mem->f0,mem_cons->hY,getElem_mem->i5,nodup_nil->i7,replicate->j0,take_add_one->j4,flatMap_append->kk,length_replicate->la,eq_nil_of_length_eq_zero->lb
open Option renaming getD_some->ay,getD->ck
open Int renaming sub_zero->cp
open Nat renaming mul_add_mod_self_right->hU,mod_eq_of_lt->hX
open Go Go.Pw Go.Proofs
namespace Go.Pw
set_option maxRecDepth 100000
set_option maxHeartbeats 6400000
structure BK where
 id:Int
 st:Int
 sec:Int
deriving DecidableEq
instance:Inhabited BK:=⟨⟨0,0,0⟩⟩
def gU(x:BK):List D:=[.int .i64 x.id,.int .i64 x.st,.int .i64 x.sec]
def EJ(x:BK):D:=.agg (gU x)
theorem Dy(x:BK):gU x=[.int .i64 x.id,.int .i64 x.st,.int .i64 x.sec]:=rfl
theorem Dx(x:BK):EJ x=.agg (gU x):=rfl
def BO(l:List BK):List D:=l.map EJ
theorem A_(l:List BK):(BO l).length=l.length:=by simp[BO]
theorem EI(l:List BK):Cc 3 (BO l)=True:=KU fun _=>rfl
theorem El{l:List BK}{i:Nat}{A:D->Prop}:Au (BO l)[i]? A=(i<l.length/\A (EJ (l[i]?.getD default))):=GN
theorem dL(l:List BK)(i:Nat)(x:BK):(BO l).set i (.agg [.int .i64 x.id,.int .i64 x.st,.int .i64 x.sec])=BO (l.set i x):=by simp[BO,EJ,gU,List.map_set]
theorem l5(l:List BK)(x:BK):BO l++[.agg [.int .i64 x.id,.int .i64 x.st,.int .i64 x.sec]]=BO (l++[x]):=by simp[BO,EJ,gU]
def eM(l:List BK)(j:Nat):List BK:=(l.set (j+1) (l[j]?.getD default)).set j (l[j+1]?.getD default)
theorem XP:∀(j:Nat) (l:List BK),j+1<l.length->(eM l j).Perm l
 |0,a::b::t,_=>by simpa[eM]using List.Perm.swap a b t
 |j+1,a::t,h=>by
  have:=XP j t (by simpa using h);simpa[eM]using List.Perm.cons a this
 |0,[],h=>by simp at h
 |0,[_],h=>by simp at h
 |j+1,[],h=>by simp at h
theorem ae{l:List BK}{j:Nat}(h:j+1<l.length)(p:Nat):(eM l j)[p]?.getD default=if p=j then l[j+1]?.getD default else if p=j+1 then l[j]?.getD default else l[p]?.getD default:=by
 unfold eM
 by_cases h1:p=j
 ·subst h1;rw[if_pos rfl,ea (by simp;omega),ay]
 ·rw[if_neg h1,eb (Ne.symm h1)]
  by_cases h2:p=j+1
  ·subst h2;rw[if_pos rfl,ea (by omega),ay]
  ·rw[if_neg h2,eb (Ne.symm h2)]
structure zz (k:BK->Int) (l0 l:List BK) (i:Nat):Prop where
 perm:l.Perm l0
 ord:∀p q,p<q->q<i->k (l[p]?.getD default)<=k (l[q]?.getD default)
structure mh (k:BK->Int) (l0 l:List BK) (i j:Nat):Prop where
 perm:l.Perm l0
 ord:∀p q,p<q->q<=i->q≠j->k (l[p]?.getD default)<=k (l[q]?.getD default)
theorem AAO(k:BK->Int)(l:List BK):zz k l l 1:=⟨.refl _,fun p q h1 h2=>by omega⟩
theorem kz{k l0 l i}(h:zz k l0 l i):mh k l0 l i i:=⟨h.perm,fun p q h1 h2 e=>h.ord p q h1 (by omega)⟩
theorem AAy{k l0 l i}(h:mh k l0 l i 0):zz k l0 l (i+1):=⟨h.perm,fun p q h1 h2=>h.ord p q h1 (by omega) (by omega)⟩
theorem pn{k l0 l i j}(h:mh k l0 l i (j+1))(m:¬k (l[j+1]?.getD default)<k (l[j]?.getD default)):zz k l0 l (i+1):=⟨h.perm,fun p q h1 h2=>by
 by_cases e:q=j+1
 ·subst e
  by_cases hp:p=j
  ·subst hp;omega
  ·have:=h.ord p j (by omega) (by omega) (by omega);omega
 ·exact h.ord p q h1 (by omega) e⟩
theorem pm{k l0 l i j}(h:mh k l0 l i (j+1))(n:k (l[j+1]?.getD default)<k (l[j]?.getD default))(r:j+1<=i)(hi:i<l.length):mh k l0 (eM l j) i j where
 perm:=(XP j l (by omega)).trans h.perm
 ord:=fun p q h1 h2 o=>by
  rw[ae (by omega),ae (by omega),if_neg o]
  by_cases e:q=j+1
  ·subst e;rw[if_pos rfl]
   by_cases hp:p=j
   ·rw[if_pos hp];omega
   ·rw[if_neg hp,if_neg (by omega)];exact h.ord p j (by omega) (by omega) (by omega)
  ·rw[if_neg e]
   by_cases hp:p=j
   ·rw[if_pos hp];exact h.ord (j+1) q (by omega) h2 e
   ·rw[if_neg hp]
    by_cases m:p=j+1
    ·rw[if_pos m];exact h.ord j q (by omega) h2 e
    ·rw[if_neg m];exact h.ord p q h1 h2 e
theorem nR{k:BK->Int}{l0 l s:List BK}(h:zz k l0 l l.length)(hp:s.Perm l0)(hs:s.Pairwise fun a b=>k a<k b):l=s:=by
 have hl:l.Pairwise fun a b=>k a<=k b:=by
  rw[et];intro i j hi m o;have:=h.ord i j o m;rwa [aa hi,aa m]at this
 have e:∀a b,a∈s->b∈s->k a=k b->a=b:=fun a b n hb p=>by
  obtain⟨i,hi,rfl⟩:=f0 n;obtain⟨j,m,rfl⟩:=f0 hb;rw[et]at hs
  by_cases h1:i<j
  ·have:=hs i j hi m h1;omega
  ·by_cases h2:j<i
   ·have:=hs j i m hi h2;omega
   ·have:i=j:=by omega
    subst this;rfl
 refine List.Perm.eq_of_pairwise (le:=fun a b=>k a<=k b) (fun a b n hb h1 h2=>?_) hl (hs.imp fun h=>Int.le_of_lt h) (h.perm.trans hp.symm);exact e a b (hp.symm.mem_iff.1 (h.perm.mem_iff.1 n)) hb (Int.le_antisymm h1 h2)
def Gc(N:Nat):List Nat->Nat
 |[]=>0
 |i::l=>Gc N l*(N+1)+(i+1)
theorem TF{N:Nat}:∀{a b:List Nat},(∀i,i∈a->i<N)->(∀i,i∈b->i<N)->Gc N a=Gc N b->a=b
 |[],[],_,_,_=>rfl
 |[],j::b,_,_,h=>by rw[Gc,Gc]at h;omega
 |i::a,[],_,_,h=>by rw[Gc,Gc]at h;omega
 |i::a,j::b,ha,hb,h=>by
  have hi:=ha i (by simp);have e:=hb j (by simp);rw[Gc,Gc]at h;have h1:(Gc N a*(N+1)+(i+1))%(N+1)=(Gc N b*(N+1)+(j+1))%(N+1):=by rw[h]
  rw[hU,hU,hX (by omega),hX (by omega)]at h1
  have h2:Gc N a=Gc N b:=by
   have:Gc N a*(N+1)=Gc N b*(N+1):=by omega
   exact Nat.eq_of_mul_eq_mul_right (by omega) this
  rw[TF (fun x hx=>ha x (by simp[hx])) (fun x hx=>hb x (by simp[hx])) h2,show i=j by omega]
structure dv (N:Nat) (l:List Nat):Prop where
 lt:∀i,i∈l->i<N
 nd:l.Nodup
def AAH(vs:List (List D)):Us where
 nx n x m:=∃l i,n=Gc vs.length l/\dv vs.length (i::l)/\vs[i]?=some x/\m=Gc vs.length (i::l)
 fin n:=∃l,n=Gc vs.length l/\dv vs.length l/\∀i,i<vs.length->i∈l
theorem mR{N:Nat}{l:List Nat}(h:dv N l)(e:∀i,i<N->i∈l):l.Perm (ax N):=by
 refine(List.perm_ext_iff_of_nodup h.nd List.nodup_range).2 fun i=>?_
 rw[cw];exact⟨h.lt i,e i⟩
theorem iw{α:Type}{p q:α->Bool}(h:∀x,q x=true->p x=true):∀{l:List α}{x:α},x∈l->p x=true->q x=false->(l.filter q).length<(l.filter p).length
 |[],x,hx,_,_=>by cases hx
 |y::l,x,hx,h1,h2=>by
  have e:(l.filter q).length<=(l.filter p).length:=by
   clear hx
   induction l with
   |nil=>simp
   |cons z l ih =>
    rw[az,az]
    cases hq:q z with
    |true=>rw[h z hq];simp;exact ih
    |false=>cases hp:p z<;>simp<;>omega
  rw[az,az];rcases hY.1 hx with rfl|hx
  ·rw[h1,h2];simp;omega
  ·have:=iw h hx h1 h2
   cases hq:q y with
   |true=>rw[h y hq];simpa using this
   |false=>cases hp:p y<;>simp<;>omega
def xm(N:Nat)(seen:List Nat):Nat:=((ax N).filter fun i=>!seen.contains i).length
theorem sR{N i:Nat}{seen:List Nat}(hi:i<N)(hs:seen.contains i=false):xm N (seen++[i])<xm N seen :=
 iw (fun x hx=>by simp at hx ⊢;exact hx.1) (cw.2 hi) (by rw[hs];rfl) (by simp)
section
attribute [local irreducible] IntKind.wrap Ah ck and or
theorem Yo(x y:BK)(h1:0<=x.id/\x.id<=1000000)(h2:0<=y.id/\y.id<=1000000):BU E0 CA [EJ x,EJ y] (.int .i64 (x.id-y.id)):=by
 refine AL H_ AR (by simp) fun e=>?_
 have w:IntKind.i64.wrap (x.id-y.id)=x.id-y.id:=Am _ (by omega);rw[AN];unfold FO;refine' LV @Dx @Dy w
 all_goals first|rfl
theorem kw(x y:BK)(h1:0<=x.st/\x.st<=1000000)(h2:0<=y.st/\y.st<=1000000):BU E0 Fm [EJ x,EJ y] (.int .i64 (x.st-y.st)):=by
 refine AL S3 AR (by simp) fun e=>?_
 have w:IntKind.i64.wrap (x.st-y.st)=x.st-y.st:=Am _ (by omega);rw[AN];unfold MN;refine' LV @Dx @Dy w
 all_goals first|rfl
theorem RB(l s:List BK)(hl:l.length<=12)(k:BK->Int)(f:FuncId)(hb:BA E0.P f=true)(cf:∀x y,x∈l->y∈l->BU E0 f [EJ x,EJ y] (.int .i64 (k x-k y)))(hp:s.Perm l)(hs:s.Pairwise fun a b=>k a<k b) :
  Eg E0 BV [(900000,0,.row 65 3 false (BO l))] [.own 900000 0,.d (.int .i64 0),.d (.int .i64 l.length),.d (.fn f [])] [(900000,0,.row 65 3 false (BO s))] (.tup []):=by
 refine BW Bt AR (by simp) (by simp[I_,CG,Cr,AY.isHist]) (by simp[Fh,Cr]) fun γ β=>?_
 rw[Bh];unfold BT;have w1:IntKind.i64.wrap (0+1)=1:=Am _ (by omega);have w0:IntKind.i64.wrap 1=1:=Am _ (by omega);refine' MX w1 w0
 all_goals try exact BL
 refine AZ (α:=Nat×(List BK)) (fun x=>[(8,.d (.int .i64 (x.1:Int)))]) (fun x=>[(900000,.row 65 3 false (BO x.2))]) (fun x=>(x.1=1\/x.1<=l.length)/\1<=x.1/\zz k l x.2 x.1) (fun x=>l.length-x.1) (1,l) ?hI1 ?step1
 case' step1=>(rintro⟨i,L⟩ hI;try dsimp only at hI)
 case' hI1=>try dsimp only
 ·exact⟨.inl rfl,by omega,AAO k l⟩
 ·obtain⟨h1,h2,N⟩:=hI;have hL:L.length=l.length:=N.perm.length_eq
  by_cases hi:i<l.length
  ·have B:(i:Int)<(l.length:Int):=by omega
   have X:=HE (i:=i) (by omega);refine' HM B
   all_goals try exact BL
   refine AZ (α:=Nat×(List BK)) (fun x=>[(9,.d (.int .i64 (x.1:Int)))]) (fun x=>[(900000,.row 65 3 false (BO x.2))]) (fun x=>x.1<=i/\mh k l x.2 i x.1) (fun x=>x.1) (i,L) ?hI2 ?step2
   case' step2=>(rintro⟨j,M⟩ hI2;try dsimp only at hI2)
   case' hI2=>try dsimp only
   ·exact⟨Nat.le_refl _,kz N⟩
   ·obtain⟨j1,J⟩:=hI2;have Y:M.length=l.length:=J.perm.length_eq;rcases j with _|j
    ·have r:=AAy J;refine' HM X
     all_goals first|omega|exact r
    ·have S:IntKind.i64.wrap (((j+1:Nat):Int)-1)=(j:Int):=by rw[Am _ (by omega)];omega
     have t:((j+1:Nat):Int)<(M.length:Int):=by omega
     have u:(j:Int)<(M.length:Int):=by omega
     have n:j+1<M.length:=by omega
     have m:j<M.length:=by omega
     have e:0<((j+1:Nat):Int):=by omega
     have O:M[j+1]?.getD default∈l:=J.perm.mem_iff.1 (by rw[aa n,ay];exact i5 n);have R:M[j]?.getD default∈l:=J.perm.mem_iff.1 (by rw[aa m,ay];exact i5 m);have o:=fun h=>pm J h j1 (by omega)
     have z:=fun h=>pn J h
     have U:eM M j=(M.set (j+1) (M[j]?.getD default)).set j (M[j+1]?.getD default):=rfl;rw[U]at o;obtain⟨x,hx⟩:∃x,M[j+1]?.getD default=x:=⟨_,rfl⟩
     obtain⟨y,G⟩:∃y,M[j]?.getD default=y:=⟨_,rfl⟩
     rw[hx]at O z;rw[G]at R z;simp only[hx,G]at o z;have c1:=cf x y O R
     by_cases A:k x-k y<0
     ·have o:=o (by omega);have T:(j:Int)<((M.set (j+1) y).length:Int):=by simp;omega
      have Z:j<(M.set (j+1) y).length:=by simp;omega
      refine' EP t u n m e S hx (aI G (aI hb (aI A (aI @A_ (aI @EI (aI @El (aI @Dx (aI @Dy @dL))))))));repeat' first|(refine' BJ;(first|refine AF c1 ?_)<;>refine' EP t u n m e S hx (aI G (aI hb (aI A (aI @A_ (aI @EI (aI @El (aI @Dx (aI @Dy @dL)))))))))|refine' BI|done
      all_goals first|omega|exact .inl True.intro|exact T|exact Z|exact o
     ·have r:=z (by omega);refine' EP t u n m e S hx (aI G (aI hb (aI A (aI X (aI @A_ (aI @EI (aI @El (aI @Dx @Dy))))))));repeat' first|(refine' BJ;(first|refine AF c1 ?_)<;>refine' EP t u n m e S hx (aI G (aI hb (aI A (aI X (aI @A_ (aI @EI (aI @El (aI @Dx @Dy)))))))))|refine' BI|done
      all_goals first|omega|exact r
  ·have B:¬(i:Int)<(l.length:Int):=by omega
   have Y:L=s:=by
    rcases h1 with h1|h1
    ·refine nR (k:=k) (l0:=l) ⟨N.perm,fun p q h5 h6=>by omega⟩ hp hs
    ·have:i=L.length:=by omega
     rw[this]at N;exact nR N hp hs
   refine' MX B Y
   all_goals first|omega|exact Y|rfl
end
section
theorem Iv(l:List BK):MA (BO l)=true:=by
 unfold MA BO;rw[List.all_map,List.all_eq_true];exact fun x _=>rfl
theorem QS:BA E0.P AU=true:=by kernel_rfl
theorem XJ:BF.noR=true:=by rfl
theorem GC:BA E0.P CA=true:=by kernel_rfl
theorem JO:BA E0.P Fm=true:=by kernel_rfl
theorem em{E:CW}{rs o els s}:tD E rs o els .ret s=(GL E s rs (fun _=>True)/\Xy els (s.V.ob o)):=rfl
theorem SX{E:CW}{rs o els s}:tD E rs o els .normal s=(GL E s rs (fun _=>True)/\Xy els (s.V.ob o)):=rfl
theorem yG{els g e n st}:Xy els (some (g,.hist e n st))=(e=els/\(st=true\/els.fin n)):=rfl
theorem ku{n:Int}(h:0<=n/\n<=12):∃b,xJ[(IntKind.u8.wrap n).toNat]?=some b:=by
 have:n=0\/n=1\/n=2\/n=3\/n=4\/n=5\/n=6\/n=7\/n=8\/n=9\/n=10\/n=11\/n=12:=by omega
 rcases this with rfl|rfl|rfl|rfl|rfl|rfl|rfl|rfl|rfl|rfl|rfl|rfl|rfl
 ·exact⟨0,by kernel_rfl⟩
 ·exact⟨1,by kernel_rfl⟩
 ·exact⟨2,by kernel_rfl⟩
 ·exact⟨2,by kernel_rfl⟩
 ·exact⟨3,by kernel_rfl⟩
 ·exact⟨3,by kernel_rfl⟩
 ·exact⟨3,by kernel_rfl⟩
 ·exact⟨3,by kernel_rfl⟩
 ·exact⟨4,by kernel_rfl⟩
 ·exact⟨4,by kernel_rfl⟩
 ·exact⟨4,by kernel_rfl⟩
 ·exact⟨4,by kernel_rfl⟩
 ·exact⟨4,by kernel_rfl⟩
abbrev TP:LW:=(false,[some .i64])
def Z8(l:List BK):List (D×D):=l.map fun x=>(.int .i64 x.id,EJ x)
theorem Y'(l:List BK):(Z8 l).length=l.length:=by simp[Z8]
theorem uw{l:List BK}{i:Nat}(h:i<l.length):(Z8 l)[i]?=some (.int .i64 (l[i]?.getD default).id,EJ (l[i]?.getD default)):=by simp[Z8,h]
def l8(l:List BK):List (List D):=l.map fun x=>[EJ x]
theorem F_(l:List BK):(l8 l).length=l.length:=by simp[l8]
theorem dM{l:List BK}{i:Nat}(h:i<l.length):(l8 l)[i]?=some [EJ (l[i]?.getD default)]:=by simp[l8,h]
def pick(l:List BK)(p:List Nat):List BK:=p.reverse.map fun i=>l[i]?.getD default
theorem kK(l:List BK)(i:Nat)(p:List Nat):pick l (i::p)=pick l p++[l[i]?.getD default]:=by simp[pick]
theorem kL{l:List BK}{p:List Nat}(h:dv l.length p)(j:∀i,i<l.length->i∈p):(pick l p).Perm l:=by
 have h1:p.reverse.Perm (ax l.length):=(List.reverse_perm p).trans (mR h j);have h2:=h1.map fun i=>l[i]?.getD default
 have m:(ax l.length).map (fun i=>l[i]?.getD default)=l:=by
  apply List.ext_getElem
  ·simp
  ·intro i n e;simp[e]
 rw[m]at h2;exact h2
attribute [local irreducible] IntKind.wrap Ah ck and or
theorem PR(n:Int)(hn:0<=n/\n<=12):∃k,BU E0 Mh [.int .u64 n] (.int .i64 k):=by
 obtain⟨b,h⟩:=ku hn;have k1:¬4294967296<=n:=by omega
 have k2:¬65536<=n:=by omega
 have i:¬256<=n:=by omega
 have c1:BU E0 KB [.int .u64 n] (.int .i64 (IntKind.i64.wrap (0+IntKind.i64.wrap ((UInt8.toNat b:Nat):Int)))):=by
  refine AL Oz AR (by simp) fun e=>?_
  rw[AN];unfold Iy;refine' Ta h k1 k2 i
  all_goals first|omega|rfl|exact .inl True.intro
 refine⟨IntKind.i64.wrap (0+IntKind.i64.wrap ((UInt8.toNat b:Nat):Int)),?_⟩;refine AL RX AR (by simp) fun e=>?_
 rw[AN];unfold Kh;refine' Fp;repeat' first|(refine' BJ;(first|refine AF c1 ?_)<;>refine' Fp)|refine' BI|done
 all_goals first|omega|rfl|exact .inl True.intro
theorem yf(l s:List BK)(hl:l.length<=12)(k:BK->Int)(f:FuncId)(hb:BA E0.P f=true)(o:∀x y,x∈l->y∈l->BU E0 f [EJ x,EJ y] (.int .i64 (k x-k y)))(hp:s.Perm l)(hs:s.Pairwise fun a b=>k a<k b)(m:Int) :
  Eg E0 Ce [(900000,0,.row 65 3 false (BO l))] [.own 900000 0,.d (.int .i64 0),.d (.int .i64 l.length),.d (.int .i64 m),.d (.fn f [])] [(900000,0,.row 65 3 false (BO s))] (.tup []):=by
 have c1:=RB l s hl k f hb o hp hs;have h:IntKind.i64.wrap ((l.length:Int)-0)=(l.length:Int):=by rw[Am _ (by omega)];omega
 have k1:(l.length:Int)<=12:=by omega
 refine BW DX AR (by simp) (by simp[I_,CG,Cr,AY.isHist]) (by simp[Fh,Cr]) fun n j=>?_
 rw[Bh];unfold CR;refine' FP
 all_goals try exact BL
 refine AZ (α:=Int) (fun x=>[(1,.d (.int .i64 x))]) (fun x=>[]) (fun x=>x=0) (fun x=>x.toNat) 0 ?hI2 ?step2
 case' step2=>(rintro i e;try dsimp only at e)
 case' hI2=>try dsimp only
 ·subst e;refine' FS h k1;repeat' first|(refine' BJ;(first|refine B_ ([((900000,0),(900000,0))]) ([((900000,0),(900000,0))]) (c1) ?_)<;>refine' FS h k1)|refine' BI|done
  all_goals first|omega|rfl|exact .inl True.intro
theorem wy(l s:List BK)(hl:l.length<=12)(k:BK->Int)(f:FuncId)(hb:BA E0.P f=true)(j:∀x y,x∈l->y∈l->BU E0 f [EJ x,EJ y] (.int .i64 (k x-k y)))(hp:s.Perm l)(hs:s.Pairwise fun a b=>k a<k b) :
  Eg E0 B6 [(900000,0,.row 65 3 false (BO l))] [.own 900000 0,.d (.fn f [])] [(900000,0,.row 65 3 false (BO s))] (.tup []):=by
 obtain⟨m,c1⟩:=PR (l.length:Int) (by omega);have c2:=yf l s hl k f hb j hp hs m;have e:IntKind.u64.wrap (l.length:Int)=(l.length:Int):=aF _ (by omega);refine BW Cx AR (by simp) (by simp[I_,CG,Cr,AY.isHist]) (by simp[Fh,Cr]) fun i h=>?_
 rw[Bh];unfold B2;refine' FS e @A_;repeat' first|(refine' BJ;(first|refine AF c1 ?_|refine B_ ([((900000,0),(900000,0))]) ([((900000,0),(900000,0))]) (c2) ?_)<;>refine' FS e @A_)|refine' BI|done
 all_goals first|omega|rfl|exact .inl True.intro
theorem jn(l s:List BK)(hl:l.length<=12)(k:BK->Int)(f:FuncId)(hb:BA E0.P f=true)(n:∀x y,x∈l->y∈l->BU E0 f [EJ x,EJ y] (.int .i64 (k x-k y)))(hp:s.Perm l)(hs:s.Pairwise fun a b=>k a<k b) :
  Eg E0 Cl [(900000,0,.row 65 3 false (BO l))] [.own 900000 0,.d (.int .i64 l.length),.d (.fn f [])] [(900000,0,.row 65 3 false (BO s))] (.tup []):=by
 have c1:=RB l s hl k f hb n hp hs;have k1:¬(20:Int)<=(l.length:Int):=by omega
 have k2:¬(20:Int)<(l.length:Int):=by omega
 refine BW Df AR (by simp) (by simp[I_,CG,Cr,AY.isHist]) (by simp[Fh,Cr]) fun m j=>?_
 rw[Bh];unfold Cb;refine' FP
 all_goals try exact BL
 refine AZ (α:=Int) (fun x=>[(7,.d (.int .i64 x))]) (fun x=>[]) (fun x=>x=0) (fun x=>x.toNat) 0 ?hI3 ?step3
 case' step3=>(rintro i h;try dsimp only at h)
 case' hI3=>try dsimp only
 ·subst h;refine' J6 k1;repeat' first|(refine' BJ;(first|refine B_ ([((900000,0),(900000,0))]) ([((900000,0),(900000,0))]) (c1) ?_)<;>refine' J6 k1)|refine' BI|done
  all_goals try exact BL
  refine AZ (α:=Int) (fun x=>[(1000,.d (.int .i64 x))]) (fun x=>[]) (fun x=>x=0) (fun x=>x.toNat) 0 ?hI4 ?step4
  case' step4=>(rintro i e;try dsimp only at e)
  case' hI4=>try dsimp only
  ·subst e;refine' HM k2
   all_goals first|omega|rfl|exact .inl True.intro
theorem me(l s:List BK)(hl:l.length<=12)(k:BK->Int)(f:FuncId)(hb:BA E0.P f=true)(h:∀x y,x∈l->y∈l->BU E0 f [EJ x,EJ y] (.int .i64 (k x-k y)))(hp:s.Perm l)(hs:s.Pairwise fun a b=>k a<k b) :
  Eg E0 Bi [(900000,0,.row 65 3 false (BO l))] [.own 900000 0,.d (.fn f [])] [(900000,0,.row 65 3 false (BO s))] (.tup []):=by
 have c1:=jn l s hl k f hb h hp hs;refine BW CK AR (by simp) (by simp[I_,CG,Cr,AY.isHist]) (by simp[Fh,Cr]) fun e i=>?_
 rw[Bh];unfold Bf;refine' J6 @A_;repeat' first|(refine' BJ;(first|refine B_ ([((900000,0),(900000,0))]) ([((900000,0),(900000,0))]) (c1) ?_)<;>refine' J6 @A_)|refine' BI|done
 all_goals first|omega|rfl|exact .inl True.intro
theorem Tr(kvs:List (D×D)):BU E0 CN [.map TP kvs] (.fn AU [.ptr [.map TP kvs]]):=by
 refine AL D0 AR (by simp) fun e=>?_
 rw[AN];unfold CD;refine' HM @QS
 all_goals first|omega|rfl|exact .inl True.intro
theorem jV(l:List BK):WY E0 AU [] [.ptr [.map TP (Z8 l)]] (AAH (l8 l)):=by
 refine Le B8 AR XJ (by simp) fun r _=>?_
 rw[Bh];unfold BF;refine' FP
 all_goals try exact BL
 refine AZ (α:=(List Nat)) (fun x=>[]) (fun x=>[(6,.mitD TP (Z8 l) x),(900000,.hist (AAH (l8 l)) (Gc l.length x.reverse) false)]) (fun x=>dv l.length x.reverse) (fun x=>xm l.length x) [] ?hI5 ?step5
 case' step5=>(rintro seen o;try dsimp only at o)
 case' hI5=>try dsimp only
 ·exact⟨fun i h=>(by cases h),i7⟩
 ·refine' FP;refine o6 (fun i hi hs=>?_) (fun m=>?_)
  ·rw[Y']at hi;have e:(seen++[i]).getLast?=some i:=by simp
   have hg:=uw hi;have q:=sR hi hs;have n:(seen++[i]).reverse=i::seen.reverse:=by simp
   have hc:dv l.length (i::seen.reverse):=⟨fun j p=>by
    rcases hY.1 p with rfl|p
    ·exact hi
    ·exact o.lt j p,List.nodup_cons.2 ⟨by simpa using hs,o.nd⟩⟩
   obtain⟨x,hx⟩:∃x,l[i]?.getD default=x:=⟨_,rfl⟩
   rw[hx]at hg;have hv:=dM hi;rw[hx]at hv;refine' Ta e hg @Dx @Dy;refine⟨_,⟨seen.reverse,i,by rw[F_],by rw[F_];exact hc,hv,rfl⟩,?_,?_⟩
   ·refine' FP
    all_goals first|omega|exact⟨seen++[i],by rw[n,F_],by rw[n];exact hc,q⟩
   ·refine' LV @em @SX @yG
    all_goals first|omega|rfl|exact .inl True.intro
  ·refine' LV @em @SX @yG
   all_goals first|omega|rfl|exact .inr ⟨_,by rw[F_],by rw[F_];exact o,fun i hi=>by simpa using m i (by rw[Y'];rw[F_]at hi;exact hi)⟩
theorem jW:WY E0 AU [] [.ptr [.map TP []]] (([]:List (List D)):Us):=by
 refine Le B8 AR XJ (by simp) fun h _=>?_
 rw[Bh];unfold BF;refine' FP
 all_goals try exact BL
 refine AZ (α:=Nat) (fun x=>[]) (fun x=>[(6,.mitD TP [] [])]) (fun x=>x=0) (fun x=>x) 0 ?hI6 ?step6
 case' step6=>(rintro i j;try dsimp only at j)
 case' hI6=>try dsimp only
 ·refine' FP;refine o6 (fun i hi hs=>?_) (fun e=>?_)
  ·exact absurd hi (by simp)
  ·refine' LV @em @SX @yG
   all_goals first|omega|rfl|exact .inl True.intro|exact .inr rfl
theorem Z5:BU E0 B4 [.list true [],.fn AU [.ptr [.map TP []]]] (.list true []):=by
 refine AL Cs AR (by simp) fun j=>?_
 rw[AN];unfold Bv;refine' FP;refine iT (α:=Bool) (so:=KW) (l0:=?l1) (m0:=?m1) (fun x=>[(5000002,.cells [.d (.list x [])])]) (fun n x=>x=true) (fun e x=>False) true (jW) QS ?h01 ?he1 (by simp[PC.noR]) ?hw1 ?hI1 ?step1 ?hend1 ?hjump1
 case h01=>(simp -implicitDefEqProofs only[go_sem];(try simp only[or_true,true_or,true_and]);first|rfl|(refine⟨.inl ⟨_,rfl,rfl⟩,?_⟩<;>rfl)|exact⟨.inl ⟨⟨_,rfl,rfl⟩,rfl⟩,rfl⟩|exact⟨.inr ⟨rfl,rfl⟩,rfl⟩)
 case he1=>rfl
 case hw1=>simp -implicitDefEqProofs only[go_sem]
 case' hjump1=>(rintro e x h;try dsimp only at h)
 case' hend1=>(rintro x h;try dsimp only at h)
 case' step1=>(rintro n x ds i h;try dsimp only at h)
 case' hI1=>try dsimp only
 ·rw[List.getElem?_nil]at i;cases i
 ·subst h;refine' FP
  all_goals first|omega|rfl|exact .inl True.intro
theorem XG:BU E0 Dd [.fn AU [.ptr [.map TP []]]] (.list true []):=by
 have c1:=Z5;refine AL Em AR (by simp) fun e=>?_
 rw[AN];unfold DU;refine' Fp;repeat' first|(refine' BJ;(first|refine AF c1 ?_)<;>refine' Fp)|refine' BI|done
 all_goals first|omega|rfl|exact .inl True.intro
end
section
def apD(l:List BK):List Nat->List (Nat×Nat×AY)
 |[]=>[(5000002,0,.cells [.d (.list true [])])]
 |i::p=>[(11,0,.row 65 3 false (BO (pick l (i::p)))),(5000002,0,.cells [.own 11 0])]
theorem xb(l:List BK):apD l []=[(5000002,0,.cells [.d (.list true [])])]:=rfl
theorem jL(l:List BK)(i:Nat)(p:List Nat):apD l (i::p)=[(11,0,.row 65 3 false (BO (pick l (i::p)))),(5000002,0,.cells [.own 11 0])]:=rfl
def AAX(l:List BK)(nl:Bool)(L:List D):Prop:=nl=false/\∃s,L=BO s/\s.Perm l
theorem Yz{E rs ety es P s}:oI E rs ety es P .ret s=GL E s rs (VJ s.V ety es P):=rfl
theorem P0{E rs ety es P s}:oI E rs ety es P .normal s=GL E s rs (VJ s.V ety es P):=rfl
theorem Yy{V ety es P o g}:VJ V ety es P [.own o g]=((∃nl l,V.get o g=some (.row ety es nl l)/\P nl l)\/V.get o g=some (.rowP ety es P)):=rfl
theorem xa{t:Nat}{x:D}{sl:Nat->AV}{V:AO}{KS:BG->Prop}:mV (.d x) t sl V KS=KS ⟨sl,V⟩:=rfl
theorem ye(l:List BK)(i:Nat):pick l [i]=[l[i]?.getD default]:=rfl
theorem og(l:List BK)(p:List Nat):(pick l p).length=p.length:=by simp[pick]
theorem zd(x:BK):BO [x]=[.agg [.int .i64 x.id,.int .i64 x.st,.int .i64 x.sec]]:=rfl
theorem rZ{N:Nat}{p:List Nat}(h:dv N p):p.length<=N:=by
 have:=List.Nodup.length_le_of_subset h.nd (l₂:=ax N) (fun i hi=>cw.2 (h.lt i hi));simpa using this
attribute [local irreducible] IntKind.wrap Ah ck and or
theorem mo(l:List BK)(h0:0<l.length)(hl:l.length<=1000):gq E0 B4 [.list true [],.fn AU [.ptr [.map TP (Z8 l)]]] 65 3 (AAX l):=by
 refine VM Cs AR (by simp) fun A=>?_
 rw[AN];unfold Bv;refine' FP
 all_goals try exact BL
 refine iU (α:=List Nat) (fun p=>⟨BH (apD l p),fun _=>1⟩) (fun n p=>n=Gc l.length p/\dv l.length p) (fun e x=>False) [] (sl1:=Dm ?l7) ?h07 (fun _=>rfl) QS (by simp[PC.noR]) (jV l) ?hw7 ⟨rfl,fun i h=>(by cases h),i7⟩ ?step7 ?hend7 (fun e x h=>h.elim)
 case h07 =>
  simp -implicitDefEqProofs only[go_sem];simp only[or_true,true_or,true_and];rfl
 case hw7=>simp -implicitDefEqProofs only[go_sem,xb]
 case step7 =>
  rintro n p ds k ⟨q,i,hn,hc,hv,rfl⟩ ⟨rfl,hp⟩;rw[F_]at hn hc;have y:=TF hp.lt (fun j z=>hc.lt j (List.mem_cons_of_mem _ z)) hn;subst y;have hi:i<l.length:=hc.lt i (by simp);rw[dM hi]at hv;obtain⟨x,hx⟩:∃x,l[i]?.getD default=x:=⟨_,rfl⟩
  rw[hx]at hv;simp only[Option.some.injEq]at hv;subst hv;refine⟨rfl,?_⟩;have B:=rZ hp;rcases p with _|⟨j,p⟩
  ·have m:[.agg [.int .i64 x.id,.int .i64 x.st,.int .i64 x.sec]]=BO (pick l [i]):=by rw[ye,hx,zd]
   refine' LV @xb @Dx @Dy
   all_goals first|omega|exact⟨[i],by rw[jL,←m],by rw[F_],hc⟩
  ·have o:BO (pick l (j::p))++[.agg [.int .i64 x.id,.int .i64 x.st,.int .i64 x.sec]]=BO (pick l (i::j::p)):=by rw[l5,←hx,←kK]
   have u:(pick l (j::p)).length<=1073741823:=by rw[og];omega
   refine' bq @jL @Dx @Dy @A_ @EI
   all_goals first|exact u|omega|exact⟨i::j::p,by rw[jL,←o],by rw[F_],hc⟩
 case hend7 =>
  rintro n p ⟨q,hn,hc,t⟩ ⟨rfl,hp⟩;rw[F_]at hn hc t;have y:=TF hp.lt hc.lt hn;subst y;have r:=kL hp t;rcases p with _|⟨j,p⟩
  ·exact absurd (t 0 h0) (by simp)
  ·refine' Ta @jL @Yz @P0 @Yy
   all_goals first|omega|exact .inl ⟨_,_,rfl,rfl,_,rfl,r⟩
theorem gy(l:List BK)(h0:0<l.length)(hl:l.length<=1000):gq E0 Dd [.fn AU [.ptr [.map TP (Z8 l)]]] 65 3 (AAX l):=by
 have c1:=mo l h0 hl;refine VM Em AR (by simp) fun e=>?_
 rw[AN];unfold DU;refine' FA @Yz @P0 @Yy;repeat' first|(refine' BJ;(first|refine jF (c1) (by simp[Cr]) ?_)<;>refine' FA @Yz @P0 @Yy)|refine' BI|done
 all_goals first|omega|exact .inr True.intro
theorem dq(l s:List BK)(h0:0<l.length)(hl:l.length<=12)(k:BK->Int)(f:FuncId)(hb:BA E0.P f=true)(j:∀x y,x∈l->y∈l->BU E0 f [EJ x,EJ y] (.int .i64 (k x-k y)))(hp:s.Perm l)(hs:s.Pairwise fun a b=>k a<k b) :
  mf E0 C9 [.fn AU [.ptr [.map TP (Z8 l)]],.fn f []] 65 3 false (BO s):=by
 have c1:=gy l h0 (by omega);refine Pu EB AR (by simp) fun i=>?_
 rw[AN];unfold Cz;refine' Fp;repeat' first|(refine' BJ;(first|refine jF (c1) (by simp[Cr]) ?_)<;>refine' Fp)|refine' BI|done
 rintro nl L ⟨rfl,q,rfl,e⟩;have m:=e.length_eq;have c2:=wy q s (by omega) k f hb (fun x y hx h=>j x y (e.mem_iff.1 hx) (e.mem_iff.1 h)) (hp.trans e.symm) hs;refine' Fp;repeat' first|(refine' BJ;(first|refine B_ ([((900000,0),(7,1))]) ([((900000,0),(7,1))]) (c2) ?_)<;>refine' Fp)|refine' BI|done
 all_goals first|omega|rfl|exact .inl True.intro
theorem Zu(f:FuncId):BU E0 C9 [.fn AU [.ptr [.map TP []]],.fn f []] (.list true []):=by
 have c1:=XG;obtain⟨k,n⟩:=PR 0 (by omega);have w00:IntKind.i64.wrap (0-0)=0:=Am _ (by omega);have w01:IntKind.i64.wrap (0+1)=1:=Am _ (by omega);have l:IntKind.i64.wrap 0=0:=Am _ (by omega);have j:IntKind.u64.wrap 0=0:=aF _ (by omega)
 have c2:BU E0 BV [.list true [],.int .i64 0,.int .i64 0,.fn f []] (.tup []):=by
  refine AL Bt AR (by simp) fun e=>?_
  rw[AN];unfold BT;refine' HM w01
  all_goals try exact BL
  refine AZ (α:=Int) (fun x=>[(8,.d (.int .i64 x))]) (fun x=>[]) (fun x=>x=1) (fun x=>x.toNat) 1 ?hI1 ?step1
  case' step1=>(rintro i h;try dsimp only at h)
  case' hI1=>try dsimp only
  ·subst h;refine' FP
   all_goals first|omega|rfl|exact .inl True.intro
 have m:BU E0 Ce [.list true [],.int .i64 0,.int .i64 0,.int .i64 k,.fn f []] (.tup []):=by
  refine AL DX AR (by simp) fun e=>?_
  rw[AN];unfold CR;refine' FP
  all_goals try exact BL
  refine AZ (α:=Int) (fun x=>[(1,.d (.int .i64 x))]) (fun x=>[]) (fun x=>x=0) (fun x=>x.toNat) 0 ?hI2 ?step2
  case' step2=>(rintro i hI2;try dsimp only at hI2)
  case' hI2=>try dsimp only
  ·subst hI2;refine' FS w00 l;repeat' first|(refine' BJ;(first|refine AF c2 ?_)<;>refine' FS w00 l)|refine' BI|done
   all_goals first|omega|rfl|exact .inl True.intro
 have o:BU E0 B6 [.list true [],.fn f []] (.tup []):=by
  refine AL Cx AR (by simp) fun e=>?_
  rw[AN];unfold B2;refine' J6 j;repeat' first|(refine' BJ;(first|refine AF n ?_|refine AF m ?_)<;>refine' J6 j)|refine' BI|done
  all_goals first|omega|rfl|exact .inl True.intro
 refine AL EB AR (by simp) fun e=>?_
 rw[AN];unfold Cz;refine' J6 @xa;repeat' first|(refine' BJ;(first|refine AF c1 ?_|refine AF o ?_)<;>refine' J6 @xa)|refine' BI|done
 all_goals first|omega|rfl|exact .inl True.intro
theorem Zt(f:FuncId):BU E0 Bi [.list true [],.fn f []] (.tup []):=by
 have w01:IntKind.i64.wrap (0+1)=1:=Am _ (by omega)
 have c2:BU E0 BV [.list true [],.int .i64 0,.int .i64 0,.fn f []] (.tup []):=by
  refine AL Bt AR (by simp) fun e=>?_
  rw[AN];unfold BT;refine' HM w01
  all_goals try exact BL
  refine AZ (α:=Int) (fun x=>[(8,.d (.int .i64 x))]) (fun x=>[]) (fun x=>x=1) (fun x=>x.toNat) 1 ?hI3 ?step3
  case' step3=>(rintro i j;try dsimp only at j)
  case' hI3=>try dsimp only
  ·subst j;refine' FP
   all_goals first|omega|rfl|exact .inl True.intro
 have l:BU E0 Cl [.list true [],.int .i64 0,.fn f []] (.tup []):=by
  refine AL Df AR (by simp) fun e=>?_
  rw[AN];unfold Cb;refine' FP
  all_goals try exact BL
  refine AZ (α:=Int) (fun x=>[(7,.d (.int .i64 x))]) (fun x=>[]) (fun x=>x=0) (fun x=>x.toNat) 0 ?hI4 ?step4
  case' step4=>(rintro i h;try dsimp only at h)
  case' hI4=>try dsimp only
  ·subst h;refine' Fp;repeat' first|(refine' BJ;(first|refine AF c2 ?_)<;>refine' Fp)|refine' BI|done
   all_goals try exact BL
   refine AZ (α:=Int) (fun x=>[(1000,.d (.int .i64 x))]) (fun x=>[]) (fun x=>x=0) (fun x=>x.toNat) 0 ?hI5 ?step5
   case' step5=>(rintro i hI3;try dsimp only at hI3)
   case' hI5=>try dsimp only
   ·subst hI3;refine' FP
    all_goals first|omega|rfl|exact .inl True.intro
 refine AL CK AR (by simp) fun e=>?_
 rw[AN];unfold Bf;refine' Fp;repeat' first|(refine' BJ;(first|refine AF l ?_)<;>refine' Fp)|refine' BI|done
 all_goals first|omega|rfl|exact .inl True.intro
abbrev xo:LW:=(true,[some .i64,some .i64,some .i64])
theorem MW(l s:List BK)(c:List (D×D))(h0:0<l.length)(hl:l.length<=12)(e:∀x,x∈l->0<=x.id/\x.id<=1000000)(hp:s.Perm l)(hs:s.Pairwise fun a b=>a.id<b.id) :
  mf E0 EM [.agg [.map TP (Z8 l),.map xo c]] 65 3 false (BO s):=by
 have c1:=Tr (Z8 l);have c2:=dq l s h0 hl (·.id) CA GC (fun x y hx i=>Yo x y (e x hx) (e y i)) hp hs;refine Pu Fi AR (by simp) fun h=>?_
 rw[AN];unfold D4;refine' J6 @GC;repeat' first|(refine' BJ;(first|refine AF c1 ?_|refine Un (c2) (by simp[Cr]) (by first|exact primL_ints _|exact primL_map (fun _=>rfl) _|exact Iv _|exact primL_zps _|simp[MA,D.cells,D.prim]) ?_)<;>refine' J6 @GC)|refine' BI|done
 all_goals first|omega|rfl|exact Iv _|exact .inl True.intro
theorem Sl(c:List (D×D)):BU E0 EM [.agg [.map TP [],.map xo c]] (.list true []):=by
 have c1:=Tr [];have c2:=Zu CA;refine AL Fi AR (by simp) fun e=>?_
 rw[AN];unfold D4;refine' J6 @GC;repeat' first|(refine' BJ;(first|refine AF c1 ?_|refine AF c2 ?_)<;>refine' J6 @GC)|refine' BI|done
 all_goals first|omega|rfl|exact .inl True.intro
end
section
theorem m7:IntKind.i64.wrap 0=0:=by decide
theorem m6:IntKind.i64.wrap (0-((0:Nat):Int))=0:=by decide
theorem bU{α:Type}(n:Nat)(x:α)(h:0<n):(j0 n x).isEmpty=false:=by cases n with
 |zero=>omega
 |succ n=>rfl
def zw(ls:List (Bool×List BK)):List D:=ls.map fun p=>.list p.1 (BO p.2)
theorem Fs(e:List (Bool×List BK)):(zw e).length=e.length:=by simp[zw]
theorem Va(e:List (Bool×List BK)):Cc 1 (zw e)=True:=KU fun _=>rfl
theorem Sj{e:List (Bool×List BK)}{i:Nat}{A:D->Prop}:Au (zw e)[i]? A=(i<e.length/\A (.list (e[i]?.getD default).1 (BO (e[i]?.getD default).2))):=GN (f:=fun p:Bool×List BK=>D.list p.1 (BO p.2))
def flat(ls:List (Bool×List BK)):List BK:=ls.flatMap (·.2)
theorem zQ{e:List (Bool×List BK)}{i:Nat}(h:i<e.length):flat (e.take (i+1))=flat (e.take i)++(e[i]?.getD default).2:=by
 unfold flat;rw[j4,aa h,kk];simp
theorem vH(e:List (Bool×List BK))(i:Nat):(flat (e.take i)).length<=(flat e).length:=by
 have:flat e=flat (e.take i)++flat (e.drop i):=by unfold flat;rw[←kk,List.take_append_drop]
 rw[this,c8];omega
theorem qz(a b:List BK):BO a++BO b=BO (a++b):=by simp[BO]
def Nz(l:List BK):List (D×D):=l.map fun x=>(EJ x,.int .i64 1)
theorem R1(l:List BK):(Nz l).length=l.length:=by simp[Nz]
theorem Ll(a b:Int):D2 (.int .i64 a) (.int .i64 b)=decide (a=b):=by
 by_cases h:a=b<;>simp[D2,Fl,GM,D.cells,h]
theorem ik(x y:BK):D2 (EJ x) (EJ y)=decide (x=y):=by
 obtain⟨a,b,c⟩:=x;obtain⟨d,e,f⟩:=y
 by_cases h1:a=d<;>by_cases h2:b=e<;>by_cases h:c=f<;>simp[EJ,gU,D2,Fl,GM,D.cells,h1,h2,h]
theorem tB{A:List BK}{x:BK}(h:∀y,y∈A->y.id≠x.id):T0 (.int .i64 x.id) (EJ x) (Z8 A)=Z8 (A++[x]):=by
 induction A with
 |nil=>rfl
 |cons y A ih =>
  have j:=h y (by simp);have:=ih fun z i=>h z (by simp[i])
  simp only[Z8,List.map_cons,List.cons_append,T0,Ll]at this ⊢;rw[decide_eq_false (fun e=>j e.symm),if_neg (by simp),this]
theorem rH{A:List BK}{x:BK}(h:∀y,y∈A->y≠x):C0 (EJ x) (Nz A)=none/\FH (EJ x) (Nz A)=none/\C0 (EJ x) (Nz A++[(EJ x,.int .i64 0)])=some (.int .i64 0):=by
 induction A with
 |nil=>simp[Nz,C0,FH,ik]
 |cons y A ih =>
  have l:=h y (by simp);obtain⟨h1,h2,i⟩:=ih fun z j=>h z (by simp[j])
  simp only[Nz]at h1 h2 i;have hne:decide (x=y)=false:=decide_eq_false fun e=>l e.symm
  simp[Nz,C0,FH,ik,hne,h1,h2,i]
theorem zg(A:List BK)(x:BK):(Nz A++[(EJ x,D.int .i64 0)])[A.length]?=some (EJ x,.int .i64 0)/\(Nz A++[(EJ x,D.int .i64 0)]).set A.length (EJ x,.int .i64 1)=Nz (A++[x]):=by
 have:=R1 A;constructor
 ·rw[←this];simp
 ·rw[←this];simp[Nz]
theorem eK{l:List BK}{n:Nat}(h:n<l.length):l.take n++[l[n]?.getD default]=l.take (n+1):=by
 rw[j4,aa h];rfl
theorem eD(x:Int):Jo TP (.int .i64 x)=true:=by simp[TP,Jo,D.isAgg,Dk,D.cells]
attribute [local irreducible] IntKind.wrap Ah ck and or
theorem mj(n:Nat)(hn:0<n)(hl:n<=1000000):Eg E0 CU [] [.d (.list true []),.d (.int .i64 n)] [(22,2,.row 65 3 false [])] (.own 22 2):=by
 refine BW DQ AR (by simp) (by simp[I_,CG,Cr]) (by simp[Fh]) fun i j=>?_
 rw[Bh];unfold CF;have h0:¬(n:Int)<0:=by omega
 have h1:(0:Int)<(n:Int):=by omega
 have h:IntKind.i64.wrap (n:Int)=(n:Int):=Am _ (by omega);have e:IntKind.i64.wrap ((n:Int)-0)=(n:Int):=by rw[cp];exact h
 have hu:Cc 3 (j0 n (D.agg [D.int IntKind.i64 0,D.int IntKind.i64 0,D.int IntKind.i64 0]))=True:=eq_true fun x hx=>by rw[List.eq_of_mem_replicate hx];rfl
 (try(simp -implicitDefEqProofs only[go_sem,h0,h1,h,bU n _ hn,la,m7,m6,e,cp,hu]));repeat' first|(with_reducible first|exact tI|refine aI ?_ ?_|intro _)|((first|with_reducible refine GK ?_ ?_<;>intro _)<;>try(simp -implicitDefEqProofs only[go_sem,h0,h1,h,bU n _ hn,la,m7,m6,e,cp,hu]))|simp (disch:=omega)only[Jb]
 all_goals first|omega|rfl|(simp at *;done)
theorem ml:BU E0 CU [.list true [],.int .i64 0] (.list true []):=by
 refine AL DQ AR (by simp) fun e=>?_
 rw[AN];unfold CF;refine' LV @m7 @m6 @cp
 all_goals first|omega|rfl|(simp at *;done)
theorem du(b:Bool)(ls:List (Bool×List BK))(hl:ls.length<=10)(ht:(flat ls).length<=1000):BU E0 DS [.list b (zw ls)] (.list (flat ls).isEmpty (BO (flat ls))):=by
 refine AL FW AR (by simp) fun N=>?_
 rw[AN];unfold DF;have l:=vH ls;have q:=fun i h=>@zQ ls i h
 have u:flat (ls.take ls.length)=flat ls:=by rw[List.take_length]
 have y:flat (ls.take 0)=[]:=rfl;refine' HM @Fs
 all_goals try exact BL
 refine BN (α:=Nat×Int) (l0:=?l1) (m0:=?m1) (fun x=>[(11,.d (.int .i64 (x.1:Int))),(3,.d (.int .i64 x.2))]) (fun x=>[]) (fun x=>x.1<=ls.length/\x.2=((flat (ls.take x.1)).length:Int)) (fun x=>ls.length-x.1) (0,0) ?h01 ?he1 ?he21 ?hI1 ?step1
 case h01=>(simp -implicitDefEqProofs only[go_sem,Fs];rfl)
 case he1=>rfl
 case he21=>rfl
 case' step1=>(rintro⟨i,n⟩ L;try dsimp only at L)
 case' hI1=>try dsimp only
 ·exact⟨by omega,by rw[y];rfl⟩
 ·obtain⟨h1,h2⟩:=L
  by_cases hi:i<ls.length
  ·have j:(i:Int)<(ls.length:Int):=by omega
   have z:=HE (i:=i) (by omega);have hs:=q i hi;have O:=l i;have hb:=l (i+1);obtain⟨p,hp⟩:∃p,ls[i]?.getD default=p:=⟨_,rfl⟩
   rw[hp]at hs;have T:(flat (ls.take (i+1))).length=(flat (ls.take i)).length+p.2.length:=by rw[hs,c8]
   have S:IntKind.i64.wrap (n+(p.2.length:Int))=((flat (ls.take (i+1))).length:Int):=by rw[Am _ (by omega)];omega
   have o:¬((flat (ls.take (i+1))).length:Int)<0:=by omega
   refine' P4 @Fs @Va @Sj j hi hp z (aI S (aI o @A_))
   all_goals first|omega|rfl|exact .inl True.intro
  ·have j:¬(i:Int)<(ls.length:Int):=by omega
   have r:i=ls.length:=by omega
   rw[r,u]at h2
   by_cases h0:(flat ls).length=0
   ·have G:flat ls=[]:=lb h0;have t:∀i,i<=ls.length->flat (ls.take i)=[]:=fun i _=>lb (by have:=l i;omega)
    have o:n=0:=by omega
    have c1:=ml;rw[G];refine' FA @Fs j o;repeat' first|(refine' BJ;(first|refine AF c1 ?_)<;>refine' FA @Fs j o)|refine' BI|done
    all_goals try exact BL
    refine BN (α:=Nat) (l0:=?l2) (m0:=?m2) (fun x=>[(27,.d (.int .i64 (x:Int)))]) (fun x=>[(33,.row 65 3 true [])]) (fun x=>x<=ls.length) (fun x=>ls.length-x) 0 ?h02 ?he2 ?he22 ?hI2 ?step2
    case h02=>(simp -implicitDefEqProofs only[go_sem,Fs];rfl)
    case he2=>rfl
    case he22=>rfl
    case' step2=>(rintro i hI2;try dsimp only at hI2)
    case' hI2=>try dsimp only
    ·omega
    ·by_cases m:i<ls.length
     ·have e:(i:Int)<(ls.length:Int):=by omega
      have z:=HE (i:=i) (by omega);have hs:=q i m;rw[t i (by omega),t (i+1) (by omega),List.nil_append]at hs;have J:BO (ls[i]?.getD default).2=[]:=by rw[←hs];rfl
      refine' P4 @Fs @Va @Sj e m J z @A_
      all_goals first|omega|rfl|exact .inl True.intro
     ·have e:¬(i:Int)<(ls.length:Int):=by omega
      refine' MX @Fs e
      all_goals first|omega|rfl|exact .inl True.intro
   ·have c1:=mj (flat ls).length (by omega) (by omega)
    have U:(flat ls).isEmpty=false:=by
     cases hq:flat ls with
     |nil=>rw[hq]at h0;exact absurd rfl h0
     |cons _ _=>rfl
    refine' FA @Fs j h2;repeat' first|(refine' BJ;(first|refine B_ ([]) ([((22,2),(24,1))]) (c1) ?_)<;>refine' FA @Fs j h2)|refine' BI|done
    all_goals try exact BL
    refine BN (α:=Nat×(List BK)) (l0:=?l3) (m0:=?m3) (fun x=>[(27,.d (.int .i64 (x.1:Int)))]) (fun x=>[(24,.row 65 3 false (BO x.2))]) (fun x=>x.1<=ls.length/\x.2=flat (ls.take x.1)) (fun x=>ls.length-x.1) (0,[]) ?h03 ?he3 ?he23 ?hI3 ?step3
    case h03=>(simp -implicitDefEqProofs only[go_sem,Fs];rfl)
    case he3=>rfl
    case he23=>rfl
    case' step3=>(rintro⟨i,A⟩ hI3;try dsimp only at hI3)
    case' hI3=>try dsimp only
    ·exact⟨by omega,y.symm⟩
    ·obtain⟨X,B⟩:=hI3
     by_cases m:i<ls.length
     ·have e:(i:Int)<(ls.length:Int):=by omega
      have z:=HE (i:=i) (by omega);have hs:=q i m;have O:=l i;obtain⟨p,hp⟩:∃p,ls[i]?.getD default=p:=⟨_,rfl⟩
      rw[hp,←B]at hs;have hb:=l (i+1);have M:A.length<=1000:=by rw[B];omega
      have R:A.length+p.2.length<=1073741824:=by
       have:(A++p.2).length<=1000:=by rw[←hs];omega
       rw[c8]at this;omega
      refine' P4 @Fs @Va @Sj e m hp z (aI @A_ (aI @EI @qz))
      all_goals first|omega|exact hs.symm|exact .inl True.intro
     ·have e:¬(i:Int)<(ls.length:Int):=by omega
      have r:i=ls.length:=by omega
      rw[r,u]at B;refine' Ta @Fs e U B
      all_goals first|omega|rfl|exact .inl True.intro
end
end Go.Pw
