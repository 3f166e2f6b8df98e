/- Part. -/
import Derived.Test.YtmdklgapccickaaGreatDoorPgMvChPh
import Derived.Test.YtmdklgapccickaaGreatDoorPgMvChrFs
import Derived.Test.YtmdklgapccickaaGreatDoorPgMvChcD
import Derived.Test.YtmdklgapccickaaGreatDoorMvChcSpec2
set_option linter.all false
open List renaming range->aa,length_take->ck,getElem?_eq_getElem->cp,range_succ->et,filter_append->f0,mem_range->hU,length->hY,filter_cons->i5,filter_nil->i7,mem_filter->j0,length_append->j4,take_of_length_le->kk,take_add_one->na,append_assoc->ne,getElem?_of_mem->no,getElem?_eq_some_iff->ox,pairwise_lt_range->ro,cons_append->rz,mem_map->r3,getElem?_map->r4
open Bool renaming and_false->ax,false_and->az,true_and->cw,false_eq_true->ea,true_or->r5
open Option renaming getD->ay,getD_some->s7,map_some->uk,map_eq_some_iff->uv
open Nat renaming zero_le->c8,le_refl->eb,min_eq_left->la,sub_self->lb,mul_le_mul->ra,add_mul->rb
open Int renaming toNat_natCast->hX,toNat_of_nonneg->pv,mul_comm->q7
open Array renaming getElem?_eq_getElem->oy
section
open Go Go.Pw Go.Proofs
namespace Go.Pw
set_option maxRecDepth 100000
set_option maxHeartbeats 3200000
theorem GG(e:List (Option Nat)):(Q_ e).length=e.length:=by simp[Q_]
def Xw(sy:List (Option Nat))(k:Nat):List Int:=(Q_ sy).take k++(Yp sy).drop k
theorem ij(e:List (Option Nat))(k:Nat):(Xw e k).length=e.length:=by
 unfold Xw;rw[j4,ck,List.length_drop,GG,Qf];omega
theorem AAr(sy:List (Option Nat)):Xw sy 0=Yp sy:=rfl
theorem ua(sy:List (Option Nat)):Xw sy sy.length=Q_ sy:=by
 unfold Xw;rw[kk (by rw[GG];omega),List.drop_eq_nil_of_le (by rw[Qf];omega),List.append_nil]
theorem uZ(e:List (Option Nat)){k:Nat}(h:k<e.length):(Xw e k)[k]?.getD 0=nV e[k]:=by
 unfold Xw;rw[List.getElem?_append_right (by rw[ck,GG];omega),ck,GG,la (by omega),lb,List.getElem?_drop];simp[Yp,h]
theorem bw(e:List (Option Nat)){k:Nat}(h:k<e.length):Xw e (k+1)=(Q_ e).take k++(((e[k].getD 0:Nat):Int)::(Yp e).drop (k+1)):=by
 unfold Xw;rw[na,ne];congr 1;simp[Q_,h]
theorem bx(e:List (Option Nat)){k:Nat}(h:k<e.length):Xw e k=(Q_ e).take k++(nV e[k]::(Yp e).drop (k+1)):=by
 unfold Xw;rw[List.drop_eq_getElem_cons (by rw[Qf];exact h)];simp[Yp]
theorem pd(e:List (Option Nat)){k s:Nat}(h:k<e.length)(hs:e[k]=some s):Xw e (k+1)=Xw e k:=by
 rw[bw e h,bx e h,hs];rfl
theorem pe(e:List (Option Nat)){k:Nat}(h:k<e.length)(hs:e[k]=none):(Xw e k).set k 0=Xw e (k+1):=by
 rw[bw e h,bx e h,hs];rw[List.set_append_right _ _ (by rw[ck,GG];omega),ck,GG,la (by omega),lb];rfl
def fO(sy:List (Option Nat))(k:Nat):List Nat:=(aa k).filter fun i=>(sy[i]?.getD none).isNone
theorem uQ(sy:List (Option Nat)):fO sy sy.length=mq sy:=rfl
theorem pQ(e:List (Option Nat)){k s:Nat}(h:k<e.length)(hs:e[k]=some s):fO e (k+1)=fO e k:=by
 unfold fO;rw[et,f0];simp[h,hs]
theorem pR(e:List (Option Nat)){k:Nat}(h:k<e.length)(hs:e[k]=none):fO e (k+1)=fO e k++[k]:=by
 unfold fO;rw[et,f0];simp[h,hs]
theorem yy(e:List (Option Nat))(k:Nat):(fO e k).length<=k:=by
 have:=List.length_filter_le (fun i=>(e[i]?.getD none).isNone) (aa k);rw[List.length_range]at this;exact this
theorem pE(l:List Nat)(k:Nat):ni l++[(k:Int)]=ni (l++[k]):=by simp[ni]
theorem uH(l:List Nat):(ni l).length=l.length:=by simp[ni]
def _root_.Go.Pw.D.NOK1:D->Prop
 |.list nl xs=>nl=true->xs=[]
 |_=>True
def _root_.Go.Pw.D.NOK:D->Prop
 |.agg cs=>∀c,c∈cs->c.NOK1
 |d=>d.NOK1
theorem uF{w:World}{fb:Nat->Prop}{d:D}{v:Value}(h:Ar w fb d v):d.NOK1:=by
 cases h with
 |nil=>exact fun _=>rfl
 |empty=>exact fun h=>by cases h
 |list=>exact fun h=>by cases h
 |_=>trivial
theorem yo{w:World}{fb:Nat->Prop}{d:D}{v:Value}(h:Ar w fb d v):d.NOK:=by
 cases h with
 |nil=>exact fun _=>rfl
 |empty=>exact fun h=>by cases h
 |list=>exact fun h=>by cases h
 |agg cs vs hl h1 hh =>
  intro c hc;obtain⟨i,hi⟩:=no hc;have e:i<vs.size:=by rw[hl];exact(ox.1 hi).1
  exact uF (hh i c _ hi (oy e))
 |_=>trivial
theorem Yw{E:CW}{f:FuncId}{ds:List D}{r:D}(h:(∀d,d∈ds->d.NOK)->BU E f ds r):BU E f ds r:=fun w fb vs j hg hl hd =>
 h (fun d e=>by
  obtain⟨i,hi⟩:=no e;have l:i<vs.size:=by rw[hl];exact(ox.1 hi).1
  exact yo (hd i d _ hi (oy l))) w fb vs j hg hl hd
theorem vw{c:Ag}(h:(IU c).NOK)(hm:1<=c.mark.length):c.nm=false:=by
 have h1:=h (.list c.nm (Ad c.mark)) (by simp[dT])
 cases hn:c.nm with
 |false=>rfl
 |true =>
  have h2:Ad c.mark=[]:=h1 hn;have e:=congrArg hY h2;rw[Bq]at e;change c.mark.length=0 at e;omega
theorem uW{nl:Bool}{xs:List Int}(h:(D.list nl (Ad xs)).NOK):nl=true->xs=[]:=fun hn=>by
 have h2:Ad xs=[]:=h hn;have e:=congrArg hY h2;rw[Bq]at e;exact List.length_eq_zero_iff.1 (by simpa using e)
theorem UZ{c:Ag}(h:DN c.L c.P c.Q=true){d:List Int}(e:ao c.L c.P c.Q d=0):(Z6 c.L c.P c.Q d).length=c.syms:=by
 unfold ao at e;rw[if_pos h]at e
 have hs:FL d (c.Q*(c.L-c.P))=true:=by
  cases hs:FL d (c.Q*(c.L-c.P))with
  |true=>rfl
  |false=>rw[hs]at e;simp at e
 unfold Z6;rw[if_pos h,if_pos hs,Lm,Yc];have h2:=YR h;have i:=UX h;have:((c.L.toNat * c.Q.toNat:Nat):Int)=c.Q*c.L:=by push_cast;rw[pv (by omega),pv (by omega),q7]
 omega
theorem gf(c:Ag)(X:List Int){k:Nat}(h:k<X.length):c.flat (X.take k)++c.code.stm (X[k]?.getD 0).toNat=c.flat (X.take (k+1)):=by
 rw[na,cp h];unfold Ag.flat;rw[List.flatMap_append];simp
attribute [local irreducible] IntKind.wrap Ah ay and or
theorem Pk(nl:Bool)(xs:List Int)(hl:xs.length<=1000)(hne:0<xs.length)(e:nl=false):Eg E0 CC [] [.d (.list nl (Ad xs))] [(7,1,.row 3 1 false (Ad xs))] (.own 7 1):=by
 subst e;refine BW CT AR (by simp) (by simp[I_,CG,Cr]) (by simp[Fh]) fun i j=>?_
 rw[Bh];unfold B7;have hn:¬xs=[]:=by intro h;rw[h]at hne;simp at hne
 refine' HM hn
 all_goals first|omega|rfl
theorem QN(c:Ag)(hk:LU c)(h:List (Option Nat))(hl:h.length=c.syms) :
  BU E0 GE [.ptr (YB c (HU c.code)),.list false (Ad (Yp h))] (.tup [.list (fj c h).isEmpty (Ad (fj c h)),.int .i64 (Z9 c h)]):=by
 have hs:=hk.syms;have A:=Qf h;have cC:=Pk false (Yp h) (by omega) (by omega) rfl;have y:(Xw h 0).length=h.length:=ij h 0;refine AL Il AR (by simp) fun z=>?_
 rw[AN];unfold Ff;refine' Fp;repeat' first|(refine' BJ;(first|refine B_ ([]) ([((7,1),(11,0))]) (cC) ?_)<;>refine' Fp)|refine' BI|done
 all_goals try exact BL
 rw[←AAr];refine AZ (α:=Nat×Bool) (fun x=>[(14,.d (.int .i64 (x.1:Int)))]) (fun x=>[(11,.row 3 1 false (Ad (Xw h x.1))),(24,.row 3 1 x.2 (Ad (ni (fO h x.1))))]) (fun x=>x.1<=h.length/\x.2=(fO h x.1).isEmpty) (fun x=>h.length-x.1) (0,true) ?hI1 ?step1
 case' step1=>(rintro⟨k,e⟩ q;try dsimp only at q)
 case' hI1=>try dsimp only
 ·exact⟨c8 _,rfl⟩
 ·obtain⟨k1,k2⟩:=q;change e=(fO h k).isEmpty at k2;have m:=ij h k
  by_cases j:k<h.length
  ·have l:(k:Int)<(h.length:Int):=by omega
   have hg:=uZ h j;have n:=HE (i:=k) (by omega);have u:=yy h k;have o:=uH (fO h k)
   cases hsy:h[k]with
   |none =>
    rw[hsy]at hg;change(Xw h k)[k]?.getD 0=-1 at hg;have h1:=pe h j hsy;have h2:=pR h j hsy;have t:=pE (fO h k) k;have r:false=(fO h k++[k]).isEmpty:=by cases fO h k<;>rfl
    refine' P4 l j hg n m o h1 t
    all_goals try exact BL
    rw[←h2]at r ⊢;exact⟨(k+1,false),rfl,⟨by show k+1<=h.length;omega,r⟩,by show h.length-(k+1)<h.length-k;omega⟩
   |some s =>
    rw[hsy]at hg;change(Xw h k)[k]?.getD 0=(s:Int)at hg;have hne:¬(s:Int)=-1:=by omega
    have h1:=pd h j hsy;have h2:=pQ h j hsy;refine' mA7 l j hg n m o hne
    all_goals try exact BL
    rw[←h2]at k2 ⊢;rw[←h1];exact⟨(k+1,e),rfl,⟨by show k+1<=h.length;omega,k2⟩,by show h.length-(k+1)<h.length-k;omega⟩
  ·have p:k=h.length:=by omega
   subst p;have l:¬(h.length:Int)<((Xw h 0).length:Int):=by omega
   have B:=GG h;have c1:=H0 c (HU c.code) false (Q_ h) hk.seed (by omega) (by omega);have c2:=QJ c.L c.P c.Q false e (DL c.seed (Q_ h)) (ni (mq h)) (by rw[D7];omega);have h1:=ua h;have h2:=uQ h;unfold fj Z9;refine' Gj @Be l h1 h2;repeat' first|(refine' BJ;(first|refine AF c1 ?_|refine AF c2 ?_)<;>refine' Gj @Be l h1 h2)|refine' BI|done
   all_goals first|rfl|skip
theorem G2(c:Ag)(nl:Bool)(d:List Int):BU E0 Ms [IU c,.list nl (Ad d)] (.tup [.list (Wf c d).isEmpty (Ad (Wf c d)),.int .i64 (aG c d)]):=by
 refine Yw fun p=>?_
 have c1:=HZ c;obtain⟨r,hr⟩:∃r,tu c=r:=⟨_,rfl⟩
 rw[hr]at c1;refine AL Ro AR (by simp) fun Z=>?_
 rw[AN];unfold Ky;unfold Wf aG;rcases hok:c.ok with _|_
 ·have:=NU hok;rw[hr]at this;rw[this.1,this.2]at c1;simp only[ea,if_false];refine' FS @Ab @Aa;repeat' first|(refine' BJ;(first|refine AF c1 ?_)<;>refine' FS @Ab @Aa)|refine' BI|done
  all_goals first|rfl|skip
 ·have:=P2 hok;have hk:=J5 hok;have hm:=hk.markl;have hs:=hk.syms;have G:=vw (p _ (by simp)) hm.1;rw[hr]at this;rw[this.1,this.2]at c1;have c2:=QI c.L c.P c.Q nl d;simp only[if_true]
  by_cases h:ao c.L c.P c.Q d=0
  ·have m:=UZ hk.wev h;rw[h]at c2 ⊢;simp only[if_true];unfold Mv;obtain⟨B,q⟩:∃B,Z6 c.L c.P c.Q d=B:=⟨_,rfl⟩
   rw[q]at c2 m ⊢;have M:B.isEmpty=false:=K3 fun e=>by rw[e]at m;simp at m;omega
   rw[M]at c2;have S:=H0 c (HU c.code) false B hk.seed (by omega) (by omega);have T:=KY B c.seed;have N:=D7 B c.seed;obtain⟨X,z⟩:∃X,DL c.seed B=X:=⟨_,rfl⟩
   rw[z]at S T N ⊢;have cM:=Pk c.nm c.mark (by omega) (by omega) G;have hne:(c.mark++c.flat X).isEmpty=false:=K3 fun e=>by have:=congrArg hY e;simp at this;rw[this.1]at hm;simp at hm
   rw[hne];refine' FA @Ab @Aa @Be;repeat' first|(refine' BJ;(first|refine AF c1 ?_|refine AF c2 ?_|refine AF S ?_|refine B_ ([]) ([((7,1),(37,0))]) (cM) ?_)<;>refine' FA @Ab @Aa @Be)|refine' BI|done
   all_goals try exact BL
   have y:c.mark=c.mark++c.flat (X.take 0):=by simp[Ag.flat]
   rw[show Ad c.mark=Ad (c.mark++c.flat (X.take 0)) from congrArg Ad y];refine AZ (α:=Nat) (fun x=>[(42,.d (.int .i64 (x:Int)))]) (fun x=>[(37,.row 3 1 false (Ad (c.mark++c.flat (X.take x))))]) (fun x=>x<=X.length) (fun x=>X.length-x) 0 ?hI2 ?step2
   case' step2=>(rintro k Y;try dsimp only at Y)
   case' hI2=>try dsimp only
   ·exact c8 _
   ·by_cases j:k<X.length
    ·have l:(k:Int)<(X.length:Int):=by omega
     have A:=HE (i:=k) (by omega);have n:=T _ (D6 j);have o:=gf c X j;obtain⟨x,hx⟩:∃x,X[k]?.getD 0=x:=⟨_,rfl⟩
     rw[hx]at n o;have hg:=ah c.code (s:=x.toNat) (by omega);have t:0<=x:=n.1;have O:x<16:=by omega
     have U:=Ir hk.code;have J:=Qc c.code x.toNat;have β:(c.flat (X.take k)).length<=32*20:=by rw[TH,ck];exact ra (by omega) U.2
     have R:=eN hk.code x.toNat;refine' P4 @Be l j A hx t O (aI @X0 (aI hg J))
     all_goals try exact BL
     rw[ne c.mark,o];exact⟨k+1,rfl,j,by omega⟩
    ·have l:¬(k:Int)<(X.length:Int):=by omega
     have u:X.take k=X:=kk (by omega);rw[u];refine' HM l
     all_goals try exact BL
     all_goals first|rfl|skip
  ·rw[if_neg h,if_neg h];obtain⟨B,q⟩:∃B,Z6 c.L c.P c.Q d=B:=⟨_,rfl⟩
   rw[q]at c2;refine' Gj @Ab @Aa @Be h;repeat' first|(refine' BJ;(first|refine AF c1 ?_|refine AF c2 ?_)<;>refine' Gj @Ab @Aa @Be h)|refine' BI|done
   all_goals first|rfl|skip
noncomputable def kJ(c:Ag)(bits:List Int):D:=.tup [.list (iR c bits).isEmpty (Ad (iR c bits)),.int .i64 (oX c bits),.int .i64 (oW c bits)]
theorem AAz{c:Ag}{e:List (Option Nat)}(h:¬Z9 c e=0):fj c e=[]:=by
 unfold Z9 gaE at h;unfold fj zx;split
 ·rename_i h1;rw[if_pos h1]at h;split
  ·rename_i h2;rw[if_pos h2]at h;split
   ·rename_i i;rw[if_pos i]at h
    cases hg:ir c.L.toNat c.P.toNat c.Q.toNat (fs (DL c.seed (Q_ e))) (nt (ni (mq e)))with
    |none=>rfl
    |some r=>rw[hg]at h;exact absurd rfl h
   ·rfl
  ·rfl
 ·rfl
theorem Hb(c:Ag)(nl:Bool)(bits:List Int):BU E0 OQ [IU c,.list nl (Ad bits)] (kJ c bits):=by
 refine Yw fun i=>?_
 have l:=uW (i (.list nl (Ad bits)) (by simp));have c1:=HZ c;obtain⟨r,hr⟩:∃r,tu c=r:=⟨_,rfl⟩
 rw[hr]at c1;refine AL S' AR (by simp) fun m=>?_
 rw[AN];unfold MV kJ iR oX oW;rcases hok:c.ok with _|_
 ·have:=NU hok;rw[hr]at this;rw[this.1,this.2]at c1;simp only[ea,if_false];refine' FS @Ab @Aa;repeat' first|(refine' BJ;(first|refine AF c1 ?_)<;>refine' FS @Ab @Aa)|refine' BI|done
  all_goals first|rfl|skip
 ·have:=P2 hok;have hk:=J5 hok;rw[hr]at this;rw[this.1,this.2]at c1;have c2:=O_ nl bits;simp only[if_true]
  cases hb:Pz bits with
  |false =>
   rw[hb]at c2;simp only[ea,if_false];refine' FS @Ab @Aa;repeat' first|(refine' BJ;(first|refine AF c1 ?_|refine AF c2 ?_)<;>refine' FS @Ab @Aa)|refine' BI|done
   all_goals first|rfl|skip
  |true =>
   rw[hb]at c2;simp only[if_true];have e:=TG c hk nl bits hb l;unfold Ol at e
   cases hf:c.find bits with
   |none =>
    rw[hf]at e;simp only at e ⊢;refine' FS @Ab @Aa;repeat' first|(refine' BJ;(first|refine AF c1 ?_|refine AF c2 ?_|refine AF e ?_)<;>refine' FS @Ab @Aa)|refine' BI|done
    all_goals first|rfl|skip
   |some a =>
    rw[hf]at e;simp only at e ⊢;have j:=QN c hk (c.syL bits a) (UY c bits a)
    by_cases h:Z9 c (c.syL bits a)=0
    ·rw[h]at j ⊢;simp only[if_true];refine' FS @Ab @Aa;repeat' first|(refine' BJ;(first|refine AF c1 ?_|refine AF c2 ?_|refine AF e ?_|refine AF j ?_)<;>refine' FS @Ab @Aa)|refine' BI|done
     all_goals first|rfl|skip
    ·rw[if_neg h];have hl:=AAz h;rw[hl]at j ⊢;refine' FA @Ab @Aa h;repeat' first|(refine' BJ;(first|refine AF c1 ?_|refine AF c2 ?_|refine AF e ?_|refine AF j ?_)<;>refine' FA @Ab @Aa h)|refine' BI|done
     all_goals first|rfl|skip
end Go.Pw
end
section
open Go Go.Pw Go.Proofs
namespace Go.Pw
set_option maxRecDepth 100000
set_option maxHeartbeats 3200000
def lsD(c:GCode)(rest:List Int)(part q:Nat):Nat->Int
 |0=>(part:Int)
 |s+1=>min (lsD c rest part q s) (FI (rest.take part) ((c.stm s).drop q))
def tE(c:Ag)(at_:Nat)(rest:List Int):Nat:=if at_%c.tot<c.mark.length then min rest.length (c.mark.length-at_%c.tot)else min rest.length (c.code.sz-(at_%c.tot-c.mark.length)%c.code.sz)
def ABe(c:Ag)(at_:Nat)(rest:List Int):Int:=if at_%c.tot<c.mark.length then FI (rest.take (tE c at_ rest)) (c.mark.drop (at_%c.tot))else lsD c.code rest (tE c at_ rest) ((at_%c.tot-c.mark.length)%c.code.sz) 16
def apW(c:Ag):Nat->Nat->List Int->Int
 |0,_,_=>0
 |n+1,at_,rest=>if rest=[]then 0 else ABe c at_ rest+apW c n (at_+tE c at_ rest) (rest.drop (tE c at_ rest))
attribute [local irreducible] IntKind.wrap Ah ay and or
end Go.Pw
end
section
open Go Go.Pw Go.Proofs
namespace Go.Pw
set_option maxRecDepth 100000
set_option maxHeartbeats 3200000
def XA(c:Ag):Int:=if c.Q*(c.P/2)=0 then 0 else if c.Q*c.L<=c.Q*(c.P/2)then((c.syms*c.code.sz:Nat):Int)else(c.Q*(c.P/2)-1)*c.code.sz+1
def jG(c:Ag):Int:=if c.ok=true then XA c else 0
theorem xH{L P Q:Int}(h:DN L P Q=true):0<=Q*(P/2)/\Q*(P/2)<=32:=by
 have hb:=YR h;have h1:0<=P/2/\P/2<=4:=by omega
 obtain⟨q,rfl⟩:∃q:Nat,Q=(q:Int):=⟨Q.toNat,by omega⟩
 obtain⟨p,hp⟩:∃p:Nat,P/2=(p:Int):=⟨(P/2).toNat,by omega⟩
 rw[hp]at h1 ⊢;have h2:q*p<=8*4:=ra (by omega) (by omega);have e:(q:Int)*(p:Int)=((q*p:Nat):Int):=by push_cast;rfl
 rw[e];omega
attribute [local irreducible] IntKind.wrap Ah ay and or
theorem R4(c:Ag):BU E0 Mt [IU c] (.tup [.int .i64 (jG c),.int .i64 (RL c)]):=by
 have c1:=HZ c;obtain⟨r,hr⟩:∃r,tu c=r:=⟨_,rfl⟩
 rw[hr]at c1;refine AL Rp AR (by simp) fun t=>?_
 rw[AN];unfold Kz jG;rcases hok:c.ok with _|_
 ·have:=NU hok;rw[hr]at this;rw[this.1,this.2]at c1;rw[this.2];refine' FS @Ab @Aa;repeat' first|(refine' BJ;(first|refine AF c1 ?_)<;>refine' FS @Ab @Aa)|refine' BI|done
  all_goals first|rfl|skip
 ·have:=P2 hok;have hk:=J5 hok;rw[hr]at this;rw[this.1,this.2]at c1;rw[this.2];have cL:=Ha c;have cB:=LG c hk.wev hk.code;have cS:=F1 c (HU c.code) hk.wev;have u:=Ir hk.code;have hb:=YR hk.wev;have l:=xH hk.wev;have j:IntKind.i64.wrap (c.P.tdiv 2)=c.P/2:=by rw[Int.tdiv_eq_ediv_of_nonneg (by omega)];exact Am _ (by omega)
  have i:IntKind.i64.wrap (c.Q*(c.P/2))=c.Q*(c.P/2):=Am _ (by omega);simp only[if_true];unfold XA;obtain⟨h,hh⟩:∃h,c.Q*(c.P/2)=h:=⟨_,rfl⟩
  rw[hh]at i l ⊢
  have n:(h-1)*(c.code.sz:Int)<=31*20:=by
   by_cases h0:0<=h-1
   ·exact Int.mul_le_mul (by omega) (by omega) (by omega) (by omega)
   ·have:h=0:=by omega
    subst this;omega
  have e:h≠0->0<=(h-1)*(c.code.sz:Int):=fun h0=>Int.mul_nonneg (by omega) (by omega)
  have m:IntKind.i64.wrap (h-1)=h-1:=Am _ (by omega)
  by_cases h0:h=0
  ·rw[if_pos h0];have q:IntKind.i64.wrap 0=0:=Am 0 (by omega);refine' EP @Ab @Aa @Be j i q hh h0;repeat' first|(refine' BJ;(first|refine AF c1 ?_)<;>refine' EP @Ab @Aa @Be j i q hh h0)|refine' BI|done
   all_goals first|rfl|skip
  ·rw[if_neg h0];have p:IntKind.i64.wrap ((h-1)*(c.code.sz:Int))=(h-1)*(c.code.sz:Int):=Am _ (by have:=e h0;omega);have o:IntKind.i64.wrap ((h-1)*(c.code.sz:Int)+1)=(h-1)*(c.code.sz:Int)+1:=Am _ (by have:=e h0;omega)
   by_cases h1:c.Q*c.L<=h
   ·rw[if_pos h1];refine' EP @Ab @Aa @Be j i hh h0 h1;repeat' first|(refine' BJ;(first|refine AF c1 ?_|refine AF cL ?_|refine AF cB ?_|refine AF cS ?_)<;>refine' EP @Ab @Aa @Be j i hh h0 h1)|refine' BI|done
    all_goals first|rfl|skip
   ·rw[if_neg h1];refine' EP @Ab @Aa @Be j i hh h0 (aI h1 (aI m (aI p o)));repeat' first|(refine' BJ;(first|refine AF c1 ?_|refine AF cL ?_|refine AF cB ?_|refine AF cS ?_)<;>refine' EP @Ab @Aa @Be j i hh h0 (aI h1 (aI m (aI p o))))|refine' BI|done
    all_goals first|rfl|skip
end Go.Pw
end
section
open Go Go.Pw
namespace Go.Pw
def Gz(f:Nat->Nat)(q:Nat):Nat->Nat->Nat
 |0,_=>0
 |i+1,k=>Gz f q i k+if i%q=k then f i else 0
def Qm(f:Nat->Nat)(q:Nat):Nat->Nat->Nat
 |0,_=>0
 |m+1,k=>Qm f q m k+f (m*q+k)
theorem dQ(f:Nat->Nat){q k:Nat}(hk:k<q)(m:Nat):∀t,t<=q->Gz f q (m*q+t) k=Gz f q (m*q) k+if k<t then f (m*q+k)else 0
 |0,_=>by simp
 |t+1,h=>by
  have ih:=dQ f hk m t (by omega);show Gz f q (m*q+t) k+(if(m*q+t)%q=k then f (m*q+t)else 0)=_;rw[ih,Vq (show t<q by omega)]
  by_cases h1:t=k
  ·subst h1;rw[if_pos rfl,if_neg (by omega),if_pos (by omega)];omega
  ·rw[if_neg h1]
   by_cases h2:k<t
   ·rw[if_pos h2,if_pos (by omega)];rfl
   ·rw[if_neg h2,if_neg (by omega)]
theorem R0(f:Nat->Nat){q k:Nat}(hk:k<q):∀m,Gz f q (m*q) k=Qm f q m k
 |0=>by rw[Nat.zero_mul];rfl
 |m+1=>by
  rw[rb,Nat.one_mul,dQ f hk m q (eb q),if_pos hk,R0 f hk m];rfl
theorem tP{f g h:Nat->Nat}{q m k:Nat}(hk:k<q)(e:∀i,i<m*q->f i=2*g i+h i):Qm f q m k=2*Qm g q m k+Qm h q m k:=by
 induction m with
 |zero=>rfl
 |succ m ih =>
  have h1:=ih fun i hi=>e i (by rw[rb];omega)
  have h2:=e (m*q+k) (Tk hk (by omega));show Qm f q m k+f (m*q+k)=2*(Qm g q m k+g (m*q+k))+(Qm h q m k+h (m*q+k));omega
theorem Y8(mB:Nat->Bool){q:Nat}(k:Nat):∀i,(TZ q k ((aa i).filter mB)).length=Gz (fun i=>if mB i then 1 else 0) q i k
 |0=>rfl
 |i+1=>by
  have ih:=Y8 mB (q:=q) k i;rw[et,f0];show _=Gz _ q i k+if i%q=k then(if mB i then 1 else 0)else 0
  rw[←ih]
  cases hm:mB i with
  |false=>simp[hm]
  |true =>
   simp only[i5,hm,if_true,i7];rw[bo]
   by_cases h:i%q=k
   ·rw[if_pos h,if_pos h];simp
   ·rw[if_neg h,if_neg h];rfl
theorem jA{l q k:Nat}(hk:k<q){a R:List F}{W:Nat->List F}{mB wB:Nat->Bool}(r:∀j,j<l->(W k)[j]?.getD 0≠R[j*q+k]?.getD 0->mB (j*q+k)=false->wB (j*q+k)=true) :
  (P7 l (W k) (Cp l q k R) (TZ q k ((aa (l*q)).filter mB))).length<=Qm (fun i=>if wB i then 1 else 0) q l k:=by
 have n:∀j,j<l->(j∈TZ q k ((aa (l*q)).filter mB)↔mB (j*q+k)=true):=fun j o=>by
  rw[uN hk,j0,hU];exact⟨fun h=>h.2,fun h=>⟨Tk hk o,h⟩⟩
 have hg:∀j,j<l->(Cp l q k R)[j]?.getD 0=R[j*q+k]?.getD 0:=fun j o=>Si j o
 generalize TZ q k ((aa (l*q)).filter mB)=mk at *;generalize Cp l q k R=b at *;unfold P7
 have:∀m,m<=l->((aa m).filter fun j=>decide ((W k)[j]?.getD 0≠b[j]?.getD 0) && !mk.contains j).length<=Qm (fun i=>if wB i then 1 else 0) q m k:=by
  intro m
  induction m with
  |zero=>intro _;exact eb 0
  |succ m ih =>
   intro hm;have p:=ih (by omega);rw[et,f0,j4];show _<=Qm (fun i=>if wB i then 1 else 0) q m k+(if wB (m*q+k)then 1 else 0);refine Nat.add_le_add p ?_
   by_cases hc:(decide ((W k)[m]?.getD 0≠b[m]?.getD 0) && !mk.contains m)=true
   ·have e:=hc;simp only[Bool.and_eq_true,decide_eq_true_eq,Bool.not_eq_true',List.contains_eq_mem,decide_eq_false_iff_not]at e
    have u:mB (m*q+k)=false:=by
     cases h:mB (m*q+k)with
     |false=>rfl
     |true=>exact absurd ((n m (by omega)).2 h) e.2
    have t:=r m (by omega) (by rw[←hg m (by omega)];exact e.1) u;rw[t];simp only[i5,hc,if_true,i7];exact eb 1
   ·simp only[i5,hc,i7];exact c8 _
 exact this l (eb l)
theorem VZ(mB:Nat->Bool)(n:Nat):gt n ((aa n).filter mB) :=
 ⟨List.Pairwise.filter _ ro,fun j e=>by simpa using(j0.1 e).1⟩
theorem Wv{l p q:Nat}(hl:l<=15)(n:p<l)(u:0<q){d R:List F}(hd:d.length=(l-p)*q)(x:R.length=l*q){mB wB:Nat->Bool}
  (r:∀i,i<l*q->(XS l p q d)[i]?.getD 0≠R[i]?.getD 0->mB i=false->wB i=true) {fC:Nat->Nat}(t:∀i,i<l*q->fC i=if mB i then 1 else if wB i then 2 else 0)
  (hk:∀k,k<q->Gz fC q (l*q) k<=p):ir l p q R ((aa (l*q)).filter mB)=some d:=by
 refine Wk hl n u hd x (VZ mB _) fun k e=>?_
 have h1:=hk k e;rw[R0 fC e]at h1
 rw[tP (g:=fun i=>if wB i && !mB i then 1 else 0) (h:=fun i=>if mB i then 1 else 0) e fun i hi=>by
  rw[t i hi]
  cases mB i<;>cases wB i<;>rfl]at h1
 rw[Y8 mB k,R0 _ e]
 have h2:=jA (a:=[]) (wB:=fun i=>wB i && !mB i) (mB:=mB) (R:=R) (W:=fun k=>H9 p (Cp (l-p) q k d)) (l:=l) e fun j o hne hm=>by
  have m:=Tk e o
  have y:(XS l p q d)[j*q+k]?.getD 0=(H9 p (Cp (l-p) q k d))[j]?.getD 0:=by
   unfold XS;rw[R6 _ m,ZV e,Vq e]
  rw[r (j*q+k) m (by rw[y];exact hne) hm,hm];rfl
 omega
end Go.Pw
end
section
open Go Go.Pw
namespace Go.Pw
theorem dJ:∀(xs ys:List Int),FI xs (xs++ys)=0
 |[],_=>by simp[FI]
 |x::xs,ys=>by rw[rz,FI,if_pos rfl,dJ xs ys];rfl
theorem yk(mk:List Nat):nt (ni mk)=mk:=by
 unfold nt ni;rw[List.map_map];exact List.map_id'' (fun x=>by simp) mk
theorem iY(l:List Nat)(i:Nat)(h:i<l.length):(ni l)[i]?.getD 0=((l[i]?.getD 0:Nat):Int):=by simp[ni,h]
theorem bn{m:Nat}{mk:List Nat}(h:gt m mk):Gu (ni mk) (m:Int)=true:=Xr fun i hi=>by
 have e:i<mk.length:=by simpa[ni]using hi
 unfold uR;rw[decide_eq_true_eq,iY _ _ e,iY _ _ (show i-1<mk.length by omega)];have h1:=h.lt (mk[i]?.getD 0) (by rw[cp e];exact List.getElem_mem e);refine⟨by omega,by exact_mod_cast h1,fun h0=>?_⟩;have h2:=(List.pairwise_iff_getElem.1 h.asc) (i-1) i (by omega) e (by omega);rw[cp e,cp (show i-1<mk.length by omega)]
 exact_mod_cast h2
theorem iG{c:Ag}(hk:LU c){d:List Int}(h:ao c.L c.P c.Q d=0) :
  ∃(l p q:Nat) (e:List F),c.L=(l:Int)/\c.P=(p:Int)/\c.Q=(q:Int)/\2<=l/\l<=15/\1<=p/\p<=8/\p<l/\1<=q/\q<=8/\d=iv e/\e.length=(l-p)*q/\Z6 c.L c.P c.Q d=iv (XS l p q e)/\c.syms=l*q:=by
 obtain⟨l,p,q,h1,h2,i,b1,b2,m,o,n,r,t,hc⟩:=Qa hk.wev;have j:=hk.wev;unfold ao at h;rw[if_pos j]at h
 have hs:FL d (c.Q*(c.L-c.P))=true:=by
  cases hs:FL d (c.Q*(c.L-c.P))with
  |true=>rfl
  |false=>rw[hs]at h;simp at h
 obtain⟨hl,u⟩:=U8 hs;refine⟨l,p,q,fs d,h1,h2,i,b1,b2,m,o,n,r,t,u.symm,?_,?_,?_⟩
 ·rw[ZE];rw[h1,h2,i,show((l:Int)-(p:Int))=((l-p:Nat):Int) by omega]at hl;exact Y9 hl
 ·unfold Z6;rw[if_pos j,if_pos hs,h1,h2,i];rfl
 ·have:=hk.syms.2.2;rw[h1,i]at this;have e:(q:Int)*(l:Int)=((l*q:Nat):Int):=by push_cast;exact q7 ..
  rw[e]at this;omega
theorem y9(w:List F):∀x,x∈iv w->0<=x/\x<=15:=fun x hx=>by
 simp only[iv,r3]at hx;obtain⟨a,_,rfl⟩:=hx;exact YS a
theorem xT{c:Ag}(hk:LU c){l p q:Nat}(h1:c.L=(l:Int))(h2:c.P=(p:Int))(o:c.Q=(q:Int))(hs:c.syms=l*q){e:List (Option Nat)}(hl:e.length=c.syms) :
  Z9 c e=oE (ir l p q (fs (DL c.seed (Q_ e))) (mq e))/\fj c e=iv (oL (ir l p q (fs (DL c.seed (Q_ e))) (mq e))):=by
 have m:=hk.wev;have h:(DL c.seed (Q_ e)).length=c.syms:=by rw[D7,GG,hl]
 have i:FL (DL c.seed (Q_ e)) (c.Q*c.L)=true:=by
  have:iv (fs (DL c.seed (Q_ e)))=DL c.seed (Q_ e):=pg (by
   rw[List.all_eq_true];intro x hx;have:=KY _ _ x hx
   unfold ST;rw[decide_eq_true_eq];omega)
  rw[←this,nM,decide_eq_true_eq,ZE,h];exact hk.syms.2.2.symm
 have hm:Gu (ni (mq e)) ((DL c.seed (Q_ e)).length:Int)=true:=by
  rw[h];refine bn ⟨List.Pairwise.filter _ ro,fun j n=>?_⟩;have:=(j0.1 n).1;rw[hU]at this;omega
 unfold Z9 fj gaE zx;rw[if_pos m,if_pos i,if_pos hm,if_pos m,if_pos i,if_pos hm,yk,h1,h2,o,hX,hX,hX];exact⟨rfl,rfl⟩
theorem eL{c:Ag}{R:List Int}{i:Nat}(h:i<c.syms):(c.syL R 0)[i]?.getD none=YY c.code (c.part R 0 i):=by
 simp[Ag.syL,h]
theorem oA{c:Ag}{e:List (Option Nat)}{B:List F}{i:Nat}(hi:i<e.length)(h:i<B.length){s:Nat}(hs:e[i]?.getD none=some s)(hx:(s:Int)=(DL c.seed (iv B))[i]?.getD 0) :
  (fs (DL c.seed (Q_ e)))[i]?.getD 0=B[i]?.getD 0:=by
 have h1:=VI (Q_ e) c.seed i (by rw[GG];exact hi);have h2:=VI (iv B) c.seed i (by rw[Lm];exact h)
 have m:(Q_ e)[i]?.getD 0=(s:Int):=by
  simp only[Q_,r4];rw[cp hi]at hs ⊢;simp only[s7,uk]at hs ⊢;rw[hs];rfl
 have j:0<=(iv B)[i]?.getD 0/\(iv B)[i]?.getD 0<=15:=y9 B _ (D6 (by rw[Lm];exact h));rw[m,hx,h2,tG _ j,pf]at h1
 have l:(fs (DL c.seed (Q_ e)))[i]?.getD 0=Fin.ofNat 16 ((DL c.seed (Q_ e))[i]?.getD 0).toNat:=by
  simp only[fs,r4];rw[cp (by rw[D7,GG];exact hi)];rfl
 rw[l,h1,hX];exact Fin.ext (Nat.mod_eq_of_lt (B[i]?.getD 0).isLt)
theorem V8{f g:Nat->Nat}{q:Nat}:∀{n:Nat},(∀i,i<n->f i<=g i)->∀k,Gz f q n k<=Gz g q n k
 |0,_,_=>eb _
 |n+1,h,k=>by
  have ih:=V8 (f:=f) (g:=g) (q:=q) (n:=n) (fun i hi=>h i (by omega)) k;have h1:=h n (by omega);show Gz f q n k+(if n%q=k then f n else 0)<=Gz g q n k+(if n%q=k then g n else 0);split<;>omega
theorem oV{c:Ag}(hk:LU c){l p q:Nat}{e:List F}(h1:c.L=(l:Int))(h2:c.P=(p:Int))(B:c.Q=(q:Int))(b2:l<=15)(u:p<l)(G:1<=q)(A:e.length=(l-p)*q)(hs:c.syms=l*q)
  {h:List (Option Nat)}(hl:h.length=c.syms) {f:Nat->Nat}
  (z:∀i,i<l*q->h[i]?.getD none≠some ((DL c.seed (iv (XS l p q e)))[i]?.getD 0).toNat->(if(h[i]?.getD none).isNone then 1 else 2)<=f i)
  (hc:∀k,k<q->Gz f q (l*q) k<=p):Z9 c h=0/\fj c h=iv e:=by
 obtain⟨y,x⟩:=xT hk h1 h2 B hs hl;have t:(XS l p q e).length=l*q:=Yc ..;have r:(fs (DL c.seed (Q_ h))).length=l*q:=by rw[ZE,D7,GG,hl,hs]
 have key:=Wv (l:=l) (p:=p) (q:=q) b2 u (by omega) A r (mB:=fun i=>(h[i]?.getD none).isNone) (wB:=fun i=>decide (h[i]?.getD none≠some ((DL c.seed (iv (XS l p q e)))[i]?.getD 0).toNat))
  (fun i hi hne hm=>by
   rw[decide_eq_true_eq];intro m;have hx:0<=(DL c.seed (iv (XS l p q e)))[i]?.getD 0:=(KY _ _ _ (D6 (by rw[D7,Lm,t];exact hi))).1
   exact hne (oA (by omega) (by omega) m (by omega)).symm)
  (fC:=fun i=>if(h[i]?.getD none).isNone then 1 else if decide (h[i]?.getD none≠some ((DL c.seed (iv (XS l p q e)))[i]?.getD 0).toNat)then 2 else 0) (fun i hi=>rfl)
  (fun k n=>Nat.le_trans (V8 (fun i hi=>by
   by_cases o:h[i]?.getD none=some ((DL c.seed (iv (XS l p q e)))[i]?.getD 0).toNat
   ·rw[o];simp
   ·have:=z i hi o
    by_cases hn:(h[i]?.getD none).isNone=true
    ·rw[if_pos hn]at this ⊢;exact this
    ·rw[if_neg hn]at this ⊢
     rw[if_pos (by rw[decide_eq_true_eq];exact o)];exact this) k) (hc k n))
 have j:mq h=(aa (l*q)).filter fun i=>(h[i]?.getD none).isNone:=by unfold mq;rw[hl,hs]
 rw[y,x,j,key];exact⟨rfl,rfl⟩
theorem yF{c:Ag}(hk:LU c){b:List Int}(hb:b.length=c.syms)(e:List Int){i:Nat}(hi:i<c.syms):(c.syL (Mv c b++e) 0)[i]?.getD none=some ((DL c.seed b)[i]?.getD 0).toNat:=by
 rw[eL hi];have hl:(DL c.seed b).length=c.syms:=by rw[D7,hb]
 unfold Mv;rw[bJ c _ e i (by omega)];have hx:=KY b c.seed _ (D6 (show i<(DL c.seed b).length by omega));exact ab hk.dst (by omega)
end Go.Pw
end
section
open Go Go.Pw Go.Proofs
namespace Go.Pw
set_option maxRecDepth 100000
set_option maxHeartbeats 3200000
attribute [local irreducible] IntKind.wrap Ah ay and or
theorem NC(L P Q:Int):BU E0 JW [.agg [.int .i64 L,.int .i64 P,.int .i64 Q]] (.int .i64 (if DN L P Q=true then 0 else 50)):=by
 have c1:=T4 L P;have c2:=Kb Q 1 8;refine AL Np AR (by simp) fun e=>?_
 rw[AN];unfold IJ DN
 cases hc:JN L P with
 |false =>
  rw[hc]at c1;simp only[ea,if_false,az]at c1 ⊢;refine' Fp;repeat' first|(refine' BJ;(first|refine AF c1 ?_)<;>refine' Fp)|refine' BI|done
  all_goals first|rfl|(simp;done)|skip
 |true =>
  rw[hc]at c1;simp only[if_true,cw]at c1 ⊢
  by_cases h:1<=Q/\Q<=8
  ·rw[decide_eq_true h]at c2 ⊢;refine' Fp;repeat' first|(refine' BJ;(first|refine AF c1 ?_|refine AF c2 ?_)<;>refine' Fp)|refine' BI|done
   all_goals first|rfl|(simp;done)|skip
  ·rw[decide_eq_false h]at c2 ⊢;refine' Fp;repeat' first|(refine' BJ;(first|refine AF c1 ?_|refine AF c2 ?_)<;>refine' Fp)|refine' BI|done
   all_goals first|rfl|(simp;done)|skip
end Go.Pw
end
section
open Go Go.Pw Go.Proofs
namespace Go.Pw
set_option maxRecDepth 100000
set_option maxHeartbeats 3200000
def lI:Ag:={ code:=qe,L:=3,P:=2,Q:=1,nm:=false,mark:=[1,1,1,0],seed:=1,errs:=0 }
def zy:List Int:=[1,1,1,0,1,0,1,0,1,0,0,1,1,0,1,0,1,0,0,1,1,0,1,0,0,1,0,0]
theorem zU:lI.ok=true:=by decide +kernel
theorem AA8:Wf lI [1]=zy:=by decide +kernel
theorem AA9:ao lI.L lI.P lI.Q [1]=0:=by decide +kernel
attribute [local irreducible] IntKind.wrap Ah ay and or
theorem Q6:BU E0 Mj [] (.tup [IU lI,.list false (Ad zy)]):=by
 have c1:=Q7;refine AL Rc AR (by simp) fun e=>?_
 rw[AN];unfold Km;refine' FS @An @Ak;repeat' first|(refine' BJ;(first|refine AF c1 ?_)<;>refine' FS @An @Ak)|refine' BI|done
 all_goals first|rfl|skip
theorem L8(c:Ag):BU E0 PX [IU c] (.int .i64 (RL c)):=by
 have c1:=T5 c.code;have c2:=NC c.L c.P c.Q;have n:=Se c.nm c.mark;have t:=KZ c.seed 1 127;have y:=KZ c.errs 0 16;have e1:c.code.ok=false->KG c.code.ok 40=40:=fun h=>by rw[h];rfl
 have S:c.code.ok=true->KG c.code.ok 40=0:=fun h=>by rw[h];rfl
 have o:(c.code.ok && (DN c.L c.P c.Q && (decide (c.Q*c.L<=32) && (DP c.mark && (Cw c.seed 1 127 && Cw c.errs 0 16)))))=false->RL c=130:=fun h=>(NU (by
  unfold Ag.ok
  cases h1:c.code.ok<;>cases h2:DN c.L c.P c.Q<;>cases J:decide (c.Q*c.L<=32)<;>cases h4:DP c.mark<;>cases h5:Cw c.seed 1 127<;>cases h6:Cw c.errs 0 16<;>simp_all)).2
 refine AL UC AR (by simp) fun T=>?_
 rw[AN];unfold NI
 cases h1:c.code.ok with
 |false =>
  rw[o (by simp only[h1,az])];rw[e1 h1]at c1;refine' FS @Ab @Aa;repeat' first|(refine' BJ;(first|refine AF c1 ?_)<;>refine' FS @Ab @Aa)|refine' BI|done
  all_goals first|rfl|skip
 |true =>
 rw[S h1]at c1
 cases h2:DN c.L c.P c.Q with
 |false =>
  rw[o (by simp only[h1,h2,cw,az])];rw[h2]at c2;simp only[ea,if_false]at c2;refine' FS @Ab @Aa;repeat' first|(refine' BJ;(first|refine AF c1 ?_|refine AF c2 ?_)<;>refine' FS @Ab @Aa)|refine' BI|done
  all_goals first|rfl|skip
 |true =>
 rw[h2]at c2;simp only[if_true]at c2;have p:=Gn c h2
 by_cases J:c.Q*c.L<=32
 ·have l:¬32<c.Q*c.L:=by omega
  cases h4:DP c.mark with
  |false =>
   rw[o (by simp only[h1,h2,h4,cw,az,ax])];rw[h4]at n;refine' FA @Ab @Aa l;repeat' first|(refine' BJ;(first|refine AF c1 ?_|refine AF c2 ?_|refine AF p ?_|refine AF n ?_)<;>refine' FA @Ab @Aa l)|refine' BI|done
   all_goals first|rfl|skip
  |true =>
  rw[h4]at n
  cases h5:Cw c.seed 1 127 with
  |false =>
   rw[o (by simp only[h1,h2,h4,h5,cw,az,ax])];rw[h5]at t;refine' FA @Ab @Aa l;repeat' first|(refine' BJ;(first|refine AF c1 ?_|refine AF c2 ?_|refine AF p ?_|refine AF n ?_|refine AF t ?_)<;>refine' FA @Ab @Aa l)|refine' BI|done
   all_goals first|rfl|skip
  |true =>
  rw[h5]at t
  cases h6:Cw c.errs 0 16 with
  |false =>
   rw[o (by simp only[h1,h2,h4,h5,h6,cw,az,ax])];rw[h6]at y;refine' FA @Ab @Aa l;repeat' first|(refine' BJ;(first|refine AF c1 ?_|refine AF c2 ?_|refine AF p ?_|refine AF n ?_|refine AF t ?_|refine AF y ?_)<;>refine' FA @Ab @Aa l)|refine' BI|done
   all_goals first|rfl|skip
  |true =>
  rw[h6]at y
  have hok:Nm c.code 16=true->RL c=0:=fun h=>(P2 (by
   unfold Ag.ok;rw[h1,h2,decide_eq_true J,h4,h5,h6,h];simp only[Bool.and_self])).2
  have r:Nm c.code 16=false->RL c=130:=fun h=>(NU (by
   unfold Ag.ok;rw[h,ax,ax,ax,ax,ax,ax])).2
  refine' FA @Ab @Aa l;repeat' first|(refine' BJ;(first|refine AF c1 ?_|refine AF c2 ?_|refine AF p ?_|refine AF n ?_|refine AF t ?_|refine AF y ?_)<;>refine' FA @Ab @Aa l)|refine' BI|done
  all_goals try exact BL
  refine AZ (α:=Nat) (fun x=>[(3,.d (.int .i64 (x:Int)))]) (fun x=>[]) (fun x=>x<=16/\Nm c.code x=true) (fun x=>16-x) 0 ?hI1 ?step1
  case' step1=>(rintro s R;try dsimp only at R)
  case' hI1=>try dsimp only
  ·exact⟨c8 _,rfl⟩
  ·obtain⟨X,N⟩:=R
   by_cases hs:s<16
   ·have G:(s:Int)<16:=by omega
    have B:=HE (i:=s) (by omega);have cs:=Ka c h1 s hs;refine' HM G
    all_goals try exact BL
    refine AZ (α:=Nat) (fun x=>[(4,.d (.int .i64 (x:Int)))]) (fun x=>[]) (fun x=>x<=s/\∀j,j<x->c.code.stm j≠c.code.stm s) (fun x=>s-x) 0 ?hI2 ?step2
    case' step2=>(rintro k hI2;try dsimp only at hI2)
    case' hI2=>try dsimp only
    ·exact⟨c8 _,fun j O=>by omega⟩
    ·obtain⟨k1,k2⟩:=hI2
     by_cases hk:k<s
     ·have m:(k:Int)<(s:Int):=by omega
      have q:=HE (i:=k) (by omega);have M:=Ka c h1 k (by omega);have z:=Gp false false (c.code.stm s) (c.code.stm k)
      by_cases A:c.code.stm k=c.code.stm s
      ·rw[decide_eq_true A.symm]at z;rw[r (qu hs hk A)];refine' FA @Ab @Aa m;repeat' first|(refine' BJ;(first|refine AF cs ?_|refine AF M ?_|refine AF z ?_)<;>refine' FA @Ab @Aa m)|refine' BI|done
       all_goals try exact BL
       all_goals first|rfl|skip
      ·rw[decide_eq_false fun e=>A e.symm]at z;refine' Gj @Ab @Aa m q;repeat' first|(refine' BJ;(first|refine AF cs ?_|refine AF M ?_|refine AF z ?_)<;>refine' Gj @Ab @Aa m q)|refine' BI|done
       all_goals try exact BL
       rename_i j O
       by_cases e:j=k
       ·rw[e];exact A
       ·exact k2 j (by omega)
     ·have m:¬(k:Int)<(s:Int):=by omega
      have U:=dF N fun j O=>k2 j (by omega)
      refine' MX m B
      all_goals try exact BL
      all_goals first|rfl|skip
   ·have u:s=16:=by omega
    subst u;rw[hok N];refine' FP
    all_goals try exact BL
    all_goals first|rfl|skip
 ·have l:32<c.Q*c.L:=by omega
  rw[o (by rw[decide_eq_false J];simp only[h1,h2,cw,az])];refine' FA @Ab @Aa l;repeat' first|(refine' BJ;(first|refine AF c1 ?_|refine AF c2 ?_|refine AF p ?_)<;>refine' FA @Ab @Aa l)|refine' BI|done
  all_goals first|rfl|skip
end Go.Pw
end
section
open Go Go.Pw Go.Proofs
namespace Go.Pw
set_option maxRecDepth 100000
set_option maxHeartbeats 3200000
def zR(c:Ag):Bool:=c.code.far || (decide (40<(c.mark.length:Int)) || (decide (8<c.Q) || (decide (15<c.L) || (c.ok && decide (8<c.Q*c.L)))))
def st1(out:List Int)(f:Int):List Int:=if 0<=f/\f<out.length then out.set f.toNat (1-out[f.toNat]?.getD 0)else out
attribute [local irreducible] IntKind.wrap Ah ay and or
theorem Wq(c:Ag):BU E0 Tt [IU c] (.bool (zR c)):=by
 have c1:=Wr c.code;have c2:=L8 c;refine AL W3 AR (by simp) fun i=>?_
 rw[AN];unfold Qs zR;obtain⟨fr,e⟩:∃fr,c.code.far=fr:=⟨_,rfl⟩
 rw[e]at c1 ⊢;clear e;rcases hok:c.ok with _|_
 ·rw[(NU hok).2]at c2
  cases fr with
  |true =>
   refine' FS @Ab @Aa;repeat' first|(refine' BJ;(first|refine AF c1 ?_|refine AF c2 ?_)<;>refine' FS @Ab @Aa)|refine' BI|done
   all_goals first|rfl|(simp only[r5];done)|skip
  |false =>
   refine' FS @Ab @Aa;repeat' first|(refine' BJ;(first|refine AF c1 ?_|refine AF c2 ?_)<;>refine' FS @Ab @Aa)|refine' BI|done
   all_goals first|rfl|(congr 1;symm;simp;omega)|skip
 ·rw[(P2 hok).2]at c2;have h:=Gn c (J5 hok).wev
  cases fr with
  |true =>
   refine' FS @Ab @Aa;repeat' first|(refine' BJ;(first|refine AF c1 ?_|refine AF c2 ?_|refine AF h ?_)<;>refine' FS @Ab @Aa)|refine' BI|done
   all_goals first|rfl|(simp only[r5];done)|skip
  |false =>
   refine' FS @Ab @Aa;repeat' first|(refine' BJ;(first|refine AF c1 ?_|refine AF c2 ?_|refine AF h ?_)<;>refine' FS @Ab @Aa)|refine' BI|done
   all_goals first|rfl|(congr 1;symm;simp;omega)|skip
end Go.Pw
end
section
open Go Go.Pw Go.Proofs
namespace Go.Pw
set_option maxRecDepth 100000
set_option maxHeartbeats 6400000
attribute [local irreducible] IntKind.wrap Ah ay and or
end Go.Pw
end
section
namespace Go.Pw
abbrev Cd:=Int×Int×Bool
def sB(least most:Int):List Int->Int->Bool->Option (Int×Bool)
 |[],z,o=>some (z,o)
 |b::l,z,o=>if b=0 then(if most<z+1 then none else sB least most l (z+1) o)
  else(if o=true/\z<least then none else sB least most l 0 true)
theorem en{a m:Int}(hm:0<=m):∀{l:List Int}{z:Int}{o:Bool}{q:Int×Bool},(0<=z/\z<=m)->sB a m l z o=some q->0<=q.1/\q.1<=m
 |[],z,o,q,hz,h=>by rw[sB]at h;cases h;exact hz
 |b::l,z,o,q,hz,h=>by
  rw[sB]at h;split at h
  ·split at h
   ·cases h
   ·exact en hm (by omega) h
  ·split at h
   ·cases h
   ·exact en hm (by omega) h
namespace GCode
variable (c:GCode)
def stp(r:Cd)(w:Int):Option Cd:=(sB c.least c.most (CJ c.out.toNat (c.wrd r.1 w)) r.2.1 r.2.2).map fun q=>(c.nxt r.1 w,q.1,q.2)
def path:Cd->List Int->Option Cd
 |r,[]=>some r
 |r,w::l=>match c.stp r w with
  |none=>none
  |some r'=>path r' l
def areW(ws:List Int):Prop:=∀w,w∈ws->c.isWord w=true
def Lev(k:Nat)(r:Cd):Prop:=∃s ws,c.isState s=true/\ws.length=k/\c.areW ws/\c.path (s,0,false) ws=some r
def Brk(k:Nat):Prop:=∃s ws,c.isState s=true/\ws.length=k/\c.areW ws/\c.path (s,0,false) ws=none
def RunOk(r:Cd):Prop:=c.isState r.1=true/\0<=r.2.1/\r.2.1<=c.most
end GCode
open GCode
theorem path_app(c:GCode):∀(l e:List Int) (r:Cd),c.path r (l++e)=match c.path r l with|none=>none|some q=>c.path q e
 |[],e,r=>rfl
 |w::l,e,r=>by
  rw[rz,path,path]
  cases c.stp r w with
  |none=>rfl
  |some r'=>exact path_app c l e r'
theorem path_one(c:GCode)(r:Cd)(w:Int):c.path r [w]=c.stp r w:=by
 rw[path];cases c.stp r w<;>rfl
theorem path_snoc(c:GCode)(l:List Int)(r:Cd)(w:Int):c.path r (l++[w])=match c.path r l with|none=>none|some q=>c.stp q w:=by
 rw[path_app]
 cases c.path r l with
 |none=>rfl
 |some q=>exact path_one c q w
theorem stp_ok{c:GCode}(h:c.ok=true){r q:Cd}{w:Int}(hr:c.RunOk r)(e:c.isWord w=true)(hs:c.stp r w=some q):c.RunOk q:=by
 have hd:=ok_head h;unfold stp at hs;rw[uv]at hs;obtain⟨p,h1,rfl⟩:=hs;exact⟨nxt_state h hr.1 e,en (by omega) hr.2 h1⟩
theorem path_ok{c:GCode}(h:c.ok=true):∀{e:List Int}{r q:Cd},c.RunOk r->c.areW e->c.path r e=some q->c.RunOk q
 |[],r,q,hr,_,hp=>by rw[path]at hp;cases hp;exact hr
 |w::l,r,q,hr,hw,hp=>by
  rw[path]at hp
  cases hs:c.stp r w with
  |none=>rw[hs]at hp;cases hp
  |some r' =>
   rw[hs]at hp;exact path_ok h (stp_ok h hr (hw w (by simp)) hs) (fun x hx=>hw x (by simp[hx])) hp
theorem start_ok{c:GCode}(h:c.ok=true){s:Int}(hs:c.isState s=true):c.RunOk (s,0,false):=by
 have hd:=ok_head h;exact⟨hs,Int.le_refl _,by show(0:Int)<=c.most;omega⟩
def GCode.keeps(c:GCode)(bits:List Int):Bool:=(sB c.least c.most bits 0 false).isSome
def GCode.refW(c:GCode)(m:Cd):Nat->Int->List Cd->Option (List Cd)
 |0,_,nx=>some nx
 |k+1,w,nx=>match c.stp m w with
  |none=>none
  |some o=>refW c m k (w+1) (if o∈nx then nx else nx++[o])
def GCode.refM(c:GCode):List Cd->List Cd->Option (List Cd)
 |[],nx=>some nx
 |m::l,nx=>match c.refW m c.W 0 nx with
  |none=>none
  |some nx'=>refM c l nx'
def GCode.refN(c:GCode):Nat->Int->List Cd->Int
 |0,_,_=>0
 |k+1,n,now=>match c.refM now []with
  |none=>n
  |some nx=>refN c k (n+1) nx
def GCode.starts(c:GCode):List Cd:=(aa c.words.length).map fun(s:Nat)=>((s:Int),(0:Int),false)
def GCode.breach(c:GCode):Int:=c.refN 14 1 c.starts
theorem word_iff{c:GCode}{v:Int}:(0<=v/\v<0+(c.W:Int))↔c.isWord v=true:=by
 unfold isWord Cw W;rw[decide_eq_true_eq];have:((2^c.bits.toNat:Nat):Int)=2^c.bits.toNat:=by simp
 omega
theorem starts_mem{c:GCode}{r:Cd}:r∈c.starts↔c.Lev 0 r:=by
 unfold starts;rw[r3];constructor
 ·rintro⟨s,hs,rfl⟩;rw[hU]at hs;exact⟨s,[],by simp only[isState,Cw,decide_eq_true_eq];omega,rfl,fun w h=>(by cases h),rfl⟩
 ·rintro⟨s,i,h1,h2,j,e⟩
  cases i with
  |cons _ _=>simp at h2
  |nil =>
   rw[path]at e;cases e;simp only[isState,Cw,decide_eq_true_eq]at h1;exact⟨s.toNat,by rw[hU];omega,by simp;omega⟩
end Go.Pw
end
