/- A part of the proof. -/
import Derived.Test.YtpcpcjbbdgmohaaGreatQsA
import Derived.Test.YtpcpcjbbdgmohaaGreatQuZonesE
import Derived.Test.YtpcpcjbbdgmohaaGreatPgQuZonesJ
import Derived.Test.YtpcpcjbbdgmohaaGreatPwVC
import Derived.Test.YtpcpcjbbdgmohaaGreatPwInt
set_option linter.all false
section
open Go Go.Pw Go.Proofs
namespace Go.Pw
set_option maxRecDepth 100000
set_option maxHeartbeats 1600000
theorem Gk {d:AG}(h:d.ok=true) {n:Int}(h0:0<=n/\n<d.size):(d.place n).1.1=(d.pl n).1/\(0<=(d.pl n).1/\(d.pl n).1<d.cyls):=by
 have g:=Bu h
 have hs:=(LP g n).2 h0
 obtain⟨k,hk⟩:=Option.isSome_iff_exists.1 hs
 unfold AG.place AG.pl
 rw[hk,if_pos h]
 obtain⟨k1,k2⟩:=E3 hk
 refine⟨rfl,Int.natCast_nonneg _,?_⟩
 have hp:=g.hp
 unfold AG.nt at k1
 show ((k/d.heads.toNat:Nat):Int)<_
 have:=(Nat.div_lt_iff_lt_mul hp).2 k1
 omega
theorem Wk {d:AG}(h:d.ok=true) (n:Int):0<=(d.angle n).1/\(d.angle n).1<d.turn:=by
 have g:=Bu h
 have t1:=g.t1
 unfold AG.angle
 rw[if_pos h]
 split
 ·exact⟨Int.emod_nonneg _ (by omega),Int.emod_lt_of_pos _ (by omega)⟩
 ·exact⟨by simp,by simp;omega⟩
theorem Un {d:AG}(g:d.Good):(d.cyls:Int)<=80:=by
 have h1:=g.base d.zones.length (Nat.le_refl _)
 have h2:=g.z2
 rw[FV] at h1;omega
theorem fD:BC E0.P Hv=true:=by kernel_rfl
theorem Th:BC E0.P FZ=true:=by kernel_rfl
attribute [local congr] DX B3 B4 Bc DZ Bj Bl Bk Bb BN BF A6 Be BG Bg CD CE CF Cd Ce B9 Bf BL Bi BM B8 Cf BK CB CC B_ B6 B7 B2 DY B5 Bd BI BH BJ Bh CA
attribute [local irreducible] IntKind.wrap CK Option.getD and or
theorem Dm (n lo hi:Int):Ca E0 K0 [.int .i64 n,.int .i64 lo,.int .i64 hi] (.bool (FR n lo hi)):=by
 refine AW Ol Aq (by simp) fun hwf=>?_
 rw[AZ];unfold Ja FR
 (try (simp -implicitDefEqProofs only[go_sem]));repeat' first|(with_reducible first|exact tI|refine aI ?_ ?_|intro _)|((first|with_reducible refine AU ?_ ?_<;>intro _)<;>try (simp -implicitDefEqProofs only[go_sem]))|simp (disch:=omega) only[Al]
 all_goals first|omega|(simp_all;done)|(simp_all;omega)
theorem UN (n m:Int):Ca E0 E6 [.int .i64 n,.int .i64 m] (.bool (FR n 0 m)):=by
 refine AW Nn Aq (by simp) fun hwf=>?_
 rw[AZ];unfold IH FR
 (try (simp -implicitDefEqProofs only[go_sem]));repeat' first|(with_reducible first|exact tI|refine aI ?_ ?_|intro _)|((first|with_reducible refine AU ?_ ?_<;>intro _)<;>try (simp -implicitDefEqProofs only[go_sem]))|simp (disch:=omega) only[Al]
 all_goals first|omega|(simp_all;done)|(simp_all;omega)
theorem R_ (p:Zp):Ca E0 Hv [bh p] (.int .i64 (pick false p)):=by
 refine AW SO Aq (by simp) fun hwf=>?_
 rw[AZ];unfold NC
 (try (simp -implicitDefEqProofs only[go_sem,BR]));repeat' first|(with_reducible first|exact tI|refine aI ?_ ?_|intro _)|((first|with_reducible refine AU ?_ ?_<;>intro _)<;>try (simp -implicitDefEqProofs only[go_sem,BR]))|simp (disch:=omega) only[Al]
 all_goals rfl
theorem KJ (p:Zp):Ca E0 FZ [bh p] (.int .i64 (pick true p)):=by
 refine AW RY Aq (by simp) fun hwf=>?_
 rw[AZ];unfold Lu
 (try (simp -implicitDefEqProofs only[go_sem,BR]));repeat' first|(with_reducible first|exact tI|refine aI ?_ ?_|intro _)|((first|with_reducible refine AU ?_ ?_<;>intro _)<;>try (simp -implicitDefEqProofs only[go_sem,BR]))|simp (disch:=omega) only[Al]
 all_goals rfl
theorem Qu (d:AG) (h:d.ok=true):Ca E0 N' [Cr d] (.tup [.int .i64 d.cyls,.int .i64 d.size]):=by
 have g:=Bu h
 refine AW RV Aq (by simp) fun hwf=>?_
 have c1:=QY d
 rw[h] at c1
 unfold AG.check at c1
 rw[h] at c1
 have z2:=g.z2
 rw[AZ];unfold Lt
 (try (simp -implicitDefEqProofs only[go_sem,AI,AD]));repeat' first|(with_reducible first|exact tI|refine aI ?_ ?_|intro _)|((first|with_reducible refine AU ?_ ?_<;>intro _)<;>try (simp -implicitDefEqProofs only[go_sem,AI,AD]))|simp (disch:=omega) only[Al]|((with_reducible refine A0 ?_);refine⟨(_,_),rfl,?_,?_⟩)
 all_goals first|omega|(simp<;>omega)|skip
 refine Ao (α:=Int×Int) (l0:=?l1) (m0:=?m1) (fun x=>[(9,.d (.int .i64 x.1)),(2,.d (.int .i64 x.2))]) (fun x=>[]) (fun x=>(0<=x.1/\x.1<=d.zones.length)/\x.2=d.base x.1.toNat) (fun x=>(d.zones.length-x.1).toNat) (?a1_0,?a1_1) ?h01 ?he1 ?he21 ?hI1 ?step1
 case h01=>(simp -implicitDefEqProofs only[go_sem,AD,AY];rfl)
 case he1=>rfl
 case he21=>rfl
 case' step1=>(rintro⟨i,n⟩ hI;try dsimp only at hI)
 case' hI1=>try dsimp only
 ·exact⟨⟨by omega,by omega⟩,by simp[AG.base]⟩
 ·obtain⟨⟨h1,h2⟩,h3⟩:=hI
  have hb:=g.base i.toNat (by omega)
  by_cases hi:i<d.zones.length
  ·have hz:=g.z i.toNat (by omega)
   obtain⟨z,hze⟩:∃z,d.zones[i.toNat]?.getD default=z:=⟨_,rfl⟩
   rw[hze] at hz
   have hn:d.base (i+1).toNat=d.base i.toNat+z.1.toNat:=by rw[show (i+1).toNat=i.toNat+1 by omega,AG.base,hze]
   have w1:IntKind.i64.wrap (i+1)=i+1:=Ad _ (by omega)
   have w2:IntKind.i64.wrap (n+z.1)=n+z.1:=Ad _ (by omega)
   (try (simp -implicitDefEqProofs only[go_sem,AD,AY,An,hze,BR,Ar,w1,w2]));repeat' first|(with_reducible first|exact tI|refine aI ?_ ?_|intro _)|((first|with_reducible refine AU ?_ ?_<;>intro _|(with_reducible refine isCall ?_);first|refine AF c1 ?_)<;>try (simp -implicitDefEqProofs only[go_sem,AD,AY,An,hze,BR,Ar,w1,w2]))|simp (disch:=omega) only[Al]|((with_reducible refine A0 ?_);refine⟨(_,_),rfl,?_,?_⟩)
   all_goals first|omega|(simp<;>omega)|skip
  ·have hie:i=d.zones.length:=by omega
   have hn:n=d.cyls:=by rw[h3,hie,←FV];simp
   (try (simp -implicitDefEqProofs only[go_sem,AD,AI,AY,hi]));repeat' first|(with_reducible first|exact tI|refine aI ?_ ?_|intro _)|((first|with_reducible refine AU ?_ ?_<;>intro _|(with_reducible refine isCall ?_);first|refine AF c1 ?_)<;>try (simp -implicitDefEqProofs only[go_sem,AD,AI,AY,hi]))|simp (disch:=omega) only[Al]|((with_reducible refine A0 ?_);refine⟨(_,_),rfl,?_,?_⟩)
   all_goals first|omega|(simp<;>omega)|skip
theorem Gx (q:GQ) (h:q.d.ok=true) (n:Int) (h0:0<=n/\n<q.d.size):Ca E0 Io [Hy q,.int .i64 n] (.int .i64 (q.d.pl n).1):=by
 refine AW Mb Aq (by simp) fun hwf=>?_
 have c1:=Eg q.d h
 have hg:=M7 n h0.1 h0.2
 have hl:=QP q.d
 rw[AZ];unfold Hc
 (try (simp -implicitDefEqProofs only[go_sem,Ai,AN,AI,AD,DG,hg,C_,DU,EF]));repeat' first|(with_reducible first|exact tI|refine aI ?_ ?_|intro _)|((first|with_reducible refine AU ?_ ?_<;>intro _|(with_reducible refine isCall ?_);first|refine AF c1 ?_)<;>try (simp -implicitDefEqProofs only[go_sem,Ai,AN,AI,AD,DG,hg,C_,DU,EF]))|simp (disch:=omega) only[Al]
 all_goals first|omega|rfl|trace_state
theorem Py (q:GQ) (g:q.Good) (i:Int) (hi:0<=i/\i<q.rq.length) (t s e:Int) (ht:0<=t/\t<=100000000) (hs:0<=s/\s<=5000) (he:0<=e/\e<=100000000):Ca E0 L7 [Hy q,.int .i64 i,.int .i64 t,.int .i64 s,.int .i64 e] (.int .i64 (q.serveT (q.req i) t s e)):=by
 refine AW P_ Aq (by simp) fun hwf=>?_
 have gd:=Bu g.d
 have t1:=gd.t1;have t2:=gd.t2
 obtain⟨r,hr⟩:∃r,q.req i=r:=⟨_,rfl⟩
 have ha:=g.at' i.toNat (by omega)
 unfold GQ.req at hr ⊢
 rw[hr] at ha ⊢
 have hb:=Wk g.d r.fr
 have c1:=Pz q.d r.fr
 have c2:=JY q.d gd (max t r.at'+s) (q.d.angle r.fr).1 (by omega) (by omega)
 have hw:=Wv (T:=q.d.turn) (ang:=(q.d.angle r.fr).1) (t:=max t r.at'+s) (by omega)
 unfold GQ.serveT
 unfold Ws at hw ⊢
 have w1:IntKind.i64.wrap (max t r.at'+s)=max t r.at'+s:=Ad _ (by omega)
 have w2:IntKind.i64.wrap (max t r.at'+s+((q.d.angle r.fr).1-(max t r.at'+s))%q.d.turn)=max t r.at'+s+((q.d.angle r.fr).1-(max t r.at'+s))%q.d.turn:=Ad _ (by omega)
 have w3:IntKind.i64.wrap (max t r.at'+s+((q.d.angle r.fr).1-(max t r.at'+s))%q.d.turn+e)=max t r.at'+s+((q.d.angle r.fr).1-(max t r.at'+s))%q.d.turn+e:=Ad _ (by omega)
 rw[AZ];unfold KP
 (try (simp -implicitDefEqProofs only[go_sem,Ai,AN,AI,AD,Av,hr,Az,AL,Bn,Bo,w1,w2,w3]));repeat' first|(with_reducible first|exact tI|refine aI ?_ ?_|intro _)|((first|with_reducible refine AU ?_ ?_<;>intro _|(with_reducible refine isCall ?_);first|refine AF c1 ?_|refine AF c2 ?_)<;>try (simp -implicitDefEqProofs only[go_sem,Ai,AN,AI,AD,Av,hr,Az,AL,Bn,Bo,w1,w2,w3]))|simp (disch:=omega) only[Al]
 all_goals first|omega|rfl|trace_state
theorem P2 (q:GQ) (g:q.Good) (hi:Bool) (f:FuncId) (hb:BC E0.P f=true) (cf:∀p,Ca E0 f [bh p] (.int .i64 (pick hi p))) (hz:q.d.size<=200) (c t:Int) (hc:0<=c/\c<q.d.cyls) (ht:0<=t/\t<=100000000) (n:Int) (hn:0<=n/\n<q.rq.length) :
  Ca E0 Gb [Hy q,.agg [.int .i64 c,.int .i64 t],.int .i64 n,.fn f []] (.agg [.int .i64 (q.serveV hi (c,t) (q.req n)).1,.int .i64 (q.serveV hi (c,t) (q.req n)).2]):=by
 refine AW J3 Aq (by simp) fun hwf=>?_
 have gd:=Bu g.d
 have t1:=gd.t1;have t2:=gd.t2
 have hsz:=Cm gd
 have hcy:=Un gd
 obtain⟨r,hr⟩:∃r,q.req n=r:=⟨_,rfl⟩
 have ha:=g.at' n.toNat (by omega)
 have hru:=g.run n.toNat (by omega)
 unfold GQ.req at hr ⊢
 rw[hr] at ha hru ⊢
 have hbd:=XP g.d hz (a:=r.fr) (c:=r.cnt) hru
 have hcy1:=Gk g.d (n:=r.fr) (by omega)
 have hcy2:=Gk g.d (n:=r.fr+r.cnt-1) (by omega)
 have hdi:=Y9 (n:=q.d.cyls) hcy1.2 hc
 have hsk:=g.sk (Ok (q.d.pl r.fr).1 c).toNat (by have:=g.sl;omega)
 have hsl:=g.sl
 obtain⟨p,hp⟩:∃p,q.sk[(Ok (q.d.pl r.fr).1 c).toNat]?.getD default=p:=⟨_,rfl⟩
 rw[hp] at hsk
 have hpk:0<=pick hi p/\pick hi p<=5000:=by unfold pick;split<;>omega
 have hrk:0<=pick hi (q.d.run r.fr r.cnt).1/\pick hi (q.d.run r.fr r.cnt).1<=2000000:=by unfold pick;split<;>omega
 have c1:=JR q.d r.fr
 have c2:=JR q.d (r.fr+r.cnt-1)
 have c3:=cf p
 have c4:=Pt q.d r.fr
 have c5:=R0 q.d r.fr r.cnt
 have c6:=cf (q.d.run r.fr r.cnt).1
 rw[hcy1.1] at c1
 rw[hcy2.1] at c2
 have hba:=Wk g.d r.fr
 have hw:=Wv (T:=q.d.turn) (ang:=(q.d.angle r.fr).1) (t:=max t r.at'+pick hi p) (by omega)
 unfold GQ.serveV GQ.serveT GQ.first GQ.last
 simp only[]
 rw[hp]
 obtain⟨u,hu⟩:∃u,max t r.at'+pick hi p=u:=⟨_,rfl⟩
 obtain⟨ang,hang⟩:∃a,(q.d.angle r.fr).1=a:=⟨_,rfl⟩
 rw[hu] at hw ⊢
 rw[hang] at hw hba ⊢
 have hub:0<=u:=by omega
 have hm:u.tmod q.d.turn=u%q.d.turn:=Int.tmod_eq_emod_of_nonneg hub
 have hm1:=Int.emod_nonneg u (show q.d.turn≠0 by omega)
 have hm2:=Int.emod_lt_of_pos u (show 0<q.d.turn by omega)
 have hm3:(ang-u%q.d.turn+q.d.turn).tmod q.d.turn=(ang-u%q.d.turn+q.d.turn)%q.d.turn:=Int.tmod_eq_emod_of_nonneg (by omega)
 have hm4:=fT (T:=q.d.turn) (ang:=ang) (t:=u)
 have w0:IntKind.i64.wrap (r.fr+r.cnt)=r.fr+r.cnt:=Ad _ (by omega)
 have w1:IntKind.i64.wrap (r.fr+r.cnt-1)=r.fr+r.cnt-1:=Ad _ (by omega)
 have w2:IntKind.i64.wrap ((q.d.pl r.fr).1-c)=(q.d.pl r.fr).1-c:=Ad _ (by omega)
 have w3:IntKind.i64.wrap (c-(q.d.pl r.fr).1)=c-(q.d.pl r.fr).1:=Ad _ (by omega)
 have w4:IntKind.i64.wrap u=u:=Ad _ (by omega)
 have w5:IntKind.i64.wrap (ang-u%q.d.turn)=ang-u%q.d.turn:=Ad _ (by omega)
 have w6:IntKind.i64.wrap (ang-u%q.d.turn+q.d.turn)=ang-u%q.d.turn+q.d.turn:=Ad _ (by omega)
 have w7:IntKind.i64.wrap (Ws q.d.turn ang u)=Ws q.d.turn ang u:=Ad _ (by omega)
 have w8:IntKind.i64.wrap (Ws q.d.turn ang u+pick hi (q.d.run r.fr r.cnt).1)=Ws q.d.turn ang u+pick hi (q.d.run r.fr r.cnt).1:=Ad _ (by omega)
 have hd:max ((q.d.pl r.fr).1-c) (c-(q.d.pl r.fr).1)=Ok (q.d.pl r.fr).1 c:=rfl
 have hne:¬q.d.turn=0:=by omega
 rw[BR] at c3 c6
 rw[AZ];unfold GC
 (try (simp -implicitDefEqProofs only[go_sem,Ai,AN,AI,AD,Av,hr,Az,AL,Bn,Bo,An,AY,Ar,BR,EF,hd,hp,hu,hang,hm,hm3,hm4,hne,hb,w0,w1,w2,w3,w4,w5,w6,w7,w8]));repeat' first|(with_reducible first|exact tI|refine aI ?_ ?_|intro _)|((first|with_reducible refine AU ?_ ?_<;>intro _|(with_reducible refine isCall ?_);first|refine AF c1 ?_|refine AF c2 ?_|refine AF c3 ?_|refine AF c4 ?_|refine AF c5 ?_|refine AF c6 ?_)<;>try (simp -implicitDefEqProofs only[go_sem,Ai,AN,AI,AD,Av,hr,Az,AL,Bn,Bo,An,AY,Ar,BR,EF,hd,hp,hu,hang,hm,hm3,hm4,hne,hb,w0,w1,w2,w3,w4,w5,w6,w7,w8]))|simp (disch:=omega) only[Al]
 all_goals first|omega|rfl|trace_state
end Go.Pw
end
section
namespace Go.Pw
theorem LK {α:Type}{f:α->D}(h:∀x,((f x).cells.all D.prim)=true) (l:List α):Ln (l.map f)=true:=by
 unfold Ln;rw[List.all_map,List.all_eq_true];exact fun x _=>h x
theorem Q2 (l:List Int):Ln (Bs l)=true:=LK (f:=D.int .i64) (fun _=>rfl) l
def W7 (l:List Int) (j:Nat):List Int:=(l.set (j+1) (l[j]?.getD 0)).set j (l[j+1]?.getD 0)
def Lm:List Int->Nat->List Int
 |l,0=>l
 |l,j+1=>if l[j+1]?.getD 0<l[j]?.getD 0 then Lm (W7 l j) j else l
def LZ (l:List Int):Nat->List Int
 |0=>l
 |i+1=>Lm (LZ l i) (i+1)
theorem U7 (l:List Int) (j:Nat):(W7 l j).length=l.length:=by simp[W7]
theorem S3:∀(j:Nat) (l:List Int),(Lm l j).length=l.length
 |0,l=>rfl
 |j+1,l=>by
  rw[Lm];split
  ·rw[S3,U7]
  ·rfl
theorem RI (l:List Int):∀i,(LZ l i).length=l.length
 |0=>rfl
 |i+1=>by rw[LZ,S3,RI]
theorem f8 (l:List Int) (j:Nat):Lm l (j+1)=if l[j+1]?.getD 0<l[j]?.getD 0 then Lm (W7 l j) j else l:=by rw[Lm]
def Hl (n:Nat) (l:List Int):Bool:=((List.range l.length).all fun i=>(decide (0<=l[i]?.getD 0/\l[i]?.getD 0<=(n:Int)-1)) && ((List.range i).all fun k=>!decide (l[k]?.getD 0=l[i]?.getD 0))) && decide (l.length=n)
theorem Ki {n:Nat}{l:List Int}(h:Hl n l=true):l.length=n/\(∀i,i<n->0<=l[i]?.getD 0/\l[i]?.getD 0<n)/\∀i k,i<n->k<i->l[k]?.getD 0≠l[i]?.getD 0:=by
 unfold Hl at h
 simp only[Bool.and_eq_true,decide_eq_true_eq] at h
 obtain⟨h1,h2⟩:=h
 have hh:∀i,i<n->_:=fun i hi=>List.all_eq_true.1 h1 i (List.mem_range.2 (by omega))
 simp only[Bool.and_eq_true,decide_eq_true_eq] at hh
 refine⟨h2,fun i hi=>?_,fun i k hi hk=>?_⟩
 ·have:=(hh i hi).1;omega
 ·have:=List.all_eq_true.1 (hh i hi).2 k (List.mem_range.2 hk)
  simpa using this
theorem JC {n:Nat}{x:Int}(h:0<=x/\x<n):∃a:Fin n,x=(a.val:Int):=⟨⟨x.toNat,by omega⟩,by simp;omega⟩
theorem mY:∀a b:Fin 2,a≠b->LZ [(a.val:Int),(b.val:Int)] 1=[0,1]:=by decide
theorem mX:∀a b c:Fin 3,a≠b->a≠c->b≠c->LZ [(a.val:Int),(b.val:Int),(c.val:Int)] 2=[0,1,2]:=by decide
theorem mW:∀a b c d:Fin 4,a≠b->a≠c->b≠c->a≠d->b≠d->c≠d->LZ [(a.val:Int),(b.val:Int),(c.val:Int),(d.val:Int)] 3=[0,1,2,3]:=by decide
theorem gv {n:Nat}{l:List Int}(h:Hl n l=true) (hn:n<=4) (i:Nat) (hi:i<n):(LZ l (n-1))[i]?.getD 0=(i:Int):=by
 obtain⟨h1,h2,h3⟩:=Ki h
 have hne:∀{n:Nat}{a b:Fin n},((a.val:Int)≠(b.val:Int))->a≠b:=fun h e=>h (by rw[e])
 match n,l,h1 with
 |0,_,_=>omega
 |1,[a],_ =>
  have e0:=h2 0 (by omega)
  have:i=0:=by omega
  subst this
  simp[LZ] at e0 ⊢;omega
 |2,[a,b],_ =>
  obtain⟨x,hx⟩:=JC (h2 0 (by omega));obtain⟨y,hy⟩:=JC (h2 1 (by omega))
  have d1:=h3 1 0 (by omega) (by omega)
  simp at hx hy d1
  subst hx hy
  rw[show 2-1=1 from rfl,mY x y (hne (by simpa using d1))]
  match i,hi with
  |0,_=>rfl
  |1,_=>rfl
 |3,[a,b,c],_ =>
  obtain⟨x,hx⟩:=JC (h2 0 (by omega));obtain⟨y,hy⟩:=JC (h2 1 (by omega));obtain⟨z,hz⟩:=JC (h2 2 (by omega))
  have d1:=h3 1 0 (by omega) (by omega);have d2:=h3 2 0 (by omega) (by omega);have d3:=h3 2 1 (by omega) (by omega)
  simp at hx hy hz d1 d2 d3
  subst hx hy hz
  rw[show 3-1=2 from rfl,mX x y z (hne (by simpa using d1)) (hne (by simpa using d2)) (hne (by simpa using d3))]
  match i,hi with
  |0,_=>rfl
  |1,_=>rfl
  |2,_=>rfl
 |4,[a,b,c,d],_ =>
  obtain⟨x,hx⟩:=JC (h2 0 (by omega));obtain⟨y,hy⟩:=JC (h2 1 (by omega));obtain⟨z,hz⟩:=JC (h2 2 (by omega));obtain⟨w,hw⟩:=JC (h2 3 (by omega))
  have d1:=h3 1 0 (by omega) (by omega);have d2:=h3 2 0 (by omega) (by omega);have d3:=h3 2 1 (by omega) (by omega)
  have d4:=h3 3 0 (by omega) (by omega);have d5:=h3 3 1 (by omega) (by omega);have d6:=h3 3 2 (by omega) (by omega)
  simp at hx hy hz hw d1 d2 d3 d4 d5 d6
  subst hx hy hz hw
  rw[show 4-1=3 from rfl,mW x y z w (hne (by simpa using d1)) (hne (by simpa using d2)) (hne (by simpa using d3)) (hne (by simpa using d4)) (hne (by simpa using d5)) (hne (by simpa using d6))]
  match i,hi with
  |0,_=>rfl
  |1,_=>rfl
  |2,_=>rfl
  |3,_=>rfl
end Go.Pw
end
section
open Go Go.Pw Go.Proofs
namespace Go.Pw
set_option maxRecDepth 100000
set_option maxHeartbeats 1600000
theorem UW {q:GQ}(g:q.Good) (hz:q.d.size<=200) (hi:Bool) {l:List Int}(hl:∀i,i<l.length->0<=l[i]?.getD 0/\l[i]?.getD 0<q.rq.length):∀n,n<=l.length ->
  (0<=(q.hds hi l n).1/\(q.hds hi l n).1<q.d.cyls)/\0<=(q.hds hi l n).2/\(q.hds hi l n).2<=n*3000000
 |0,_=>by
  have:=g.cyl
  simp only[GQ.hds];omega
 |n+1,hn=>by
  obtain⟨h1,h2,h3⟩:=UW g hz hi hl n (by omega)
  have gd:=Bu g.d
  have t1:=gd.t1;have t2:=gd.t2
  have hi':=hl n (by omega)
  have ha:=g.at' (l[n]?.getD 0).toNat (by omega)
  have hru:=g.run (l[n]?.getD 0).toNat (by omega)
  rw[GQ.hds]
  unfold GQ.serveV
  simp only[]
  obtain⟨r,hr⟩:∃r,q.req (l[n]?.getD 0)=r:=⟨_,rfl⟩
  have hr':=hr
  unfold GQ.req at hr'
  rw[hr'] at ha hru
  rw[hr]
  have hcy1:=Gk g.d (n:=r.fr) (by omega)
  have hcy2:=Gk g.d (n:=r.fr+r.cnt-1) (by omega)
  have hdi:=Y9 (n:=q.d.cyls) hcy1.2 h1
  have hsk:=g.sk (Ok (q.first r) (q.hds hi l n).1).toNat (by have:=g.sl;unfold GQ.first;omega)
  have hbd:=XP g.d hz (a:=r.fr) (c:=r.cnt) hru
  have hb:=Zf (q:=q) (r:=r) (t:=(q.hds hi l n).2) (s:=pick hi (q.sk[(Ok (q.first r) (q.hds hi l n).1).toNat]?.getD default)) (e:=pick hi (q.d.run r.fr r.cnt).1) (by omega)
  refine⟨hcy2.2,?_⟩
  cases hi<;>simp only[pick,if_true,if_false,Bool.false_eq_true] at hb ⊢<;>omega
attribute [local congr] DX B3 B4 Bc DZ Bj Bl Bk Bb BN BF A6 Be BG Bg CD CE CF Cd Ce B9 Bf BL Bi BM B8 Cf BK CB CC B_ B6 B7 B2 DY B5 Bd BI BH BJ Bh CA
attribute [local irreducible] IntKind.wrap CK Option.getD and or
theorem G2 (q:GQ) (g:q.Good) (hi:Bool) (f:FuncId) (hb:BC E0.P f=true) (cf:∀p,Ca E0 f [bh p] (.int .i64 (pick hi p))) (hz:q.d.size<=200) (nl:Bool) (l:List Int) (hlen:l.length<=6)
  (hl:∀i,i<l.length->0<=l[i]?.getD 0/\l[i]?.getD 0<q.rq.length):Ca E0 HN [Hy q,.list nl (Bs l),.fn f []] (.list false (Bs (q.outN hi l l.length))):=by
 refine AW Kp Aq (by simp) fun hwf=>?_
 have hrl:=g.rl
 rw[AZ];unfold GV
 (try (simp -implicitDefEqProofs only[go_sem,Ai,AN,AL]));repeat' first|(with_reducible first|exact tI|refine aI ?_ ?_|intro _)|((first|with_reducible refine AU ?_ ?_<;>intro _)<;>try (simp -implicitDefEqProofs only[go_sem,Ai,AN,AL]))|simp (disch:=omega) only[Al]|((with_reducible refine Kj ?_);refine⟨(_,_,_,_),rfl,?_,?_⟩)
 all_goals first|omega|(simp<;>omega)|skip
 refine Ao (α:=Nat×(List Int)×Int×Int) (l0:=?l1) (m0:=?m1) (fun x=>[(22,.d (.int .i64 (x.1:Int)))]) (fun x=>[(15,.row 3 1 false (Bs x.2.1)),(8,.cells [.d (.int .i64 x.2.2.1),.d (.int .i64 x.2.2.2)])]) (fun x=>x.1<=l.length/\x.2.1=q.outN hi l x.1/\x.2.2.1=(q.hds hi l x.1).1/\x.2.2.2=(q.hds hi l x.1).2) (fun x=>l.length-x.1) (0,(List.replicate q.rq.length 0),q.cyl,0) ?h01 ?he1 ?he21 ?hI1 ?step1
 case h01=>(simp -implicitDefEqProofs only[go_sem,AN,AL];rfl)
 case he1=>rfl
 case he21=>rfl
 case' step1=>(rintro⟨i,out,c,t⟩ hI;try dsimp only at hI)
 case' hI1=>try dsimp only
 ·exact⟨by omega,rfl,rfl,rfl⟩
 ·obtain⟨h1,h2,h3,h4⟩:=hI
  have hol:=IQ q hi l i
  rw[←h2] at hol
  by_cases hi1:i<l.length
  ·have hi':(i:Int)<(l.length:Int):=by omega
   have wi:IntKind.i64.wrap ((i:Int)+1)=((i+1:Nat):Int):=by rw[Ad _ (by omega)];omega
   have hbd:=UW g hz hi hl i h1
   rw[←h3,←h4] at hbd
   have hx:=hl i hi1
   obtain⟨x,hxe⟩:∃x,l[i]?.getD 0=x:=⟨_,rfl⟩
   rw[hxe] at hx
   have c1:=P2 q g hi f hb cf hz c t hbd.1 ⟨hbd.2.1,by omega⟩ x hx
   have hn:q.hds hi l (i+1)=q.serveV hi (c,t) (q.req x):=by rw[GQ.hds,hxe,h3,h4]
   have ho:q.outN hi l (i+1)=out.set x.toNat (q.serveV hi (c,t) (q.req x)).2:=by rw[GQ.outN,hxe,hn,h2]
   have k1:x<(out.length:Int):=by omega
   have k2:x.toNat<out.length:=by omega
   rw[Ai,AN] at c1
   (try (simp -implicitDefEqProofs only[go_sem,Ai,AN,AL,hi',hi1,hxe,wi,k1,k2,hb]));repeat' first|(with_reducible first|exact tI|refine aI ?_ ?_|intro _)|((first|with_reducible refine AU ?_ ?_<;>intro _|(with_reducible refine isCall ?_);first|refine AF c1 ?_)<;>try (simp -implicitDefEqProofs only[go_sem,Ai,AN,AL,hi',hi1,hxe,wi,k1,k2,hb]))|simp (disch:=omega) only[Al]|((with_reducible refine Kj ?_);refine⟨(_,_,_,_),rfl,?_,?_⟩)
   all_goals first|omega|rfl|exact ho.symm|exact .inl True.intro|(rw[hn];rfl)|trace_state
  ·have hie:i=l.length:=by omega
   have hi':¬(i:Int)<(l.length:Int):=by omega
   rw[hie] at h2
   (try (simp -implicitDefEqProofs only[go_sem,AN,hi',h2]));repeat' first|(with_reducible first|exact tI|refine aI ?_ ?_|intro _)|((first|with_reducible refine AU ?_ ?_<;>intro _)<;>try (simp -implicitDefEqProofs only[go_sem,AN,hi',h2]))|simp (disch:=omega) only[Al]|((with_reducible refine Kj ?_);refine⟨(_,_,_,_),rfl,?_,?_⟩)
   all_goals first|omega|rfl|trace_state
theorem ER (n m:Int) (h:0<=n/\n<=m):Ca E0 E6 [.int .i64 n,.int .i64 m] (.bool true):=by
 have c:=UN n m
 rwa [Di.2 h] at c
theorem LU:BC E0.P E6=true:=by kernel_rfl
theorem JZ (q:GQ) (g:q.Good):Ca E0 MG [Hy q] (.int .i64 0):=by
 refine AW QI Aq (by simp) fun hwf=>?_
 have gd:=Bu g.d
 have hsz:=Cm gd
 have hcn:=gd.nt
 have hpas:=g.pas
 have c1:=JS q.d
 unfold AG.check at c1
 rw[g.d] at c1
 have c2:=Qu q.d g.d
 have hcy:=g.cyl
 have hsl:=g.sl
 have hrl:=g.rl
 have hcl:=Un gd
 have w1:IntKind.i64.wrap ((q.d.cyls:Int)-1)=(q.d.cyls:Int)-1:=Ad _ (by omega)
 have w2:IntKind.i64.wrap (q.d.size-1)=q.d.size-1:=Ad _ (by omega)
 have c3:=ER q.cyl ((q.d.cyls:Int)-1) hcy
 have c4:=ER q.pas 6 hpas
 have k1:((q.sk.length:Nat):Int)=(q.d.cyls:Int):=by omega
 have k2:¬6<((q.rq.length:Nat):Int):=by omega
 rw[AZ];unfold KZ
 (try (simp -implicitDefEqProofs only[go_sem,Ai,AN,AI,AD,AY,AL,w1,k1,k2,LU]));repeat' first|(with_reducible first|exact tI|refine aI ?_ ?_|intro _)|((first|with_reducible refine AU ?_ ?_<;>intro _|(with_reducible refine isCall ?_);first|refine AF c1 ?_|refine AF c2 ?_|refine AF c3 ?_|refine AF c4 ?_)<;>try (simp -implicitDefEqProofs only[go_sem,Ai,AN,AI,AD,AY,AL,w1,k1,k2,LU]))|simp (disch:=omega) only[Al]|((with_reducible refine A0 ?_);refine⟨(_,_),rfl,?_,?_⟩)|((with_reducible refine A5 ?_);refine⟨_,rfl,?_,?_⟩)
 all_goals first|omega|(simp<;>omega)|skip
 refine Ao (α:=Nat) (l0:=?l2) (m0:=?m2) (fun x=>[(54,.d (.int .i64 (x:Int)))]) (fun x=>[]) (fun x=>x<=q.sk.length) (fun x=>q.sk.length-x) 0 ?h02 ?he2 ?he22 ?hI2 ?step2
 case h02=>(simp -implicitDefEqProofs only[go_sem,AN,AY,k1];rfl)
 case he2=>rfl
 case he22=>rfl
 case' step2=>(rintro i hI;try dsimp only at hI)
 case' hI2=>try dsimp only
 ·omega
 ·by_cases hi:i<q.sk.length
  ·have hi':(i:Int)<(q.d.cyls:Int):=by omega
   have wi:IntKind.i64.wrap ((i:Int)+1)=((i+1:Nat):Int):=by rw[Ad _ (by omega)];omega
   have hp:=g.sk i hi
   obtain⟨p,hpe⟩:∃p,q.sk[i]?.getD default=p:=⟨_,rfl⟩
   rw[hpe] at hp
   have c5:=ER p.1 p.2 ⟨hp.1,hp.2.1⟩
   have k3:¬5000<p.2:=by omega
   (try (simp -implicitDefEqProofs only[go_sem,AN,AY,Ar,An,BR,hi',hi,hpe,wi,k1,k3,LU]));repeat' first|(with_reducible first|exact tI|refine aI ?_ ?_|intro _)|((first|with_reducible refine AU ?_ ?_<;>intro _|(with_reducible refine isCall ?_);first|refine AF c5 ?_)<;>try (simp -implicitDefEqProofs only[go_sem,AN,AY,Ar,An,BR,hi',hi,hpe,wi,k1,k3,LU]))|simp (disch:=omega) only[Al]|((with_reducible refine A0 ?_);refine⟨(_,_),rfl,?_,?_⟩)|((with_reducible refine A5 ?_);refine⟨_,rfl,?_,?_⟩)
   all_goals first|omega|rfl|trace_state
  ·have hi':¬(i:Int)<(q.d.cyls:Int):=by omega
   (try (simp -implicitDefEqProofs only[go_sem,AN,AY,AL,hi',k1]));repeat' first|(with_reducible first|exact tI|refine aI ?_ ?_|intro _)|((first|with_reducible refine AU ?_ ?_<;>intro _)<;>try (simp -implicitDefEqProofs only[go_sem,AN,AY,AL,hi',k1]))|simp (disch:=omega) only[Al]|((with_reducible refine A0 ?_);refine⟨(_,_),rfl,?_,?_⟩)|((with_reducible refine A5 ?_);refine⟨_,rfl,?_,?_⟩)
   all_goals first|omega|(simp<;>omega)|skip
   refine Ao (α:=Nat×Int) (l0:=?l3) (m0:=?m3) (fun x=>[(74,.d (.int .i64 (x.1:Int))),(9,.d (.int .i64 x.2))]) (fun x=>[]) (fun x=>x.1<=q.rq.length/\(x.2=0\/(0<x.1/\x.2=(q.rq[x.1-1]?.getD default).at'))) (fun x=>q.rq.length-x.1) (0,0) ?h03 ?he3 ?he23 ?hI3 ?step3
   case h03=>(simp -implicitDefEqProofs only[go_sem,AN,AL];rfl)
   case he3=>rfl
   case he23=>rfl
   case' step3=>(rintro⟨j,a⟩ hI2;try dsimp only at hI2)
   case' hI3=>try dsimp only
   ·exact⟨by omega,.inl rfl⟩
   ·obtain⟨j1,j2⟩:=hI2
    by_cases hj:j<q.rq.length
    ·have hj':(j:Int)<(q.rq.length:Int):=by omega
     have wj:IntKind.i64.wrap ((j:Int)+1)=((j+1:Nat):Int):=by rw[Ad _ (by omega)];omega
     have r1:=g.run j hj;have r2:=g.at' j hj;have r3:=g.due j hj
     have r4:a<=(q.rq[j]?.getD default).at':=by
      rcases j2 with j2|⟨j2,j3⟩
      ·omega
      ·have:=g.srt (j-1) (by omega)
       rw[show j-1+1=j by omega] at this;omega
     obtain⟨r,hr⟩:∃r,q.rq[j]?.getD default=r:=⟨_,rfl⟩
     rw[hr] at r1 r2 r3 r4
     have c5:=ER r.fr (q.d.size-1) (by omega)
     have c6:=ER (r.due+1) 100001 (by omega)
     have w3:IntKind.i64.wrap (q.d.size-r.fr)=q.d.size-r.fr:=Ad _ (by omega)
     have w4:IntKind.i64.wrap (r.due+1)=r.due+1:=Ad _ (by omega)
     have k3:¬r.cnt<1:=by omega
     have k4:¬q.d.size-r.fr<r.cnt:=by omega
     have k5:¬r.at' < a:=by omega
     have k6:¬10000<r.at':=by omega
     have hlast:r.at'=(q.rq[j+1-1]?.getD default).at':=by rw[Nat.add_sub_cancel,hr]
     (try (simp -implicitDefEqProofs only[go_sem,AN,AL,Az,Av,Bn,Bo,hj',hj,hr,wj,w2,w3,w4,k3,k4,k5,k6,LU]));repeat' first|(with_reducible first|exact tI|refine aI ?_ ?_|intro _)|((first|with_reducible refine AU ?_ ?_<;>intro _|(with_reducible refine isCall ?_);first|refine AF c5 ?_|refine AF c6 ?_)<;>try (simp -implicitDefEqProofs only[go_sem,AN,AL,Az,Av,Bn,Bo,hj',hj,hr,wj,w2,w3,w4,k3,k4,k5,k6,LU]))|simp (disch:=omega) only[Al]|((with_reducible refine A0 ?_);refine⟨(_,_),rfl,?_,?_⟩)|((with_reducible refine A5 ?_);refine⟨_,rfl,?_,?_⟩)
     all_goals first|omega|rfl|exact .inr ⟨by omega,hlast⟩|trace_state
    ·have hj':¬(j:Int)<(q.rq.length:Int):=by omega
     (try (simp -implicitDefEqProofs only[go_sem,AN,AL,hj']));repeat' first|(with_reducible first|exact tI|refine aI ?_ ?_|intro _)|((first|with_reducible refine AU ?_ ?_<;>intro _)<;>try (simp -implicitDefEqProofs only[go_sem,AN,AL,hj']))|simp (disch:=omega) only[Al]|((with_reducible refine A0 ?_);refine⟨(_,_),rfl,?_,?_⟩)|((with_reducible refine A5 ?_);refine⟨_,rfl,?_,?_⟩)
     all_goals first|omega|rfl|trace_state
end Go.Pw
end
