/- Part. -/
import Derived.Test.YtmdklgapccickaaGreatDoorPgMvA
import Derived.Test.YtmdklgapccickaaGreatDoorZonesSpec
import Derived.Test.YtmdklgapccickaaGreatDoorMvPC
import Derived.Test.YtmdklgapccickaaGreatDoorPwVC
import Derived.Test.YtmdklgapccickaaGreatDoorPwYa
set_option linter.all false
open Option renaming getD->aa,getD_some->ay
open Bool renaming and_eq_true->ax
open List renaming getElem?_eq_getElem->az,length_map->ck
open Go Go.Pw Go.Proofs
namespace Go.Pw
set_option maxRecDepth 100000
set_option maxHeartbeats 1600000
structure B9 where
 d:AQ
 sp:Int
 np:Bool
 pr:List Int
 ng:Bool
 gr:List BK
def f7(f:B9):List D:=[.int .i64 f.d.heads,.int .i64 f.d.turn,.list f.d.zn (HF f.d.zones),.int .i64 f.d.hskew,.int .i64 f.d.cskew,.int .i64 f.d.hlo,.int .i64 f.d.hhi,.int .i64 f.d.clo,.int .i64 f.d.chi,.int .i64 f.sp,.list f.np (Ad f.pr),.list f.ng (BO f.gr)]
def HX(f:B9):D:=.agg (f7 f)
theorem Ao(f:B9):f7 f=[.int .i64 f.d.heads,.int .i64 f.d.turn,.list f.d.zn (HF f.d.zones),.int .i64 f.d.hskew,.int .i64 f.d.cskew,.int .i64 f.d.hlo,.int .i64 f.d.hhi,.int .i64 f.d.clo,.int .i64 f.d.chi,.int .i64 f.sp,.list f.np (Ad f.pr),.list f.ng (BO f.gr)]:=rfl
theorem Aj(f:B9):HX f=.agg (f7 f):=rfl
def R9(l:List Int)(lo hi:Int)(i:Nat):Bool:=(decide (lo<=l[i]?.getD 0) && decide (l[i]?.getD 0<=hi)) && (decide (i=0) || decide (l[i-1]?.getD 0<l[i]?.getD 0))
def US(l:List Int)(lo hi:Int):Bool:=(List.range l.length).all (R9 l lo hi)
theorem Zl{l lo hi i}(e:i<l.length)(h:R9 l lo hi i=false):US l lo hi=false:=by
 unfold US;rw[List.all_eq_false];exact⟨i,List.mem_range.2 e,by rw[h];simp⟩
theorem jJ{l lo hi}(h:∀i,i<l.length->R9 l lo hi i=true):US l lo hi=true:=by
 unfold US;exact List.all_eq_true.2 fun i hi=>h i (List.mem_range.1 hi)
def E1(f:B9)(x:BK):Bool:=(decide (0<=x.id) && decide (x.id<=99)) && ((decide (0<=x.st) && decide (x.st<=9999)) && (decide (0<=x.sec) && decide (x.sec<f.d.size)))
theorem HW{f:B9}{x:BK}:E1 f x=true↔(0<=x.id/\x.id<=99)/\(0<=x.st/\x.st<=9999)/\0<=x.sec/\x.sec<f.d.size:=by
 unfold E1;simp only[ax,decide_eq_true_eq]
structure B9.Base (f:B9):Prop where
 d:f.d.ok=true
 sp:0<=f.sp/\f.sp<=20
 pl:f.pr.length<=60
 pr:US f.pr 0 (f.d.size-1)=true
 gl:f.gr.length<=30
def IH(d:AQ):Nat->Int
 |0=>0
 |k+1=>IH d k+d.heads*(d.zones[k]?.getD default).1*(d.zones[k]?.getD default).2
def Wi(d:AQ)(n:Nat):List Zp:=(List.range n).map fun k=>(IH d k,IH d (k+1))
theorem xe(d:AQ)(n:Nat):Wi d n++[(IH d n,IH d (n+1))]=Wi d (n+1):=by simp[Wi,List.range_succ]
theorem Dj(d:AQ)(n:Nat):(Wi d n).length=n:=by simp[Wi]
theorem aB{d:AQ}{n k:Nat}(h:k<n):(Wi d n)[k]?.getD default=(IH d k,IH d (k+1)):=by simp[Wi,h]
structure Z1 where
 bl:List Int
 fr:List (Bool×List Int)
 gv:List (Int×Int)
def C2(gv:List (Int×Int))(s:Int):Int:=match gv with
 |[]=>0
 |p::l=>if s=p.1 then p.2 else C2 l s
def Ek(gv:List (Int×Int))(s:Int):List (Int×Int):=match gv with
 |[]=>[(s,1)]
 |p::l=>if s=p.1 then(p.1,p.2+1)::l else p::Ek l s
theorem ga{gv:List (Int×Int)}{s t:Int}(h:t≠s):C2 (Ek gv s) t=C2 gv t:=by
 induction gv with
 |nil=>simp[Ek,C2,h]
 |cons p l ih =>
  rw[Ek]
  by_cases h1:s=p.1
  ·rw[if_pos h1,C2,C2,if_neg (fun e=>h (e.trans h1.symm)),if_neg (fun e=>h (e.trans h1.symm))]
  ·rw[if_neg h1,C2,C2,ih]
def I7(d:AQ)(s:Int):Nat->Nat
 |0=>0
 |k+1=>if IH d k<=s/\s<IH d (k+1)then k else I7 d s k
theorem iV(d:AQ)(s:Int):∀n,0<n->I7 d s n<n
 |n+1,_=>by
  rw[I7];split
  ·omega
  ·cases n with
   |zero=>simp[I7]
   |succ n=>have:=iV d s (n+1) (by omega);omega
def Lo(fr:List (Bool×List Int))(own:Nat):Nat->Option Nat
 |0=>none
 |k+1=>match Lo fr own k with
  |some j=>some j
  |none=>if(fr[(own+k)%fr.length]?.getD (true,[])).2.length=0 then none else some ((own+k)%fr.length)
def K9(l:List Int)(i:Nat):List Int:=l.take i++l.drop (i+1)
def Lj(l:List Int)(s:Int):Nat:=(l.filter fun x=>decide (x<s)).length
theorem tj{l:List Int}{s:Int}{i:Nat}(h:i<=l.length)(h1:∀p,p<i->l[p]?.getD 0<s)(h2:∀p,i<=p->p<l.length->s<=l[p]?.getD 0):Lj l s=i:=by
 unfold Lj;have e:l=l.take i++l.drop i:=(List.take_append_drop i l).symm;rw[e,List.filter_append,List.length_append]
 have m:(l.take i).filter (fun x=>decide (x<s))=l.take i:=List.filter_eq_self.2 fun x hx=>by
  obtain⟨p,hp,rfl⟩:=List.getElem_of_mem hx;rw[List.length_take]at hp;have:=h1 p (by omega);rw[az (by omega),ay]at this;rw[List.getElem_take];exact decide_eq_true this
 have j:(l.drop i).filter (fun x=>decide (x<s))=[]:=List.filter_eq_nil_iff.2 fun x hx=>by
  obtain⟨p,hp,rfl⟩:=List.getElem_of_mem hx;rw[List.length_drop]at hp;have:=h2 (i+p) (by omega) (by omega);rw[az (by omega),ay]at this;rw[List.getElem_drop];simp;exact this
 rw[m,j,List.length_take];simp;omega
def MY(d:AQ)(p:Z1)(s:Int):Z1 :=
 if 0<C2 p.gv s then⟨p.bl,p.fr,Ek p.gv s⟩else
 if s∈(p.fr[I7 d s d.zones.length]?.getD (true,[])).2 then⟨p.bl,p.fr.set (I7 d s d.zones.length) (false,K9 (p.fr[I7 d s d.zones.length]?.getD (true,[])).2 (Lj (p.fr[I7 d s d.zones.length]?.getD (true,[])).2 s)),Ek p.gv s⟩else
 match p.bl.findIdx? (fun x=>decide (x=s))with
 |none=>⟨p.bl,p.fr,Ek p.gv s⟩
 |some b=>match Lo p.fr (I7 d s d.zones.length) p.fr.length with
  |none=>⟨p.bl.set b (-1),p.fr,Ek p.gv s⟩
  |some k=>⟨p.bl.set b ((p.fr[k]?.getD (true,[])).2[0]?.getD 0),p.fr.set k ((p.fr[k]?.getD (true,[])).1,(p.fr[k]?.getD (true,[])).2.drop 1),Ek p.gv s⟩
def MZ(pr:List Int)(a:Int):Nat->List Int
 |0=>[]
 |n+1=>if C2 (pr.map fun x=>(x,1)) (a+n)=0 then MZ pr a n++[a+n]else MZ pr a n
def HN(f:B9)(k:Nat):List Int:=MZ f.pr (IH f.d k) (IH f.d (k+1)-IH f.d k).toNat
def Zb(f:B9)(k:Nat):Nat:=(max 0 (((HN f k).length:Int)-f.sp)).toNat
def TI(f:B9):Nat->List Int
 |0=>[]
 |k+1=>TI f k++(HN f k).take (Zb f k)
def Wu(f:B9)(n:Nat):List (Bool×List Int):=(List.range n).map fun k=>((HN f k).isEmpty,(HN f k).drop (Zb f k))
def N2(f:B9):Z1:=⟨TI f f.d.zones.length,Wu f f.d.zones.length,f.pr.map fun x=>(x,1)⟩
def HG(f:B9)(l:List BK):Nat->Z1
 |0=>N2 f
 |n+1=>MY f.d (HG f l n) (l[n]?.getD default).sec
def HS(p:Z1)(b:Int):Int×Int:=if b<0\/(p.bl.length:Int)<=b then(0,1)else if p.bl[b.toNat]?.getD 0=-1 then(0,3)else(p.bl[b.toNat]?.getD 0,0)
def Nl:B9:=⟨⟨2,60,false,[(2,6),(1,5)],10,25,4,12,20,30⟩,2,false,[3,20],false,[⟨1,5,4⟩,⟨2,9,22⟩,⟨3,7,33⟩,⟨4,8,23⟩,⟨5,6,30⟩]⟩
theorem co:HS (HG Nl [⟨1,5,4⟩,⟨5,6,30⟩,⟨3,7,33⟩,⟨4,8,23⟩,⟨2,9,22⟩] 5) 26=(32,0):=by decide +kernel
theorem SN{d:AQ}(h:d.ok=true)(k:Nat)(hk:k<d.zones.length):((0<=d.heads/\d.heads<=4)/\(0<=(d.zones[k]?.getD default).1/\(d.zones[k]?.getD default).1<=20)/\(0<=(d.zones[k]?.getD default).2/\(d.zones[k]?.getD default).2<=16))/\(0<=d.heads*(d.zones[k]?.getD default).1/\d.heads*(d.zones[k]?.getD default).1<=80)/\0<=d.heads*(d.zones[k]?.getD default).1*(d.zones[k]?.getD default).2/\d.heads*(d.zones[k]?.getD default).1*(d.zones[k]?.getD default).2<=1280:=by
 have e:=AQ.ok_iff.1 h;have i:=N5.1 (by unfold AQ.ok at h;rw[ax]at h;exact h.2) k hk;have hh:=(AQ.head_iff.1 e.1).1;unfold GI at i;simp only[ax,Ft]at i;obtain⟨⟨z1,z2⟩,_⟩:=i;have j:=Int.mul_nonneg (show 0<=d.heads by omega) (show 0<=(d.zones[k]?.getD default).1 by omega);have m:d.heads*(d.zones[k]?.getD default).1<=4*20:=Int.mul_le_mul (by omega) (by omega) (by omega) (by omega);have l:=Int.mul_nonneg j (show 0<=(d.zones[k]?.getD default).2 by omega);have n:d.heads*(d.zones[k]?.getD default).1*(d.zones[k]?.getD default).2<=80*16:=Int.mul_le_mul (by omega) (by omega) (by omega) (by omega);exact⟨⟨by omega,by omega,by omega⟩,⟨j,by omega⟩,l,by omega⟩
theorem Uw{d:AQ}(h:d.ok=true):∀k,k<=d.zones.length->0<=IH d k/\IH d k<=k*1280
 |0,_=>by simp[IH]
 |k+1,hk=>by
  obtain⟨h1,h2⟩:=Uw h k (by omega);have e:=SN h k (by omega);rw[IH];omega
section
attribute [local irreducible] IntKind.wrap Ah aa and or
theorem Gk(n lo hi:Int):BU E0 WZ [.int .i64 n,.int .i64 lo,.int .i64 hi] (.bool (Oe n lo hi)):=by
 refine AL ZX AR (by simp) fun e=>?_
 rw[AN];unfold TW Oe;refine' FP
 all_goals first|omega|(simp_all;done)|(simp_all;omega)
theorem Bo(n lo hi:Int):BU E0 OH [.int .i64 n,.int .i64 lo,.int .i64 hi] (.bool (Oe n lo hi)):=by
 refine AL S2 AR (by simp) fun e=>?_
 rw[AN];unfold MM Oe;refine' FP
 all_goals first|omega|(simp_all;done)|(simp_all;omega)
theorem QY(l h:Int):BU E0 Md [.agg [.int .i64 l,.int .i64 h]] (.bool (Ld l h)):=by
 refine AL RQ AR (by simp) fun e=>?_
 rw[AN];unfold Kd Ld;refine' FP
 all_goals first|omega|(simp_all;done)|(simp_all;omega)
theorem IG(d:AQ)(b:Bool):BU E0 J_ [K8 d,.bool b] (.int .i64 (if b then d.cskew else d.hskew)):=by
 refine AL Ox AR (by simp) fun e=>?_
 rw[AN];unfold Iw
 cases b
 ·refine' MX @Aw @AX
 ·refine' MX @Aw @AX
end
section
attribute [local irreducible] IntKind.wrap Ah aa and or
theorem aA{d:AQ}{i:Int}(h0:0<=i/\i<d.zones.length)(h:GI d.turn (d.zones[i.toNat]?.getD default)=false):d.ok=false:=by
 unfold AQ.ok;rw[r0 (j:=i.toNat) (by omega) h];simp
theorem hC{d:AQ}{i:Int}(h0:0<=i/\i<d.zones.length)(e:∀(j:Nat),(j:Int)<i->GI d.turn (d.zones[j]?.getD default)=true)(h:GI d.turn (d.zones[i.toNat]?.getD default)=true):∀(j:Nat),(j:Int)<i+1->GI d.turn (d.zones[j]?.getD default)=true:=fun j l=>by
 rcases(show(j:Int)<i\/j=i.toNat by omega)with h1|h1
 ·exact e j h1
 ·rw[h1];exact h
theorem Tz(d:AQ):BU E0 PV [K8 d] (.int .i64 d.check):=by
 refine AL UA AR (by simp) fun q=>?_
 simp only[Eo,Dv,Du,Da,FE,FD,HI,FC,Bj,B0,B1,Dw,CO,ck,Bq,true_and,and_true,Aw,AX,Ai]at q;rw[AN];unfold NG AQ.check;have l:BA E0.P 175=true:=by kernel_rfl
 by_cases ht:Oe d.turn 1 1000=true
 ·have J:=Ft.1 ht;have r:IntKind.i64.wrap (d.turn-1)=d.turn-1:=Am _ (by omega);refine' dz @Aw @AX r @Ai l;repeat' first|(refine' BJ;(first|refine AF (Gk _ _ _) ?_|refine AF (QY _ _) ?_)<;>refine' dz @Aw @AX r @Ai l)|refine' BI|done
  all_goals(try(simp_all[AQ.ok,AQ.head];done))
  refine BN (α:=Int) (l0:=?l1) (m0:=?m1) (fun x=>[(48,.d (.int .i64 x))]) (fun x=>[]) (fun x=>0<=x/\x<=d.zones.length/\∀(j:Nat),(j:Int)<x->GI d.turn (d.zones[j]?.getD default)=true) (fun x=>(d.zones.length-x).toNat) ?a1_0 ?h01 ?he1 ?he21 ?hI1 ?step1
  case h01=>(simp -implicitDefEqProofs only[go_sem,Ai,AX];rfl)
  case he1=>rfl
  case he21=>rfl
  case' step1=>(rintro i t;try dsimp only at t)
  case' hI1=>try dsimp only
  ·exact⟨by omega,by omega,fun j B=>by omega⟩
  ·obtain⟨h1,h2,z⟩:=t
   by_cases hi:i<d.zones.length
   ·have e:=aA (d:=d) ⟨h1,hi⟩;have m:=hC (d:=d) ⟨h1,hi⟩ z;have G:IntKind.i64.wrap (i+1)=i+1:=Am _ (by omega);obtain⟨w,h⟩:∃w,d.zones[i.toNat]?.getD default=w:=⟨_,rfl⟩
    rw[h]at e m;have n:GI d.turn w=(Oe w.1 1 20 && Oe w.2 1 16 && decide (d.turn.tmod w.2=0)):=rfl;have k1:=Gk w.1 1 20;have k2:=Gk w.2 1 16
    cases b1:Oe w.1 1 20 with
    |false =>
     rw[b1]at k1;rw[e (by rw[n,b1];simp)];refine' QX @Ai @Bg h @EH @AX @Bm;repeat' first|(refine' BJ;(first|refine AF k1 ?_)<;>refine' QX @Ai @Bg h @EH @AX @Bm)|refine' BI|done
     all_goals try exact BL
    |true =>
     rw[b1]at k1
     cases b2:Oe w.2 1 16 with
     |false =>
      rw[b2]at k2;rw[e (by rw[n,b2];simp)];refine' QX @Ai @Bg h @EH @AX @Bm;repeat' first|(refine' BJ;(first|refine AF k1 ?_|refine AF k2 ?_)<;>refine' QX @Ai @Bg h @EH @AX @Bm)|refine' BI|done
      all_goals try exact BL
     |true =>
      rw[b2]at k2;have A:=Ft.1 b2
      have hm:IntKind.i64.wrap (d.turn.tmod w.2)=d.turn.tmod w.2:=Am _ (by
       have:=Int.tmod_nonneg w.2 (a:=d.turn) (by omega);have:=Int.tmod_lt_of_pos d.turn (b:=w.2) (by omega)
       omega)
      have hne:¬w.2=0:=by omega
      by_cases o:d.turn.tmod w.2=0
      ·have hok:=m (by rw[n,b1,b2];simp[o]);refine' EP @Ai @Bg h @EH @AX @Bm hm (aI o hne);repeat' first|(refine' BJ;(first|refine AF k1 ?_|refine AF k2 ?_)<;>refine' EP @Ai @Bg h @EH @AX @Bm hm (aI o hne))|refine' BI|done
       all_goals try exact BL
       all_goals(apply hok;assumption)
      ·rw[e (by rw[n];simp[o])];refine' EP @Ai @Bg h @EH @AX @Bm hm (aI o hne);repeat' first|(refine' BJ;(first|refine AF k1 ?_|refine AF k2 ?_)<;>refine' EP @Ai @Bg h @EH @AX @Bm hm (aI o hne))|refine' BI|done
       all_goals try exact BL
   ·have y:d.zones.all (GI d.turn)=true:=N5.2 fun j B=>z j (by omega)
    refine' LV @Ai @AX hi
    all_goals(simp_all[AQ.ok,AQ.head])
 ·have p:Oe d.turn 1 1000=false:=by simpa using ht
  have e:d.ok=false:=by simp[AQ.ok,AQ.head,p]
  have u:=Gk d.turn 1 1000;rw[p]at u;rw[e];refine' FA @Aw @AX l;repeat' first|(refine' BJ;(first|refine AF u ?_|refine AF (Gk _ _ _) ?_)<;>refine' FA @Aw @AX l)|refine' BI|done
  all_goals try exact BL
theorem L_(d:AQ):BU E0 Pe [K8 d] (.int .i64 d.check):=by
 refine AL UI AR (by simp) fun r=>?_
 simp only[Eo,Dv,Du,Da,FE,FD,HI,FC,Bj,B0,B1,Dw,CO,ck,Bq,true_and,and_true,Aw,AX,Ai]at r;rw[AN];unfold NO AQ.check
 by_cases ht:Oe d.turn 1 1000=true
 ·have S:=Ft.1 ht;have q:IntKind.i64.wrap (d.turn-1)=d.turn-1:=Am _ (by omega)
  cases hh:d.head with
  |false =>
   have e:d.ok=false:=by simp[AQ.ok,hh]
   rw[e];refine' Gj @Aw @AX q @Ai;repeat' first|(refine' BJ;(first|refine AF (Bo _ _ _) ?_)<;>refine' Gj @Aw @AX q @Ai)|refine' BI|done
   all_goals(simp_all[AQ.head];done)
  |true =>
  have hd:=AQ.head_iff.1 hh;have O:Oe d.heads 1 4=true:=Ft.2 (by omega);have M:Oe d.zones.length 1 4=true:=Ft.2 (by omega);have U:Oe d.hskew 0 (d.turn-1)=true:=Ft.2 (by omega);have T:Oe d.cskew 0 (d.turn-1)=true:=Ft.2 (by omega);have u:=Bo d.heads 1 4;have G:=Bo d.turn 1 1000;have t:=Bo d.zones.length 1 4;have B:=Bo d.hskew 0 (d.turn-1);have A:=Bo d.cskew 0 (d.turn-1);rw[O]at u;rw[ht]at G;rw[M]at t;rw[U]at B;rw[T]at A;refine' Gj @Aw @AX q @Ai;repeat' first|(refine' BJ;(first|refine AF u ?_|refine AF G ?_|refine AF t ?_|refine AF B ?_|refine AF A ?_)<;>refine' Gj @Aw @AX q @Ai)|refine' BI|done
  all_goals(try(simp_all;done))
  refine BN (α:=Int) (l0:=?l2) (m0:=?m2) (fun x=>[(3,.d (.int .i64 x))]) (fun x=>[]) (fun x=>0<=x/\x<=d.zones.length/\∀(j:Nat),(j:Int)<x->GI d.turn (d.zones[j]?.getD default)=true) (fun x=>(d.zones.length-x).toNat) ?a2_0 ?h02 ?he2 ?he22 ?hI2 ?step2
  case h02=>(simp -implicitDefEqProofs only[go_sem,Ai,AX];rfl)
  case he2=>rfl
  case he22=>rfl
  case' step2=>(rintro i y;try dsimp only at y)
  case' hI2=>try dsimp only
  ·exact⟨by omega,by omega,fun j N=>by omega⟩
  ·obtain⟨h1,h2,J⟩:=y
   by_cases hi:i<d.zones.length
   ·have e:=aA (d:=d) ⟨h1,hi⟩;have l:=hC (d:=d) ⟨h1,hi⟩ J;have R:IntKind.i64.wrap (i+1)=i+1:=Am _ (by omega);obtain⟨w,h⟩:∃w,d.zones[i.toNat]?.getD default=w:=⟨_,rfl⟩
    rw[h]at e l;have m:GI d.turn w=(Oe w.1 1 20 && Oe w.2 1 16 && decide (d.turn.tmod w.2=0)):=rfl;have k1:=Bo w.1 1 20;have k2:=Bo w.2 1 16
    cases b1:Oe w.1 1 20 with
    |false =>
     rw[b1]at k1;rw[e (by rw[m,b1];simp)];refine' QX @Ai @Bg h @EH @AX @Bm;repeat' first|(refine' BJ;(first|refine AF k1 ?_)<;>refine' QX @Ai @Bg h @EH @AX @Bm)|refine' BI|done
     all_goals try exact BL
    |true =>
     rw[b1]at k1
     cases b2:Oe w.2 1 16 with
     |false =>
      rw[b2]at k2;rw[e (by rw[m,b2];simp)];refine' QX @Ai @Bg h @EH @AX @Bm;repeat' first|(refine' BJ;(first|refine AF k1 ?_|refine AF k2 ?_)<;>refine' QX @Ai @Bg h @EH @AX @Bm)|refine' BI|done
      all_goals try exact BL
     |true =>
      rw[b2]at k2;have L:=Ft.1 b2
      have hm:IntKind.i64.wrap (d.turn.tmod w.2)=d.turn.tmod w.2:=Am _ (by
       have:=Int.tmod_nonneg w.2 (a:=d.turn) (by omega);have:=Int.tmod_lt_of_pos d.turn (b:=w.2) (by omega)
       omega)
      have hne:¬w.2=0:=by omega
      by_cases n:d.turn.tmod w.2=0
      ·have hok:=l (by rw[m,b1,b2];simp[n]);refine' EP @Ai @Bg h @EH @AX @Bm hm (aI n hne);repeat' first|(refine' BJ;(first|refine AF k1 ?_|refine AF k2 ?_)<;>refine' EP @Ai @Bg h @EH @AX @Bm hm (aI n hne))|refine' BI|done
       all_goals try exact BL
       all_goals(apply hok;assumption)
      ·rw[e (by rw[m];simp[n])];refine' EP @Ai @Bg h @EH @AX @Bm hm (aI n hne);repeat' first|(refine' BJ;(first|refine AF k1 ?_|refine AF k2 ?_)<;>refine' EP @Ai @Bg h @EH @AX @Bm hm (aI n hne))|refine' BI|done
       all_goals try exact BL
   ·have p:d.zones.all (GI d.turn)=true:=N5.2 fun j N=>J j (by omega)
    have hok:d.ok=(Ld d.hlo d.hhi && Ld d.clo d.chi):=by unfold AQ.ok;rw[p,hh];simp
    rw[hok];unfold Ld;refine' LV @Ai @AX hi
    all_goals first|omega|(simp_all;done)|(simp;omega)|skip
 ·have o:Oe d.turn 1 1000=false:=by simpa using ht
  have e:d.ok=false:=by simp[AQ.ok,AQ.head,o]
  have z:=Bo d.turn 1 1000;rw[o]at z;rw[e];refine' FS @Aw @AX;repeat' first|(refine' BJ;(first|refine AF z ?_|refine AF (Bo _ _ _) ?_)<;>refine' FS @Aw @AX)|refine' BI|done
  all_goals try exact BL
end
section
theorem Qg{E:CW}{rs o els s}:tC E rs o els .ret s=(GL E s rs (fun _=>True)/\Og els (s.V.ob o)):=rfl
theorem bH{E:CW}{rs o els s}:tC E rs o els .normal s=(GL E s rs (fun _=>True)/\Og els (s.V.ob o)):=rfl
theorem I'{els g e n st}:Og els (some (g,.hist e n st))=(e=els/\(st=true\/n=els.length)):=rfl
theorem nG{d:AQ}(g:d.Good){i j h:Nat}(hi:i<d.zones.length)(e:j<(d.zones[i]?.getD default).1.toNat)(hh:h<d.heads.toNat) :
  (d.base i+j)*d.heads.toNat+h<d.nt/\d.ts ((d.base i+j)*d.heads.toNat+h)=(d.zones[i]?.getD default).2/\d.tc ((d.base i+j)*d.heads.toNat+h)=((d.base i+j:Nat):Int)/\d.th ((d.base i+j)*d.heads.toNat+h)=h:=by
 have h1:=iI d i j hi e;have h2:d.base i+j<d.cyls:=(List.getElem?_eq_some_iff.1 h1).1;refine⟨?_,by rw[xC _ _ hh,h1,ay],AAJ _ _ hh,AAI _ _ hh⟩;unfold AQ.nt
 calc (d.base i+j)*d.heads.toNat+h<(d.base i+j)*d.heads.toNat+d.heads.toNat:=by omega
  _=(d.base i+j+1)*d.heads.toNat:=by rw[Nat.succ_mul]
  _<=d.cyls*d.heads.toNat:=Nat.mul_le_mul_right _ h2
theorem eF:Fc.noR=true:=by rfl
theorem sV{d:AQ}(g:d.Good)(n:Nat):d.to (n+1)=(d.to n+(if d.th n=d.heads-1 then d.cskew else d.hskew)).tmod d.turn:=by
 have h1:=g.to n;have h2:=g.k1;have e:=g.c1;rw[AQ.to,Int.tmod_eq_emod_of_nonneg];split<;>omega
attribute [local irreducible] IntKind.wrap Ah aa and or
theorem SM(d:AQ)(hok:d.ok=true):WY E0 F2 [K8 d] [] d.tracks:=by
 have g:=FQ hok;have g1:=g.h1;have g2:=g.h2;have g3:=g.t1;have g4:=g.t2;have g5:=g.z1;have g6:=g.z2;have μ:=g.cyls;refine Le Mx AR eF (by simp) fun κ _=>?_
 rw[Bh];unfold Fc;refine' LV @Aw @AX @Ai
 all_goals try exact BL
 refine BN (α:=Int×Int×Int×Int×Int×Int×Nat) (l0:=?l1) (m0:=?m1) (fun x=>[(11,.d (.int .i64 x.1))]) (fun x=>[(4,.cells [.d (.int .i64 x.2.1),.d (.int .i64 x.2.2.1),.d (.int .i64 x.2.2.2.1),.d (.int .i64 x.2.2.2.2.1),.d (.int .i64 x.2.2.2.2.2.1)]),(900001,.hist d.tracks x.2.2.2.2.2.2 false)]) (fun x=>0<=x.1/\x.1<=d.zones.length/\x.2.2.2.2.2.2=d.base x.1.toNat * d.heads.toNat/\x.2.1=d.base x.1.toNat/\x.2.2.2.2.1=d.tf x.2.2.2.2.2.2/\x.2.2.2.2.2.1=d.to x.2.2.2.2.2.2) (fun x=>(d.zones.length-x.1).toNat) (?a1_0,?a1_1,?a1_2,?a1_3,?a1_4,?a1_5,?a1_6) ?h01 ?he1 ?he21 ?hI1 ?step1
 case h01=>(simp -implicitDefEqProofs only[go_sem,Ai,AX];rfl)
 case he1=>rfl
 case he21=>rfl
 case' step1=>(rintro⟨i,c,e,s,f,o,n⟩ S;try dsimp only at S)
 case' hI1=>try dsimp only
 ·exact⟨by omega,by omega,by simp[AQ.base],by simp[AQ.base],rfl,rfl⟩
 ·obtain⟨h1,h2,Z,h4,h5,h6⟩:=S
  by_cases hi:i<d.zones.length
  ·have hz:=g.z i.toNat (by omega);obtain⟨z,p⟩:∃z,d.zones[i.toNat]?.getD default=z:=⟨_,rfl⟩
   rw[p]at hz;have B:IntKind.i64.wrap (i+1)=i+1:=Am _ (by omega);refine' mA6 @Ai @Bg p @EH @AX @Bm
   all_goals try exact BL
   refine BN (α:=Int×Int×Int×Int×Int×Int×Nat) (l0:=?l2) (m0:=?m2) (fun x=>[(17,.d (.int .i64 x.1))]) (fun x=>[(4,.cells [.d (.int .i64 x.2.1),.d (.int .i64 x.2.2.1),.d (.int .i64 x.2.2.2.1),.d (.int .i64 x.2.2.2.2.1),.d (.int .i64 x.2.2.2.2.2.1)]),(900001,.hist d.tracks x.2.2.2.2.2.2 false)]) (fun x=>0<=x.1/\x.1<=z.1/\x.2.2.2.2.2.2=(d.base i.toNat+x.1.toNat)*d.heads.toNat/\x.2.1=d.base i.toNat+x.1/\x.2.2.2.2.1=d.tf x.2.2.2.2.2.2/\x.2.2.2.2.2.1=d.to x.2.2.2.2.2.2) (fun x=>(z.1-x.1).toNat) (?a2_0,?a2_1,?a2_2,?a2_3,?a2_4,?a2_5,?a2_6) ?h02 ?he2 ?he22 ?hI2 ?step2
   case h02=>(simp -implicitDefEqProofs only[go_sem,Ai,AX];rfl)
   case he2=>rfl
   case he22=>rfl
   case' step2=>(rintro⟨j,c,e,s,f,o,n⟩ hI2;try dsimp only at hI2)
   case' hI2=>try dsimp only
   ·exact⟨by omega,by omega,by simpa using Z,by omega,h5,h6⟩
   ·obtain⟨q1,q2,U,q4,q5,q6⟩:=hI2;have O:IntKind.i64.wrap (c+1)=c+1:=Am _ (by have:=g.base i.toNat (by omega);omega);have G:IntKind.i64.wrap (j+1)=j+1:=Am _ (by omega)
    by_cases hj:j<z.1
    ·refine' HM @AX
     all_goals try exact BL
     refine BN (α:=Int×Int×Int×Int×Int×Nat) (l0:=?l3) (m0:=?m3) (fun x=>[(22,.d (.int .i64 x.1))]) (fun x=>[(4,.cells [.d (.int .i64 c),.d (.int .i64 x.2.1),.d (.int .i64 x.2.2.1),.d (.int .i64 x.2.2.2.1),.d (.int .i64 x.2.2.2.2.1)]),(900001,.hist d.tracks x.2.2.2.2.2 false)]) (fun x=>0<=x.1/\x.1<=d.heads/\x.2.2.2.2.2=(d.base i.toNat+j.toNat)*d.heads.toNat+x.1.toNat/\x.2.2.2.1=d.tf x.2.2.2.2.2/\x.2.2.2.2.1=d.to x.2.2.2.2.2) (fun x=>(d.heads-x.1).toNat) (?a3_0,?a3_1,?a3_2,?a3_3,?a3_4,?a3_5) ?h03 ?he3 ?he23 ?hI3 ?step3
     case h03=>(simp -implicitDefEqProofs only[go_sem,AX];rfl)
     case he3=>rfl
     case he23=>rfl
     case' step3=>(rintro⟨k,e,s,f,o,n⟩ hI3;try dsimp only at hI3)
     case' hI3=>try dsimp only
     ·exact⟨by omega,by omega,by simpa using U,q5,q6⟩
     ·obtain⟨r1,r2,R,T,M⟩:=hI3
      by_cases hk:k<d.heads
      ·have ht:=nG g (i:=i.toNat) (j:=j.toNat) (h:=k.toNat) (by omega) (by rw[p];omega) (by omega);rw[←R,p]at ht;obtain⟨t1,t2,t3,t4⟩:=ht;have q:=jf t1;have ν:=g.tf n (by omega);have ε:=g.to n;have β:=g.nt;have l:IntKind.i64.wrap (f+z.2)=f+z.2:=Am _ (by omega);have η:d.tf (n+1)=f+z.2:=by rw[AQ.tf,t2,←T]
       have m:=sV g n;have r:IntKind.i64.wrap (k+1)=k+1:=Am _ (by omega);have t:IntKind.i64.wrap (d.heads-1)=d.heads-1:=Am _ (by omega);have γ:=g.c1;have ι:=g.c2;have ζ:=g.k1;have θ:=g.k2;have Y:IntKind.i64.wrap (o+d.cskew)=o+d.cskew:=Am _ (by omega);have X:IntKind.i64.wrap (o+d.hskew)=o+d.hskew:=Am _ (by omega)
       have N:U5 (d.track n)=.agg [.int .i64 c,.int .i64 k,.int .i64 z.2,.int .i64 f,.int .i64 o]:=by
        rw[SR,SS,AQ.track];simp only;rw[t2,t3,t4,←T,←M,show((d.base i.toNat+j.toNat:Nat):Int)=c by omega,show((k.toNat:Nat):Int)=k by omega]
       rw[N]at q;have hne:¬d.turn=0:=by omega
       by_cases hl:k=d.heads-1
       ·rw[if_pos (by omega),←M]at m;have c1:=IG d true;rw[if_pos rfl]at c1;refine' EP @AX @Aw l Y (m.symm) t hne (aI r (aI q (aI @Qg @I')));repeat' first|(refine' BJ;(first|refine AF c1 ?_)<;>refine' EP @AX @Aw l Y (m.symm) t hne (aI r (aI q (aI @Qg @I'))))|refine' BI|done
        all_goals try exact BL
        all_goals rfl
       ·rw[if_neg (by omega),←M]at m;have c1:=IG d false;rw[if_neg (by simp)]at c1;refine' EP @AX @Aw l X (m.symm) t hne (aI r (aI q (aI @Qg @I')));repeat' first|(refine' BJ;(first|refine AF c1 ?_)<;>refine' EP @AX @Aw l X (m.symm) t hne (aI r (aI q (aI @Qg @I'))))|refine' BI|done
        all_goals try exact BL
        all_goals rfl
      ·have A:k=d.heads:=by omega
       subst A;have u:n=(d.base i.toNat+(j+1).toNat)*d.heads.toNat:=by rw[R,show d.base i.toNat+(j+1).toNat=d.base i.toNat+j.toNat+1 by omega,Nat.succ_mul]
       refine' LV @AX O G
       all_goals try exact BL
    ·have L:j=z.1:=by omega
     subst L;have y:d.base (i+1).toNat=d.base i.toNat+z.1.toNat:=by rw[show(i+1).toNat=i.toNat+1 by omega,AQ.base,p]
     have u:n=d.base (i+1).toNat * d.heads.toNat:=by rw[y];exact U
     have δ:c=d.base (i+1).toNat:=by rw[y];omega
     refine' MX @AX B
     all_goals try exact BL
  ·have J:i=d.zones.length:=by omega
   have u:n=d.tracks.length:=by rw[U4,Z,J,AQ.nt,←N3];simp
   refine' bq @AX hi @Ai @bH @I'
   all_goals try exact BL
end
section
attribute [local irreducible] IntKind.wrap Ah aa and or
theorem Oq(d:AQ)(hok:d.ok=true):BU E0 KA [K8 d] (.int .i64 d.size):=by
 have g:=FQ hok;refine AL Oy AR (by simp) fun l=>?_
 rw[AN];unfold Ix;refine' MX @Aw @AX;refine iT (α:=Int) (so:=KW) (l0:=?l1) (m0:=?m1) (fun x=>[(5000002,.cells [.d (.int .i64 x)])]) (fun n x=>x=d.tf n) (fun e x=>False) 0 (SM d hok) Lw ?h01 ?he1 (by simp[PC.noR]) ?hw1 ?hI1 ?step1 ?hend1 ?hjump1
 case h01=>(simp -implicitDefEqProofs only[go_sem,Aw,AX];(try simp only[or_true,true_or,true_and]);first|rfl|(refine⟨.inl ⟨_,rfl,rfl⟩,?_⟩<;>rfl)|exact⟨.inl ⟨⟨_,rfl,rfl⟩,rfl⟩,rfl⟩|exact⟨.inr ⟨rfl,rfl⟩,rfl⟩)
 case he1=>rfl
 case hw1=>simp -implicitDefEqProofs only[go_sem]
 case' hjump1=>(rintro e x h;try dsimp only at h)
 case' hend1=>(rintro x h;try dsimp only at h)
 case' step1=>(rintro n x ds i h;try dsimp only at h)
 case' hI1=>try dsimp only
 ·rfl
 ·obtain⟨hn,rfl⟩:=eG i;refine⟨rfl,?_⟩;have h1:=g.tf n (by omega);have h2:=g.ts hn;have m:=g.nt;have j:IntKind.i64.wrap (x+d.ts n)=x+d.ts n:=Am _ (by omega)
  (try(simp -implicitDefEqProofs only[go_sem,SR,SS,AQ.track,j]));repeat' first|(with_reducible first|exact tI|refine aI ?_ ?_|intro _)|((first|with_reducible refine GK ?_ ?_<;>intro _)<;>try(simp -implicitDefEqProofs only[go_sem,SR,SS,AQ.track,j]))|simp (disch:=omega)only[Jb]|((with_reducible refine AAv ?_);refine⟨_,rfl,?_⟩)
  all_goals try exact BL
  all_goals(rw[h];rfl)
 ·rw[U4]at h;refine' HM h;rfl
theorem Ut(d:AQ):BU E0 SC [K8 d] (.tup [K8 d,.int .i64 d.check]):=by
 refine AL Vr AR (by simp) fun e=>?_
 have c1:=Tz d;rw[Aw,AX]at c1;rw[AN];unfold PA;refine' FS @Aw @AX;repeat' first|(refine' BJ;(first|refine AF c1 ?_)<;>refine' FS @Aw @AX)|refine' BI|done
 all_goals try exact BL
theorem Uu(d:AQ):BU E0 SD [K8 d] (.tup [.int .i64 (if d.ok then d.size else 0),.int .i64 d.check]):=by
 refine AL Vs AR (by simp) fun e=>?_
 have c1:=Ut d;rw[AN];unfold PB;unfold AQ.check at *
 cases h:d.ok with
 |false =>
  rw[h]at c1;refine' FS @Aw @AX;repeat' first|(refine' BJ;(first|refine AF c1 ?_)<;>refine' FS @Aw @AX)|refine' BI|done
  all_goals try exact BL
 |true =>
  rw[h]at c1;have c2:=Oq d h;refine' FS @Aw @AX;repeat' first|(refine' BJ;(first|refine AF c1 ?_|refine AF c2 ?_)<;>refine' FS @Aw @AX)|refine' BI|done
  all_goals try exact BL
end
end Go.Pw
