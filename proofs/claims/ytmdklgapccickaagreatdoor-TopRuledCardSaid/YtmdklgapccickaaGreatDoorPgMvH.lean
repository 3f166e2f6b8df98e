/- A part of the proof. -/
import Derived.Test.YtmdklgapccickaaGreatDoorPgMvA
import Derived.Test.YtmdklgapccickaaGreatDoorZonesSpec
import Derived.Test.YtmdklgapccickaaGreatDoorMvPC
import Derived.Test.YtmdklgapccickaaGreatDoorPwVC
import Derived.Test.YtmdklgapccickaaGreatDoorPwYa
set_option linter.all false
open Go Go.Pw Go.Proofs
namespace Go.Pw
set_option maxRecDepth 100000
set_option maxHeartbeats 1600000
structure F1 where
 d:AX
 sp:Int
 np:Bool
 pr:List Int
 ng:Bool
 gr:List Bu
def n8 (f:F1):List D:=[.int .i64 f.d.heads,.int .i64 f.d.turn,.list f.d.zn (Kx f.d.zones),.int .i64 f.d.hskew,.int .i64 f.d.cskew,.int .i64 f.d.hlo,.int .i64 f.d.hhi,.int .i64 f.d.clo,.int .i64 f.d.chi,.int .i64 f.sp,.list f.np (BU f.pr),.list f.ng (CE f.gr)]
def Yi (f:F1):D:=.agg (n8 f)
theorem DH (f:F1):n8 f=[.int .i64 f.d.heads,.int .i64 f.d.turn,.list f.d.zn (Kx f.d.zones),.int .i64 f.d.hskew,.int .i64 f.d.cskew,.int .i64 f.d.hlo,.int .i64 f.d.hhi,.int .i64 f.d.clo,.int .i64 f.d.chi,.int .i64 f.sp,.list f.np (BU f.pr),.list f.ng (CE f.gr)]:=rfl
theorem DG (f:F1):Yi f=.agg (n8 f):=rfl
def VN (l:List Int) (lo hi:Int) (i:Nat):Bool:=(decide (lo<=l[i]?.getD 0) && decide (l[i]?.getD 0<=hi)) && (decide (i=0) || decide (l[i-1]?.getD 0<l[i]?.getD 0))
def TF (l:List Int) (lo hi:Int):Bool:=(List.range l.length).all (VN l lo hi)
theorem lH {l lo hi i} (hi':i<l.length) (h:VN l lo hi i=false):TF l lo hi=false:=by
 unfold TF;rw[List.all_eq_false];exact⟨i,List.mem_range.2 hi',by rw[h];simp⟩
theorem lI {l lo hi} (h:∀i,i<l.length->VN l lo hi i=true):TF l lo hi=true:=by
 unfold TF;exact List.all_eq_true.2 fun i hi=>h i (List.mem_range.1 hi)
def Mt (f:F1) (x:Bu):Bool:=(decide (0<=x.id) && decide (x.id<=99)) && ((decide (0<=x.st) && decide (x.st<=9999)) && (decide (0<=x.sec) && decide (x.sec<f.d.size)))
theorem Tq {f:F1}{x:Bu}:Mt f x=true↔(0<=x.id/\x.id<=99)/\(0<=x.st/\x.st<=9999)/\0<=x.sec/\x.sec<f.d.size:=by
 unfold Mt;simp only[Bool.and_eq_true,decide_eq_true_eq]
structure F1.Base (f:F1):Prop where
 d:f.d.ok=true
 sp:0<=f.sp/\f.sp<=20
 pl:f.pr.length<=60
 pr:TF f.pr 0 (f.d.size-1)=true
 gl:f.gr.length<=30
def MF (d:AX):Nat->Int
 |0=>0
 |k+1=>MF d k+d.heads*(d.zones[k]?.getD default).1*(d.zones[k]?.getD default).2
def Su (d:AX) (n:Nat):List Zp:=(List.range n).map fun k=>(MF d k,MF d (k+1))
theorem l8 (d:AX) (n:Nat):Su d n++[(MF d n,MF d (n+1))]=Su d (n+1):=by simp[Su,List.range_succ]
theorem D2 (d:AX) (n:Nat):(Su d n).length=n:=by simp[Su]
theorem VY {d:AX}{n k:Nat}(h:k<n):(Su d n)[k]?.getD default=(MF d k,MF d (k+1)):=by simp[Su,h]
structure dg where
 bl:List Int
 fr:List (Bool×List Int)
 gv:List (Int×Int)
def GE (gv:List (Int×Int)) (s:Int):Int:=match gv with
 |[]=>0
 |p::l=>if s=p.1 then p.2 else GE l s
def Ir (gv:List (Int×Int)) (s:Int):List (Int×Int):=match gv with
 |[]=>[(s,1)]
 |p::l=>if s=p.1 then (p.1,p.2+1)::l else p::Ir l s
def Ky (d:AX) (s:Int):Nat->Nat
 |0=>0
 |k+1=>if MF d k<=s/\s<MF d (k+1) then k else Ky d s k
theorem Zb (d:AX) (s:Int):∀n,0<n->Ky d s n<n
 |n+1,_=>by
  rw[Ky];split
  ·omega
  ·cases n with
   |zero=>simp[Ky]
   |succ n=>have:=Zb d s (n+1) (by omega);omega
def Lc (fr:List (Bool×List Int)) (own:Nat):Nat->Option Nat
 |0=>none
 |k+1=>match Lc fr own k with
  |some j=>some j
  |none=>if (fr[(own+k)%fr.length]?.getD (true,[])).2.length=0 then none else some ((own+k)%fr.length)
def Pl (l:List Int) (i:Nat):List Int:=l.take i++l.drop (i+1)
def WI (l:List Int) (s:Int):Nat:=(l.filter fun x=>decide (x<s)).length
theorem jZ {l:List Int}{s:Int}{i:Nat}(h:i<=l.length) (h1:∀p,p<i->l[p]?.getD 0<s) (h2:∀p,i<=p->p<l.length->s<=l[p]?.getD 0):WI l s=i:=by
 unfold WI
 have e:l=l.take i++l.drop i:=(List.take_append_drop i l).symm
 rw[e,List.filter_append,List.length_append]
 have a1:(l.take i).filter (fun x=>decide (x<s))=l.take i:=List.filter_eq_self.2 fun x hx=>by
  obtain⟨p,hp,rfl⟩:=List.getElem_of_mem hx
  rw[List.length_take] at hp
  have:=h1 p (by omega)
  rw[List.getElem?_eq_getElem (by omega),Option.getD_some] at this
  rw[List.getElem_take];exact decide_eq_true this
 have a2:(l.drop i).filter (fun x=>decide (x<s))=[]:=List.filter_eq_nil_iff.2 fun x hx=>by
  obtain⟨p,hp,rfl⟩:=List.getElem_of_mem hx
  rw[List.length_drop] at hp
  have:=h2 (i+p) (by omega) (by omega)
  rw[List.getElem?_eq_getElem (by omega),Option.getD_some] at this
  rw[List.getElem_drop];simp;exact this
 rw[a1,a2,List.length_take];simp;omega
def Zm (d:AX) (p:dg) (s:Int):dg :=
 if 0<GE p.gv s then ⟨p.bl,p.fr,Ir p.gv s⟩ else
 if s∈(p.fr[Ky d s d.zones.length]?.getD (true,[])).2 then ⟨p.bl,p.fr.set (Ky d s d.zones.length) (false,Pl (p.fr[Ky d s d.zones.length]?.getD (true,[])).2 (WI (p.fr[Ky d s d.zones.length]?.getD (true,[])).2 s)),Ir p.gv s⟩ else
 match p.bl.findIdx? (fun x=>decide (x=s)) with
 |none=>⟨p.bl,p.fr,Ir p.gv s⟩
 |some b=>match Lc p.fr (Ky d s d.zones.length) p.fr.length with
  |none=>⟨p.bl.set b (-1),p.fr,Ir p.gv s⟩
  |some k=>⟨p.bl.set b ((p.fr[k]?.getD (true,[])).2[0]?.getD 0),p.fr.set k ((p.fr[k]?.getD (true,[])).1,(p.fr[k]?.getD (true,[])).2.drop 1),Ir p.gv s⟩
def OE (pr:List Int) (a:Int):Nat->List Int
 |0=>[]
 |n+1=>if GE (pr.map fun x=>(x,1)) (a+n)=0 then OE pr a n++[a+n] else OE pr a n
def Mv (f:F1) (k:Nat):List Int:=OE f.pr (MF f.d k) (MF f.d (k+1)-MF f.d k).toNat
def dC (f:F1) (k:Nat):Nat:=(max 0 (((Mv f k).length:Int)-f.sp)).toNat
def ZC (f:F1):Nat->List Int
 |0=>[]
 |k+1=>ZC f k++(Mv f k).take (dC f k)
def Yc (f:F1) (n:Nat):List (Bool×List Int):=(List.range n).map fun k=>((Mv f k).isEmpty,(Mv f k).drop (dC f k))
def lE (f:F1):dg:=⟨ZC f f.d.zones.length,Yc f f.d.zones.length,f.pr.map fun x=>(x,1)⟩
def LX (f:F1) (l:List Bu):Nat->dg
 |0=>lE f
 |n+1=>Zm f.d (LX f l n) (l[n]?.getD default).sec
def RX (p:dg) (b:Int):Int×Int:=if b<0\/(p.bl.length:Int)<=b then (0,1) else if p.bl[b.toNat]?.getD 0=-1 then (0,3) else (p.bl[b.toNat]?.getD 0,0)
def Lg:F1:=⟨⟨2,60,false,[(2,6),(1,5)],10,25,4,12,20,30⟩,2,false,[3,20],false,[⟨1,5,4⟩,⟨2,9,22⟩,⟨3,7,33⟩,⟨4,8,23⟩,⟨5,6,30⟩]⟩
theorem Wj:RX (LX Lg [⟨1,5,4⟩,⟨5,6,30⟩,⟨3,7,33⟩,⟨4,8,23⟩,⟨2,9,22⟩] 5) 26=(32,0):=by decide +kernel
theorem UL {d:AX}(h:d.ok=true) (k:Nat) (hk:k<d.zones.length):((0<=d.heads/\d.heads<=4)/\(0<=(d.zones[k]?.getD default).1/\(d.zones[k]?.getD default).1<=20)/\(0<=(d.zones[k]?.getD default).2/\(d.zones[k]?.getD default).2<=16))/\(0<=d.heads*(d.zones[k]?.getD default).1/\d.heads*(d.zones[k]?.getD default).1<=80)/\0<=d.heads*(d.zones[k]?.getD default).1*(d.zones[k]?.getD default).2/\d.heads*(d.zones[k]?.getD default).1*(d.zones[k]?.getD default).2<=1280:=by
 have hk':=AX.ok_iff.1 h
 have hz:=O0.1 (by unfold AX.ok at h;rw[Bool.and_eq_true] at h;exact h.2) k hk
 have hh:=(AX.head_iff.1 hk'.1).1
 unfold G_ at hz
 simp only[Bool.and_eq_true,OB] at hz
 obtain⟨⟨z1,z2⟩,_⟩:=hz
 have m0:=Int.mul_nonneg (show 0<=d.heads by omega) (show 0<=(d.zones[k]?.getD default).1 by omega)
 have m1:d.heads*(d.zones[k]?.getD default).1<=4*20:=Int.mul_le_mul (by omega) (by omega) (by omega) (by omega)
 have m2:=Int.mul_nonneg m0 (show 0<=(d.zones[k]?.getD default).2 by omega)
 have m3:d.heads*(d.zones[k]?.getD default).1*(d.zones[k]?.getD default).2<=80*16:=Int.mul_le_mul (by omega) (by omega) (by omega) (by omega)
 exact⟨⟨by omega,by omega,by omega⟩,⟨m0,by omega⟩,m2,by omega⟩
theorem UM {d:AX}(h:d.ok=true):∀k,k<=d.zones.length->0<=MF d k/\MF d k<=k*1280
 |0,_=>by simp[MF]
 |k+1,hk=>by
  obtain⟨h1,h2⟩:=UM h k (by omega)
  have hz:=UL h k (by omega)
  rw[MF];omega
section
attribute [local congr] Bm BC BD Ak Bn Aq Au Ar Aj Af AY AU Am AZ BR BS BP Ao An Ad Ap Ae BH BZ Ab BM BN BI BJ BL BK BF BG BB Bq BE Al Aa Ba Ag Av BQ
attribute [local irreducible] IntKind.wrap A0 Option.getD and or
theorem GG (n lo hi:Int):Cc E0 Sp [.int .i64 n,.int .i64 lo,.int .i64 hi] (.bool (VW n lo hi)):=by
 refine AN VE Ay (by simp) fun hwf=>?_
 rw[AP];unfold QP VW
 refine' HO
 all_goals first|omega|(simp_all;done)|(simp_all;omega)
theorem Nl (l h:Int):Cc E0 Kj [.agg [.int .i64 l,.int .i64 h]] (.bool (PH l h)):=by
 refine AN OK Ay (by simp) fun hwf=>?_
 rw[AP];unfold I_ PH
 refine' HO
 all_goals first|omega|(simp_all;done)|(simp_all;omega)
theorem HH (d:AX) (b:Bool):Cc E0 Ih [OJ d,.bool b] (.int .i64 (if b then d.cskew else d.hskew)):=by
 refine AN MY Ay (by simp) fun hwf=>?_
 rw[AP];unfold Hl
 cases b
 ·refine' Pc @CB @Be
 ·refine' Pc @CB @Be
end
section
attribute [local congr] Bm BC BD Ak Bn Aq Au Ar Aj Af AY AU Am AZ BR BS BP Ao An Ad Ap Ae BH BZ Ab BM BN BI BJ BL BK BF BG BB Bq BE Al Aa Ba Ag Av BQ
attribute [local irreducible] IntKind.wrap A0 Option.getD and or
theorem dh {d:AX}{i:Int}(h0:0<=i/\i<d.zones.length) (h:G_ d.turn (d.zones[i.toNat]?.getD default)=false):d.ok=false:=by
 unfold AX.ok;rw[h_ (j:=i.toNat) (by omega) h];simp
theorem iO {d:AX}{i:Int}(h0:0<=i/\i<d.zones.length) (h3:∀(j:Nat),(j:Int)<i->G_ d.turn (d.zones[j]?.getD default)=true) (h:G_ d.turn (d.zones[i.toNat]?.getD default)=true):∀(j:Nat),(j:Int)<i+1->G_ d.turn (d.zones[j]?.getD default)=true:=fun j hj=>by
 rcases (show (j:Int)<i\/j=i.toNat by omega) with h1|h1
 ·exact h3 j h1
 ·rw[h1];exact h
theorem Qn (d:AX):Cc E0 M0 [OJ d] (.int .i64 d.check):=by
 refine AN Q0 Ay (by simp) fun hwf=>?_
 simp only[FL,Ea,EZ,EM,Fd,Fc,HI,Fb,CI,CX,CY,Eb,C9,List.length_map,CR,true_and,and_true,CB,Be,Bp] at hwf
 rw[AP];unfold LJ AX.check
 have hb62:Bk E0.P 175=true:=by kernel_rfl
 by_cases ht:VW d.turn 1 1000=true
 ·have ht2:=OB.1 ht
  have hw:IntKind.i64.wrap (d.turn-1)=d.turn-1:=Bd _ (by omega)
  refine' lz @CB @Be hw @Bp hb62;repeat' first|(refine' CQ;(first|refine AG (GG _ _ _) ?_|refine AG (Nl _ _) ?_)<;>refine' lz @CB @Be hw @Bp hb62)|refine' CP|done
  all_goals (try (simp_all[AX.ok,AX.head];done))
  refine B4 (α:=Int) (l0:=?l1) (m0:=?m1) (fun x=>[(48,.d (.int .i64 x))]) (fun x=>[]) (fun x=>0<=x/\x<=d.zones.length/\∀(j:Nat),(j:Int)<x->G_ d.turn (d.zones[j]?.getD default)=true) (fun x=>(d.zones.length-x).toNat) ?a1_0 ?h01 ?he1 ?he21 ?hI1 ?step1
  case h01=>(simp -implicitDefEqProofs only[go_sem,Bp,Be];rfl)
  case he1=>rfl
  case he21=>rfl
  case' step1=>(rintro i hI;try dsimp only at hI)
  case' hI1=>try dsimp only
  ·exact⟨by omega,by omega,fun j hj=>by omega⟩
  ·obtain⟨h1,h2,h3⟩:=hI
   by_cases hi:i<d.zones.length
   ·have hbad:=dh (d:=d) ⟨h1,hi⟩
    have hgood:=iO (d:=d) ⟨h1,hi⟩ h3
    have hi1:IntKind.i64.wrap (i+1)=i+1:=Bd _ (by omega)
    obtain⟨w,hw2⟩:∃w,d.zones[i.toNat]?.getD default=w:=⟨_,rfl⟩
    rw[hw2] at hbad hgood
    have hwo:G_ d.turn w=(VW w.1 1 20 && VW w.2 1 16 && decide (d.turn.tmod w.2=0)):=rfl
    have k1:=GG w.1 1 20
    have k2:=GG w.2 1 16
    cases b1:VW w.1 1 20 with
    |false =>
     rw[b1] at k1
     rw[hbad (by rw[hwo,b1];simp)]
     refine' UB @Bp @Di hw2 @G9 @Be @Dy;repeat' first|(refine' CQ;(first|refine AG k1 ?_)<;>refine' UB @Bp @Di hw2 @G9 @Be @Dy)|refine' CP|done
     all_goals try exact Ca
    |true =>
     rw[b1] at k1
     cases b2:VW w.2 1 16 with
     |false =>
      rw[b2] at k2
      rw[hbad (by rw[hwo,b2];simp)]
      refine' UB @Bp @Di hw2 @G9 @Be @Dy;repeat' first|(refine' CQ;(first|refine AG k1 ?_|refine AG k2 ?_)<;>refine' UB @Bp @Di hw2 @G9 @Be @Dy)|refine' CP|done
      all_goals try exact Ca
     |true =>
      rw[b2] at k2
      have hb2:=OB.1 b2
      have hm:IntKind.i64.wrap (d.turn.tmod w.2)=d.turn.tmod w.2:=Bd _ (by
       have:=Int.tmod_nonneg w.2 (a:=d.turn) (by omega)
       have:=Int.tmod_lt_of_pos d.turn (b:=w.2) (by omega)
       omega)
      have hne:¬w.2=0:=by omega
      by_cases hz:d.turn.tmod w.2=0
      ·have hok:=hgood (by rw[hwo,b1,b2];simp[hz])
       refine' Gr @Bp @Di hw2 @G9 @Be @Dy hm (aI hz hne);repeat' first|(refine' CQ;(first|refine AG k1 ?_|refine AG k2 ?_)<;>refine' Gr @Bp @Di hw2 @G9 @Be @Dy hm (aI hz hne))|refine' CP|done
       all_goals try exact Ca
       all_goals (apply hok;assumption)
      ·rw[hbad (by rw[hwo];simp[hz])]
       refine' Gr @Bp @Di hw2 @G9 @Be @Dy hm (aI hz hne);repeat' first|(refine' CQ;(first|refine AG k1 ?_|refine AG k2 ?_)<;>refine' Gr @Bp @Di hw2 @G9 @Be @Dy hm (aI hz hne))|refine' CP|done
       all_goals try exact Ca
   ·have hall:d.zones.all (G_ d.turn)=true:=O0.2 fun j hj=>h3 j (by omega)
    refine' Pb @Bp @Be hi
    all_goals (simp_all[AX.ok,AX.head])
 ·have ht':VW d.turn 1 1000=false:=by simpa using ht
  have hbad:d.ok=false:=by simp[AX.ok,AX.head,ht']
  have k0:=GG d.turn 1 1000
  rw[ht'] at k0
  rw[hbad]
  refine' Gb @CB @Be hb62;repeat' first|(refine' CQ;(first|refine AG k0 ?_|refine AG (GG _ _ _) ?_)<;>refine' Gb @CB @Be hb62)|refine' CP|done
  all_goals try exact Ca
end
section
theorem Ns {E:CW} {rs o els s}:jE E rs o els .ret s=(Fy E s rs (fun _=>True)/\MP els (s.V.ob o)):=rfl
theorem V5 {E:CW} {rs o els s}:jE E rs o els .normal s=(Fy E s rs (fun _=>True)/\MP els (s.V.ob o)):=rfl
theorem Hu {els g e n st}:MP els (some (g,.hist e n st))=(e=els/\(st=true\/n=els.length)):=rfl
structure qb (d:AX) (i j n:Nat):Prop where
 hi:i<d.zones.length
 hj:j<(d.zones[i]?.getD default).1.toNat
 hn:n=(d.base i+j)*d.heads.toNat
theorem eB {d:AX}(g:d.Good) {i j h:Nat}(hi:i<d.zones.length) (hj:j<(d.zones[i]?.getD default).1.toNat) (hh:h<d.heads.toNat) :
  (d.base i+j)*d.heads.toNat+h<d.nt/\d.ts ((d.base i+j)*d.heads.toNat+h)=(d.zones[i]?.getD default).2/\d.tc ((d.base i+j)*d.heads.toNat+h)=((d.base i+j:Nat):Int)/\d.th ((d.base i+j)*d.heads.toNat+h)=h:=by
 have h1:=jH d i j hi hj
 have h2:d.base i+j<d.cyls:=(List.getElem?_eq_some_iff.1 h1).1
 refine⟨?_,by rw[o9 _ _ hh,h1,Option.getD_some],pA _ _ hh,o_ _ _ hh⟩
 unfold AX.nt
 calc (d.base i+j)*d.heads.toNat+h<(d.base i+j)*d.heads.toNat+d.heads.toNat:=by omega
  _=(d.base i+j+1)*d.heads.toNat:=by rw[Nat.succ_mul]
  _<=d.cyls*d.heads.toNat:=Nat.mul_le_mul_right _ h2
theorem Xa:FM.noR=true:=by rfl
theorem ij {d:AX}(g:d.Good) (n:Nat):d.to (n+1)=(d.to n+(if d.th n=d.heads-1 then d.cskew else d.hskew)).tmod d.turn:=by
 have h1:=g.to n;have h2:=g.k1;have h3:=g.c1
 rw[AX.to,Int.tmod_eq_emod_of_nonneg]
 split<;>omega
attribute [local congr] Bm BC BD Ak Bn Aq Au Ar Aj Af AY AU Am AZ BR BS BP Ao An Ad Ap Ae BH BZ Ab BM BN BI BJ BL BK BF BG BB Bq BE Al Aa Ba Ag Av BQ
attribute [local irreducible] IntKind.wrap A0 Option.getD and or
theorem PD (d:AX) (hok:d.ok=true):TG E0 Fi [OJ d] [] d.tracks:=by
 have g:=MQ hok
 have g1:=g.h1;have g2:=g.h2;have g3:=g.t1;have g4:=g.t2;have g5:=g.z1;have g6:=g.z2
 have hcy:=g.cyls
 refine NF Kz Ay Xa (by simp) fun hwf _=>?_
 rw[Cg];unfold FM
 refine' Pb @CB @Be @Bp
 all_goals try exact Ca
 refine B4 (α:=Int×Int×Int×Int×Int×Int×Nat) (l0:=?l1) (m0:=?m1) (fun x=>[(11,.d (.int .i64 x.1))]) (fun x=>[(4,.cells [.d (.int .i64 x.2.1),.d (.int .i64 x.2.2.1),.d (.int .i64 x.2.2.2.1),.d (.int .i64 x.2.2.2.2.1),.d (.int .i64 x.2.2.2.2.2.1)]),(900001,.hist d.tracks x.2.2.2.2.2.2 false)]) (fun x=>0<=x.1/\x.1<=d.zones.length/\x.2.2.2.2.2.2=d.base x.1.toNat * d.heads.toNat/\x.2.1=d.base x.1.toNat/\x.2.2.2.2.1=d.tf x.2.2.2.2.2.2/\x.2.2.2.2.2.1=d.to x.2.2.2.2.2.2) (fun x=>(d.zones.length-x.1).toNat) (?a1_0,?a1_1,?a1_2,?a1_3,?a1_4,?a1_5,?a1_6) ?h01 ?he1 ?he21 ?hI1 ?step1
 case h01=>(simp -implicitDefEqProofs only[go_sem,Bp,Be];rfl)
 case he1=>rfl
 case he21=>rfl
 case' step1=>(rintro⟨i,c,e,s,f,o,n⟩ hI;try dsimp only at hI)
 case' hI1=>try dsimp only
 ·exact⟨by omega,by omega,by simp[AX.base],by simp[AX.base],rfl,rfl⟩
 ·obtain⟨h1,h2,h3,h4,h5,h6⟩:=hI
  by_cases hi:i<d.zones.length
  ·have hz:=g.z i.toNat (by omega)
   obtain⟨z,hze⟩:∃z,d.zones[i.toNat]?.getD default=z:=⟨_,rfl⟩
   rw[hze] at hz
   have hi1:IntKind.i64.wrap (i+1)=i+1:=Bd _ (by omega)
   refine' pf @Bp @Di hze @G9 @Be @Dy
   all_goals try exact Ca
   refine B4 (α:=Int×Int×Int×Int×Int×Int×Nat) (l0:=?l2) (m0:=?m2) (fun x=>[(17,.d (.int .i64 x.1))]) (fun x=>[(4,.cells [.d (.int .i64 x.2.1),.d (.int .i64 x.2.2.1),.d (.int .i64 x.2.2.2.1),.d (.int .i64 x.2.2.2.2.1),.d (.int .i64 x.2.2.2.2.2.1)]),(900001,.hist d.tracks x.2.2.2.2.2.2 false)]) (fun x=>0<=x.1/\x.1<=z.1/\x.2.2.2.2.2.2=(d.base i.toNat+x.1.toNat)*d.heads.toNat/\x.2.1=d.base i.toNat+x.1/\x.2.2.2.2.1=d.tf x.2.2.2.2.2.2/\x.2.2.2.2.2.1=d.to x.2.2.2.2.2.2) (fun x=>(z.1-x.1).toNat) (?a2_0,?a2_1,?a2_2,?a2_3,?a2_4,?a2_5,?a2_6) ?h02 ?he2 ?he22 ?hI2 ?step2
   case h02=>(simp -implicitDefEqProofs only[go_sem,Bp,Be];rfl)
   case he2=>rfl
   case he22=>rfl
   case' step2=>(rintro⟨j,c,e,s,f,o,n⟩ hI2;try dsimp only at hI2)
   case' hI2=>try dsimp only
   ·exact⟨by omega,by omega,by simpa using h3,by omega,h5,h6⟩
   ·obtain⟨q1,q2,q3,q4,q5,q6⟩:=hI2
    have hw1:IntKind.i64.wrap (c+1)=c+1:=Bd _ (by have:=g.base i.toNat (by omega);omega)
    have hj1:IntKind.i64.wrap (j+1)=j+1:=Bd _ (by omega)
    by_cases hj:j<z.1
    ·refine' K5 @Be
     all_goals try exact Ca
     refine B4 (α:=Int×Int×Int×Int×Int×Nat) (l0:=?l3) (m0:=?m3) (fun x=>[(22,.d (.int .i64 x.1))]) (fun x=>[(4,.cells [.d (.int .i64 c),.d (.int .i64 x.2.1),.d (.int .i64 x.2.2.1),.d (.int .i64 x.2.2.2.1),.d (.int .i64 x.2.2.2.2.1)]),(900001,.hist d.tracks x.2.2.2.2.2 false)]) (fun x=>0<=x.1/\x.1<=d.heads/\x.2.2.2.2.2=(d.base i.toNat+j.toNat)*d.heads.toNat+x.1.toNat/\x.2.2.2.1=d.tf x.2.2.2.2.2/\x.2.2.2.2.1=d.to x.2.2.2.2.2) (fun x=>(d.heads-x.1).toNat) (?a3_0,?a3_1,?a3_2,?a3_3,?a3_4,?a3_5) ?h03 ?he3 ?he23 ?hI3 ?step3
     case h03=>(simp -implicitDefEqProofs only[go_sem,Be];rfl)
     case he3=>rfl
     case he23=>rfl
     case' step3=>(rintro⟨k,e,s,f,o,n⟩ hI3;try dsimp only at hI3)
     case' hI3=>try dsimp only
     ·exact⟨by omega,by omega,by simpa using q3,q5,q6⟩
     ·obtain⟨r1,r2,r3,r4,r5⟩:=hI3
      by_cases hk:k<d.heads
      ·have ht:=eB g (i:=i.toNat) (j:=j.toNat) (h:=k.toNat) (by omega) (by rw[hze];omega) (by omega)
       rw[←r3,hze] at ht
       obtain⟨t1,t2,t3,t4⟩:=ht
       have hat:=aA t1
       have htf:=g.tf n (by omega)
       have hto:=g.to n
       have hnt:=g.nt
       have hwf1:IntKind.i64.wrap (f+z.2)=f+z.2:=Bd _ (by omega)
       have htn:d.tf (n+1)=f+z.2:=by rw[AX.tf,t2,←r4]
       have hon:=ij g n
       have hk1:IntKind.i64.wrap (k+1)=k+1:=Bd _ (by omega)
       have hh1:IntKind.i64.wrap (d.heads-1)=d.heads-1:=Bd _ (by omega)
       have hc2:=g.c1;have hc3:=g.c2;have hs2:=g.k1;have hs3:=g.k2
       have wc:IntKind.i64.wrap (o+d.cskew)=o+d.cskew:=Bd _ (by omega)
       have ws:IntKind.i64.wrap (o+d.hskew)=o+d.hskew:=Bd _ (by omega)
       have htr:Rc (d.track n)=.agg [.int .i64 c,.int .i64 k,.int .i64 z.2,.int .i64 f,.int .i64 o]:=by
        rw[PF,PG,AX.track];simp only
        rw[t2,t3,t4,←r4,←r5,show ((d.base i.toNat+j.toNat:Nat):Int)=c by omega,show ((k.toNat:Nat):Int)=k by omega]
       rw[htr] at hat
       have hne:¬d.turn=0:=by omega
       by_cases hl:k=d.heads-1
       ·rw[if_pos (by omega),←r5] at hon
        have c1:=HH d true
        rw[if_pos rfl] at c1
        refine' Gr @Be @CB hwf1 wc (hon.symm) hh1 hne (aI hk1 (aI hat (aI @Ns @Hu)));repeat' first|(refine' CQ;(first|refine AG c1 ?_)<;>refine' Gr @Be @CB hwf1 wc (hon.symm) hh1 hne (aI hk1 (aI hat (aI @Ns @Hu))))|refine' CP|done
        all_goals try exact Ca
        all_goals rfl
       ·rw[if_neg (by omega),←r5] at hon
        have c1:=HH d false
        rw[if_neg (by simp)] at c1
        refine' Gr @Be @CB hwf1 ws (hon.symm) hh1 hne (aI hk1 (aI hat (aI @Ns @Hu)));repeat' first|(refine' CQ;(first|refine AG c1 ?_)<;>refine' Gr @Be @CB hwf1 ws (hon.symm) hh1 hne (aI hk1 (aI hat (aI @Ns @Hu))))|refine' CP|done
        all_goals try exact Ca
        all_goals rfl
      ·have hke:k=d.heads:=by omega
       subst hke
       have hnn:n=(d.base i.toNat+(j+1).toNat)*d.heads.toNat:=by rw[r3,show d.base i.toNat+(j+1).toNat=d.base i.toNat+j.toNat+1 by omega,Nat.succ_mul]
       refine' Pb @Be hw1 hj1
       all_goals try exact Ca
    ·have hje:j=z.1:=by omega
     subst hje
     have hbn:d.base (i+1).toNat=d.base i.toNat+z.1.toNat:=by rw[show (i+1).toNat=i.toNat+1 by omega,AX.base,hze]
     have hnn:n=d.base (i+1).toNat * d.heads.toNat:=by rw[hbn];exact q3
     have hcc:c=d.base (i+1).toNat:=by rw[hbn];omega
     refine' Pc @Be hi1
     all_goals try exact Ca
  ·have hie:i=d.zones.length:=by omega
   have hnn:n=d.tracks.length:=by rw[Rb,h3,hie,AX.nt,←Sb];simp
   refine' Zg @Be hi @Bp @V5 @Hu
   all_goals try exact Ca
end
section
attribute [local congr] Bm BC BD Ak Bn Aq Au Ar Aj Af AY AU Am AZ BR BS BP Ao An Ad Ap Ae BH BZ Ab BM BN BI BJ BL BK BF BG BB Bq BE Al Aa Ba Ag Av BQ
attribute [local irreducible] IntKind.wrap A0 Option.getD and or
theorem MT (d:AX) (hok:d.ok=true):Cc E0 Il [OJ d] (.int .i64 d.size):=by
 have g:=MQ hok
 refine AN MZ Ay (by simp) fun hwf=>?_
 rw[AP];unfold Hm
 refine' Pc @CB @Be
 refine jS (α:=Int) (so:=KF) (l0:=?l1) (m0:=?m1) (fun x=>[(5000002,.cells [.d (.int .i64 x)])]) (fun n x=>x=d.tf n) (fun e x=>False) 0 (PD d hok) J7 ?h01 ?he1 (by simp[PC.noR]) ?hw1 ?hI1 ?step1 ?hend1 ?hjump1
 case h01=>(simp -implicitDefEqProofs only[go_sem,CB,Be];(try simp only[or_true,true_or,true_and]);first|rfl|(refine⟨.inl ⟨_,rfl,rfl⟩,?_⟩<;>rfl)|exact⟨.inl ⟨⟨_,rfl,rfl⟩,rfl⟩,rfl⟩|exact⟨.inr ⟨rfl,rfl⟩,rfl⟩)
 case he1=>rfl
 case hw1=>simp -implicitDefEqProofs only[go_sem]
 case' hjump1=>(rintro e x hI;try dsimp only at hI)
 case' hend1=>(rintro x hI;try dsimp only at hI)
 case' step1=>(rintro n x ds hds hI;try dsimp only at hI)
 case' hI1=>try dsimp only
 ·rfl
 ·obtain⟨hn,rfl⟩:=Xb hds
  refine⟨rfl,?_⟩
  have h1:=g.tf n (by omega)
  have h2:=g.ts hn
  have h3:=g.nt
  have hw:IntKind.i64.wrap (x+d.ts n)=x+d.ts n:=Bd _ (by omega)
  (try (simp -implicitDefEqProofs only[go_sem,PF,PG,AX.track,hw]));repeat' first|(with_reducible first|exact tI|refine aI ?_ ?_|intro _)|((first|with_reducible refine Gs ?_ ?_<;>intro _)<;>try (simp -implicitDefEqProofs only[go_sem,PF,PG,AX.track,hw]))|simp (disch:=omega) only[IE]|((with_reducible refine po ?_);refine⟨_,rfl,?_⟩)
  all_goals try exact Ca
  all_goals (rw[hI];rfl)
 ·rw[Rb] at hI
  refine' K5 hI
  rfl
theorem RS (d:AX):Cc E0 O4 [OJ d] (.tup [OJ d,.int .i64 d.check]):=by
 refine AN SG Ay (by simp) fun hwf=>?_
 have c1:=Qn d
 rw[CB,Be] at c1
 rw[AP];unfold Mj
 refine' HR @CB @Be;repeat' first|(refine' CQ;(first|refine AG c1 ?_)<;>refine' HR @CB @Be)|refine' CP|done
 all_goals try exact Ca
theorem RU (d:AX):Cc E0 O5 [OJ d] (.tup [.int .i64 (if d.ok then d.size else 0),.int .i64 d.check]):=by
 refine AN SH Ay (by simp) fun hwf=>?_
 have c1:=RS d
 rw[AP];unfold Mk
 unfold AX.check at *
 cases h:d.ok with
 |false =>
  rw[h] at c1
  refine' HR @CB @Be;repeat' first|(refine' CQ;(first|refine AG c1 ?_)<;>refine' HR @CB @Be)|refine' CP|done
  all_goals try exact Ca
 |true =>
  rw[h] at c1
  have c2:=MT d h
  refine' HR @CB @Be;repeat' first|(refine' CQ;(first|refine AG c1 ?_|refine AG c2 ?_)<;>refine' HR @CB @Be)|refine' CP|done
  all_goals try exact Ca
def qy (c h s:Int):D:=.agg [.int .i64 c,.int .i64 h,.int .i64 s]
end
end Go.Pw
