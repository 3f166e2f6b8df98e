/- A part of the proof. -/
import Derived.Test.YtpcpcjbbdgmohaaDoorPgLgJournalR
set_option linter.all false
open Go Go.Pw Go.Proofs
namespace Go.Pw
set_option maxRecDepth 100000
set_option maxHeartbeats 3200000
def JK (s:List Bd) (es:List Eb) (d:Int) (torn:Bool):Nat->List Bd
 |0=>s
 |i+1=>if (i:Int)<d then (JK s es d torn i).set (M8 (DA s es i)) ((DA s es (i+1))[M8 (DA s es i)]?.getD default)
  else if (i:Int)=d/\torn=true then (JK s es d torn i).set (M8 (DA s es i)) E' else JK s es d torn i
def Kt (s:List Bd) (es:List Eb) (d:Nat) (torn:Bool):List Bd:=if torn then PO (DA s es d) else DA s es d
theorem Oz (s:List Bd) (p:Nat) (r:Bd):s.set p ((s.set p r)[p]?.getD default)=s.set p r:=by
 by_cases h:p<s.length
 ·rw[FS,if_pos ⟨rfl,h⟩]
 ·rw[List.set_eq_of_length_le (by omega),List.set_eq_of_length_le (by omega)]
theorem QU (s:List Bd) (es:List Eb) (d:Nat) (torn:Bool):∀i,i<=d->JK s es d torn i=DA s es i
 |0,_=>rfl
 |i+1,h=>by
  rw[JK,if_pos (by omega),QU s es d torn i (by omega),DA]
  unfold Eo
  rw[Oz]
theorem UT (s:List Bd) (es:List Eb) (d:Nat) (torn:Bool):∀i,d<i->JK s es d torn i=Kt s es d torn
 |0,h=>by omega
 |i+1,h=>by
  rw[JK,if_neg (by omega)]
  rcases (show i=d\/d<i by omega) with h1|h1
  ·subst h1
   rw[QU s es i torn i (Nat.le_refl _)]
   unfold Kt PO
   cases torn<;>simp
  ·rw[if_neg (by omega),UT s es d torn i h1]
theorem Rp (s:List Bd) (es:List Eb) (d:Nat) (torn:Bool) (n:Nat) (h:d<=n) (ht:torn=true->d<n):JK s es d torn n=Kt s es d torn:=by
 rcases (show d=n\/d<n by omega) with h1|h1
 ·subst h1
  rw[QU s es d torn d (Nat.le_refl _)]
  unfold Kt
  cases torn with
  |true=>exact absurd (ht rfl) (by omega)
  |false=>rfl
 ·exact UT s es d torn n h1
theorem JI (s:List Bd) (es:List Eb) (d:Int) (torn:Bool):∀i,(JK s es d torn i).length=s.length
 |0=>rfl
 |i+1=>by
  rw[JK];split
  ·rw[List.length_set,JI s es d torn i]
  ·split
   ·rw[List.length_set,JI s es d torn i]
   ·exact JI s es d torn i
theorem Ep {l:AY}(g:l.Good) (es:List Eb):∀i,FV l.blocks l.slots es i=0->(l.setS (DA l.slots es i)).Good
 |0,_=>g
 |i+1,h=>by
  have h0:=EP h (Nat.le_succ i)
  exact Rl (l:=l.setS (DA l.slots es i)) (Ep g es i h0) (Fs h (Nat.lt_succ_self i))
theorem I_ {l:AY}(g:l.Good) (es:List Eb):∀i,FV l.blocks l.slots es i=0->(D0 (DA l.slots es i)).num=l.newest.num+i
 |0,_=>by simp[DA,DU]
 |i+1,h=>by
  have h0:=EP h (Nat.le_succ i)
  have:=Gf (l:=l.setS (DA l.slots es i)) (Ep g es i h0) (Fs h (Nat.lt_succ_self i))
  rw[DA]
  have e:D0 (Eo (DA l.slots es i) (es[i]?.getD default))=LG (DA l.slots es i) (es[i]?.getD default):=this
  rw[e]
  show (D0 (DA l.slots es i)).num+1=_
  rw[I_ g es i h0];omega
def AY.zero:AY:=⟨⟨0,0,true,[],0,0,0,0,0,0⟩,0,0,true,[]⟩
theorem NM:J2 AY.zero=.agg [.int .i64 0,.int .i64 0,.list true [],.int .i64 0,.int .i64 0,.int .i64 0,.int .i64 0,.int .i64 0,.int .i64 0,.int .i64 0,.int .i64 0,.list true []]:=rfl
def Mc (es:List Eb) (d:Int) (torn:Bool):Bool:=!EO d 0 es.length || (torn && decide (d=es.length))
def AY.cutE (l:AY) (es:List Eb) (d:Int) (torn:Bool):Int:=if l.openE≠0 then l.openE else if Mc es d torn then 1 else FV l.blocks l.slots es es.length
def AY.cutL (l:AY) (es:List Eb) (d:Int) (torn:Bool):AY:=if l.cutE es d torn=0 then l.op.setS (Kt l.slots es d.toNat torn) else AY.zero
theorem P2 (b:Int) (s:List Bd) (es:List Eb) (i:Int) (h:0<=i) (h0:FV b s es i.toNat=0):FV b s es (i+1).toNat=GL b (DA s es i.toNat) (es[i.toNat]?.getD default):=by
 rw[show (i+1).toNat=i.toNat+1 by omega,FV,if_pos h0]
theorem Pg (s:List Bd) (es:List Eb) (i:Int) (h:0<=i):DA s es (i+1).toNat=Eo (DA s es i.toNat) (es[i.toNat]?.getD default):=by
 rw[show (i+1).toNat=i.toNat+1 by omega,DA]
theorem Pl (s:List Bd) (es:List Eb) (d:Int) (torn:Bool) (i:Int) (h:0<=i):JK s es d torn (i+1).toNat=if i<d then (JK s es d torn i.toNat).set (M8 (DA s es i.toNat)) ((DA s es (i+1).toNat)[M8 (DA s es i.toNat)]?.getD default)
  else if i=d/\torn=true then (JK s es d torn i.toNat).set (M8 (DA s es i.toNat)) E' else JK s es d torn i.toNat:=by
 rw[show (i+1).toNat=i.toNat+1 by omega,JK,show ((i.toNat:Nat):Int)=i by omega]
attribute [local congr] DP B9 B_ Bj DR Bn Bp Bo Bi BW BQ BF Bl BR BU Bm BV CC Cg BT CE CF CD CA CB B8 DQ B' Bk BS
attribute [local irreducible] IntKind.wrap CG Option.getD and or
theorem Ic (l:AY) (hs:l.sn=true->l.slots=[]) (hz:l.disk.zn=true->l.disk.zones=[]) (nw:Bool) (es:List Eb) (d:Int) (torn:Bool) :
  D6 E0 Ka [J2 l,.list nw (Ow es),.int .i64 d,.bool torn] (.tup [J2 (l.cutL es d torn),.int .i64 (l.cutE es d torn)]):=by
 refine Ap NI A' (by simp) fun hwf=>?_
 simp only[Fm,FB,FA,El,GD,GC,IK,GB,Cy,DF,DG,FD,Di,List.length_map,Dn,true_and,and_true,Aa,AJ,BE,A1] at hwf
 unfold AY.cutL AY.cutE
 by_cases he:l.openE=0
 ·obtain⟨hc,hf⟩:=QX he
  have g:=FM hc
  have gop:=QY g
  have m1:=g.m1;have m2:=g.m2
  have c1:=XC l he hs hz
  have c2:=Ct d es.length
  simp only[ne_eq,he,not_true_eq_false,if_false]
  cases hb:Mc es d torn with
  |true =>
   simp only[if_true]
   rw[if_neg (by omega),NM]
   have hb2:=hb
   unfold Mc at hb2
   rw[Av];unfold Eg
   cases hi:EO d 0 es.length with
   |false =>
    rw[hi] at c2
    (try (simp -implicitDefEqProofs only[go_sem,Am,Aa,AY.op,BE]));repeat' first|(with_reducible first|exact tI|refine aI ?_ ?_|intro _)|((first|with_reducible refine Ad ?_ ?_<;>intro _|(with_reducible refine isCall ?_);first|(refine Ak ([]) ([((15,1),(20,0)),((19,1),(10020,0))]) (c1) (by repeat' first|exact True.intro|exact rfl|refine And.intro ?_ ?_) (by simp[Handed,Ar.get,AI.ren,AV.ren,AV.ren.renL,AB.get,Af,Al,Ai,AB.reach,AV.sites,AV.sites.sitesL,AB.osites]) (by simp[AO,A3,AQ,Ar.get,Ai,BH,BJ,Aj,AX]) (by rfl) (by simp only[Au,Ar.get,AI.ren,AV.ren,AV.ren.renL,and_self,and_true,true_and,if_true,reduceIte];rfl) ?_)|refine AH c2 ?_)<;>try (simp -implicitDefEqProofs only[go_sem,Am,Aa,AY.op,BE]))|simp (disch:=omega) only[A7]|((with_reducible refine Br ?_);refine⟨(_,_,_),rfl,?_,?_⟩)
    all_goals first|omega|rfl|trace_state
   |true =>
    rw[hi] at c2
    rw[hi] at hb2
    simp only[Bool.not_true,Bool.false_or,Bool.and_eq_true,decide_eq_true_eq] at hb2
    rw[hb2.1]
    have hd:=hb2.2
    (try (simp -implicitDefEqProofs only[go_sem,Am,Aa,AY.op,BE,eq_true hd]));repeat' first|(with_reducible first|exact tI|refine aI ?_ ?_|intro _)|((first|with_reducible refine Ad ?_ ?_<;>intro _|(with_reducible refine isCall ?_);first|(refine Ak ([]) ([((15,1),(20,0)),((19,1),(10020,0))]) (c1) (by repeat' first|exact True.intro|exact rfl|refine And.intro ?_ ?_) (by simp[Handed,Ar.get,AI.ren,AV.ren,AV.ren.renL,AB.get,Af,Al,Ai,AB.reach,AV.sites,AV.sites.sitesL,AB.osites]) (by simp[AO,A3,AQ,Ar.get,Ai,BH,BJ,Aj,AX]) (by rfl) (by simp only[Au,Ar.get,AI.ren,AV.ren,AV.ren.renL,and_self,and_true,true_and,if_true,reduceIte];rfl) ?_)|refine AH c2 ?_)<;>try (simp -implicitDefEqProofs only[go_sem,Am,Aa,AY.op,BE,eq_true hd]))|simp (disch:=omega) only[A7]|((with_reducible refine Br ?_);refine⟨(_,_,_),rfl,?_,?_⟩)
    all_goals first|omega|rfl|trace_state
  |false =>
   simp only[Bool.false_eq_true,if_false]
   unfold Mc at hb
   rw[Bool.or_eq_false_iff] at hb
   obtain⟨hi,ht⟩:=hb
   have hi:EO d 0 es.length=true:=by simpa using hi
   have hd:=CR.1 hi
   have c3:=PK l.slots (by omega) (by omega)
   cases torn with
   |true =>
    have hne:¬d=es.length:=by simpa using ht
    rw[hi] at c2
    have c4:=fun s=>Fq (l.op.setS s)
    rw[Av];unfold Eg
    (try (simp -implicitDefEqProofs only[go_sem,Am,Aa,AY.op,BE,hne]));repeat' first|(with_reducible first|exact tI|refine aI ?_ ?_|intro _)|((first|with_reducible refine Ad ?_ ?_<;>intro _|(with_reducible refine isCall ?_);first|(refine Ak ([]) ([((15,1),(20,0)),((19,1),(10020,0))]) (c1) (by repeat' first|exact True.intro|exact rfl|refine And.intro ?_ ?_) (by simp[Handed,Ar.get,AI.ren,AV.ren,AV.ren.renL,AB.get,Af,Al,Ai,AB.reach,AV.sites,AV.sites.sitesL,AB.osites]) (by simp[AO,A3,AQ,Ar.get,Ai,BH,BJ,Aj,AX]) (by rfl) (by simp only[Au,Ar.get,AI.ren,AV.ren,AV.ren.renL,and_self,and_true,true_and,if_true,reduceIte];rfl) ?_)|refine AH c2 ?_|(refine Ak ([((900000,0),(10020,0))]) ([((900000,0),(10020,0)),((7,1),(47,0))]) (c3) (by repeat' first|exact True.intro|exact rfl|refine And.intro ?_ ?_) (by simp[Handed,Ar.get,AI.ren,AV.ren,AV.ren.renL,AB.get,Af,Al,Ai,AB.reach,AV.sites,AV.sites.sitesL,AB.osites]) (by simp[AO,A3,AQ,Ar.get,Ai,BH,BJ,Aj,AX]) (by rfl) (by simp only[Au,Ar.get,AI.ren,AV.ren,AV.ren.renL,and_self,and_true,true_and,if_true,reduceIte];rfl) ?_))<;>try (simp -implicitDefEqProofs only[go_sem,Am,Aa,AY.op,BE,hne]))|simp (disch:=omega) only[A7]|((with_reducible refine Br ?_);refine⟨(_,_,_),rfl,?_,?_⟩)
    all_goals (try omega)
    refine BZ (α:=Int×(List Bd)×(List Bd)) (l0:=?l1) (m0:=?m1) (fun x=>[(50,.d (.int .i64 x.1))]) (fun x=>[(10020,.row 43 5 false (DH x.2.1)),(47,.row 43 5 false (DH x.2.2))]) (fun x=>(0<=x.1/\x.1<=es.length)/\x.2.1=DA l.slots es x.1.toNat/\FV l.blocks l.slots es x.1.toNat=0/\x.2.2=JK l.slots es d true x.1.toNat) (fun x=>(es.length-x.1).toNat) (?a1_0,?a1_1,?a1_2) ?h01 ?he1 ?he21 ?hI1 ?step1
    case h01=>(simp -implicitDefEqProofs only[go_sem,AJ,BE];rfl)
    case he1=>rfl
    case he21=>rfl
    case' step1=>(rintro⟨i,s,o⟩ hI;try dsimp only at hI)
    case' hI1=>try dsimp only
    ·exact⟨⟨by omega,by omega⟩,rfl,rfl,rfl⟩
    ·obtain⟨⟨q1,q2⟩,q3,q4,q5⟩:=hI
     have hsl:s.length=l.slots.length:=by rw[q3];exact LH _ _ _
     have hol:o.length=l.slots.length:=by rw[q5];exact JI _ _ _ _ _
     by_cases hie:i<es.length
     ·have w1:IntKind.i64.wrap (i+1)=i+1:=BN _ (by omega)
      have e1:=P2 l.blocks l.slots es i q1 q4
      have e2:=Pg l.slots es i q1
      have e3:=Pl l.slots es d true i q1
      obtain⟨x,hx⟩:∃x,es[i.toNat]?.getD default=x:=⟨_,rfl⟩
      have gL:(l.op.setS s).Good:=by rw[q3];exact Ep (l:=l.op) gop es i.toNat q4
      obtain⟨n1,n2,n3⟩:=Bs gL
      rw[Ed] at n1 n2 n3
      rw[hx,←q3] at e1
      rw[hx,←q3] at e2
      rw[e2,←q3,←q5] at e3
      have c4:=Fq (l.op.setS s)
      have hP:M8 s=(((D0 s).num+1).tmod s.length).toNat:=rfl
      have t1:=Dt (n:=(D0 s).num+1) (m:=s.length) (by omega) (by omega)
      have w2:IntKind.i64.wrap ((D0 s).num+1)=(D0 s).num+1:=BN _ (by omega)
      rw[A9,A8,TP,Ed] at c4
      by_cases ha:GL l.blocks s x=0
      ·have c5:=KJ (l.op.setS s) gL x ha
       have hpl:=I9 s x
       rw[ha] at e1
       obtain⟨r,hr⟩:∃r,(Eo s x)[M8 s]?.getD default=r:=⟨_,rfl⟩
       rw[hr] at e3
       unfold JP at c5
       simp only[AY.setS,AY.op] at c4 c5
       rw[←hP] at t1
       have hPl:=t1.1
       obtain⟨P,hPP⟩:∃P,M8 s=P:=⟨_,rfl⟩
       rw[hPP] at hP t1 hPl hr e3
       obtain⟨s',hs'⟩:∃s',Eo s x=s':=⟨_,rfl⟩
       rw[hs'] at c5 hpl hr e2
       have hPo:P<o.length:=by omega
       have hPs:P<s'.length:=by omega
       have e5:¬(o.length:Int)=0:=by omega
       have hPo':((((D0 s).num+1).tmod o.length).toNat)=P:=by rw[hP,hol,hsl]
       have t2:0<=((D0 s).num+1).tmod o.length/\((D0 s).num+1).tmod o.length<o.length:=by rw[hol,←hsl];omega
       by_cases hid:i<d
       ·rw[if_pos hid] at e3
        (try (simp -implicitDefEqProofs only[go_sem,BE,Cc,CS,hx,Cm,Cn,AJ,Aq,An,A9,A8,DE,hr,hPo',hPo,hPs,t2.1,t2.2,e5,w1,w2,hie,q1,hid]));repeat' first|(with_reducible first|exact tI|refine aI ?_ ?_|intro _)|((first|with_reducible refine Ad ?_ ?_<;>intro _|(with_reducible refine isCall ?_);first|refine D5 (c4) rfl (by simp[D.flat,D.flat1,D.prim]) ?_|(refine Ak ([((900000,0),(20,0)),((901000,0),(10020,0))]) ([((900000,0),(20,0)),((901000,0),(10020,0))]) (c5) (by repeat' first|exact True.intro|exact rfl|refine And.intro ?_ ?_) (by simp[Handed,Ar.get,AI.ren,AV.ren,AV.ren.renL,AB.get,Af,Al,Ai,AB.reach,AV.sites,AV.sites.sitesL,AB.osites]) (by simp[AO,A3,AQ,Ar.get,Ai,BH,BJ,Aj,AX]) (by rfl) (by simp only[Au,Ar.get,AI.ren,AV.ren,AV.ren.renL,and_self,and_true,true_and,if_true,reduceIte];rfl) ?_))<;>try (simp -implicitDefEqProofs only[go_sem,BE,Cc,CS,hx,Cm,Cn,AJ,Aq,An,A9,A8,DE,hr,hPo',hPo,hPs,t2.1,t2.2,e5,w1,w2,hie,q1,hid]))|simp (disch:=omega) only[A7]|((with_reducible refine Br ?_);refine⟨(_,_,_),rfl,?_,?_⟩)
        all_goals first|omega|exact .inl True.intro|exact e1|exact e2.symm|exact e3.symm|exact e1'|trace_state
       ·rw[if_neg hid] at e3
        by_cases hit:i=d
        ·simp only[hit,true_and,and_true,and_false,true_and,Bool.false_eq_true,if_true,if_false] at e3
         subst hit
         (try (simp -implicitDefEqProofs only[go_sem,BE,Cc,CS,hx,Cm,Cn,AJ,Aq,An,A9,A8,DE,hr,hPo',hPo,hPs,t2.1,t2.2,e5,w1,w2,hie,q1]));repeat' first|(with_reducible first|exact tI|refine aI ?_ ?_|intro _)|((first|with_reducible refine Ad ?_ ?_<;>intro _|(with_reducible refine isCall ?_);first|refine D5 (c4) rfl (by simp[D.flat,D.flat1,D.prim]) ?_|(refine Ak ([((900000,0),(20,0)),((901000,0),(10020,0))]) ([((900000,0),(20,0)),((901000,0),(10020,0))]) (c5) (by repeat' first|exact True.intro|exact rfl|refine And.intro ?_ ?_) (by simp[Handed,Ar.get,AI.ren,AV.ren,AV.ren.renL,AB.get,Af,Al,Ai,AB.reach,AV.sites,AV.sites.sitesL,AB.osites]) (by simp[AO,A3,AQ,Ar.get,Ai,BH,BJ,Aj,AX]) (by rfl) (by simp only[Au,Ar.get,AI.ren,AV.ren,AV.ren.renL,and_self,and_true,true_and,if_true,reduceIte];rfl) ?_))<;>try (simp -implicitDefEqProofs only[go_sem,BE,Cc,CS,hx,Cm,Cn,AJ,Aq,An,A9,A8,DE,hr,hPo',hPo,hPs,t2.1,t2.2,e5,w1,w2,hie,q1]))|simp (disch:=omega) only[A7]|((with_reducible refine Br ?_);refine⟨(_,_,_),rfl,?_,?_⟩)
         all_goals first|omega|exact .inl True.intro|exact e1|exact e2.symm|exact e3.symm|exact e1'|trace_state
        ·simp only[hit,false_and,if_false] at e3
         (try (simp -implicitDefEqProofs only[go_sem,BE,Cc,CS,hx,Cm,Cn,AJ,Aq,An,A9,A8,DE,hr,hPo',hPo,hPs,t2.1,t2.2,e5,w1,w2,hie,q1,hid,hit]));repeat' first|(with_reducible first|exact tI|refine aI ?_ ?_|intro _)|((first|with_reducible refine Ad ?_ ?_<;>intro _|(with_reducible refine isCall ?_);first|refine D5 (c4) rfl (by simp[D.flat,D.flat1,D.prim]) ?_|(refine Ak ([((900000,0),(20,0)),((901000,0),(10020,0))]) ([((900000,0),(20,0)),((901000,0),(10020,0))]) (c5) (by repeat' first|exact True.intro|exact rfl|refine And.intro ?_ ?_) (by simp[Handed,Ar.get,AI.ren,AV.ren,AV.ren.renL,AB.get,Af,Al,Ai,AB.reach,AV.sites,AV.sites.sitesL,AB.osites]) (by simp[AO,A3,AQ,Ar.get,Ai,BH,BJ,Aj,AX]) (by rfl) (by simp only[Au,Ar.get,AI.ren,AV.ren,AV.ren.renL,and_self,and_true,true_and,if_true,reduceIte];rfl) ?_))<;>try (simp -implicitDefEqProofs only[go_sem,BE,Cc,CS,hx,Cm,Cn,AJ,Aq,An,A9,A8,DE,hr,hPo',hPo,hPs,t2.1,t2.2,e5,w1,w2,hie,q1,hid,hit]))|simp (disch:=omega) only[A7]|((with_reducible refine Br ?_);refine⟨(_,_,_),rfl,?_,?_⟩)
         all_goals first|omega|exact .inl True.intro|exact e1|exact e2.symm|exact e3.symm|exact e1'|trace_state
      ·have c5:=KK (l.op.setS s) gL x ha
       have c5':GL (l.op.setS s).blocks (l.op.setS s).slots x=GL l.blocks s x:=rfl
       rw[c5'] at c5
       have hE:FV l.blocks l.slots es es.length=GL l.blocks s x:=by
        rw[←e1];exact Jw (by rw[e1];exact ha) _ (by omega)
       rw[hE,if_neg ha,NM]
       unfold JP at c5
       simp only[AY.setS,AY.op] at c4 c5
       (try (simp -implicitDefEqProofs only[go_sem,BE,Cc,CS,hx,Cm,Cn,AJ,Aq,An,A9,A8,w1,w2,hie,q1,ha]));repeat' first|(with_reducible first|exact tI|refine aI ?_ ?_|intro _)|((first|with_reducible refine Ad ?_ ?_<;>intro _|(with_reducible refine isCall ?_);first|refine D5 (c4) rfl (by simp[D.flat,D.flat1,D.prim]) ?_|(refine Ak ([((900000,0),(20,0)),((901000,0),(10020,0))]) ([((900000,0),(20,0)),((901000,0),(10020,0))]) (c5) (by repeat' first|exact True.intro|exact rfl|refine And.intro ?_ ?_) (by simp[Handed,Ar.get,AI.ren,AV.ren,AV.ren.renL,AB.get,Af,Al,Ai,AB.reach,AV.sites,AV.sites.sitesL,AB.osites]) (by simp[AO,A3,AQ,Ar.get,Ai,BH,BJ,Aj,AX]) (by rfl) (by simp only[Au,Ar.get,AI.ren,AV.ren,AV.ren.renL,and_self,and_true,true_and,if_true,reduceIte];rfl) ?_))<;>try (simp -implicitDefEqProofs only[go_sem,BE,Cc,CS,hx,Cm,Cn,AJ,Aq,An,A9,A8,w1,w2,hie,q1,ha]))|simp (disch:=omega) only[A7]|((with_reducible refine Br ?_);refine⟨(_,_,_),rfl,?_,?_⟩)
       all_goals first|omega|exact .inl True.intro|rfl|trace_state
     ·have hi0:i.toNat=es.length:=by omega
      rw[hi0] at q4 q5
      have hd0:((d.toNat:Nat):Int)=d:=by omega
      have hcut:o=Kt l.slots es d.toNat true:=by
       rw[q5,←Rp l.slots es d.toNat true es.length (by omega) (by intro _;omega),hd0]
      rw[if_pos q4,q4,←hcut]
      (try (simp -implicitDefEqProofs only[go_sem,BE,AJ,Am,Aa,AY.setS,AY.op,hie]));repeat' first|(with_reducible first|exact tI|refine aI ?_ ?_|intro _)|((first|with_reducible refine Ad ?_ ?_<;>intro _)<;>try (simp -implicitDefEqProofs only[go_sem,BE,AJ,Am,Aa,AY.setS,AY.op,hie]))|simp (disch:=omega) only[A7]|((with_reducible refine Br ?_);refine⟨(_,_,_),rfl,?_,?_⟩)
      all_goals first|omega|exact .inl True.intro|rfl|trace_state
   |false =>
    rw[hi] at c2
    have c4:=fun s=>Fq (l.op.setS s)
    rw[Av];unfold Eg
    (try (simp -implicitDefEqProofs only[go_sem,Am,Aa,AY.op,BE]));repeat' first|(with_reducible first|exact tI|refine aI ?_ ?_|intro _)|((first|with_reducible refine Ad ?_ ?_<;>intro _|(with_reducible refine isCall ?_);first|(refine Ak ([]) ([((15,1),(20,0)),((19,1),(10020,0))]) (c1) (by repeat' first|exact True.intro|exact rfl|refine And.intro ?_ ?_) (by simp[Handed,Ar.get,AI.ren,AV.ren,AV.ren.renL,AB.get,Af,Al,Ai,AB.reach,AV.sites,AV.sites.sitesL,AB.osites]) (by simp[AO,A3,AQ,Ar.get,Ai,BH,BJ,Aj,AX]) (by rfl) (by simp only[Au,Ar.get,AI.ren,AV.ren,AV.ren.renL,and_self,and_true,true_and,if_true,reduceIte];rfl) ?_)|refine AH c2 ?_|(refine Ak ([((900000,0),(10020,0))]) ([((900000,0),(10020,0)),((7,1),(47,0))]) (c3) (by repeat' first|exact True.intro|exact rfl|refine And.intro ?_ ?_) (by simp[Handed,Ar.get,AI.ren,AV.ren,AV.ren.renL,AB.get,Af,Al,Ai,AB.reach,AV.sites,AV.sites.sitesL,AB.osites]) (by simp[AO,A3,AQ,Ar.get,Ai,BH,BJ,Aj,AX]) (by rfl) (by simp only[Au,Ar.get,AI.ren,AV.ren,AV.ren.renL,and_self,and_true,true_and,if_true,reduceIte];rfl) ?_))<;>try (simp -implicitDefEqProofs only[go_sem,Am,Aa,AY.op,BE]))|simp (disch:=omega) only[A7]|((with_reducible refine Br ?_);refine⟨(_,_,_),rfl,?_,?_⟩)
    all_goals (try omega)
    refine BZ (α:=Int×(List Bd)×(List Bd)) (l0:=?l2) (m0:=?m2) (fun x=>[(50,.d (.int .i64 x.1))]) (fun x=>[(10020,.row 43 5 false (DH x.2.1)),(47,.row 43 5 false (DH x.2.2))]) (fun x=>(0<=x.1/\x.1<=es.length)/\x.2.1=DA l.slots es x.1.toNat/\FV l.blocks l.slots es x.1.toNat=0/\x.2.2=JK l.slots es d false x.1.toNat) (fun x=>(es.length-x.1).toNat) (?a2_0,?a2_1,?a2_2) ?h02 ?he2 ?he22 ?hI2 ?step2
    case h02=>(simp -implicitDefEqProofs only[go_sem,AJ,BE];rfl)
    case he2=>rfl
    case he22=>rfl
    case' step2=>(rintro⟨i,s,o⟩ hI2;try dsimp only at hI2)
    case' hI2=>try dsimp only
    ·exact⟨⟨by omega,by omega⟩,rfl,rfl,rfl⟩
    ·obtain⟨⟨q1,q2⟩,q3,q4,q5⟩:=hI2
     have hsl:s.length=l.slots.length:=by rw[q3];exact LH _ _ _
     have hol:o.length=l.slots.length:=by rw[q5];exact JI _ _ _ _ _
     by_cases hie:i<es.length
     ·have w1:IntKind.i64.wrap (i+1)=i+1:=BN _ (by omega)
      have e1:=P2 l.blocks l.slots es i q1 q4
      have e2:=Pg l.slots es i q1
      have e3:=Pl l.slots es d false i q1
      obtain⟨x,hx⟩:∃x,es[i.toNat]?.getD default=x:=⟨_,rfl⟩
      have gL:(l.op.setS s).Good:=by rw[q3];exact Ep (l:=l.op) gop es i.toNat q4
      obtain⟨n1,n2,n3⟩:=Bs gL
      rw[Ed] at n1 n2 n3
      rw[hx,←q3] at e1
      rw[hx,←q3] at e2
      rw[e2,←q3,←q5] at e3
      have c4:=Fq (l.op.setS s)
      have hP:M8 s=(((D0 s).num+1).tmod s.length).toNat:=rfl
      have t1:=Dt (n:=(D0 s).num+1) (m:=s.length) (by omega) (by omega)
      have w2:IntKind.i64.wrap ((D0 s).num+1)=(D0 s).num+1:=BN _ (by omega)
      rw[A9,A8,TP,Ed] at c4
      by_cases ha:GL l.blocks s x=0
      ·have c5:=KJ (l.op.setS s) gL x ha
       have hpl:=I9 s x
       rw[ha] at e1
       obtain⟨r,hr⟩:∃r,(Eo s x)[M8 s]?.getD default=r:=⟨_,rfl⟩
       rw[hr] at e3
       unfold JP at c5
       simp only[AY.setS,AY.op] at c4 c5
       rw[←hP] at t1
       have hPl:=t1.1
       obtain⟨P,hPP⟩:∃P,M8 s=P:=⟨_,rfl⟩
       rw[hPP] at hP t1 hPl hr e3
       obtain⟨s',hs'⟩:∃s',Eo s x=s':=⟨_,rfl⟩
       rw[hs'] at c5 hpl hr e2
       have hPo:P<o.length:=by omega
       have hPs:P<s'.length:=by omega
       have e5:¬(o.length:Int)=0:=by omega
       have hPo':((((D0 s).num+1).tmod o.length).toNat)=P:=by rw[hP,hol,hsl]
       have t2:0<=((D0 s).num+1).tmod o.length/\((D0 s).num+1).tmod o.length<o.length:=by rw[hol,←hsl];omega
       by_cases hid:i<d
       ·rw[if_pos hid] at e3
        (try (simp -implicitDefEqProofs only[go_sem,BE,Cc,CS,hx,Cm,Cn,AJ,Aq,An,A9,A8,DE,hr,hPo',hPo,hPs,t2.1,t2.2,e5,w1,w2,hie,q1,hid]));repeat' first|(with_reducible first|exact tI|refine aI ?_ ?_|intro _)|((first|with_reducible refine Ad ?_ ?_<;>intro _|(with_reducible refine isCall ?_);first|refine D5 (c4) rfl (by simp[D.flat,D.flat1,D.prim]) ?_|(refine Ak ([((900000,0),(20,0)),((901000,0),(10020,0))]) ([((900000,0),(20,0)),((901000,0),(10020,0))]) (c5) (by repeat' first|exact True.intro|exact rfl|refine And.intro ?_ ?_) (by simp[Handed,Ar.get,AI.ren,AV.ren,AV.ren.renL,AB.get,Af,Al,Ai,AB.reach,AV.sites,AV.sites.sitesL,AB.osites]) (by simp[AO,A3,AQ,Ar.get,Ai,BH,BJ,Aj,AX]) (by rfl) (by simp only[Au,Ar.get,AI.ren,AV.ren,AV.ren.renL,and_self,and_true,true_and,if_true,reduceIte];rfl) ?_))<;>try (simp -implicitDefEqProofs only[go_sem,BE,Cc,CS,hx,Cm,Cn,AJ,Aq,An,A9,A8,DE,hr,hPo',hPo,hPs,t2.1,t2.2,e5,w1,w2,hie,q1,hid]))|simp (disch:=omega) only[A7]|((with_reducible refine Br ?_);refine⟨(_,_,_),rfl,?_,?_⟩)
        all_goals first|omega|exact .inl True.intro|exact e1|exact e2.symm|exact e3.symm|exact e1'|trace_state
       ·rw[if_neg hid] at e3
        by_cases hit:i=d
        ·simp only[hit,false_and,and_true,and_false,true_and,Bool.false_eq_true,if_true,if_false] at e3
         subst hit
         (try (simp -implicitDefEqProofs only[go_sem,BE,Cc,CS,hx,Cm,Cn,AJ,Aq,An,A9,A8,DE,hr,hPo',hPo,hPs,t2.1,t2.2,e5,w1,w2,hie,q1]));repeat' first|(with_reducible first|exact tI|refine aI ?_ ?_|intro _)|((first|with_reducible refine Ad ?_ ?_<;>intro _|(with_reducible refine isCall ?_);first|refine D5 (c4) rfl (by simp[D.flat,D.flat1,D.prim]) ?_|(refine Ak ([((900000,0),(20,0)),((901000,0),(10020,0))]) ([((900000,0),(20,0)),((901000,0),(10020,0))]) (c5) (by repeat' first|exact True.intro|exact rfl|refine And.intro ?_ ?_) (by simp[Handed,Ar.get,AI.ren,AV.ren,AV.ren.renL,AB.get,Af,Al,Ai,AB.reach,AV.sites,AV.sites.sitesL,AB.osites]) (by simp[AO,A3,AQ,Ar.get,Ai,BH,BJ,Aj,AX]) (by rfl) (by simp only[Au,Ar.get,AI.ren,AV.ren,AV.ren.renL,and_self,and_true,true_and,if_true,reduceIte];rfl) ?_))<;>try (simp -implicitDefEqProofs only[go_sem,BE,Cc,CS,hx,Cm,Cn,AJ,Aq,An,A9,A8,DE,hr,hPo',hPo,hPs,t2.1,t2.2,e5,w1,w2,hie,q1]))|simp (disch:=omega) only[A7]|((with_reducible refine Br ?_);refine⟨(_,_,_),rfl,?_,?_⟩)
         all_goals first|omega|exact .inl True.intro|exact e1|exact e2.symm|exact e3.symm|exact e1'|trace_state
        ·simp only[hit,false_and,if_false] at e3
         (try (simp -implicitDefEqProofs only[go_sem,BE,Cc,CS,hx,Cm,Cn,AJ,Aq,An,A9,A8,DE,hr,hPo',hPo,hPs,t2.1,t2.2,e5,w1,w2,hie,q1,hid,hit]));repeat' first|(with_reducible first|exact tI|refine aI ?_ ?_|intro _)|((first|with_reducible refine Ad ?_ ?_<;>intro _|(with_reducible refine isCall ?_);first|refine D5 (c4) rfl (by simp[D.flat,D.flat1,D.prim]) ?_|(refine Ak ([((900000,0),(20,0)),((901000,0),(10020,0))]) ([((900000,0),(20,0)),((901000,0),(10020,0))]) (c5) (by repeat' first|exact True.intro|exact rfl|refine And.intro ?_ ?_) (by simp[Handed,Ar.get,AI.ren,AV.ren,AV.ren.renL,AB.get,Af,Al,Ai,AB.reach,AV.sites,AV.sites.sitesL,AB.osites]) (by simp[AO,A3,AQ,Ar.get,Ai,BH,BJ,Aj,AX]) (by rfl) (by simp only[Au,Ar.get,AI.ren,AV.ren,AV.ren.renL,and_self,and_true,true_and,if_true,reduceIte];rfl) ?_))<;>try (simp -implicitDefEqProofs only[go_sem,BE,Cc,CS,hx,Cm,Cn,AJ,Aq,An,A9,A8,DE,hr,hPo',hPo,hPs,t2.1,t2.2,e5,w1,w2,hie,q1,hid,hit]))|simp (disch:=omega) only[A7]|((with_reducible refine Br ?_);refine⟨(_,_,_),rfl,?_,?_⟩)
         all_goals first|omega|exact .inl True.intro|exact e1|exact e2.symm|exact e3.symm|exact e1'|trace_state
      ·have c5:=KK (l.op.setS s) gL x ha
       have c5':GL (l.op.setS s).blocks (l.op.setS s).slots x=GL l.blocks s x:=rfl
       rw[c5'] at c5
       have hE:FV l.blocks l.slots es es.length=GL l.blocks s x:=by
        rw[←e1];exact Jw (by rw[e1];exact ha) _ (by omega)
       rw[hE,if_neg ha,NM]
       unfold JP at c5
       simp only[AY.setS,AY.op] at c4 c5
       (try (simp -implicitDefEqProofs only[go_sem,BE,Cc,CS,hx,Cm,Cn,AJ,Aq,An,A9,A8,w1,w2,hie,q1,ha]));repeat' first|(with_reducible first|exact tI|refine aI ?_ ?_|intro _)|((first|with_reducible refine Ad ?_ ?_<;>intro _|(with_reducible refine isCall ?_);first|refine D5 (c4) rfl (by simp[D.flat,D.flat1,D.prim]) ?_|(refine Ak ([((900000,0),(20,0)),((901000,0),(10020,0))]) ([((900000,0),(20,0)),((901000,0),(10020,0))]) (c5) (by repeat' first|exact True.intro|exact rfl|refine And.intro ?_ ?_) (by simp[Handed,Ar.get,AI.ren,AV.ren,AV.ren.renL,AB.get,Af,Al,Ai,AB.reach,AV.sites,AV.sites.sitesL,AB.osites]) (by simp[AO,A3,AQ,Ar.get,Ai,BH,BJ,Aj,AX]) (by rfl) (by simp only[Au,Ar.get,AI.ren,AV.ren,AV.ren.renL,and_self,and_true,true_and,if_true,reduceIte];rfl) ?_))<;>try (simp -implicitDefEqProofs only[go_sem,BE,Cc,CS,hx,Cm,Cn,AJ,Aq,An,A9,A8,w1,w2,hie,q1,ha]))|simp (disch:=omega) only[A7]|((with_reducible refine Br ?_);refine⟨(_,_,_),rfl,?_,?_⟩)
       all_goals first|omega|exact .inl True.intro|rfl|trace_state
     ·have hi0:i.toNat=es.length:=by omega
      rw[hi0] at q4 q5
      have hd0:((d.toNat:Nat):Int)=d:=by omega
      have hcut:o=Kt l.slots es d.toNat false:=by
       rw[q5,←Rp l.slots es d.toNat false es.length (by omega) (by intro h;cases h),hd0]
      rw[if_pos q4,q4,←hcut]
      (try (simp -implicitDefEqProofs only[go_sem,BE,AJ,Am,Aa,AY.setS,AY.op,hie]));repeat' first|(with_reducible first|exact tI|refine aI ?_ ?_|intro _)|((first|with_reducible refine Ad ?_ ?_<;>intro _)<;>try (simp -implicitDefEqProofs only[go_sem,BE,AJ,Am,Aa,AY.setS,AY.op,hie]))|simp (disch:=omega) only[A7]|((with_reducible refine Br ?_);refine⟨(_,_,_),rfl,?_,?_⟩)
      all_goals first|omega|exact .inl True.intro|rfl|trace_state
 ·have c1:=Hi l hs hz
  unfold UU at c1
  rw[if_neg he] at c1
  simp only[ne_eq,he,not_false_eq_true,if_true]
  rw[if_neg (by simpa using he),NM,Av];unfold Eg
  (try (simp -implicitDefEqProofs only[go_sem,Am,Aa,he]));repeat' first|(with_reducible first|exact tI|refine aI ?_ ?_|intro _)|((first|with_reducible refine Ad ?_ ?_<;>intro _|(with_reducible refine isCall ?_);first|refine AH c1 ?_)<;>try (simp -implicitDefEqProofs only[go_sem,Am,Aa,he]))|simp (disch:=omega) only[A7]|((with_reducible refine Br ?_);refine⟨(_,_,_),rfl,?_,?_⟩)
  all_goals first|omega|rfl|(simp[he];done)|trace_state
theorem Km (l:AY) (hs:l.sn=true->l.slots=[]) (hz:l.disk.zn=true->l.disk.zones=[]) (nw:Bool) (es:List Eb) :
  D6 E0 Hv [J2 l,.list nw (Ow es)] (.tup [J2 (l.cutL es es.length false),.int .i64 (l.cutE es es.length false)]):=by
 refine Ap Kr A' (by simp) fun hwf=>?_
 have c1:=Ic l hs hz nw es es.length false
 generalize l.cutL es es.length false=L at *
 generalize l.cutE es es.length false=e at *
 rw[Av];unfold HD
 (try (simp -implicitDefEqProofs only[go_sem,Am,Aa,BE]));repeat' first|(with_reducible first|exact tI|refine aI ?_ ?_|intro _)|((first|with_reducible refine Ad ?_ ?_<;>intro _|(with_reducible refine isCall ?_);first|refine AH c1 ?_)<;>try (simp -implicitDefEqProofs only[go_sem,Am,Aa,BE]))|simp (disch:=omega) only[A7]
 all_goals first|omega|rfl|trace_state
end Go.Pw
