/- A part of the proof. -/
import Derived.Test.YtpcpcjbbdgmohaaDoorPgLgJournalH
import Derived.Test.YtpcpcjbbdgmohaaDoorLgJournalSpec2
set_option linter.all false
section
open Go Go.Pw Go.Proofs
namespace Go.Pw
set_option maxRecDepth 100000
set_option maxHeartbeats 3200000
theorem HB (l:List Bd):(DH l=[])=(l=[]):=by cases l<;>simp[DH]
def AY.ns (l:AY):AY:={ l with sn:=false }
theorem Y3 {l:AY}(g:l.Good):l.ns.Good:=⟨g.d,g.b1,g.b2,g.m1,g.m2,g.f1,g.f2,g.s⟩
theorem TP (l:AY):OC l.ns=[.int .i64 l.disk.heads,.int .i64 l.disk.turn,.list l.disk.zn (L6 l.disk.zones),.int .i64 l.disk.hskew,.int .i64 l.disk.cskew,.int .i64 l.disk.hlo,.int .i64 l.disk.hhi,.int .i64 l.disk.clo,.int .i64 l.disk.chi,.int .i64 l.blocks,.int .i64 l.from',.list false (DH l.slots)]:=rfl
theorem Fq (l:AY):D6 E0 Ej [.ptr (OC l.ns)] (O3 l.newest):=FI l.ns
theorem Rv (l:AY) (g:l.Good):D6 E0 E3 [.ptr (OC l.ns)] (.int .i64 (l.newest.tail+l.slots.length)):=LV l.ns (Y3 g)
attribute [local congr] DP B9 B_ Bj DR Bn Bp Bo Bi BW BQ BF Bl BR BU Bm BV CC Cg BT CE CF CD CA CB B8 DQ B' Bk BS
attribute [local irreducible] IntKind.wrap CG Option.getD and or
theorem XD (l:AY) (g:l.Good) (hf:l.full=true):Ea E0 FO (JP l) [.ptr 900000 0 0] (JP l) (.tup [.d (.list l.kept.isEmpty (DH l.kept)),.d (.bool true)]):=by
 have cs:=fun n h=>Rn l n (by have:=g.m1;omega) h
 unfold JP at *
 refine A6 F_ A' (by simp) (by simp[EG,AQ,BH,AI.isHist]) (by simp[A3]) fun hwf hwo=>?_
 have c1:=Fq l
 obtain⟨n1,n2,n3⟩:=Bs g
 have m1:=g.m1;have m2:=g.m2
 obtain⟨⟨na,nb,nc,nd,ne⟩,hR⟩:∃R,l.newest=R:=⟨_,rfl⟩
 have hN:l.newest.num=na:=by rw[hR]
 have hT:l.newest.tail=nd:=by rw[hR]
 rw[hR,A9,A8,TP] at c1
 rw[hN,hT] at n3
 rw[hN] at n2
 rw[BI];unfold Ey
 (try (simp -implicitDefEqProofs only[go_sem]));repeat' first|(with_reducible first|exact tI|refine aI ?_ ?_|intro _)|((first|with_reducible refine Ad ?_ ?_<;>intro _|(with_reducible refine isCall ?_);first|refine D5 (c1) rfl (by simp[D.flat,D.flat1,D.prim]) ?_)<;>try (simp -implicitDefEqProofs only[go_sem]))|simp (disch:=omega) only[A7]|((with_reducible refine Br ?_);refine⟨(_,_,_),rfl,?_,?_⟩)
 all_goals first|omega|(simp<;>omega)|skip
 refine BZ (α:=Int×(List Bd)×Bool) (l0:=?l1) (m0:=?m1) (fun x=>[(5,.d (.int .i64 x.1))]) (fun x=>[(33,.row 43 5 x.2.2 (DH x.2.1))]) (fun x=>(nd<=x.1/\x.1<=na+1)/\x.2.1=l.keptN nd (x.1-nd).toNat/\x.2.2=x.2.1.isEmpty/\l.whole nd (x.1-nd).toNat=true) (fun x=>(na+1-x.1).toNat) (?a1_0,[],true) ?h01 ?he1 ?he21 ?hI1 ?step1
 case h01=>(simp -implicitDefEqProofs only[go_sem,AJ];rfl)
 case he1=>rfl
 case he21=>rfl
 case' step1=>(rintro⟨n,out,b⟩ hI;try dsimp only at hI)
 case' hI1=>try dsimp only
 ·refine⟨⟨by omega,by omega⟩,?_,rfl,?_⟩
  ·rw[Int.sub_self];rfl
  ·rw[Int.sub_self];rfl
 ·obtain⟨⟨q1,q2⟩,q3,q4,q5⟩:=hI
  by_cases hn:n<=na
  ·have c2:=cs n (by omega)
   have w1:IntKind.i64.wrap (n+1)=n+1:=BN _ (by omega)
   have k1:=Nd (l:=l) q1
   have k2:=OD (l:=l) q1
   have hlen:=MJ l nd (n-nd).toNat
   have hfl:=hf
   unfold AY.full at hfl
   rw[hT] at hfl
   have hat:=Nf hfl (i:=(n-nd).toNat) (by unfold AY.many;omega)
   rw[show nd+((n-nd).toNat:Int)=n by omega] at hat
   rw[←q3] at hlen k2
   rw[q5] at k1
   have hemp:=KN out
   have t1:=Dt (n:=n) (m:=l.slots.length) (by omega) (by omega)
   obtain⟨r,hr⟩:∃r,l.at' n=r:=⟨_,rfl⟩
   have hr':l.slots[(n.tmod l.slots.length).toNat]?.getD default=r:=hr
   rw[hr] at k1 k2 hat
   have hb:=hat.1
   have hx:=hat.2
   rw[hb,decide_eq_true hx] at k1
   have hnx:l.keptN nd (n+1-nd).toNat=out++[⟨r.num,r.blk,r.val,r.tail,false⟩]:=by rw[k2,←hb]
   have k1':l.whole nd (n+1-nd).toNat=true:=by rw[k1];simp
   obtain⟨P,hP⟩:∃P,(n.tmod l.slots.length).toNat=P:=⟨_,rfl⟩
   rw[hP] at c2 t1 hr'
   have hPl:=t1.1
   (try (simp -implicitDefEqProofs only[go_sem,hn,eq_true hx,AJ,Aq,hr',hb,hPl,A9,A8,An,H4,w1]));repeat' first|(with_reducible first|exact tI|refine aI ?_ ?_|intro _)|((first|with_reducible refine Ad ?_ ?_<;>intro _|(with_reducible refine isCall ?_);first|(refine Ak ([((900000,0),(900000,0)),((901000,0),(901000,0))]) ([((900000,0),(900000,0)),((901000,0),(901000,0))]) (c2) (by repeat' first|exact True.intro|exact rfl|refine And.intro ?_ ?_) (by simp[Handed,Ar.get,AI.ren,AV.ren,AV.ren.renL,AB.get,Af,Al,Ai,AB.reach,AV.sites,AV.sites.sitesL,AB.osites]) (by simp[AO,A3,AQ,Ar.get,Ai,BH,BJ,Aj,AX]) (by rfl) (by simp only[Au,Ar.get,AI.ren,AV.ren,AV.ren.renL,and_self,and_true,true_and,if_true,reduceIte];rfl) ?_))<;>try (simp -implicitDefEqProofs only[go_sem,hn,eq_true hx,AJ,Aq,hr',hb,hPl,A9,A8,An,H4,w1]))|simp (disch:=omega) only[A7]|((with_reducible refine Br ?_);refine⟨(_,_,_),rfl,?_,?_⟩)
   all_goals first|omega|exact hnx.symm|exact k1'|exact(hemp _).symm|skip
  ·have hne:n=na+1:=by omega
   have hm:(n-nd).toNat=l.many:=by unfold AY.many;omega
   rw[hm] at q3 q5
   have ha:l.kept=out:=by unfold AY.kept;rw[q3,hT]
   rw[ha,←q4]
   (try (simp -implicitDefEqProofs only[go_sem,hn]));repeat' first|(with_reducible first|exact tI|refine aI ?_ ?_|intro _)|((first|with_reducible refine Ad ?_ ?_<;>intro _)<;>try (simp -implicitDefEqProofs only[go_sem,hn]))|simp (disch:=omega) only[A7]|((with_reducible refine Br ?_);refine⟨(_,_,_),rfl,?_,?_⟩)
theorem PJ (nl:Bool) (xs:List Bd) (hw:nl=true->xs=[]) (hl:xs.length<=1000) (hne:0<xs.length):Ea E0 B3 [] [.d (.list nl (DH xs))] [(7,1,.row 43 5 false (DH xs))] (.own 7 1):=by
 refine A6 CV A' (by simp) (by simp[EG,AQ,BH]) (by simp[A3]) fun hwf hwo=>?_
 rw[BI];unfold B2
 have hn:¬xs=[]:=by intro h;rw[h] at hne;simp at hne
 have hnl:nl=false:=by cases nl with|true=>exact absurd (hw rfl) hn|false=>rfl
 subst hnl
 (try (simp -implicitDefEqProofs only[go_sem,AJ,An,HB,hn]));repeat' first|(with_reducible first|exact tI|refine aI ?_ ?_|intro _)|((first|with_reducible refine Ad ?_ ?_<;>intro _)<;>try (simp -implicitDefEqProofs only[go_sem,AJ,An,HB,hn]))|simp (disch:=omega) only[A7]
 all_goals first|omega|rfl
theorem PK (xs:List Bd) (hl:xs.length<=1000) (hne:0<xs.length):Ea E0 B3 [(900000,0,.row 43 5 false (DH xs))] [.own 900000 0] [(900000,0,.row 43 5 false (DH xs)),(7,1,.row 43 5 false (DH xs))] (.own 7 1):=by
 refine A6 CV A' (by simp) (by simp[EG,AQ,BH,AI.isHist]) (by simp[A3]) fun hwf hwo=>?_
 rw[BI];unfold B2
 have hn:¬xs=[]:=by intro h;rw[h] at hne;simp at hne
 (try (simp -implicitDefEqProofs only[go_sem,AJ,An,HB,hn]));repeat' first|(with_reducible first|exact tI|refine aI ?_ ?_|intro _)|((first|with_reducible refine Ad ?_ ?_<;>intro _)<;>try (simp -implicitDefEqProofs only[go_sem,AJ,An,HB,hn]))|simp (disch:=omega) only[A7]
 all_goals first|omega|rfl
end Go.Pw
end
section
open Go Go.Pw Go.Proofs
namespace Go.Pw
set_option maxRecDepth 100000
set_option maxHeartbeats 3200000
theorem DE (l:List Bd) (p:Nat) (a b c d:Int) (e:Bool):(DH l).set p (.agg [.int .i64 a,.int .i64 b,.int .i64 c,.int .i64 d,.bool e])=DH (l.set p ⟨a,b,c,d,e⟩):=by simp[DH,O3,TF]
def AY.op (l:AY):AY:={ l with disk:={ l.disk with zn:=l.disk.zn && l.disk.zones.isEmpty },sn:=false }
def IR:PC :=
 .seq (.reg [] (AE 1 .box 0::AK 2 .mov [.k (.d (.nilptr))]::Ax 3 0::[]) [1]) (.seq (.seq (.reg [] (AE 8 (.load true 12) 1::AE 9 (.call 97) 8::AA 4 9::[]) [1,4]) (.seq (.reg [] (AA 10 4::Ay 11 (.bin .neq) 10 0::[]) [1,4,11]) (.cond (.t 11) (.seq (.reg [] (AA 12 4::AK 2 .mov [.k (.d (.nilptr))]::AA 3 12::[]) [2,3]) (.ret)) (.skip)))) (.seq (.reg [] (AE 13 (.load true 12) 1::AE 14 (.build [.int .i64 0,.int .i64 0,.list true [],.int .i64 0,.int .i64 0,.int .i64 0,.int .i64 0,.int .i64 0,.int .i64 0,.int .i64 0,.int .i64 0,.list true []] [(0,12)]) 13::AE 15 .box 14::AA 5 15::[]) [1,5]) (.seq (.reg [] (AA 16 5::AM 17 11 1::Ae 18 1 17::AE 19 (.call 54) 18::AE 20 .nilck 16::AM 21 0 20::AM 22 11 21::BX (.store 1) [.t 22,.t 19]::[]) [1,5]) (.seq (.reg [] (AA 23 5::AM 24 0 1::AM 25 2 24::Ae 26 1 25::AE 27 (.call 98) 26::AE 28 .nilck 23::AM 29 0 28::AM 30 0 29::AM 31 2 30::BX (.store 1) [.t 31,.t 27]::[]) [5]) (.seq (.seq (.reg [] (AA 33 5::AE 34 (.call 53) 33::AA 32 34::Bx 35 0 32::Bx 36 1 32::AA 6 35::AA 7 36::[]) [5,7]) (.seq (.reg [] (AA 37 7::AE 38 (.un .not) 37::[]) [5,38]) (.cond (.t 38) (.seq (.reg [] (AK 2 .mov [.k (.d (.nilptr))]::Ax 3 161::[]) [2,3]) (.ret)) (.skip)))) (.seq (.reg [] (AA 39 5::AA 2 39::Ax 3 0::[]) [2,3]) (.ret)))))))
theorem MQ:D7 E0 Fe IR [.t 2,.t 3] 40:=Ab (fl:=[]) (by kernel_rfl)
theorem QY {l:AY}(g:l.Good):l.op.Good:=by
 have g':=Qv g
 exact⟨g'.d,g'.b1,g'.b2,g'.m1,g'.m2,g'.f1,g'.f2,g'.s⟩
attribute [local congr] DP B9 B_ Bj DR Bn Bp Bo Bi BW BQ BF Bl BR BU Bm BV CC Cg BT CE CF CD CA CB B8 DQ B' Bk BS
attribute [local irreducible] IntKind.wrap CG Option.getD and or
theorem KJ (l:AY) (g:l.Good) (x:Eb) (h:GL l.blocks l.slots x=0):Ea E0 Ek (JP l) [.ptr 900000 0 0,.d (bm x)] (JP (l.setS (Eo l.slots x))) (.d (.int .i64 0)):=by
 obtain⟨h1,h2,h3,h4,h5⟩:=II h
 obtain⟨n1,n2,n3⟩:=Bs g
 have m1:=g.m1;have m2:=g.m2;have b1:=g.b1;have b2:=g.b2
 have c1:=Fq l
 have c2:=Ct x.blk (l.blocks-1)
 have c3:=Ct x.val 999
 have c4:=Rv l g
 have cs:=fun n hn=>Rn l n (by omega) hn
 rw[CR.2 h1] at c2
 rw[CR.2 h2] at c3
 rw[DU] at n1 n2 n3 c1 c4
 have hP:M8 l.slots=(((D0 l.slots).num+1).tmod l.slots.length).toNat:=rfl
 have t1:=Dt (n:=(D0 l.slots).num+1) (m:=l.slots.length) (by omega) (by omega)
 have hR':LG l.slots x=⟨(D0 l.slots).num+1,x.blk,x.val,x.tail,false⟩:=rfl
 unfold Eo
 rw[hR']
 obtain⟨⟨na,nb,nc,nd,ne⟩,hR⟩:∃R,D0 l.slots=R:=⟨_,rfl⟩
 rw[hR] at c1 c4 n2 n3 h3 h4 h5 hP t1 ⊢
 simp only at c4 n2 n3 h3 h4 h5 hP t1 ⊢
 have c5:=cs (na+1) (by omega)
 rw[←hP] at c5 t1
 have hPl:=t1.1
 obtain⟨P,hPP⟩:∃P,M8 l.slots=P:=⟨_,rfl⟩
 rw[hPP] at c5 hPl ⊢
 rw[A9,A8,TP] at c1
 rw[TP] at c4
 unfold JP AY.setS at *
 refine A6 Fd A' (by simp) (by simp[EG,AQ,BH,AI.isHist]) (by simp[A3]) fun hwf hwo=>?_
 have w1:IntKind.i64.wrap (na+1)=na+1:=BN _ (by omega)
 have w2:IntKind.i64.wrap (l.blocks-1)=l.blocks-1:=BN _ (by omega)
 have e1:¬x.tail<nd:=by omega
 have e2:¬na+1<x.tail:=by omega
 have e3:¬nd+(l.slots.length:Int)<=na+1:=by omega
 have e4:¬999<na+1:=by omega
 rw[BI];unfold ER
 (try (simp -implicitDefEqProofs only[go_sem,Cm,Cn,w1,w2,e1,e2,e3,e4,AJ,DE,Aq,An,A9,A8,hPl]));repeat' first|(with_reducible first|exact tI|refine aI ?_ ?_|intro _)|((first|with_reducible refine Ad ?_ ?_<;>intro _|(with_reducible refine isCall ?_);first|refine D5 (c1) rfl (by simp[D.flat,D.flat1,D.prim]) ?_|refine AH c2 ?_|refine AH c3 ?_|refine AH c4 ?_|(refine Ak ([((900000,0),(900000,0)),((901000,0),(901000,0))]) ([((900000,0),(900000,0)),((901000,0),(901000,0))]) (c5) (by repeat' first|exact True.intro|exact rfl|refine And.intro ?_ ?_) (by simp[Handed,Ar.get,AI.ren,AV.ren,AV.ren.renL,AB.get,Af,Al,Ai,AB.reach,AV.sites,AV.sites.sitesL,AB.osites]) (by simp[AO,A3,AQ,Ar.get,Ai,BH,BJ,Aj,AX]) (by rfl) (by simp only[Au,Ar.get,AI.ren,AV.ren,AV.ren.renL,and_self,and_true,true_and,if_true,reduceIte];rfl) ?_))<;>try (simp -implicitDefEqProofs only[go_sem,Cm,Cn,w1,w2,e1,e2,e3,e4,AJ,DE,Aq,An,A9,A8,hPl]))|simp (disch:=omega) only[A7]
 all_goals first|omega|rfl|exact .inl True.intro|trace_state
theorem KK (l:AY) (g:l.Good) (x:Eb) (h:GL l.blocks l.slots x≠0):Ea E0 Ek (JP l) [.ptr 900000 0 0,.d (bm x)] (JP l) (.d (.int .i64 (GL l.blocks l.slots x))):=by
 obtain⟨n1,n2,n3⟩:=Bs g
 have m1:=g.m1;have m2:=g.m2;have b1:=g.b1;have b2:=g.b2
 have c1:=Fq l
 have c2:=Ct x.blk (l.blocks-1)
 have c3:=Ct x.val 999
 have c4:=Rv l g
 rw[DU] at n1 n2 n3 c1 c4
 unfold GL SN at *
 obtain⟨⟨na,nb,nc,nd,ne⟩,hR⟩:∃R,D0 l.slots=R:=⟨_,rfl⟩
 rw[hR] at c1 c4 n2 n3 h ⊢
 simp only at c4 n2 n3 h ⊢
 rw[A9,A8,TP] at c1
 rw[TP] at c4
 unfold JP at *
 refine A6 Fd A' (by simp) (by simp[EG,AQ,BH,AI.isHist]) (by simp[A3]) fun hwf hwo=>?_
 have w1:IntKind.i64.wrap (na+1)=na+1:=BN _ (by omega)
 have w2:IntKind.i64.wrap (l.blocks-1)=l.blocks-1:=BN _ (by omega)
 rw[BI];unfold ER
 cases hb:EO x.blk 0 (l.blocks-1) with
 |false =>
  rw[hb] at c2
  simp only[Bool.false_and,Bool.false_eq_true,if_false]
  (try (simp -implicitDefEqProofs only[go_sem,Cm,Cn,w1,w2]));repeat' first|(with_reducible first|exact tI|refine aI ?_ ?_|intro _)|((first|with_reducible refine Ad ?_ ?_<;>intro _|(with_reducible refine isCall ?_);first|refine D5 (c1) rfl (by simp[D.flat,D.flat1,D.prim]) ?_|refine AH c2 ?_)<;>try (simp -implicitDefEqProofs only[go_sem,Cm,Cn,w1,w2]))|simp (disch:=omega) only[A7]
  all_goals first|omega|rfl|exact .inl True.intro|trace_state
 |true =>
  rw[hb] at c2 h
  cases hv:EO x.val 0 999 with
  |false =>
   rw[hv] at c3
   simp only[Bool.false_and,Bool.and_false,Bool.true_and,Bool.false_eq_true,if_false]
   (try (simp -implicitDefEqProofs only[go_sem,Cm,Cn,w1,w2]));repeat' first|(with_reducible first|exact tI|refine aI ?_ ?_|intro _)|((first|with_reducible refine Ad ?_ ?_<;>intro _|(with_reducible refine isCall ?_);first|refine D5 (c1) rfl (by simp[D.flat,D.flat1,D.prim]) ?_|refine AH c2 ?_|refine AH c3 ?_)<;>try (simp -implicitDefEqProofs only[go_sem,Cm,Cn,w1,w2]))|simp (disch:=omega) only[A7]
   all_goals first|omega|rfl|exact .inl True.intro|trace_state
  |true =>
   rw[hv] at c3 h
   simp only[Bool.true_and] at h ⊢
   by_cases ht:nd<=x.tail/\x.tail<=na+1
   ·rw[CR.2 ht] at h ⊢
    simp only[if_true] at h ⊢
    have e1:¬x.tail<nd:=by omega
    have e2:¬na+1<x.tail:=by omega
    by_cases hf:nd+(l.slots.length:Int)<=na+1
    ·rw[if_pos hf]
     (try (simp -implicitDefEqProofs only[go_sem,Cm,Cn,w1,w2,e1,e2,hf]));repeat' first|(with_reducible first|exact tI|refine aI ?_ ?_|intro _)|((first|with_reducible refine Ad ?_ ?_<;>intro _|(with_reducible refine isCall ?_);first|refine D5 (c1) rfl (by simp[D.flat,D.flat1,D.prim]) ?_|refine AH c2 ?_|refine AH c3 ?_|refine AH c4 ?_)<;>try (simp -implicitDefEqProofs only[go_sem,Cm,Cn,w1,w2,e1,e2,hf]))|simp (disch:=omega) only[A7]
     all_goals first|omega|rfl|exact .inl True.intro|trace_state
    ·rw[if_neg hf] at h ⊢
     by_cases hm:999<na+1
     ·rw[if_pos hm]
      (try (simp -implicitDefEqProofs only[go_sem,Cm,Cn,w1,w2,e1,e2,hf,hm]));repeat' first|(with_reducible first|exact tI|refine aI ?_ ?_|intro _)|((first|with_reducible refine Ad ?_ ?_<;>intro _|(with_reducible refine isCall ?_);first|refine D5 (c1) rfl (by simp[D.flat,D.flat1,D.prim]) ?_|refine AH c2 ?_|refine AH c3 ?_|refine AH c4 ?_)<;>try (simp -implicitDefEqProofs only[go_sem,Cm,Cn,w1,w2,e1,e2,hf,hm]))|simp (disch:=omega) only[A7]
      all_goals first|omega|rfl|exact .inl True.intro|trace_state
     ·rw[if_neg hm] at h;exact absurd rfl h
   ·have hz:EO x.tail nd (na+1)=false:=by
     cases hq:EO x.tail nd (na+1) with
     |false=>rfl
     |true=>exact absurd (CR.1 hq) ht
    rw[hz]
    simp only[Bool.false_eq_true,if_false]
    by_cases e1:x.tail<nd
    ·(try (simp -implicitDefEqProofs only[go_sem,Cm,Cn,w1,w2,e1]));repeat' first|(with_reducible first|exact tI|refine aI ?_ ?_|intro _)|((first|with_reducible refine Ad ?_ ?_<;>intro _|(with_reducible refine isCall ?_);first|refine D5 (c1) rfl (by simp[D.flat,D.flat1,D.prim]) ?_|refine AH c2 ?_|refine AH c3 ?_|refine AH c4 ?_)<;>try (simp -implicitDefEqProofs only[go_sem,Cm,Cn,w1,w2,e1]))|simp (disch:=omega) only[A7]
     all_goals first|omega|rfl|exact .inl True.intro|trace_state
    ·have e2:na+1<x.tail:=by omega
     (try (simp -implicitDefEqProofs only[go_sem,Cm,Cn,w1,w2,e1,e2]));repeat' first|(with_reducible first|exact tI|refine aI ?_ ?_|intro _)|((first|with_reducible refine Ad ?_ ?_<;>intro _|(with_reducible refine isCall ?_);first|refine D5 (c1) rfl (by simp[D.flat,D.flat1,D.prim]) ?_|refine AH c2 ?_|refine AH c3 ?_|refine AH c4 ?_)<;>try (simp -implicitDefEqProofs only[go_sem,Cm,Cn,w1,w2,e1,e2]))|simp (disch:=omega) only[A7]
     all_goals first|omega|rfl|exact .inl True.intro|trace_state
theorem XC (l:AY) (h:l.openE=0) (hs:l.sn=true->l.slots=[]) (hz:l.disk.zn=true->l.disk.zones=[]):Ea E0 Fe [] [.d (J2 l)]
  [(15,1,.cells [.d (.int .i64 l.op.disk.heads),.d (.int .i64 l.op.disk.turn),.d (.list l.op.disk.zn (L6 l.op.disk.zones)),.d (.int .i64 l.op.disk.hskew),.d (.int .i64 l.op.disk.cskew),.d (.int .i64 l.op.disk.hlo),.d (.int .i64 l.op.disk.hhi),.d (.int .i64 l.op.disk.clo),.d (.int .i64 l.op.disk.chi),.d (.int .i64 l.op.blocks),.d (.int .i64 l.op.from'),.own 19 1]),(19,1,.row 43 5 false (DH l.slots))] (.tup [.ptr 15 1 0,.d (.int .i64 0)]):=by
 obtain⟨hc,hf⟩:=QX h
 have g:=FM hc
 have c1:=HH l
 rw[hc] at c1
 have m1:=g.m1;have m2:=g.m2
 have z2:=(GW g.d).z2
 have c2:=PJ l.sn l.slots hs (by omega) (by omega)
 have c3:=Jn l.disk.zn l.disk.zones (by omega) hz
 have c4:=XD l.op (QY g) (show l.op.full=true from (G6 (l:=l) (k:=l.op) fun _ _=>rfl).trans hf)
 unfold JP at c4
 generalize l.op.kept=kk at c4
 dsimp only[AY.op] at c4
 refine A6 MQ A' (by simp) (by simp[EG,AQ,BH,AI.isHist]) (by simp[A3]) fun hwf hwo=>?_
 rw[BI];unfold IR
 (try (simp -implicitDefEqProofs only[go_sem,Am,Aa,AY.op]));repeat' first|(with_reducible first|exact tI|refine aI ?_ ?_|intro _)|((first|with_reducible refine Ad ?_ ?_<;>intro _|(with_reducible refine isCall ?_);first|refine AH c1 ?_|(refine Ak ([]) ([((7,1),(19,1))]) (c2) (by repeat' first|exact True.intro|exact rfl|refine And.intro ?_ ?_) (by simp[Handed,Ar.get,AI.ren,AV.ren,AV.ren.renL,AB.get,Af,Al,Ai,AB.reach,AV.sites,AV.sites.sitesL,AB.osites]) (by simp[AO,A3,AQ,Ar.get,Ai,BH,BJ,Aj,AX]) (by rfl) (by simp only[Au,Ar.get,AI.ren,AV.ren,AV.ren.renL,and_self,and_true,true_and,if_true,reduceIte];rfl) ?_)|refine AH c3 ?_|(refine Ak ([((900000,0),(15,1)),((901000,0),(19,1))]) ([((900000,0),(15,1)),((901000,0),(19,1))]) (c4) (by repeat' first|exact True.intro|exact rfl|refine And.intro ?_ ?_) (by simp[Handed,Ar.get,AI.ren,AV.ren,AV.ren.renL,AB.get,Af,Al,Ai,AB.reach,AV.sites,AV.sites.sitesL,AB.osites]) (by simp[AO,A3,AQ,Ar.get,Ai,BH,BJ,Aj,AX]) (by rfl) (by simp only[Au,Ar.get,AI.ren,AV.ren,AV.ren.renL,and_self,and_true,true_and,if_true,reduceIte];rfl) ?_))<;>try (simp -implicitDefEqProofs only[go_sem,Am,Aa,AY.op]))|simp (disch:=omega) only[A7]
 all_goals trace_state
end Go.Pw
end
