/- A part of the proof. -/
import Derived.Test.YtpcpcjbbdgmohaaDoorPgLgJournalA
set_option linter.all false
section
open Go Go.Pw Go.Proofs
namespace Go.Pw
set_option maxRecDepth 100000
set_option maxHeartbeats 3200000
def QS (rs:List Bd) (home:List Int):Nat->List Int
 |0=>home
 |i+1=>(QS rs home i).set (rs[i]?.getD default).blk.toNat (rs[i]?.getD default).val
theorem Nx (rs:List Bd) (home:List Int):∀i,(QS rs home i).length=home.length
 |0=>rfl
 |i+1=>by rw[QS,List.length_set,Nx rs home i]
def Kk (l:AY) (home:List Int):Bool:=decide ((home.length:Int)=l.blocks) && home.all fun n=>EO n 0 999
def AY.repL (l:AY) (home:List Int):List Int:=QS l.kept home l.kept.length
def AY.replayE (l:AY) (home:List Int):Int:=if l.openE≠0 then l.openE else if Kk l home then 0 else 1
theorem X' {α:Type}(xs:List α) (p:α->Bool):xs.any (fun x=>!p x)=!xs.all p:=by
 induction xs with
 |nil=>rfl
 |cons x xs ih=>simp only[List.any_cons,List.all_cons,ih,Bool.not_and]
theorem VZ {l:AY}(g:l.Good) (hf:l.full=true) {i:Nat}(hi:i<l.many):∃r,l.kept[i]?.getD default=r/\r.bad=false/\r.num=l.newest.tail+i/\(0<=r.blk/\r.blk<=l.blocks-1)/\(0<=r.val/\r.val<=999):=by
 obtain⟨n1,n2,n3⟩:=Bs g
 have m1:=g.m1
 have hk:l.kept[i]?.getD default=l.at' (l.newest.tail+(i:Int)):=by
  unfold AY.kept AY.keptN
  rw[List.getElem?_map,List.getElem?_eq_getElem (by simpa using hi)];simp
 refine⟨_,hk,?_⟩
 have hq:(!(l.at' (l.newest.tail+i)).bad && decide ((l.at' (l.newest.tail+i)).num=l.newest.tail+i))=true:=by
  cases hq:(!(l.at' (l.newest.tail+i)).bad && decide ((l.at' (l.newest.tail+i)).num=l.newest.tail+i)) with
  |true=>rfl
  |false=>unfold AY.full at hf;rw[Jq hi hq] at hf;cases hf
 simp only[Bool.and_eq_true,decide_eq_true_eq,Bool.not_eq_true'] at hq
 have t1:=Int.tmod_nonneg (l.slots.length:Int) (show 0<=l.newest.tail+i by omega)
 have t2:=Int.tmod_lt_of_pos (l.newest.tail+i) (b:=(l.slots.length:Int)) (by omega)
 unfold AY.at' at hq ⊢
 have:=g.s ((l.newest.tail+(i:Int)).tmod l.slots.length).toNat (by omega) hq.1 (by omega)
 exact⟨hq.1,hq.2,this.2.2.1,this.2.2.2.1⟩
theorem XR (l:AY):l.kept.length=l.many:=by unfold AY.kept;exact MJ _ _ _
theorem TS {l:AY}(g:l.Good):l.many<=1001:=by
 obtain⟨n1,n2,n3⟩:=Bs g
 unfold AY.many;omega
attribute [local congr] DP B9 B_ Bj DR Bn Bp Bo Bi BW BQ BF Bl BR BU Bm BV CC Cg BT CE CF CD CA CB B8 DQ B' Bk BS
attribute [local irreducible] IntKind.wrap CG Option.getD and or
theorem NK (nl:Bool) (xs:List Int) (f:FuncId) (cs:List D) (p:Int->Bool) (hb:Cl E0.P f=true) (hcs:BD AV.toD1 (cs.map .d)=some cs) (h:∀x,x∈xs->D6 E0 f (.int .i64 x::cs) (.bool (p x))) :
  D6 E0 Ei [.list nl (C6 xs),.fn f cs] (.int .i64 (match xs.findIdx? p with|some i=>i|none=>-1)):=by
 refine Ap GJ A' (by simp) fun hwf=>?_
 simp only[Fm,FB,FA,El,GD,GC,IK,GB,Cy,DF,DG,FD,Di,List.length_map,Dn,true_and,and_true] at hwf
 rw[Av];unfold EY
 simp -implicitDefEqProofs only[go_sem]
 refine BZ (α:=Int) (l0:=?l1) (m0:=?m1) (fun x=>[(8,.d (.int .i64 x))]) (fun x=>[]) (fun x=>0<=x/\x<=xs.length/\∀(j:Nat) (hj:j<xs.length),(j:Int)<x->p xs[j]=false) (fun x=>(xs.length-x).toNat) ?a1_0 ?h01 ?he1 ?he21 ?hI1 ?step1
 case h01=>(simp -implicitDefEqProofs only[go_sem];rfl)
 case he1=>rfl
 case he21=>rfl
 case' step1=>(rintro i hI;try dsimp only at hI)
 case' hI1=>try dsimp only
 ·simp
  omega
 ·(try (simp -implicitDefEqProofs only[go_sem]));repeat' first|(with_reducible first|exact tI|refine aI ?_ ?_|intro _)|((first|with_reducible refine Ad ?_ ?_<;>intro _)<;>try (simp -implicitDefEqProofs only[go_sem]))|simp (disch:=omega) only[A7]|((with_reducible refine BL ?_);refine⟨_,rfl,?_,?_⟩)
  all_goals first|omega|(simp<;>omega)|skip
  ·have hx:xs[i.toNat]?.getD 0=xs[i.toNat]'(by omega):=by rw[List.getElem?_eq_getElem (by omega),Option.getD_some]
   rw[hx]
   refine T7 (h _ (List.getElem_mem _)) (Jd rfl hcs) (fun hp=>?_) (fun hp=>?_)
   ·simp -implicitDefEqProofs only[go_sem]
    have:xs.findIdx? p=some i.toNat:=by rw[List.findIdx?_eq_some_iff_getElem];exact⟨by omega,hp,fun j hj=>by simp[hI.2.2 j (by omega) (by omega)]⟩
    rw[this];simp;omega
   ·(try (simp -implicitDefEqProofs only[go_sem]));repeat' first|(with_reducible first|exact tI|refine aI ?_ ?_|intro _)|((first|with_reducible refine Ad ?_ ?_<;>intro _)<;>try (simp -implicitDefEqProofs only[go_sem]))|simp (disch:=omega) only[A7]|((with_reducible refine BL ?_);refine⟨_,rfl,?_,?_⟩)
    all_goals first|omega|(simp<;>omega)|skip
    rename_i j hj hlt
    by_cases hjk:j=i.toNat
    ·subst hjk;exact hp
    ·exact hI.2.2 j hj (by omega)
  ·have:xs.findIdx? p=none:=by
    rw[List.findIdx?_eq_none_iff];intro x hx;obtain⟨j,hj,rfl⟩:=List.getElem_of_mem hx;exact hI.2.2 j hj (by omega)
   rw[this]
theorem Kw (nl:Bool) (xs:List Int) (f:FuncId) (cs:List D) (p:Int->Bool) (hb:Cl E0.P f=true) (hcs:BD AV.toD1 (cs.map .d)=some cs) (h:∀x,x∈xs->D6 E0 f (.int .i64 x::cs) (.bool (p x))) :
  D6 E0 D_ [.list nl (C6 xs),.fn f cs] (.bool (xs.any p)):=by
 refine Ap Fg A' (by simp) fun hwf=>?_
 rw[Av];unfold Dx
 simp -implicitDefEqProofs only[go_sem]
 refine Qx (NK nl xs f cs p hb hcs h) rfl ?_
 simp -implicitDefEqProofs only[go_sem]
 have key:(0:Int)<=(match xs.findIdx? p with|some i=>(i:Int)|none=>-1)↔xs.any p=true:=by
  cases hf:xs.findIdx? p with
  |none=>rw[List.findIdx?_eq_none_iff] at hf;simp;intro x hx;simp[hf x hx]
  |some i=>rw[List.findIdx?_eq_some_iff_getElem] at hf;simp;exact⟨_,List.getElem_mem hf.1,hf.2.1⟩
 grind
theorem JR (n:Int):D6 E0 EE [.int .i64 n] (.bool (!EO n 0 999)):=by
 refine Ap JX A' (by simp) fun hwf=>?_
 have c1:=Ct n 999
 rw[Av];unfold GP
 cases h:EO n 0 999 with
 |true=>rw[h] at c1;(try (simp -implicitDefEqProofs only[go_sem]));repeat' first|(with_reducible first|exact tI|refine aI ?_ ?_|intro _)|((first|with_reducible refine Ad ?_ ?_<;>intro _|(with_reducible refine isCall ?_);first|refine AH c1 ?_)<;>try (simp -implicitDefEqProofs only[go_sem]))|simp (disch:=omega) only[A7]
 |false=>rw[h] at c1;(try (simp -implicitDefEqProofs only[go_sem]));repeat' first|(with_reducible first|exact tI|refine aI ?_ ?_|intro _)|((first|with_reducible refine Ad ?_ ?_<;>intro _|(with_reducible refine isCall ?_);first|refine AH c1 ?_)<;>try (simp -implicitDefEqProofs only[go_sem]))|simp (disch:=omega) only[A7]
theorem PL (xs:List Int) (hl:xs.length<=1000) (hne:0<xs.length):Ea E0 ED [] [.d (.list false (C6 xs))] [(7,1,.row 3 1 false (C6 xs))] (.own 7 1):=by
 refine A6 E9 A' (by simp) (by simp[EG,AQ,BH]) (by simp[A3]) fun hwf hwo=>?_
 rw[BI];unfold Dy
 have hn:¬xs=[]:=by intro h;rw[h] at hne;simp at hne
 (try (simp -implicitDefEqProofs only[go_sem,hn]));repeat' first|(with_reducible first|exact tI|refine aI ?_ ?_|intro _)|((first|with_reducible refine Ad ?_ ?_<;>intro _)<;>try (simp -implicitDefEqProofs only[go_sem,hn]))|simp (disch:=omega) only[A7]
 all_goals first|omega|rfl
theorem QR {l:AY}{home:List Int}(h:l.openE≠0):l.replayE home=l.openE:=by unfold AY.replayE;rw[if_pos h]
theorem H3 {l:AY}{home:List Int}(h:l.openE=0):l.replayE home=if Kk l home then 0 else 1:=by unfold AY.replayE;rw[if_neg (by simpa using h)]
theorem FJ (l:AY) (hs:l.sn=true->l.slots=[]) (hz:l.disk.zn=true->l.disk.zones=[]) (nl:Bool) (home:List Int) (hh:nl=true->home=[]) :
  D6 E0 Hu [J2 l,.list nl (C6 home)] (.tup [if l.replayE home=0 then .list false (C6 (l.repL home)) else .list true [],.int .i64 (l.replayE home)]):=by
 refine Ap Kq A' (by simp) fun hwf=>?_
 have c1:=Hi l hs hz
 have hb42:Cl E0.P EE=true:=by kernel_rfl
 unfold UU at c1
 by_cases he:l.openE=0
 ·obtain⟨h1,h2⟩:=QX he
  have g:=FM h1
  have b1:=g.b1;have b2:=g.b2
  rw[if_pos he,he] at c1
  have c2:=Kw nl home EE [] (fun n=>!EO n 0 999) hb42 rfl fun x _=>JR x
  rw[X'] at c2
  rw[H3 he]
  unfold Kk
  by_cases hlen:(home.length:Int)=l.blocks
  ·rw[decide_eq_true hlen]
   cases ha:home.all fun n=>EO n 0 999 with
   |false =>
    rw[ha] at c2
    simp only[Bool.and_false,Bool.false_eq_true,if_false]
    rw[if_neg (by omega),Av];unfold Dm
    (try (simp -implicitDefEqProofs only[go_sem,Am,Aa,AY.cp,hlen,hb42]));repeat' first|(with_reducible first|exact tI|refine aI ?_ ?_|intro _)|((first|with_reducible refine Ad ?_ ?_<;>intro _|(with_reducible refine isCall ?_);first|refine AH c1 ?_|refine AH c2 ?_)<;>try (simp -implicitDefEqProofs only[go_sem,Am,Aa,AY.cp,hlen,hb42]))|simp (disch:=omega) only[A7]|((with_reducible refine LW ?_);refine⟨(_,_),rfl,?_,?_⟩)
    all_goals first|omega|rfl|(simp;done)
   |true =>
    rw[ha] at c2
    simp only[Bool.and_true,if_true]
    have hnl:nl=false:=by
     cases nl with
     |false=>rfl
     |true=>have:=hh rfl;rw[this] at hlen;simp at hlen;omega
    subst hnl
    have c3:=PL home (by omega) (by omega)
    have c4:=Hj l.cp (Qv g)
    rw[Qw,SU,h2,Ta h2] at c4
    have hkl:=XR l
    have hmb:=TS g
    have hkg:=fun i hi=>VZ g h2 (i:=i) hi
    unfold AY.repL
    generalize l.kept=ks at *
    rw[Av];unfold Dm
    (try (simp -implicitDefEqProofs only[go_sem,Am,Aa,AY.cp,eq_true hlen,hb42]));repeat' first|(with_reducible first|exact tI|refine aI ?_ ?_|intro _)|((first|with_reducible refine Ad ?_ ?_<;>intro _|(with_reducible refine isCall ?_);first|refine AH c1 ?_|refine AH c2 ?_|(refine Ak ([]) ([((7,1),(34,0))]) (c3) (by repeat' first|exact True.intro|exact rfl|refine And.intro ?_ ?_) (by simp[Handed,Ar.get,AI.ren,AV.ren,AV.ren.renL,AB.get,Af,Al,Ai,AB.reach,AV.sites,AV.sites.sitesL,AB.osites]) (by simp[AO,A3,AQ,Ar.get,Ai,BH,BJ,Aj,AX]) (by rfl) (by simp only[Au,Ar.get,AI.ren,AV.ren,AV.ren.renL,and_self,and_true,true_and,if_true,reduceIte];rfl) ?_)|refine AH c4 ?_)<;>try (simp -implicitDefEqProofs only[go_sem,Am,Aa,AY.cp,eq_true hlen,hb42]))|simp (disch:=omega) only[A7]|((with_reducible refine LW ?_);refine⟨(_,_),rfl,?_,?_⟩)
    all_goals (try omega)
    refine BZ (α:=Int×(List Int)) (l0:=?l2) (m0:=?m2) (fun x=>[(42,.d (.int .i64 x.1))]) (fun x=>[(34,.row 3 1 false (C6 x.2))]) (fun x=>(0<=x.1/\x.1<=ks.length)/\x.2=QS ks home x.1.toNat) (fun x=>(ks.length-x.1).toNat) (?a2_0,?a2_1) ?h02 ?he2 ?he22 ?hI2 ?step2
    case h02=>(simp -implicitDefEqProofs only[go_sem,AJ];rfl)
    case he2=>rfl
    case he22=>rfl
    case' step2=>(rintro⟨i,cur⟩ hI;try dsimp only at hI)
    case' hI2=>try dsimp only
    ·exact⟨⟨by omega,by omega⟩,rfl⟩
    ·obtain⟨⟨q1,q2⟩,q3⟩:=hI
     have hcl:=Nx ks home i.toNat
     rw[←q3] at hcl
     by_cases hi:i<ks.length
     ·obtain⟨r,hr,r1,r2,r3,r4⟩:=hkg i.toNat (by omega)
      have w1:IntKind.i64.wrap (i+1)=i+1:=BN _ (by omega)
      have hnx:QS ks home (i+1).toNat=cur.set r.blk.toNat r.val:=by rw[show (i+1).toNat=i.toNat+1 by omega,QS,←q3,hr]
      have hb1:r.blk<cur.length:=by omega
      have hb0:=r3.1
      (try (simp -implicitDefEqProofs only[go_sem,AJ,Aq,hr,A9,A8,An,w1,hi,q1,hb1,hb0]));repeat' first|(with_reducible first|exact tI|refine aI ?_ ?_|intro _)|((first|with_reducible refine Ad ?_ ?_<;>intro _)<;>try (simp -implicitDefEqProofs only[go_sem,AJ,Aq,hr,A9,A8,An,w1,hi,q1,hb1,hb0]))|simp (disch:=omega) only[A7]|((with_reducible refine LW ?_);refine⟨(_,_),rfl,?_,?_⟩)
      all_goals first|omega|exact hnx.symm|exact .inl True.intro
     ·have hie:i.toNat=ks.length:=by omega
      rw[hie] at q3
      rw[←q3]
      (try (simp -implicitDefEqProofs only[go_sem,AJ,hi]));repeat' first|(with_reducible first|exact tI|refine aI ?_ ?_|intro _)|((first|with_reducible refine Ad ?_ ?_<;>intro _)<;>try (simp -implicitDefEqProofs only[go_sem,AJ,hi]))|simp (disch:=omega) only[A7]|((with_reducible refine LW ?_);refine⟨(_,_),rfl,?_,?_⟩)
      all_goals first|omega|rfl|(simp;done)
  ·rw[decide_eq_false hlen,Bool.false_and]
   simp only[Bool.false_eq_true,if_false]
   rw[if_neg (by omega),Av];unfold Dm
   (try (simp -implicitDefEqProofs only[go_sem,Am,Aa,AY.cp,hlen]));repeat' first|(with_reducible first|exact tI|refine aI ?_ ?_|intro _)|((first|with_reducible refine Ad ?_ ?_<;>intro _|(with_reducible refine isCall ?_);first|refine AH c1 ?_)<;>try (simp -implicitDefEqProofs only[go_sem,Am,Aa,AY.cp,hlen]))|simp (disch:=omega) only[A7]|((with_reducible refine LW ?_);refine⟨(_,_),rfl,?_,?_⟩)
   all_goals first|omega|rfl|(simp;done)
 ·rw[if_neg he] at c1
  rw[QR he,if_neg he,Av];unfold Dm
  (try (simp -implicitDefEqProofs only[go_sem,Am,Aa,he]));repeat' first|(with_reducible first|exact tI|refine aI ?_ ?_|intro _)|((first|with_reducible refine Ad ?_ ?_<;>intro _|(with_reducible refine isCall ?_);first|refine AH c1 ?_)<;>try (simp -implicitDefEqProofs only[go_sem,Am,Aa,he]))|simp (disch:=omega) only[A7]|((with_reducible refine LW ?_);refine⟨(_,_),rfl,?_,?_⟩)
  all_goals first|omega|rfl|(simp;done)
end Go.Pw
end
section
open Go Go.Pw Go.Proofs
namespace Go.Pw
set_option maxRecDepth 100000
set_option maxHeartbeats 3200000
def dl:AR:=⟨2,60,false,[(2,6),(1,5)],10,25,4,12,20,30⟩
def dG:AY:=⟨dl,3,24,false,[⟨4,0,7,3,false⟩,⟨5,1,8,3,false⟩,⟨2,0,5,1,false⟩,⟨3,2,6,2,false⟩]⟩
theorem ZU:dG.repL [1,1,1]=[7,8,6]:=by kernel_rfl
theorem Xt:dG.replayE [1,1,1]=0:=by kernel_rfl
def AR.far (d:AR):Bool:=decide (20<(d.zones.length:Int)) || (d.ok && (decide (200<d.size) || decide (120<d.turn)))
def AY.far (l:AY):Bool:=l.disk.far || decide (40<(l.slots.length:Int))
def AY.cpy (l:AY):AY:={ l with disk:=l.disk.cp,sn:=false }
attribute [local congr] DP B9 B_ Bj DR Bn Bp Bo Bi BW BQ BF Bl BR BU Bm BV CC Cg BT CE CF CD CA CB B8 DQ B' Bk BS
attribute [local irreducible] IntKind.wrap CG Option.getD and or
theorem Oq (a b:Int):D6 E0 L2 [.int .i64 a,.int .i64 b] (.agg [.int .i64 a,.int .i64 b]):=by
 refine Ap OU A' (by simp) fun hwf=>?_
 rw[Av];unfold KF
 (try (simp -implicitDefEqProofs only[go_sem]));repeat' first|(with_reducible first|exact tI|refine aI ?_ ?_|intro _)|((first|with_reducible refine Ad ?_ ?_<;>intro _)<;>try (simp -implicitDefEqProofs only[go_sem]))|simp (disch:=omega) only[A7]
theorem NL:D6 E0 Ir [] (HJ dl):=by
 refine Ap Lj A' (by simp) fun hwf=>?_
 have c1:=Oq 4 12
 have c2:=Oq 20 30
 rw[Av];unfold Hd
 (try (simp -implicitDefEqProofs only[go_sem]));repeat' first|(with_reducible first|exact tI|refine aI ?_ ?_|intro _)|((first|with_reducible refine Ad ?_ ?_<;>intro _|(with_reducible refine isCall ?_);first|refine AH c1 ?_|refine AH c2 ?_)<;>try (simp -implicitDefEqProofs only[go_sem]))|simp (disch:=omega) only[A7]
 all_goals rfl
theorem LT:D6 E0 Ip [] (J2 dG):=by
 refine Ap Lh A' (by simp) fun hwf=>?_
 have c1:=NL
 rw[Ao,AU] at c1
 rw[Av];unfold Hb
 (try (simp -implicitDefEqProofs only[go_sem]));repeat' first|(with_reducible first|exact tI|refine aI ?_ ?_|intro _)|((first|with_reducible refine Ad ?_ ?_<;>intro _|(with_reducible refine isCall ?_);first|refine AH c1 ?_)<;>try (simp -implicitDefEqProofs only[go_sem]))|simp (disch:=omega) only[A7]
 all_goals rfl
theorem Sj (d:AR):D6 E0 M0 [HJ d] (.bool d.far):=by
 refine Ap PD A' (by simp) fun hwf=>?_
 have c1:=IQ d
 rw[Av];unfold LK AR.far
 unfold AR.check at c1
 by_cases hz:20<(d.zones.length:Int)
 ·rw[decide_eq_true hz]
  (try (simp -implicitDefEqProofs only[go_sem,Ao,AU,A1,hz]));repeat' first|(with_reducible first|exact tI|refine aI ?_ ?_|intro _)|((first|with_reducible refine Ad ?_ ?_<;>intro _|(with_reducible refine isCall ?_);first|refine AH c1 ?_)<;>try (simp -implicitDefEqProofs only[go_sem,Ao,AU,A1,hz]))|simp (disch:=omega) only[A7]
  all_goals first|rfl|simp
 ·rw[decide_eq_false hz]
  cases h:d.ok with
  |false =>
   rw[h] at c1
   (try (simp -implicitDefEqProofs only[go_sem,Ao,AU,A1,hz]));repeat' first|(with_reducible first|exact tI|refine aI ?_ ?_|intro _)|((first|with_reducible refine Ad ?_ ?_<;>intro _|(with_reducible refine isCall ?_);first|refine AH c1 ?_)<;>try (simp -implicitDefEqProofs only[go_sem,Ao,AU,A1,hz]))|simp (disch:=omega) only[A7]
   all_goals first|rfl|simp
  |true =>
   rw[h] at c1
   have c2:=GG d h
   by_cases h2:200<d.size
   ·rw[decide_eq_true h2]
    (try (simp -implicitDefEqProofs only[go_sem,Ao,AU,A1,hz,h2]));repeat' first|(with_reducible first|exact tI|refine aI ?_ ?_|intro _)|((first|with_reducible refine Ad ?_ ?_<;>intro _|(with_reducible refine isCall ?_);first|refine AH c1 ?_|refine AH c2 ?_)<;>try (simp -implicitDefEqProofs only[go_sem,Ao,AU,A1,hz,h2]))|simp (disch:=omega) only[A7]
    all_goals first|rfl|simp
   ·rw[decide_eq_false h2]
    by_cases h3:120<d.turn
    ·rw[decide_eq_true h3]
     (try (simp -implicitDefEqProofs only[go_sem,Ao,AU,A1,hz,h2,h3]));repeat' first|(with_reducible first|exact tI|refine aI ?_ ?_|intro _)|((first|with_reducible refine Ad ?_ ?_<;>intro _|(with_reducible refine isCall ?_);first|refine AH c1 ?_|refine AH c2 ?_)<;>try (simp -implicitDefEqProofs only[go_sem,Ao,AU,A1,hz,h2,h3]))|simp (disch:=omega) only[A7]
     all_goals first|rfl|simp
    ·rw[decide_eq_false h3]
     (try (simp -implicitDefEqProofs only[go_sem,Ao,AU,A1,hz,h2,h3]));repeat' first|(with_reducible first|exact tI|refine aI ?_ ?_|intro _)|((first|with_reducible refine Ad ?_ ?_<;>intro _|(with_reducible refine isCall ?_);first|refine AH c1 ?_|refine AH c2 ?_)<;>try (simp -implicitDefEqProofs only[go_sem,Ao,AU,A1,hz,h2,h3]))|simp (disch:=omega) only[A7]
     all_goals first|rfl|simp
theorem O5 (l:AY):D6 E0 My [J2 l] (.bool l.far):=by
 refine Ap PA A' (by simp) fun hwf=>?_
 have c1:=Sj l.disk
 rw[Ao,AU] at c1
 rw[Av];unfold LI AY.far
 cases hf:l.disk.far with
 |true =>
  rw[hf] at c1
  (try (simp -implicitDefEqProofs only[go_sem,Am,Aa,AJ]));repeat' first|(with_reducible first|exact tI|refine aI ?_ ?_|intro _)|((first|with_reducible refine Ad ?_ ?_<;>intro _|(with_reducible refine isCall ?_);first|refine AH c1 ?_)<;>try (simp -implicitDefEqProofs only[go_sem,Am,Aa,AJ]))|simp (disch:=omega) only[A7]
  all_goals first|rfl|(simp;done)
 |false =>
  rw[hf] at c1
  by_cases h40:40<(l.slots.length:Int)
  ·(try (simp -implicitDefEqProofs only[go_sem,Am,Aa,AJ,h40]));repeat' first|(with_reducible first|exact tI|refine aI ?_ ?_|intro _)|((first|with_reducible refine Ad ?_ ?_<;>intro _|(with_reducible refine isCall ?_);first|refine AH c1 ?_)<;>try (simp -implicitDefEqProofs only[go_sem,Am,Aa,AJ,h40]))|simp (disch:=omega) only[A7]
   all_goals first|rfl|(simp[h40];done)
  ·(try (simp -implicitDefEqProofs only[go_sem,Am,Aa,AJ,h40]));repeat' first|(with_reducible first|exact tI|refine aI ?_ ?_|intro _)|((first|with_reducible refine Ad ?_ ?_<;>intro _|(with_reducible refine isCall ?_);first|refine AH c1 ?_)<;>try (simp -implicitDefEqProofs only[go_sem,Am,Aa,AJ,h40]))|simp (disch:=omega) only[A7]
   all_goals first|rfl|(simp[h40];done)
end Go.Pw
end
section
open Go Go.Pw Go.Proofs
namespace Go.Pw
set_option maxRecDepth 100000
set_option maxHeartbeats 3200000
def JP (l:AY):List (Nat×Nat×AI) :=
 [(900000,0,.cells [.d (.int .i64 l.disk.heads),.d (.int .i64 l.disk.turn),.d (.list l.disk.zn (L6 l.disk.zones)),.d (.int .i64 l.disk.hskew),.d (.int .i64 l.disk.cskew),.d (.int .i64 l.disk.hlo),.d (.int .i64 l.disk.hhi),.d (.int .i64 l.disk.clo),.d (.int .i64 l.disk.chi),.d (.int .i64 l.blocks),.d (.int .i64 l.from'),.own 901000 0]),
  (901000,0,.row 43 5 false (DH l.slots))]
def Q6:PC :=
 .seq (.reg [] (AK 2 (.zero [.int .i64 0,.int .i64 0,.int .i64 0,.int .i64 0,.bool false]) []::[]) [0,2]) (.seq (.reg [] (AK 6 (.load true 5) [.k (.d (.ptr [.int .i64 (-1),.int .i64 0,.int .i64 0,.int .i64 0,.bool false]))]::AK 3 (.zero [.int .i64 0,.int .i64 0,.int .i64 0,.int .i64 0,.bool false]) []::BX (.store 5) [.t 3,.t 6]::[]) [0,2,3]) (.seq (.seq (.reg [] (AA 7 0::AE 8 .nilck 7::AM 9 0 8::AM 10 11 9::Ae 11 1 10::AE 12 (.len false) 11::Ax 13 0::[]) [2,3,11,12,13]) (.block 0 (.loop [] [2,3,11,12,13] [2,3,900000,901000] (.seq (.reg [] (AN 14 (.bin .lss) 13 12::[]) [2,3,11,12,13,14]) (.seq (.cond (.t 14) (.skip) (.exit 0)) (.seq (.block 1 (.seq (.reg [] (AN 15 (.iaddrS 5) 11 13::AE 16 (.load true 5) 15::AK 5 (.zero [.int .i64 0,.int .i64 0,.int .i64 0,.int .i64 0,.bool false]) []::BX (.store 5) [.t 5,.t 16]::[]) [2,3,5,11,12,13]) (.seq (.reg [] (AM 17 4 5::Ae 18 1 17::AE 19 (.un .not) 18::AA 20 19::AD 21 20 true (.faddr 0) [.t 5]::AD 22 20 true (.load false 1) [.t 21]::AD 23 20 true (.faddr 0) [.t 3]::AD 24 20 true (.load false 1) [.t 23]::AD 25 20 true (.bin .gtr) [.t 22,.t 24]::AK 26 .pick [.t 20,.t 25,.k (.d (.bool false))]::[]) [2,3,5,11,12,13,26]) (.cond (.t 26) (.reg [] (AE 27 (.load true 5) 5::BX (.store 5) [.t 3,.t 27]::[]) [2,3,11,12,13]) (.skip))))) (.reg [] (Ay 28 (.bin .add) 13 1::AA 13 28::[]) [2,3,11,12,13]))))))) (.seq (.reg [] (AE 29 (.load true 5) 3::BX (.store 5) [.t 2,.t 29]::[]) [2]) (.ret))))
attribute [local congr] DP B9 B_ Bj DR Bn Bp Bo Bi BW BQ BF Bl BR BU Bm BV CC Cg BT CE CF CD CA CB B8 DQ B' Bk BS
attribute [local irreducible] IntKind.wrap CG Option.getD and or
theorem Rn (l:AY) (n:Int) (hl:1<=l.slots.length) (h0:0<=n):Ea E0 FN (JP l) [.ptr 900000 0 0,.d (.int .i64 n)] (JP l) (.rptr 901000 0 5 (n.tmod l.slots.length).toNat 0):=by
 unfold JP at *
 refine A6 F9 A' (by simp) (by simp[EG,AQ,BH,AI.isHist]) (by simp[A3]) fun hwf hwo=>?_
 rw[BI];unfold Ex
 have e5:¬(l.slots.length:Int)=0:=by omega
 have h1:=Int.tmod_nonneg (l.slots.length:Int) h0
 have h2:=Int.tmod_lt_of_pos n (b:=(l.slots.length:Int)) (by omega)
 (try (simp -implicitDefEqProofs only[go_sem,AJ,An,e5,h1,h2]));repeat' first|(with_reducible first|exact tI|refine aI ?_ ?_|intro _)|((first|with_reducible refine Ad ?_ ?_<;>intro _)<;>try (simp -implicitDefEqProofs only[go_sem,AJ,An,e5,h1,h2]))|simp (disch:=omega) only[A7]
end Go.Pw
end
