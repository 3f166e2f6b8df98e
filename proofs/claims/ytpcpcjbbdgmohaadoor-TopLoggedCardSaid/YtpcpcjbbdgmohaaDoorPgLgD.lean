/- A part of the proof. -/
import Derived.Test.YtpcpcjbbdgmohaaDoorPgLgWl
set_option linter.all false
section
open Go Go.Pw Go.Proofs
namespace Go.Pw
set_option maxRecDepth 100000
set_option maxHeartbeats 3200000
theorem E6 {s:Bg}(h:s.Ok) {e b:Nat}(he:e<s.eps.length):(s.write e b).Ok:=by
 unfold Bg.write
 split
 ·exact h
 ·refine⟨by simp[h.ml],fun r hr=>?_⟩
  rcases List.mem_or_eq_of_mem_set hr with hr|rfl
  ·exact h.el r hr
  ·simpa using h.el _ (Cz he)
theorem TN {s:Bg}(h:s.Ok) {e:Nat}(he:e<s.eps.length):∀b,(s.wrB e b).Ok
 |0=>h
 |b+1=>E6 (TN h he b) (by rw[K0];exact he)
theorem Gl {s:Bg}(h:s.Ok):∀e,e<=s.eps.length->(s.wrE e).Ok
 |0,_=>h
 |e+1,he=>TN (Gl h e (by omega)) (by rw[Dc];omega) 6
theorem P3 {l:List (List Int)}(h:∀r,r∈l->r.length=6):C9 6 (Cq l)=True:=by
 simp only[eq_iff_iff,iff_true]
 intro y hy
 obtain⟨r,hr,rfl⟩:=List.mem_map.1 hy
 simp[O1,D.cells,C6,h r hr]
attribute [local congr] DP B9 B_ Bj DR Bn Bp Bo Bi BW BQ BF Bl BR BU Bm BV CC Cg BT CE CF CD CA CB B8 DQ B' Bk BS
attribute [local irreducible] IntKind.wrap CG Option.getD and or
theorem EB (s:Bg) (hs:s.Ok) (n:Nat) (hn:n<=s.eps.length) (hl:s.eps.length<=1000):Ea E0 Ff (J0 s 901000) [.ptr 900000 0 0,.d (.int .i64 (n:Int))] (J0 (s.wrE n) 901000) (.tup []):=by
 have cw:=fun(i j:Nat) (hi:i<s.eps.length) (hj:j<6)=>FQ ((s.wrE i).wrB i j) (TN (Gl hs i (by omega)) (by rw[Dc];exact hi) j) i j (by rw[K0,Dc];exact hi) hj
 unfold J0 Cp at *
 refine A6 HS A' (by simp) (by simp[EG,AQ,BH,AI.isHist]) (by simp[A3]) fun hwf hwo=>?_
 rw[BI];unfold FP
 (try (simp -implicitDefEqProofs only[go_sem]));repeat' first|(with_reducible first|exact tI|refine aI ?_ ?_|intro _)|((first|with_reducible refine Ad ?_ ?_<;>intro _)<;>try (simp -implicitDefEqProofs only[go_sem]))|simp (disch:=omega) only[A7]|((with_reducible refine BL ?_);refine⟨_,rfl,?_,?_⟩)
 all_goals first|omega|(simp<;>omega)|skip
 refine BZ (α:=Nat) (l0:=?l1) (m0:=?m1) (fun x=>[(7,.d (.int .i64 (x:Int)))]) (fun x=>[(900000,.cells [.d (.int .i64 ((s.wrE x).m 0)),.d (.int .i64 ((s.wrE x).m 1)),.d (.int .i64 ((s.wrE x).m 2)),.d (.int .i64 ((s.wrE x).m 3)),.d (.int .i64 ((s.wrE x).m 4)),.d (.int .i64 ((s.wrE x).m 5)),.own 901000 0,.d (.int .i64 (s.wrE x).wr)]),(901000,.row 103 6 false (Cq (s.wrE x).eps))]) (fun x=>x<=n) (fun x=>n-x) 0 ?h01 ?he1 ?he21 ?hI1 ?step1
 case h01=>(simp -implicitDefEqProofs only[go_sem,Bg.wrE];rfl)
 case he1=>rfl
 case he21=>rfl
 case' step1=>(rintro i hI;try dsimp only at hI)
 case' hI1=>try dsimp only
 ·exact Nat.zero_le _
 ·by_cases hi:i<n
  ·have hi':(i:Int)<(n:Int):=by omega
   have wi:IntKind.i64.wrap ((i:Int)+1)=((i+1:Nat):Int):=by rw[BN _ (by omega)];omega
   (try (simp -implicitDefEqProofs only[go_sem,hi']));repeat' first|(with_reducible first|exact tI|refine aI ?_ ?_|intro _)|((first|with_reducible refine Ad ?_ ?_<;>intro _)<;>try (simp -implicitDefEqProofs only[go_sem,hi']))|simp (disch:=omega) only[A7]|((with_reducible refine BL ?_);refine⟨_,rfl,?_,?_⟩)
   all_goals first|omega|(simp<;>omega)|skip
   refine BZ (α:=Nat) (l0:=?l2) (m0:=?m2) (fun x=>[(10,.d (.int .i64 (x:Int)))]) (fun x=>[(900000,.cells [.d (.int .i64 (((s.wrE i).wrB i x).m 0)),.d (.int .i64 (((s.wrE i).wrB i x).m 1)),.d (.int .i64 (((s.wrE i).wrB i x).m 2)),.d (.int .i64 (((s.wrE i).wrB i x).m 3)),.d (.int .i64 (((s.wrE i).wrB i x).m 4)),.d (.int .i64 (((s.wrE i).wrB i x).m 5)),.own 901000 0,.d (.int .i64 ((s.wrE i).wrB i x).wr)]),(901000,.row 103 6 false (Cq ((s.wrE i).wrB i x).eps))]) (fun x=>x<=6) (fun x=>6-x) 0 ?h02 ?he2 ?he22 ?hI2 ?step2
   case h02=>(simp -implicitDefEqProofs only[go_sem,Bg.wrB];rfl)
   case he2=>rfl
   case he22=>rfl
   case' step2=>(rintro j hI2;try dsimp only at hI2)
   case' hI2=>try dsimp only
   ·omega
   ·by_cases hj:j<6
    ·have hj':(j:Int)<6:=by omega
     have wj:IntKind.i64.wrap ((j:Int)+1)=((j+1:Nat):Int):=by rw[BN _ (by omega)];omega
     have c1:=cw i j (by omega) hj
     rw[show ((s.wrE i).wrB i j).write i j=(s.wrE i).wrB i (j+1) from rfl] at c1
     (try (simp -implicitDefEqProofs only[go_sem,hj',wj]));repeat' first|(with_reducible first|exact tI|refine aI ?_ ?_|intro _)|((first|with_reducible refine Ad ?_ ?_<;>intro _|(with_reducible refine isCall ?_);first|(refine Ak ([((900000,0),(900000,0)),((901000,0),(901000,0))]) ([((900000,0),(900000,0)),((901000,0),(901000,0))]) (c1) (by repeat' first|exact True.intro|exact rfl|refine And.intro ?_ ?_) (by simp[Handed,Ar.get,AI.ren,AV.ren,AV.ren.renL,AB.get,Af,Al,Ai,AB.reach,AV.sites,AV.sites.sitesL,AB.osites]) (by simp[AO,A3,AQ,Ar.get,Ai,BH,BJ,Aj,AX]) (by rfl) (by simp only[Au,Ar.get,AI.ren,AV.ren,AV.ren.renL,and_self,and_true,true_and,if_true,reduceIte];rfl) ?_))<;>try (simp -implicitDefEqProofs only[go_sem,hj',wj]))|simp (disch:=omega) only[A7]|((with_reducible refine BL ?_);refine⟨_,rfl,?_,?_⟩)
     all_goals first|omega|(simp<;>omega)|skip
    ·have hj6:j=6:=by omega
     subst hj6
     rw[show (s.wrE i).wrB i 6=s.wrE (i+1) from rfl]
     (try (simp -implicitDefEqProofs only[go_sem,wi]));repeat' first|(with_reducible first|exact tI|refine aI ?_ ?_|intro _)|((first|with_reducible refine Ad ?_ ?_<;>intro _)<;>try (simp -implicitDefEqProofs only[go_sem,wi]))|simp (disch:=omega) only[A7]|((with_reducible refine BL ?_);refine⟨_,rfl,?_,?_⟩)
     all_goals first|omega|(simp<;>omega)|skip
  ·have hin:i=n:=by omega
   subst hin
   have hi':¬(i:Int)<(i:Int):=by omega
   (try (simp -implicitDefEqProofs only[go_sem,hi']));repeat' first|(with_reducible first|exact tI|refine aI ?_ ?_|intro _)|((first|with_reducible refine Ad ?_ ?_<;>intro _)<;>try (simp -implicitDefEqProofs only[go_sem,hi']))|simp (disch:=omega) only[A7]|((with_reducible refine BL ?_);refine⟨_,rfl,?_,?_⟩)
   all_goals first|omega|(simp<;>omega)|skip
end Go.Pw
end
section
open Go Go.Pw Go.Proofs
namespace Go.Pw
set_option maxRecDepth 100000
set_option maxHeartbeats 3200000
theorem Bq (a b c d e f:Int):O1 [a,b,c,d,e,f]=.agg [.int .i64 a,.int .i64 b,.int .i64 c,.int .i64 d,.int .i64 e,.int .i64 f]:=rfl
attribute [local congr] DP B9 B_ Bj DR Bn Bp Bo Bi BW BQ BF Bl BR BU Bm BV CC Cg BT CE CF CD CA CB B8 DQ B' Bk BS
attribute [local irreducible] IntKind.wrap CG Option.getD and or
theorem KQ (nl:Bool) (xs:List (List Int)) (f:FuncId) (cs:List D) (p:List Int->Bool) (hb:Cl E0.P f=true) (hcs:BD AV.toD1 (cs.map .d)=some cs) (h6:∀r,r∈xs->r.length=6) (h:∀r,r∈xs->D6 E0 f (O1 r::cs) (.bool (p r))) :
  D6 E0 Bf [.list nl (Cq xs),.fn f cs] (.int .i64 (match xs.findIdx? p with|some i=>i|none=>-1)):=by
 refine Ap D4 A' (by simp) fun hwf=>?_
 simp only[Fm,FB,FA,El,GD,GC,IK,GB,Cy,DF,DG,FD,Di,List.length_map,Dn,true_and,and_true,AZ] at hwf
 have hu:=P3 h6
 rw[Av];unfold Co
 simp -implicitDefEqProofs only[go_sem,AZ]
 refine BZ (α:=Int) (l0:=?l1) (m0:=?m1) (fun x=>[(8,.d (.int .i64 x))]) (fun x=>[]) (fun x=>0<=x/\x<=xs.length/\∀(j:Nat) (hj:j<xs.length),(j:Int)<x->p xs[j]=false) (fun x=>(xs.length-x).toNat) ?a1_0 ?h01 ?he1 ?he21 ?hI1 ?step1
 case h01=>(simp -implicitDefEqProofs only[go_sem,AZ];rfl)
 case he1=>rfl
 case he21=>rfl
 case' step1=>(rintro i hI;try dsimp only at hI)
 case' hI1=>try dsimp only
 ·simp
  omega
 ·by_cases hi:i<xs.length
  ·have hlt:i.toNat<xs.length:=by omega
   have hx:xs[i.toNat]?.getD []=xs[i.toNat]'hlt:=by rw[List.getElem?_eq_getElem hlt,Option.getD_some]
   have hc:=h _ (List.getElem_mem hlt)
   have hl6:=h6 _ (List.getElem_mem hlt)
   have hp0:∀b,p xs[i.toNat]=b->p (xs[i.toNat]?.getD [])=b:=fun b hb=>by rw[hx];exact hb
   obtain⟨r,hr⟩:∃r,xs[i.toNat]?.getD []=r:=⟨_,rfl⟩
   rw[←hx,hr] at hc hl6
   rw[hr] at hp0
   obtain⟨r0,r1,r2,r3,r4,r5,rfl⟩:=Qe hl6
   rw[Bq] at hc
   (try (simp -implicitDefEqProofs only[go_sem,AZ,hu,AW,hr,Bq,hi]));repeat' first|(with_reducible first|exact tI|refine aI ?_ ?_|intro _)|((first|with_reducible refine Ad ?_ ?_<;>intro _)<;>try (simp -implicitDefEqProofs only[go_sem,AZ,hu,AW,hr,Bq,hi]))|simp (disch:=omega) only[A7]|((with_reducible refine BL ?_);refine⟨_,rfl,?_,?_⟩)
   all_goals first|omega|(simp<;>omega)|skip
   refine T7 hc (Jd rfl hcs) (fun hp=>?_) (fun hp=>?_)
   ·rw[←hr,hx] at hp
    simp -implicitDefEqProofs only[go_sem]
    have:xs.findIdx? p=some i.toNat:=by rw[List.findIdx?_eq_some_iff_getElem];exact⟨by omega,hp,fun j hj=>by simp[hI.2.2 j (by omega) (by omega)]⟩
    rw[this];simp;omega
   ·rw[←hr,hx] at hp
    (try (simp -implicitDefEqProofs only[go_sem,AZ]));repeat' first|(with_reducible first|exact tI|refine aI ?_ ?_|intro _)|((first|with_reducible refine Ad ?_ ?_<;>intro _)<;>try (simp -implicitDefEqProofs only[go_sem,AZ]))|simp (disch:=omega) only[A7]|((with_reducible refine BL ?_);refine⟨_,rfl,?_,?_⟩)
    all_goals first|omega|(simp<;>omega)|skip
    rename_i j hj hjlt
    by_cases hjk:j=i.toNat
    ·subst hjk;exact hp
    ·exact hI.2.2 j hj (by omega)
  ·have:xs.findIdx? p=none:=by
    rw[List.findIdx?_eq_none_iff];intro x hx;obtain⟨j,hj,rfl⟩:=List.getElem_of_mem hx;exact hI.2.2 j hj (by omega)
   rw[this]
   (try (simp -implicitDefEqProofs only[go_sem,AZ,hi]));repeat' first|(with_reducible first|exact tI|refine aI ?_ ?_|intro _)|((first|with_reducible refine Ad ?_ ?_<;>intro _)<;>try (simp -implicitDefEqProofs only[go_sem,AZ,hi]))|simp (disch:=omega) only[A7]|((with_reducible refine BL ?_);refine⟨_,rfl,?_,?_⟩)
   all_goals first|omega|(simp<;>omega)|skip
def Qh (s:Bg):Int:=match s.first with|some e=>(e:Int)|none=>-1
theorem Vo (s:Bg) (hs:s.Ok):D6 E0 Bf [.list false (Cq s.eps),.fn Dd []] (.int .i64 (Qh s)) :=
 KQ false s.eps Dd [] (fun r=>decide (r≠JL)) (by kernel_rfl) rfl hs.el fun r hr=>by
  obtain⟨a,b,c,d,e,f,rfl⟩:=Qe (hs.el r hr)
  rw[Bq];exact SF a b c d e f
theorem Pi (s:Bg) (hs:s.Ok) (hl:s.eps.length<=1000):Ea E0 GS (J0 s 901000) [.ptr 900000 0 0] (J0 s 901000) (.tup [.d (.int .i64 (Qh s)),.d (.bool (decide (0<=Qh s)))]):=by
 have c1:=Vo s hs
 unfold J0 Cp
 refine A6 Ix A' (by simp) (by simp[EG,AQ,BH,AI.isHist]) (by simp[A3]) fun hwf hwo=>?_
 rw[BI];unfold F0
 (try (simp -implicitDefEqProofs only[go_sem]));repeat' first|(with_reducible first|exact tI|refine aI ?_ ?_|intro _)|((first|with_reducible refine Ad ?_ ?_<;>intro _|(with_reducible refine isCall ?_);first|refine D5 (c1) rfl (by simp[D.flat,D.flat1,D.prim]) ?_)<;>try (simp -implicitDefEqProofs only[go_sem]))|simp (disch:=omega) only[A7]
 all_goals first|omega|rfl|(simp_all;done)|skip
theorem US (s:Bg) (hs:s.Ok) (b:Nat) (hb:b<6) (hl:s.eps.length<=1000):Ea E0 HP (J0 s 901000) [.ptr 900000 0 0,.d (.int .i64 (b:Int))] (J0 s 901000) (.d (.bool (s.can b))):=by
 have c1:=Pi s hs hl
 unfold J0 Cp at *
 refine A6 J7 A' (by simp) (by simp[EG,AQ,BH,AI.isHist]) (by simp[A3]) fun hwf hwo=>?_
 rw[BI];unfold Gk Bg.can
 cases hf:s.first with
 |none =>
  have hfi:Qh s=-1:=by unfold Qh;rw[hf]
  rw[hfi,decide_eq_false (by omega)] at c1
  (try (simp -implicitDefEqProofs only[go_sem]));repeat' first|(with_reducible first|exact tI|refine aI ?_ ?_|intro _)|((first|with_reducible refine Ad ?_ ?_<;>intro _|(with_reducible refine isCall ?_);first|(refine Ak ([((900000,0),(900000,0)),((901000,0),(901000,0))]) ([((900000,0),(900000,0)),((901000,0),(901000,0))]) (c1) (by repeat' first|exact True.intro|exact rfl|refine And.intro ?_ ?_) (by simp[Handed,Ar.get,AI.ren,AV.ren,AV.ren.renL,AB.get,Af,Al,Ai,AB.reach,AV.sites,AV.sites.sitesL,AB.osites]) (by simp[AO,A3,AQ,Ar.get,Ai,BH,BJ,Aj,AX]) (by rfl) (by simp only[Au,Ar.get,AI.ren,AV.ren,AV.ren.renL,and_self,and_true,true_and,if_true,reduceIte];rfl) ?_))<;>try (simp -implicitDefEqProofs only[go_sem]))|simp (disch:=omega) only[A7]
  all_goals first|omega|rfl|skip
 |some e =>
  have hfi:Qh s=(e:Int):=by unfold Qh;rw[hf]
  rw[hfi,decide_eq_true (by omega)] at c1
  have he:e<s.eps.length:=by
   unfold Bg.first at hf
   rw[List.findIdx?_eq_some_iff_getElem] at hf
   exact hf.1
  have he':(e:Int)<(s.eps.length:Int):=by omega
  have hr0:=hs.el _ (Cz he)
  obtain⟨r,hr⟩:∃r,s.eps[e]?.getD []=r:=⟨_,rfl⟩
  rw[hr] at hr0
  obtain⟨r0,r1,r2,r3,r4,r5,rfl⟩:=Qe hr0
  simp only[Bg.ent,hr]
  rcases Ye hb with h|h|h|h|h|h<;>subst h
  all_goals simp only[List.getElem?_cons_zero,List.getElem?_cons_succ,Option.getD_some]
  all_goals ((try (simp -implicitDefEqProofs only[go_sem,AZ,AW,hr,Bq,he,he',Int.toNat_natCast,Option.getD_some]));repeat' first|(with_reducible first|exact tI|refine aI ?_ ?_|intro _)|((first|with_reducible refine Ad ?_ ?_<;>intro _|(with_reducible refine isCall ?_);first|(refine Ak ([((900000,0),(900000,0)),((901000,0),(901000,0))]) ([((900000,0),(900000,0)),((901000,0),(901000,0))]) (c1) (by repeat' first|exact True.intro|exact rfl|refine And.intro ?_ ?_) (by simp[Handed,Ar.get,AI.ren,AV.ren,AV.ren.renL,AB.get,Af,Al,Ai,AB.reach,AV.sites,AV.sites.sitesL,AB.osites]) (by simp[AO,A3,AQ,Ar.get,Ai,BH,BJ,Aj,AX]) (by rfl) (by simp only[Au,Ar.get,AI.ren,AV.ren,AV.ren.renL,and_self,and_true,true_and,if_true,reduceIte];rfl) ?_))<;>try (simp -implicitDefEqProofs only[go_sem,AZ,AW,hr,Bq,he,he',Int.toNat_natCast,Option.getD_some]))|simp (disch:=omega) only[A7] )
  all_goals first|omega|rfl|(simp_all;done)|skip
end Go.Pw
end
section
open Go Go.Pw Go.Proofs
namespace Go.Pw
set_option maxRecDepth 100000
set_option maxHeartbeats 3200000
def Uc (r:List Int):Bool:=decide (r≠JL)
def WT (r:List Int):Bool:=decide (r=JL)
theorem R8 (r:List Int):Uc r=!WT r:=by unfold Uc WT;simp
theorem Hl (l:List (List Int)) (n:Nat):(Cq l).take n=Cq (l.take n):=by simp[Cq,List.map_take]
theorem X3 {l L:List (List Int)}{i j:Nat}(hij:i<j) (hj:j<l.length) (hL:L.length=l.length) (h1:L.take i=(l.take j).filter Uc) (h2:L.drop j=l.drop j) :
  (WT (l[j]?.getD [])=true->L.take i=(l.take (j+1)).filter Uc/\L.drop (j+1)=l.drop (j+1)) /\
  (WT (l[j]?.getD [])=false->(L.set i (l[j]?.getD [])).take (i+1)=(l.take (j+1)).filter Uc/\(L.set i (l[j]?.getD [])).drop (j+1)=l.drop (j+1))/\L[j]?.getD []=l[j]?.getD []:=by
 have e0:L.drop (j+1)=l.drop (j+1):=by
  have:=congrArg (List.drop 1) h2
  simpa[List.drop_drop,Nat.add_comm] using this
 have e1:l.take (j+1)=l.take j++[l[j]?.getD []]:=by
  rw[List.take_add_one,List.getElem?_eq_getElem hj,Option.getD_some];rfl
 have e2:L[j]?=l[j]?:=by
  have a:=congrArg (fun q=>q[0]?) h2
  simpa using a
 refine⟨fun hn=>⟨?_,e0⟩,fun hn=>⟨?_,?_⟩,by rw[e2]⟩
 ·rw[e1,List.filter_append,←h1]
  simp[R8,hn]
 ·rw[e1,List.filter_append,←h1,List.take_add_one,List.take_set,List.getElem?_set]
  have:i<L.length:=by omega
  simp only[R8,hn,this,if_true,Bool.not_false,List.filter_cons,List.filter_nil]
  rw[List.set_eq_of_length_le (by rw[List.length_take];omega)];rfl
 ·rw[List.drop_set,if_pos (by omega)];exact e0
attribute [local congr] DP B9 B_ Bj DR Bn Bp Bo Bi BW BQ BF Bl BR BU Bm BV CC Cg BT CE CF CD CA CB B8 DQ B' Bk BS
attribute [local irreducible] IntKind.wrap CG Option.getD and or
theorem RD (l:List (List Int)) (h6:∀r,r∈l->r.length=6):D6 E0 Bf [.list false (Cq l),.fn CW []] (.int .i64 (match l.findIdx? WT with|some i=>i|none=>-1)) :=
 KQ false l CW [] WT (by kernel_rfl) rfl h6 fun r hr=>by
  obtain⟨a,b,c,d,e,f,rfl⟩:=Qe (h6 r hr)
  rw[Bq];exact Nn a b c d e f
theorem TG (l:List (List Int)) (h6:∀r,r∈l->r.length=6) (hl:l.length<=1000) (hn:l.findIdx? WT=none) :
  Ea E0 CH [(900000,0,.row 103 6 false (Cq l))] [.own 900000 0,.d (.fn CW [])] [(900000,0,.row 103 6 false (Cq l))] (.own 900000 0):=by
 have c1:=RD l h6
 rw[hn] at c1
 refine A6 Ch A' (by simp) (by simp[EG,AQ,BH,AI.isHist]) (by simp[A3]) fun hwf hwo=>?_
 rw[BI];unfold B4
 (try (simp -implicitDefEqProofs only[go_sem]));repeat' first|(with_reducible first|exact tI|refine aI ?_ ?_|intro _)|((first|with_reducible refine Ad ?_ ?_<;>intro _|(with_reducible refine isCall ?_);first|refine D5 (c1) rfl (by simp[D.flat,D.flat1,D.prim]) ?_)<;>try (simp -implicitDefEqProofs only[go_sem]))|simp (disch:=omega) only[A7]
 all_goals first|omega|rfl|(simp_all;done)|skip
theorem Yx (l:List (List Int)) (h6:∀r,r∈l->r.length=6) (hl:l.length<=1000) (i0:Nat) (hn:l.findIdx? WT=some i0) :
  Ea E0 CH [(800000,0,.row 103 6 false (Cq l))] [.own 800000 0,.d (.fn CW [])] [(800000,1,.row 103 6 false (Cq (l.filter Uc)))] (.own 800000 1):=by
 have c1:=RD l h6
 rw[hn] at c1
 rw[List.findIdx?_eq_some_iff_getElem] at hn
 obtain⟨hi0,hp,hbef⟩:=hn
 have hst:l.take i0=(l.take (i0+1)).filter Uc:=by
  rw[List.take_add_one,List.getElem?_eq_getElem hi0,List.filter_append]
  have e1:(l.take i0).filter Uc=l.take i0:=by
   rw[List.filter_eq_self];intro r hr
   obtain⟨j,hj,rfl⟩:=List.getElem_of_mem hr
   rw[List.getElem_take,R8]
   have hj':j<i0:=by rw[List.length_take] at hj;omega
   simp[hbef j hj']
  rw[e1];simp[R8,hp]
 refine A6 Ch A' (by simp) (by simp[EG,AQ,BH,AI.isHist]) (by simp[A3,BH]) fun hwf hwo=>?_
 have w0:IntKind.i64.wrap ((i0:Int)+1)=((i0+1:Nat):Int):=by rw[BN _ (by omega)];omega
 have hne:¬(i0:Int)=-1:=by omega
 have hB:Cl E0.P CW=true:=by kernel_rfl
 rw[BI];unfold B4
 (try (simp -implicitDefEqProofs only[go_sem,w0,hne]));repeat' first|(with_reducible first|exact tI|refine aI ?_ ?_|intro _)|((first|with_reducible refine Ad ?_ ?_<;>intro _|(with_reducible refine isCall ?_);first|refine D5 (c1) rfl (by simp[D.flat,D.flat1,D.prim]) ?_)<;>try (simp -implicitDefEqProofs only[go_sem,w0,hne]))|simp (disch:=omega) only[A7]|((with_reducible refine Br ?_);refine⟨(_,_,_),rfl,?_,?_⟩)
 all_goals first|omega|(simp<;>omega)|skip
 refine BZ (α:=Nat×Nat×((List (List Int)))) (l0:=?l1) (m0:=?m1) (fun x=>[(5,.d (.int .i64 (x.1:Int))),(6,.d (.int .i64 (x.2.1:Int)))]) (fun x=>[(800000,.row 103 6 false (Cq x.2.2))]) (fun x=>(x.1<x.2.1/\x.2.1<=l.length/\x.2.2.length=l.length)/\x.2.2.take x.1=(l.take x.2.1).filter Uc/\x.2.2.drop x.2.1=l.drop x.2.1/\(∀r,r∈x.2.2->r.length=6)) (fun x=>l.length-x.2.1) (i0,(i0+1),l) ?h01 ?he1 ?he21 ?hI1 ?step1
 case h01=>(simp -implicitDefEqProofs only[go_sem];rfl)
 case he1=>rfl
 case he21=>rfl
 case' step1=>(rintro⟨i,j,L⟩ hI;try dsimp only at hI)
 case' hI1=>try dsimp only
 ·exact⟨⟨by omega,by omega,rfl⟩,hst,rfl,h6⟩
 ·obtain⟨⟨a1,a2,a3⟩,a4,a5,a6⟩:=hI
  have hu:=P3 a6
  by_cases hj:j<l.length
  ·have hj':(j:Int)<(l.length:Int):=by omega
   have wj:IntKind.i64.wrap ((j:Int)+1)=((j+1:Nat):Int):=by rw[BN _ (by omega)];omega
   have wi:IntKind.i64.wrap ((i:Int)+1)=((i+1:Nat):Int):=by rw[BN _ (by omega)];omega
   obtain⟨d1,d2,d3⟩:=X3 a1 hj a3 a4 a5
   have hr6:(l[j]?.getD []).length=6:=h6 _ (Cz hj)
   obtain⟨r,hr⟩:∃r,l[j]?.getD []=r:=⟨_,rfl⟩
   rw[hr] at d1 d2 d3 hr6
   have hset6:∀q,q∈L.set i r->q.length=6:=fun q hq=>by
    rcases List.mem_or_eq_of_mem_set hq with hq|rfl
    ·exact a6 q hq
    ·exact hr6
   obtain⟨r0,r1,r2,r3,r4,r5,rfl⟩:=Qe hr6
   have c2:=Nn r0 r1 r2 r3 r4 r5
   rw[show decide ([r0,r1,r2,r3,r4,r5]=JL)=WT [r0,r1,r2,r3,r4,r5] from rfl] at c2
   have hes:(Cq L).set i (.agg [.int .i64 r0,.int .i64 r1,.int .i64 r2,.int .i64 r3,.int .i64 r4,.int .i64 r5])=Cq (L.set i [r0,r1,r2,r3,r4,r5]):=CM L i [r0,r1,r2,r3,r4,r5]
   have hLi:6<=(O1 (L[i]?.getD [])).cells.length:=by
    have:=a6 _ (Cz (l:=L) (i:=i) (by omega))
    simp[O1,D.cells,C6,this]
   have hiL:(i:Int)<(l.length:Int):=by omega
   have hjL:j<L.length:=by omega
   cases hb:WT [r0,r1,r2,r3,r4,r5] with
   |true =>
    rw[hb] at c2
    obtain⟨f1,f2⟩:=d1 hb
    (try (simp -implicitDefEqProofs only[go_sem,AZ,hu,AW,d3,Bq,hj',wj,a3,hjL,Int.toNat_natCast]));repeat' first|(with_reducible first|exact tI|refine aI ?_ ?_|intro _)|((first|with_reducible refine Ad ?_ ?_<;>intro _|(with_reducible refine isCall ?_);first|refine AH c2 ?_)<;>try (simp -implicitDefEqProofs only[go_sem,AZ,hu,AW,d3,Bq,hj',wj,a3,hjL,Int.toNat_natCast]))|simp (disch:=omega) only[A7]|((with_reducible refine Br ?_);refine⟨(_,_,_),rfl,?_,?_⟩)
    all_goals first|omega|(simp<;>omega)|skip
    all_goals first|exact hB|exact a6 _ (by assumption)|exact hset6 _ (by assumption)
   |false =>
    rw[hb] at c2
    obtain⟨f1,f2⟩:=d2 hb
    (try (simp -implicitDefEqProofs only[go_sem,AZ,hu,AW,d3,Bq,hj',wj,wi,a3,hjL,hiL,hes,Int.toNat_natCast]));repeat' first|(with_reducible first|exact tI|refine aI ?_ ?_|intro _)|((first|with_reducible refine Ad ?_ ?_<;>intro _|(with_reducible refine isCall ?_);first|refine AH c2 ?_)<;>try (simp -implicitDefEqProofs only[go_sem,AZ,hu,AW,d3,Bq,hj',wj,wi,a3,hjL,hiL,hes,Int.toNat_natCast]))|simp (disch:=omega) only[A7]|((with_reducible refine Br ?_);refine⟨(_,_,_),rfl,?_,?_⟩)
    all_goals first|omega|(simp<;>omega)|skip
    all_goals first|exact hB|exact hLi|exact a6 _ (by assumption)|exact hset6 _ (by assumption)
  ·have hjl:j=l.length:=by omega
   subst hjl
   have hj':¬(l.length:Int)<(l.length:Int):=by omega
   have hiL:(i:Int)<=(l.length:Int):=by omega
   (try (simp -implicitDefEqProofs only[go_sem,AZ,hu,a3,hj',hiL,Int.toNat_natCast]));repeat' first|(with_reducible first|exact tI|refine aI ?_ ?_|intro _)|((first|with_reducible refine Ad ?_ ?_<;>intro _)<;>try (simp -implicitDefEqProofs only[go_sem,AZ,hu,a3,hj',hiL,Int.toNat_natCast]))|simp (disch:=omega) only[A7]|((with_reducible refine Br ?_);refine⟨(_,_,_),rfl,?_,?_⟩)
   all_goals first|omega|(simp<;>omega)|skip
   ·simp[AZ,a3];omega
   ·rw[List.take_append_of_le_length (by simp[AZ,a3];omega),List.take_take,Nat.min_self,Hl,a4,List.take_length]
end Go.Pw
end
section
open Go Go.Pw Go.Proofs
namespace Go.Pw
set_option maxRecDepth 100000
set_option maxHeartbeats 3200000
def K4 (s:Bg) (k:Nat):List (Nat×Nat×AI):=[(900000,0,.cells (Cp s 801000 k)),(801000,k,.row 103 6 false (Cq s.eps))]
theorem SG {l:List (List Int)}(h:l.findIdx? WT=none):l.filter Uc=l:=by
 rw[List.filter_eq_self];intro r hr
 rw[List.findIdx?_eq_none_iff] at h
 rw[R8];simpa using h r hr
theorem Nm (s:Bg):s.tidy.eps=(s.eps.take s.last).filter Uc++[s.eps[s.last]?.getD []]:=rfl
theorem QD (s:Bg) (i:Nat):s.tidy.m i=s.m i:=rfl
theorem NN (s:Bg):s.tidy.wr=s.wr:=rfl
theorem Hm (l:List (List Int)) (a b c d e f:Int):Cq l++[.agg [.int .i64 a,.int .i64 b,.int .i64 c,.int .i64 d,.int .i64 e,.int .i64 f]]=Cq (l++[[a,b,c,d,e,f]]):=by simp[Cq,O1,C6]
attribute [local congr] DP B9 B_ Bj DR Bn Bp Bo Bi BW BQ BF Bl BR BU Bm BV CC Cg BT CE CF CD CA CB B8 DQ B' Bk BS
attribute [local irreducible] IntKind.wrap CG Option.getD and or
theorem DX (s:Bg) (hs:s.Ok) (hne:1<=s.eps.length) (hl:s.eps.length<=1000):∃k,(k=2\/k=3)/\Ea E0 Gy (K4 s 0) [.ptr 900000 0 0] (K4 s.tidy k) (.tup []):=by
 have c1:=Mn s 901000 rfl hne hl
 have hl':s.last<s.eps.length:=by unfold Bg.last;omega
 have hll:(s.last:Int)<=(s.eps.length:Int):=by omega
 have w1:IntKind.i64.wrap ((s.eps.length:Int)-1)=((s.last:Nat):Int):=by rw[BN _ (by omega)];unfold Bg.last;omega
 have h6:∀r,r∈s.eps.take s.last->r.length=6:=fun r hr=>hs.el r (List.mem_of_mem_take hr)
 have hlt:(s.eps.take s.last).length<=1000:=by rw[List.length_take];omega
 have hr0:=hs.el _ (Cz hl')
 have ht:=Nm s
 obtain⟨r,hr⟩:∃r,s.eps[s.last]?.getD []=r:=⟨_,rfl⟩
 rw[hr] at hr0 ht
 obtain⟨r0,r1,r2,r3,r4,r5,rfl⟩:=Qe hr0
 unfold J0 Cp at c1
 cases hf:(s.eps.take s.last).findIdx? WT with
 |none =>
  refine⟨2,.inl rfl,?_⟩
  have cd:=TG _ h6 hlt hf
  rw[SG hf] at ht
  unfold K4 Cp
  refine A6 GA A' (by simp) (by simp[EG,AQ,BH,AI.isHist]) (by simp[A3,BH]) fun hwf hwo=>?_
  rw[BI];unfold Ez
  (try (simp -implicitDefEqProofs only[go_sem,AZ,AW,hr,Bq,w1,hl',hll,Hl,Int.toNat_natCast,Nat.sub_zero,Hm,ht,QD,NN]));repeat' first|(with_reducible first|exact tI|refine aI ?_ ?_|intro _)|((first|with_reducible refine Ad ?_ ?_<;>intro _|(with_reducible refine isCall ?_);first|(refine Ak ([((900000,0),(900000,0)),((901000,0),(801000,0))]) ([((900000,0),(900000,0)),((901000,0),(801000,0))]) (c1) (by repeat' first|exact True.intro|exact rfl|refine And.intro ?_ ?_) (by simp[Handed,Ar.get,AI.ren,AV.ren,AV.ren.renL,AB.get,Af,Al,Ai,AB.reach,AV.sites,AV.sites.sitesL,AB.osites]) (by simp[AO,A3,AQ,Ar.get,Ai,BH,BJ,Aj,AX]) (by rfl) (by simp only[Au,Ar.get,AI.ren,AV.ren,AV.ren.renL,and_self,and_true,true_and,if_true,reduceIte];rfl) ?_)|(refine Ak ([((900000,0),(801000,1))]) ([((900000,0),(801000,1))]) (cd) (by repeat' first|exact True.intro|exact rfl|refine And.intro ?_ ?_) (by simp[Handed,Ar.get,AI.ren,AV.ren,AV.ren.renL,AB.get,Af,Al,Ai,AB.reach,AV.sites,AV.sites.sitesL,AB.osites]) (by simp[AO,A3,AQ,Ar.get,Ai,BH,BJ,Aj,AX]) (by rfl) (by simp only[Au,Ar.get,AI.ren,AV.ren,AV.ren.renL,and_self,and_true,true_and,if_true,reduceIte];rfl) ?_))<;>try (simp -implicitDefEqProofs only[go_sem,AZ,AW,hr,Bq,w1,hl',hll,Hl,Int.toNat_natCast,Nat.sub_zero,Hm,ht,QD,NN]))|simp (disch:=omega) only[A7]
  all_goals first|omega|rfl|skip
 |some i0 =>
  refine⟨3,.inr rfl,?_⟩
  have hfl:((s.eps.take s.last).filter Uc).length<=1073741823:=by have:=List.length_filter_le Uc (s.eps.take s.last);omega
  have cd:=Yx _ h6 hlt i0 hf
  unfold K4 Cp
  refine A6 GA A' (by simp) (by simp[EG,AQ,BH,AI.isHist]) (by simp[A3,BH]) fun hwf hwo=>?_
  rw[BI];unfold Ez
  (try (simp -implicitDefEqProofs only[go_sem,AZ,AW,hr,Bq,w1,hl',hll,Hl,Int.toNat_natCast,Nat.sub_zero,Hm,ht,QD,NN]));repeat' first|(with_reducible first|exact tI|refine aI ?_ ?_|intro _)|((first|with_reducible refine Ad ?_ ?_<;>intro _|(with_reducible refine isCall ?_);first|(refine Ak ([((900000,0),(900000,0)),((901000,0),(801000,0))]) ([((900000,0),(900000,0)),((901000,0),(801000,0))]) (c1) (by repeat' first|exact True.intro|exact rfl|refine And.intro ?_ ?_) (by simp[Handed,Ar.get,AI.ren,AV.ren,AV.ren.renL,AB.get,Af,Al,Ai,AB.reach,AV.sites,AV.sites.sitesL,AB.osites]) (by simp[AO,A3,AQ,Ar.get,Ai,BH,BJ,Aj,AX]) (by rfl) (by simp only[Au,Ar.get,AI.ren,AV.ren,AV.ren.renL,and_self,and_true,true_and,if_true,reduceIte];rfl) ?_)|(refine Ak ([((800000,0),(801000,1))]) ([((800000,1),(801000,2))]) (cd) (by repeat' first|exact True.intro|exact rfl|refine And.intro ?_ ?_) (by simp[Handed,Ar.get,AI.ren,AV.ren,AV.ren.renL,AB.get,Af,Al,Ai,AB.reach,AV.sites,AV.sites.sitesL,AB.osites]) (by simp[AO,A3,AQ,Ar.get,Ai,BH,BJ,Aj,AX]) (by rfl) (by simp only[Au,Ar.get,AI.ren,AV.ren,AV.ren.renL,and_self,and_true,true_and,if_true,reduceIte];rfl) ?_))<;>try (simp -implicitDefEqProofs only[go_sem,AZ,AW,hr,Bq,w1,hl',hll,Hl,Int.toNat_natCast,Nat.sub_zero,Hm,ht,QD,NN]))|simp (disch:=omega) only[A7]
  all_goals first|omega|rfl|skip
end Go.Pw
end
