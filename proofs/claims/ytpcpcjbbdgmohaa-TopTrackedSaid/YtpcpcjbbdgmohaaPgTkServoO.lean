/- A part of the proof. -/
import Derived.Test.YtpcpcjbbdgmohaaPgTkServoK
import Derived.Test.YtpcpcjbbdgmohaaServoT
set_option linter.all false
section
open Go Go.Pw Go.Proofs
namespace Go.Pw
set_option maxRecDepth 100000
set_option maxHeartbeats 1600000
def bz (a b m:Int):Int:=BR .or .i64 (BR .and .i64 a m) (BR .andNot .i64 b m)
def bg (a b:Int):Nat->Int->Int
 |0,d=>d
 |k+1,d=>bg a b k (d+Int.fdiv (BR .xor .i64 a b) (2^(7-(k+1)))%2)
attribute [local congr] DH Bv Bw BW DJ Bd Bf Be BV BH A' A0 BZ BA Ba BF Bc BG B1 CX BE B4 B5 B2 Bz B0 Bu DI Bx BX BC BB BD Bb B3
attribute [local irreducible] IntKind.wrap BR Option.getD and or
end Go.Pw
end
section
open Go Go.Pw Go.Proofs
namespace Go.Pw
set_option maxRecDepth 100000
set_option maxHeartbeats 1600000
attribute [local congr] DH Bv Bw BW DJ Bd Bf Be BV BH A' A0 BZ BA Ba BF Bc BG B1 CX BE B4 B5 B2 Bz B0 Bu DI Bx BX BC BB BD Bb B3
attribute [local irreducible] IntKind.wrap BR Option.getD and or
def AH.far (s:AH) (l:List Al):Bool:=decide (40<s.runout.length\/40<l.length\/(8<l.length/\l.length<=24)\/(s.ok=true/\(8<s.tracks\/6<s.step)))
def AH.valid (s:AH) (l:List Al):Bool:=!s.far l && decide (s.check l=0)
theorem Nj (s:AH) (nl:Bool) (l:List Al):C6 E0 L4 [Cl s,.list nl (BO l)] (.bool (s.far l)):=by
 refine AU Nq A1 (by simp) fun hwf=>?_
 simp only[EZ,D_,D9,Dw,E5,E4,HB,E3,CJ,Cf,Cg,EB,Cu,List.length_map,Cz,true_and,and_true,AL] at hwf
 rw[Ae];unfold KO
 have c1:=Fz s
 rw[AI,AG] at c1
 by_cases h1:40<s.runout.length
 ·have hf:s.far l=true:=by simp[AH.far,h1]
  have h1':(40:Int)<s.runout.length:=by omega
  rw[hf]
  (try (simp -implicitDefEqProofs only[go_sem,AI,AG,AL,h1']));repeat' first|(with_reducible first|exact tI|refine aI ?_ ?_|intro _)|((first|with_reducible refine AW ?_ ?_<;>intro _)<;>try (simp -implicitDefEqProofs only[go_sem,AI,AG,AL,h1']))|simp (disch:=omega) only[Au]
  all_goals first|omega|(simp<;>omega)|skip
 ·have h1':¬(40:Int)<s.runout.length:=by omega
  by_cases h2:40<l.length
  ·have hf:s.far l=true:=by simp[AH.far,h2]
   have h2':(40:Int)<l.length:=by omega
   rw[hf]
   (try (simp -implicitDefEqProofs only[go_sem,AI,AG,AL,h1',h2']));repeat' first|(with_reducible first|exact tI|refine aI ?_ ?_|intro _)|((first|with_reducible refine AW ?_ ?_<;>intro _)<;>try (simp -implicitDefEqProofs only[go_sem,AI,AG,AL,h1',h2']))|simp (disch:=omega) only[Au]
   all_goals first|omega|(simp<;>omega)|skip
  ·have h2':¬(40:Int)<l.length:=by omega
   by_cases h3:8<l.length/\l.length<=24
   ·have hf:s.far l=true:=by simp[AH.far,h3]
    have h3':(8:Int)<l.length:=by omega
    have h3'':(l.length:Int)<=24:=by omega
    rw[hf]
    (try (simp -implicitDefEqProofs only[go_sem,AI,AG,AL,h1',h2',h3',h3'']));repeat' first|(with_reducible first|exact tI|refine aI ?_ ?_|intro _)|((first|with_reducible refine AW ?_ ?_<;>intro _)<;>try (simp -implicitDefEqProofs only[go_sem,AI,AG,AL,h1',h2',h3',h3'']))|simp (disch:=omega) only[Au]
    all_goals first|omega|(simp<;>omega)|skip
   ·have hf:s.far l=decide (s.ok=true/\(8<s.tracks\/6<s.step)):=by
     simp only[AH.far,h1,h2,h3,false_or]
    rw[hf]
    cases hok:s.ok with
    |false =>
     rw[hok] at c1
     simp only[Bool.false_eq_true,false_and,decide_false]
     (try (simp -implicitDefEqProofs only[go_sem,AI,AG,AL,h1',h2']));repeat' first|(with_reducible first|exact tI|refine aI ?_ ?_|intro _)|((first|with_reducible refine AW ?_ ?_<;>intro _|(with_reducible refine isCall ?_);first|refine AD c1 ?_)<;>try (simp -implicitDefEqProofs only[go_sem,AI,AG,AL,h1',h2']))|simp (disch:=omega) only[Au]
     all_goals first|omega|(simp<;>omega)|skip
    |true =>
     rw[hok] at c1
     simp only[true_and]
     by_cases ha:8<s.tracks
     ·simp only[ha,true_or,decide_true]
      (try (simp -implicitDefEqProofs only[go_sem,AI,AG,AL,h1',h2',ha]));repeat' first|(with_reducible first|exact tI|refine aI ?_ ?_|intro _)|((first|with_reducible refine AW ?_ ?_<;>intro _|(with_reducible refine isCall ?_);first|refine AD c1 ?_)<;>try (simp -implicitDefEqProofs only[go_sem,AI,AG,AL,h1',h2',ha]))|simp (disch:=omega) only[Au]
      all_goals first|omega|(simp<;>omega)|skip
     ·by_cases hb:6<s.step
      ·simp only[hb,or_true,decide_true]
       (try (simp -implicitDefEqProofs only[go_sem,AI,AG,AL,h1',h2',ha,hb]));repeat' first|(with_reducible first|exact tI|refine aI ?_ ?_|intro _)|((first|with_reducible refine AW ?_ ?_<;>intro _|(with_reducible refine isCall ?_);first|refine AD c1 ?_)<;>try (simp -implicitDefEqProofs only[go_sem,AI,AG,AL,h1',h2',ha,hb]))|simp (disch:=omega) only[Au]
       all_goals first|omega|(simp<;>omega)|skip
      ·simp only[ha,hb,or_false,decide_false]
       (try (simp -implicitDefEqProofs only[go_sem,AI,AG,AL,h1',h2',ha,hb]));repeat' first|(with_reducible first|exact tI|refine aI ?_ ?_|intro _)|((first|with_reducible refine AW ?_ ?_<;>intro _|(with_reducible refine isCall ?_);first|refine AD c1 ?_)<;>try (simp -implicitDefEqProofs only[go_sem,AI,AG,AL,h1',h2',ha,hb]))|simp (disch:=omega) only[Au]
       all_goals first|omega|(simp<;>omega)|skip
def cE (l:List Al) (x:Int):Bool:=l.any fun q=>decide (q.1<=x/\x<=q.2)
def AH.PathP (s:AH) (n:Nat) (p:List Int):Prop:=p.length=n/\(∀j:Nat,j<p.length->0<=p[j]?.getD 0/\p[j]?.getD 0<=s.last)/\∀j:Nat,j+1<p.length->p[j+1]?.getD 0-p[j]?.getD 0<=s.move/\p[j]?.getD 0-p[j+1]?.getD 0<=s.move
theorem LC (s:AH) (h:s.ok=true) (nl:Bool) (l:List Al) (np:Bool) (p:List Int) (b:Bool) (hb:b=true↔s.PathP l.length p) :
  C6 E0 Ic [Cl s,.list nl (BO l),.list np (CT p)] (.bool b):=by
 refine AU LV A1 (by simp) fun hwf=>?_
 simp only[EZ,D_,D9,Dw,E5,E4,HB,E3,CJ,Cf,Cg,EB,Cu,List.length_map,Cz,true_and,and_true,AL,AI,AG] at hwf
 have hd:=AH.ok_head h
 have hlb:=Cp h
 have c1:=Mu s h
 rw[AI,AG] at c1
 have hbad:¬s.PathP l.length p->b=false:=fun hn=>by
  cases hbb:b with
  |false=>rfl
  |true=>exact absurd (hb.1 hbb) hn
 rw[Ae];unfold HJ
 (try (simp -implicitDefEqProofs only[go_sem,AI,AG]));repeat' first|(with_reducible first|exact tI|refine aI ?_ ?_|intro _)|((first|with_reducible refine AW ?_ ?_<;>intro _)<;>try (simp -implicitDefEqProofs only[go_sem,AI,AG]))|simp (disch:=omega) only[Au]|((with_reducible refine BP ?_);refine⟨_,rfl,?_,?_⟩)
 refine A5 (α:=Int) (l0:=?l1) (m0:=?m1) (fun x=>[(7,.d (.int .i64 x))]) (fun x=>[]) (fun x=>0<=x/\x<=p.length/\(∀j:Nat,(j:Int)<x->0<=p[j]?.getD 0/\p[j]?.getD 0<=s.last)/\∀j:Nat,(j:Int)+1<x->p[j+1]?.getD 0-p[j]?.getD 0<=s.move/\p[j]?.getD 0-p[j+1]?.getD 0<=s.move) (fun x=>(p.length-x).toNat) ?a1_0 ?h01 ?he1 ?he21 ?hI1 ?step1
 case h01=>(simp -implicitDefEqProofs only[go_sem,AI,AG];rfl)
 case he1=>rfl
 case he21=>rfl
 case' step1=>(rintro i hI;try dsimp only at hI)
 case' hI1=>try dsimp only
 ·exact⟨by omega,by omega,fun j hj=>by omega,fun j hj=>by omega⟩
 ·obtain⟨h1,h2,h3,h4⟩:=hI
  by_cases hi:i<p.length
  ·have cw:=C7 (p[i.toNat]?.getD 0) 0 s.last
   by_cases hin:0<=p[i.toNat]?.getD 0/\p[i.toNat]?.getD 0<=s.last
   ·rw[show EU (p[i.toNat]?.getD 0) 0 s.last=true by simpa[EU] using hin] at cw
    have hs3:∀j:Nat,(j:Int)<i+1->0<=p[j]?.getD 0/\p[j]?.getD 0<=s.last:=fun j hj=>by
     rcases (show (j:Int)<i\/j=i.toNat by omega) with h|h
     ·exact h3 j h
     ·rw[h];exact hin
    by_cases hi0:0<i
    ·have hpr:=h3 (i.toNat-1) (by omega)
     have e1:(i-1).toNat=i.toNat-1:=by omega
     have w1:IntKind.i64.wrap (i-1)=i-1:=Aw _ (by omega)
     have w2:IntKind.i64.wrap (p[i.toNat]?.getD 0-p[i.toNat-1]?.getD 0)=p[i.toNat]?.getD 0-p[i.toNat-1]?.getD 0:=Aw _ (by omega)
     have ca:=GI (p[i.toNat]?.getD 0-p[i.toNat-1]?.getD 0) (by omega)
     by_cases hmv:s.move<max (p[i.toNat]?.getD 0-p[i.toNat-1]?.getD 0) (-(p[i.toNat]?.getD 0-p[i.toNat-1]?.getD 0))
     ·have:=hbad fun hp=>by
       have:=hp.2.2 (i.toNat-1) (by omega)
       rw[show i.toNat-1+1=i.toNat by omega] at this
       omega
      rw[this]
      (try (simp -implicitDefEqProofs only[go_sem,AI,AG,hi0,e1,w1,w2,hmv]));repeat' first|(with_reducible first|exact tI|refine aI ?_ ?_|intro _)|((first|with_reducible refine AW ?_ ?_<;>intro _|(with_reducible refine isCall ?_);first|refine AD c1 ?_|refine AD cw ?_|refine AD ca ?_)<;>try (simp -implicitDefEqProofs only[go_sem,AI,AG,hi0,e1,w1,w2,hmv]))|simp (disch:=omega) only[Au]|((with_reducible refine BP ?_);refine⟨_,rfl,?_,?_⟩)
      all_goals first|omega|(simp<;>omega)|skip
     ·have hs4:∀j:Nat,(j:Int)+1<i+1->p[j+1]?.getD 0-p[j]?.getD 0<=s.move/\p[j]?.getD 0-p[j+1]?.getD 0<=s.move:=fun j hj=>by
       rcases (show (j:Int)+1<i\/j+1=i.toNat by omega) with h|h
       ·exact h4 j h
       ·rw[h,show j=i.toNat-1 by omega];omega
      (try (simp -implicitDefEqProofs only[go_sem,AI,AG,hi0,e1,w1,w2,hmv]));repeat' first|(with_reducible first|exact tI|refine aI ?_ ?_|intro _)|((first|with_reducible refine AW ?_ ?_<;>intro _|(with_reducible refine isCall ?_);first|refine AD c1 ?_|refine AD cw ?_|refine AD ca ?_)<;>try (simp -implicitDefEqProofs only[go_sem,AI,AG,hi0,e1,w1,w2,hmv]))|simp (disch:=omega) only[Au]|((with_reducible refine BP ?_);refine⟨_,rfl,?_,?_⟩)
      all_goals first|omega|(refine(hs3 _ ?_).1;assumption)|(refine(hs3 _ ?_).2;assumption)|(refine(hs4 _ ?_).1;assumption)|(refine(hs4 _ ?_).2;assumption)|skip
    ·have hs4:∀j:Nat,(j:Int)+1<i+1->p[j+1]?.getD 0-p[j]?.getD 0<=s.move/\p[j]?.getD 0-p[j+1]?.getD 0<=s.move:=fun j hj=>by omega
     (try (simp -implicitDefEqProofs only[go_sem,AI,AG,hi0]));repeat' first|(with_reducible first|exact tI|refine aI ?_ ?_|intro _)|((first|with_reducible refine AW ?_ ?_<;>intro _|(with_reducible refine isCall ?_);first|refine AD c1 ?_|refine AD cw ?_)<;>try (simp -implicitDefEqProofs only[go_sem,AI,AG,hi0]))|simp (disch:=omega) only[Au]|((with_reducible refine BP ?_);refine⟨_,rfl,?_,?_⟩)
     all_goals first|omega|(refine(hs3 _ ?_).1;assumption)|(refine(hs3 _ ?_).2;assumption)|(refine(hs4 _ ?_).1;assumption)|(refine(hs4 _ ?_).2;assumption)|skip
   ·rw[show EU (p[i.toNat]?.getD 0) 0 s.last=false by simpa[EU] using hin] at cw
    have:=hbad fun hp=>hin (hp.2.1 i.toNat (by omega))
    rw[this]
    (try (simp -implicitDefEqProofs only[go_sem,AI,AG]));repeat' first|(with_reducible first|exact tI|refine aI ?_ ?_|intro _)|((first|with_reducible refine AW ?_ ?_<;>intro _|(with_reducible refine isCall ?_);first|refine AD c1 ?_|refine AD cw ?_)<;>try (simp -implicitDefEqProofs only[go_sem,AI,AG]))|simp (disch:=omega) only[Au]|((with_reducible refine BP ?_);refine⟨_,rfl,?_,?_⟩)
    all_goals first|omega|(simp<;>omega)|skip
  ·have hbb:b=decide (p.length=l.length):=by
    by_cases hpl:p.length=l.length
    ·rw[show decide (p.length=l.length)=true by simpa using hpl]
     exact hb.2 ⟨hpl,fun j hj=>h3 j (by omega),fun j hj=>h4 j (by omega)⟩
    ·rw[show decide (p.length=l.length)=false by simpa using hpl]
     exact hbad fun hp=>hpl hp.1
   rw[hbb]
   (try (simp -implicitDefEqProofs only[go_sem,AI,AG,AL]));repeat' first|(with_reducible first|exact tI|refine aI ?_ ?_|intro _)|((first|with_reducible refine AW ?_ ?_<;>intro _)<;>try (simp -implicitDefEqProofs only[go_sem,AI,AG,AL]))|simp (disch:=omega) only[Au]|((with_reducible refine BP ?_);refine⟨_,rfl,?_,?_⟩)
   all_goals first|omega|(rw[show decide (p.length=l.length)=true from decide_eq_true (by omega)])|(rw[show decide (p.length=l.length)=false from decide_eq_false (by omega)])|skip
end Go.Pw
end
section
open Go Go.Pw Go.Proofs
namespace Go.Pw
def Fl (l:List Al) (x:Int):Prop:=∃q,q∈l/\q.1<=x/\x<=q.2
def GO (l:List Al):Prop:=l.Pairwise (fun a b=>a.2+1<b.1)/\∀q,q∈l->q.1<=q.2
theorem Kb (x:Int):¬Fl [] x:=fun⟨_,h,_⟩=>by cases h
theorem C_ (q:Al) (l:List Al) (x:Int):Fl (q::l) x↔(q.1<=x/\x<=q.2)\/Fl l x:=by
 constructor
 ·rintro⟨p,hp,h⟩
  rcases List.mem_cons.1 hp with rfl|hp
  ·exact .inl h
  ·exact .inr ⟨p,hp,h⟩
 ·rintro(h|⟨p,hp,h⟩)
  ·exact⟨q,by simp,h⟩
  ·exact⟨p,by simp[hp],h⟩
theorem FL (q:Al) (l:List Al) (x:Int):Fl (l++[q]) x↔Fl l x\/(q.1<=x/\x<=q.2):=by
 constructor
 ·rintro⟨p,hp,h⟩
  rcases List.mem_append.1 hp with hp|hp
  ·exact .inl ⟨p,hp,h⟩
  ·simp at hp;subst hp;exact .inr h
 ·rintro(⟨p,hp,h⟩|h)
  ·exact⟨p,by simp[hp],h⟩
  ·exact⟨q,by simp,h⟩
theorem EG (q:Al) (l:List Al):GO (l++[q])↔GO l/\(∀p,p∈l->p.2+1<q.1)/\q.1<=q.2:=by
 unfold GO
 rw[List.pairwise_append]
 constructor
 ·rintro⟨⟨h1,_,h2⟩,h3⟩
  exact⟨⟨h1,fun p hp=>h3 p (by simp[hp])⟩,fun p hp=>h2 p hp q (by simp),h3 q (by simp)⟩
 ·rintro⟨⟨h1,h2⟩,h3,h4⟩
  refine⟨⟨h1,by simp,fun a ha b hb=>?_⟩,fun p hp=>?_⟩
  ·simp at hb;subst hb;exact h3 a ha
  ·rcases List.mem_append.1 hp with hp|hp
   ·exact h2 p hp
   ·simp at hp;subst hp;exact h4
theorem QT:GO []:=⟨.nil,fun _ h=>by cases h⟩
theorem EH {q:Al}{l:List Al}(h:GO (q::l)):q.1<=q.2/\(∀p,p∈l->q.2+1<p.1)/\GO l:=by
 obtain⟨h1,h2⟩:=h
 rw[List.pairwise_cons] at h1
 exact⟨h2 q (by simp),h1.1,h1.2,fun p hp=>h2 p (by simp[hp])⟩
theorem OO {q:Al}{l:List Al}(h:GO (q::l)) {x:Int}(hx:Fl (q::l) x):q.1<=x:=by
 obtain⟨h1,h2,h3⟩:=EH h
 rcases (C_ q l x).1 hx with hx|⟨p,hp,hx⟩
 ·exact hx.1
 ·have:=h2 p hp;omega
theorem QS:∀{a b:List Al},GO a->GO b->(∀x,Fl a x↔Fl b x)->a=b
 |[],[],_,_,_=>rfl
 |[],q::b,_,hb,h=>by
  have h1:=EH hb
  exact absurd ((h q.1).2 ((C_ _ _ _).2 (.inl ⟨by omega,h1.1⟩))) (Kb _)
 |q::a,[],ha,_,h=>by
  have h1:=EH ha
  exact absurd ((h q.1).1 ((C_ _ _ _).2 (.inl ⟨by omega,h1.1⟩))) (Kb _)
 |p::a,q::b,ha,hb,h=>by
  obtain⟨p1,p2,p3⟩:=EH ha
  obtain⟨q1,q2,q3⟩:=EH hb
  have e1:p.1=q.1:=by
   have h1:=OO hb ((h p.1).1 ((C_ _ _ _).2 (.inl ⟨by omega,p1⟩)))
   have h2:=OO ha ((h q.1).2 ((C_ _ _ _).2 (.inl ⟨by omega,q1⟩)))
   omega
  have e2:p.2=q.2:=by
   have g1:∀{p q:Al}{a b:List Al},GO (p::a)->GO (q::b)->p.1=q.1->(∀x,Fl (p::a) x->Fl (q::b) x)->p.2<=q.2:=by
    intro p q a b ha hb e h
    obtain⟨p1,p2,p3⟩:=EH ha
    obtain⟨q1,q2,q3⟩:=EH hb
    rcases Classical.em (p.2<=q.2) with hh|hh
    ·exact hh
    ·have:=h (q.2+1) ((C_ _ _ _).2 (.inl ⟨by omega,by omega⟩))
     rcases (C_ _ _ _).1 this with hx|⟨r,hr,hx⟩
     ·omega
     ·have:=q2 r hr;omega
   have:=g1 ha hb e1 fun x=>(h x).1
   have:=g1 hb ha e1.symm fun x=>(h x).2
   omega
  have e3:p=q:=Prod.ext e1 e2
  subst e3
  rw[QS p3 q3 fun x=>?_]
  constructor
  ·intro hx
   rcases (C_ _ _ _).1 ((h x).1 ((C_ _ _ _).2 (.inr hx))) with h1|h1
   ·obtain⟨r,hr,hx⟩:=hx;have:=p2 r hr;omega
   ·exact h1
  ·intro hx
   rcases (C_ _ _ _).1 ((h x).2 ((C_ _ _ _).2 (.inr hx))) with h1|h1
   ·obtain⟨r,hr,hx⟩:=hx;have:=q2 r hr;omega
   ·exact h1
theorem MT {out:List Al}(h:0<out.length):∃init q,out=init++[q]/\Ez out=q/\∀r,out.set (out.length-1) r=init++[r]:=by
 have hne:out≠[]:=by rintro rfl;simp at h
 refine⟨out.dropLast,out.getLast hne,(List.dropLast_concat_getLast hne).symm,?_,fun r=>?_⟩
 ·unfold Ez
  rw[List.getElem?_eq_getElem (by omega),Option.getD_some,List.getLast_eq_getElem]
 ·have e:=(List.dropLast_concat_getLast hne).symm
  have hl:out.length-1=out.dropLast.length:=by simp
  rw[hl]
  conv=>lhs;rw[e]
  rw[List.set_append_right _ _ (by simp)]
  simp
theorem J' (is:Nat->Bool):∀k,GO (Bp is k)/\(∀q,q∈Bp is k->0<=q.1/\q.2<k)/\∀x,Fl (Bp is k) x↔(0<=x/\x<k/\is x.toNat=true)
 |0=>⟨QT,fun q h=>(by cases h),fun x=>⟨fun h=>absurd h (Kb x),fun h=>by omega⟩⟩
 |k+1=>by
  obtain⟨h1,h2,h3⟩:=J' is k
  have hx1:∀x:Int,(0<=x/\x<((k+1:Nat):Int)/\is x.toNat=true)↔(0<=x/\x<k/\is x.toNat=true)\/(x=k/\is k=true):=fun x=>by
   constructor
   ·rintro⟨a,b,c⟩
    rcases (show x<k\/x=k by omega) with h|h
    ·exact .inl ⟨a,h,c⟩
    ·exact .inr ⟨h,by rw[h] at c;simpa using c⟩
   ·rintro(⟨a,b,c⟩|⟨a,b⟩)
    ·exact⟨a,by omega,c⟩
    ·refine⟨by omega,by omega,?_⟩;rw[a];simpa using b
  simp only[Bp]
  split
  ·rename_i hk
   unfold J5
   split
   ·rename_i hc
    obtain⟨init,q,e1,e2,e3⟩:=MT hc.1
    rw[e3,e2]
    rw[e2] at hc
    rw[e1] at h1 h2 h3
    obtain⟨n1,n2,n3⟩:=(EG _ _).1 h1
    have hq:=h2 q (by simp)
    refine⟨(EG _ _).2 ⟨n1,n2,by simp only;omega⟩,fun p hp=>?_,fun x=>?_⟩
    ·rcases List.mem_append.1 hp with hp|hp
     ·have:=h2 p (by simp[hp]);omega
     ·simp at hp;subst hp;simp only;omega
    ·rw[hx1,←h3,FL,FL]
     simp only
     constructor
     ·rintro(h|h)
      ·exact .inl (.inl h)
      ·rcases (show x<=q.2\/x=k by omega) with h'|h'
       ·exact .inl (.inr ⟨h.1,h'⟩)
       ·exact .inr ⟨h',hk⟩
     ·rintro((h|h)|h)
      ·exact .inl h
      ·exact .inr ⟨h.1,by omega⟩
      ·exact .inr ⟨by omega,by omega⟩
   ·rename_i hc
    have hall:∀p,p∈Bp is k->p.2+1<(k:Int):=fun p hp=>by
     have hpos:0<(Bp is k).length:=by cases hh:Bp is k with|nil=>rw[hh] at hp;cases hp|cons _ _=>simp
     obtain⟨init,q,e1,e2,e3⟩:=MT hpos
     have hq:=h2 q (by rw[e1];simp)
     have hne:¬q.2=(k:Int)-1:=fun h=>hc ⟨hpos,by rw[e2];exact h⟩
     rw[e1] at hp h1
     obtain⟨n1,n2,n3⟩:=(EG _ _).1 h1
     rcases List.mem_append.1 hp with hp|hp
     ·have:=n2 p hp;omega
     ·simp at hp;subst hp;omega
    refine⟨(EG _ _).2 ⟨h1,hall,by simp⟩,fun p hp=>?_,fun x=>?_⟩
    ·rcases List.mem_append.1 hp with hp|hp
     ·have:=h2 p hp;omega
     ·simp at hp;subst hp;simp only;omega
    ·rw[hx1,←h3,FL]
     simp only
     constructor
     ·rintro(h|h)
      ·exact .inl h
      ·exact .inr ⟨by omega,hk⟩
     ·rintro(h|h)
      ·exact .inl h
      ·exact .inr ⟨by omega,by omega⟩
  ·rename_i hk
   refine⟨h1,fun p hp=>by have:=h2 p hp;omega,fun x=>?_⟩
   rw[hx1,←h3]
   constructor
   ·exact .inl
   ·rintro(h|h)
    ·exact h
    ·exact absurd h.2 hk
theorem QY {out:List Al}{q:Al}(h:GO out) (hq:q.1<=q.2) (hlo:∀p,p∈out->p.1<=q.1) :
  GO (Ee out q)/\(∀x,Fl (Ee out q) x↔Fl out x\/(q.1<=x/\x<=q.2))/\∀p,p∈Ee out q->p.1<=q.1:=by
 unfold Ee
 split
 ·rename_i hc
  obtain⟨init,r,e1,e2,e3⟩:=MT hc.1
  rw[e3,e2]
  rw[e2] at hc
  rw[e1] at h hlo
  obtain⟨n1,n2,n3⟩:=(EG _ _).1 h
  have hr:=hlo r (by simp)
  refine⟨(EG _ _).2 ⟨n1,n2,by simp only;omega⟩,fun x=>?_,fun p hp=>?_⟩
  ·rw[e1,FL,FL]
   simp only
   constructor
   ·rintro(h|h)
    ·exact .inl (.inl h)
    ·rcases (show x<=r.2\/(q.1<=x/\x<=q.2) by omega) with h'|h'
     ·exact .inl (.inr ⟨h.1,h'⟩)
     ·exact .inr h'
   ·rintro((h|h)|h)
    ·exact .inl h
    ·exact .inr ⟨h.1,by omega⟩
    ·exact .inr ⟨by omega,by omega⟩
  ·rcases List.mem_append.1 hp with hp|hp
   ·exact hlo p (by simp[hp])
   ·simp at hp;subst hp;exact hr
 ·rename_i hc
  refine⟨(EG _ _).2 ⟨h,fun p hp=>?_,hq⟩,fun x=>FL _ _ _,fun p hp=>?_⟩
  ·have hpos:0<out.length:=by cases out with|nil=>cases hp|cons _ _=>simp
   obtain⟨init,r,e1,e2,e3⟩:=MT hpos
   have hne:¬q.1-1<=r.2:=fun h=>hc ⟨hpos,by rw[e2];exact h⟩
   rw[e1] at hp h
   obtain⟨n1,n2,n3⟩:=(EG _ _).1 h
   rcases List.mem_append.1 hp with hp|hp
   ·have:=n2 p hp;omega
   ·simp at hp;subst hp;omega
  ·rcases List.mem_append.1 hp with hp|hp
   ·exact hlo p hp
   ·simp at hp;subst hp;omega
theorem PN {M last:Int}(hM:0<=M) {E:List Al}(hE:GO E) (hb:∀q,q∈E->0<=q.1/\q.2<=last) :
  GO (EA M last E)/\∀x,Fl (EA M last E) x↔(0<=x/\x<=last/\∃y,Fl E y/\x-y<=M/\y-x<=M):=by
 have key:∀(E:List Al) (out:List Al),GO E->(∀q,q∈E->0<=q.1/\q.2<=last)->GO out->(∀p,p∈out->∀q,q∈E->p.1<=(EK M last q).1) ->
   GO (E.foldl (fun out q=>Ee out (EK M last q)) out)/\∀x,Fl (E.foldl (fun out q=>Ee out (EK M last q)) out) x↔(Fl out x\/∃q,q∈E/\(EK M last q).1<=x/\x<=(EK M last q).2):=by
  intro E
  induction E with
  |nil=>intro out _ _ h _;exact⟨h,fun x=>by simp⟩
  |cons q E ih =>
   intro out hE hb ho hlo
   obtain⟨n1,n2,n3⟩:=EH hE
   have hq:=hb q (by simp)
   have hw:(EK M last q).1<=(EK M last q).2:=by simp only[EK];omega
   obtain⟨m1,m2,m3⟩:=QY ho hw fun p hp=>hlo p hp q (by simp)
   simp only[List.foldl_cons]
   obtain⟨i1,i2⟩:=ih (Ee out (EK M last q)) n3 (fun p hp=>hb p (by simp[hp])) m1 fun p hp r hr=>by
    have h1:=m3 p hp
    have h2:=n2 r hr
    simp only[EK] at h1 ⊢
    omega
   refine⟨i1,fun x=>?_⟩
   rw[i2,m2]
   simp only[List.mem_cons]
   constructor
   ·rintro((h|h)|⟨r,hr,h⟩)
    ·exact .inl h
    ·exact .inr ⟨q,.inl rfl,h⟩
    ·exact .inr ⟨r,.inr hr,h⟩
   ·rintro(h|⟨r,rfl|hr,h⟩)
    ·exact .inl (.inl h)
    ·exact .inl (.inr h)
    ·exact .inr ⟨r,hr,h⟩
 obtain⟨k1,k2⟩:=key E [] hE hb QT fun p hp=>by cases hp
 refine⟨k1,fun x=>?_⟩
 unfold EA
 rw[k2]
 constructor
 ·rintro(h|⟨q,hq,h1,h2⟩)
  ·exact absurd h (Kb _)
  ·have:=hb q hq
   have hqq:=hE.2 q hq
   simp only[EK] at h1 h2
   refine⟨by omega,by omega,max q.1 (min x q.2),⟨q,hq,by omega,by omega⟩,by omega,by omega⟩
 ·rintro⟨h1,h2,y,⟨q,hq,h3,h4⟩,h5,h6⟩
  refine .inr ⟨q,hq,?_,?_⟩<;>simp only[EK]<;>omega
theorem Uo {s:AH}(h:s.ok=true) (l:List Al):GO (s.endsL l)/\(∀q,q∈s.endsL l->0<=q.1/\q.2<=s.last)/\∀x,Fl (s.endsL l) x↔(0<=x/\x<=s.last/\(s.endL l)[x.toNat]?.getD 0<=s.wrong):=by
 obtain⟨h1,h2,h3⟩:=J' (fun p=>decide ((s.endL l)[p]?.getD 0<=s.wrong)) (s.endL l).length
 have hz:=Ff h l
 refine⟨h1,fun q hq=>by have:=h2 q hq;omega,fun x=>?_⟩
 rw[AH.endsL,h3,hz,decide_eq_true_eq]
 constructor
 ·rintro⟨a,b,c⟩;exact⟨a,by omega,c⟩
 ·rintro⟨a,b,c⟩;exact⟨a,by omega,c⟩
theorem R_ {s:AH}(h:s.ok=true) (l:List Al) {more:Int}(hm:0<=more):GO (s.laterL l more) /\
  ∀x,Fl (s.laterL l more) x↔(0<=x/\x<=s.last/\∃y,(0<=y/\y<=s.last/\(s.endL l)[y.toNat]?.getD 0<=s.wrong)/\x-y<=more*s.move/\y-x<=more*s.move):=by
 obtain⟨e1,e2,e3⟩:=Uo h l
 obtain⟨l1,l2⟩:=PN (M:=more*s.move) (last:=s.last) (Int.mul_nonneg hm (by have:=AH.ok_head h;omega)) e1 e2
 refine⟨l1,fun x=>?_⟩
 rw[AH.laterL,l2]
 constructor
 ·rintro⟨a,b,y,hy,c⟩;exact⟨a,b,y,(e3 y).1 hy,c⟩
 ·rintro⟨a,b,y,hy,c⟩;exact⟨a,b,y,(e3 y).2 hy,c⟩
end Go.Pw
end
section
open Go Go.Pw Go.Proofs
namespace Go.Pw
def AH.cst (s:AH) (l:List Al) (P:Nat->Int):Nat->Int
 |0=>0
 |i+1=>s.cst l P i+s.cost l i (P i)
def AH.okP (s:AH) (P:Nat->Int) (n:Nat):Prop:=(∀j,j<n->0<=P j/\P j<=s.last)/\∀j,j+1<n->P (j+1)-P j<=s.move/\P j-P (j+1)<=s.move
theorem Za {s:AH}{P:Nat->Int}{n m:Nat}(h:s.okP P n) (hm:m<=n):s.okP P m:=⟨fun j hj=>h.1 j (by omega),fun j hj=>h.2 j (by omega)⟩
theorem U7 (s:AH) {j:Nat}(h:j<s.zero.length):s.zero[j]?.getD 0=0:=by
 simp only[AH.zero,List.length_replicate] at h ⊢;simp[h]
theorem Vh {s:AH}(h:s.ok=true) (l:List Al) {P:Nat->Int}:∀(i:Nat),s.okP P (i+1)->(s.pre l (i+1))[(P i).toNat]?.getD 0<=s.cst l P (i+1)
 |0,hp=>by
  have hz:=GQ h
  have h0:=hp.1 0 (by omega)
  rw[Ht,IY _ _ _ _ (by rw[K2];omega),show ((P 0).toNat:Int)=P 0 by omega]
  simp only[AH.cst,AH.base,if_pos]
  rw[U7 s (by omega)];omega
 |i+1,hp=>by
  have hz:=GQ h
  have h0:=hp.1 (i+1) (by omega)
  have h1:=hp.1 i (by omega)
  have h2:=hp.2 i (by omega)
  have ih:=Vh h l i (Za hp (by omega))
  rw[Ht,IY _ _ _ _ (by rw[K2];omega),show ((P (i+1)).toNat:Int)=P (i+1) by omega]
  have hb:s.base l (i+1)=H5 s.move (s.pre l (i+1)):=by rw[AH.base,if_neg (by omega)]
  have hn:=(H6 (m:=s.move) (r:=s.pre l (i+1)) (p:=(P (i+1)).toNat) (by have:=AH.ok_head h;omega) (by rw[Dy];omega)).2 (P i).toNat (by rw[Dy];omega) (by omega) (by omega)
  rw[hb,LK (by rw[Dy];omega)]
  rw[AH.cst]
  omega
theorem Z6 {s:AH}(h:s.ok=true) {l:List Al}{P:Nat->Int}(hl:1<=l.length) (hp:s.okP P l.length):(s.endL l)[(P (l.length-1)).toNat]?.getD 0<=s.cst l P l.length:=by
 have:=Vh h l (l.length-1) (by rw[show l.length-1+1=l.length by omega];exact hp)
 rwa [show l.length-1+1=l.length by omega] at this
end Go.Pw
end
section
open Go Go.Pw Go.Proofs
namespace Go.Pw
set_option maxRecDepth 100000
set_option maxHeartbeats 1600000
attribute [local congr] DH Bv Bw BW DJ Bd Bf Be BV BH A' A0 BZ BA Ba BF Bc BG B1 CX BE B4 B5 B2 Bz B0 Bu DI Bx BX BC BB BD Bb B3
attribute [local irreducible] IntKind.wrap BR Option.getD and or
def OJ (p:List Int):Nat->Int:=fun j=>p[j]?.getD 0
theorem Vo (p:List Int) (j:Nat):OJ p j=p[j]?.getD 0:=rfl
theorem Vn {s:AH}{n:Nat}{p:List Int}(h:s.PathP n p):s.okP (OJ p) n:=by
 obtain⟨h1,h2,h3⟩:=h
 rw[←h1];exact⟨h2,h3⟩
def AH.misread (s:AH) (l:List Al) (p:List Int):Int:=s.cst l (OJ p) p.length
theorem KL (s:AH) (nl:Bool) (l:List Al) (h:s.check l=0) (np:Bool) (p:List Int) (hp:s.PathP l.length p) :
  C6 E0 Hc [Cl s,.list nl (BO l),.list np (CT p)] (.int .i64 (s.misread l p)):=by
 refine AU Kt A1 (by simp) fun hwf=>?_
 obtain⟨hok,ha,h24⟩:=Dq h
 have hd:=AH.ok_head hok
 have hlb:=Cp hok
 rw[Ae];unfold Gc
 have hpl:=hp.1
 (try (simp -implicitDefEqProofs only[go_sem,AI,AG]));repeat' first|(with_reducible first|exact tI|refine aI ?_ ?_|intro _)|((first|with_reducible refine AW ?_ ?_<;>intro _)<;>try (simp -implicitDefEqProofs only[go_sem,AI,AG]))|simp (disch:=omega) only[Au]|((with_reducible refine BN ?_);refine⟨(_,_),rfl,?_,?_⟩)
 refine A5 (α:=Int×Int) (l0:=?l1) (m0:=?m1) (fun x=>[(8,.d (.int .i64 x.1)),(7,.d (.int .i64 x.2))]) (fun x=>[]) (fun x=>0<=x.1/\x.1<=p.length/\x.2=s.cst l (OJ p) x.1.toNat/\0<=x.2/\x.2<=x.1) (fun x=>(p.length-x.1).toNat) (?a1_0,?a1_1) ?h01 ?he1 ?he21 ?hI1 ?step1
 case h01=>(simp -implicitDefEqProofs only[go_sem,AI,AG];rfl)
 case he1=>rfl
 case he21=>rfl
 case' step1=>(rintro⟨i,n⟩ hI;try dsimp only at hI)
 case' hI1=>try dsimp only
 ·exact⟨by omega,by omega,rfl,by omega,by omega⟩
 ·obtain⟨h1,h2,h3,h4,h5⟩:=hI
  by_cases hi:i<p.length
  ·have hpi:=hp.2.1 i.toNat (by omega)
   have hwo:=K4.1 ha i.toNat (by omega)
   have cA:=LE s hok (l[i.toNat]?.getD default) hwo i (p[i.toNat]?.getD 0) (by omega) (by omega)
   have hst:s.cst l (OJ p) (i+1).toNat=n+s.cost l i (p[i.toNat]?.getD 0):=by
    rw[show (i+1).toNat=i.toNat+1 by omega,AH.cst,←h3,show ((i.toNat:Nat):Int)=i by omega,Vo]
   rw[AI,AG,Aj] at cA
   have wn:IntKind.i64.wrap (n+1)=n+1:=Aw _ (by omega)
   unfold AH.cost at hst
   cases hb:s.agrees (l[i.toNat]?.getD default) i (p[i.toNat]?.getD 0) with
   |true =>
    rw[hb] at cA
    rw[hb,if_pos rfl] at hst
    (try (simp -implicitDefEqProofs only[go_sem,AI,AG,AL,Ag,A3,Aj]));repeat' first|(with_reducible first|exact tI|refine aI ?_ ?_|intro _)|((first|with_reducible refine AW ?_ ?_<;>intro _|(with_reducible refine isCall ?_);first|refine AD cA ?_)<;>try (simp -implicitDefEqProofs only[go_sem,AI,AG,AL,Ag,A3,Aj]))|simp (disch:=omega) only[Au]|((with_reducible refine BN ?_);refine⟨(_,_),rfl,?_,?_⟩)
    all_goals first|omega|(simp<;>omega)|skip
   |false =>
    rw[hb] at cA
    rw[hb,if_neg (by simp)] at hst
    (try (simp -implicitDefEqProofs only[go_sem,AI,AG,AL,Ag,A3,Aj,wn]));repeat' first|(with_reducible first|exact tI|refine aI ?_ ?_|intro _)|((first|with_reducible refine AW ?_ ?_<;>intro _|(with_reducible refine isCall ?_);first|refine AD cA ?_)<;>try (simp -implicitDefEqProofs only[go_sem,AI,AG,AL,Ag,A3,Aj,wn]))|simp (disch:=omega) only[Au]|((with_reducible refine BN ?_);refine⟨(_,_),rfl,?_,?_⟩)
    all_goals first|omega|(simp<;>omega)|skip
  ·have:i.toNat=p.length:=by omega
   rw[this] at h3
   change n=s.misread l p at h3
   rw[←h3]
   (try (simp -implicitDefEqProofs only[go_sem]));repeat' first|(with_reducible first|exact tI|refine aI ?_ ?_|intro _)|((first|with_reducible refine AW ?_ ?_<;>intro _)<;>try (simp -implicitDefEqProofs only[go_sem]))|simp (disch:=omega) only[Au]|((with_reducible refine BN ?_);refine⟨(_,_),rfl,?_,?_⟩)
   all_goals first|omega|(simp<;>omega)|skip
def AH.at (s:AH) (p q:List Int) (i:Nat):Int:=if i=0 then p[p.length-1]?.getD 0 else q[i-1]?.getD 0
def AH.PossP (s:AH) (l:List Al) (p q:List Int):Prop:=p.length<=40/\q.length<=12/\s.PathP l.length p/\s.misread l p<=s.wrong/\0<p.length /\
 ∀i:Nat,i<q.length->0<=q[i]?.getD 0/\q[i]?.getD 0<=s.last/\q[i]?.getD 0-s.at p q i<=s.move/\s.at p q i-q[i]?.getD 0<=s.move
end Go.Pw
end
