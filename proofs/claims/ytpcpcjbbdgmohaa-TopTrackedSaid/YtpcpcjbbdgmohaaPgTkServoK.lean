/- A part of the proof. -/
import Derived.Test.YtpcpcjbbdgmohaaPgTkServoG
set_option linter.all false
section
open Go Go.Pw Go.Proofs
namespace Go.Pw
set_option maxRecDepth 100000
set_option maxHeartbeats 1600000
attribute [local congr] DH Bv Bw BW DJ Bd Bf Be BV BH A' A0 BZ BA Ba BF Bc BG B1 CX BE B4 B5 B2 Bz B0 Bu DI Bx BX BC BB BD Bb B3
attribute [local irreducible] IntKind.wrap BR Option.getD and or
def Ee (out:List Al) (q:Al):List Al :=
 if 0<out.length/\q.1-1<=(Ez out).2 then out.set (out.length-1) ((Ez out).1,max (Ez out).2 q.2) else out++[q]
def EK (M last:Int) (q:Al):Al:=(max 0 (q.1-M),min last (q.2+M))
def EA (M last:Int) (E:List Al):List Al:=E.foldl (fun out q=>Ee out (EK M last q)) []
def AH.laterL (s:AH) (l:List Al) (more:Int):List Al:=EA (more*s.move) s.last (s.endsL l)
theorem Lu {α β:Type} [Inhabited α] {f:β->α->β}{l:List α}{i:Nat}(x:β) (h:i<l.length):(l.take (i+1)).foldl f x=f ((l.take i).foldl f x) (l[i]?.getD default):=by
 rw[List.take_add_one,List.getElem?_eq_getElem h,Option.getD_some]
 simp only[Option.toList,List.foldl_append,List.foldl_cons,List.foldl_nil]
theorem R2 (out:List Al) (q:Al):(Ee out q).length<=out.length+1:=by unfold Ee;split<;>simp
theorem H' (M last:Int) (E:List Al):∀i,i<=E.length->(EA M last (E.take i)).length<=i
 |0,_=>by simp[EA]
 |i+1,h=>by
  have ih:=H' M last E i (by omega)
  unfold EA at ih ⊢
  rw[Lu _ (by omega)]
  have:=R2 ((E.take i).foldl (fun out q=>Ee out (EK M last q)) []) (EK M last (E[i]?.getD default))
  omega
theorem R1 {s:AH}(h:s.ok=true) {more:Int}(hm:0<=more/\more<=24):0<=more*s.move/\more*s.move<=1536:=by
 have hd:=AH.ok_head h
 have h1:more*s.move<=24*s.move:=Int.mul_le_mul_of_nonneg_right hm.2 (by omega)
 have h2:0<=more*s.move:=Int.mul_nonneg hm.1 (by omega)
 omega
theorem L9 (s:AH) (h:s.ok=true) (nl:Bool) (l:List Al) (hl:l.all BS=true) (h24:l.length<=24) (more:Int) (hm:0<=more/\more<=24) :
  C6 E0 Fn [.ptr (JT s nl l),.int .i64 more] (.list (s.laterL l more).isEmpty (BO (s.laterL l more))):=by
 refine AU II A1 (by simp) fun hwf=>?_
 have hd:=AH.ok_head h
 have hb:=Cp h
 have hmb:=R1 h hm
 have c1:=Mr s h nl l hl h24
 have hz:=Ff h l
 have hEl:(s.endsL l).length<=1009:=by have:=Fv (fun p=>decide ((s.endL l)[p]?.getD 0<=s.wrong)) (s.endL l).length;unfold AH.endsL;omega
 have hE:=Jo (fun p=>decide ((s.endL l)[p]?.getD 0<=s.wrong)) (s.endL l).length
 change ∀j,j<(s.endsL l).length->0<=((s.endsL l)[j]?.getD default).1/\((s.endsL l)[j]?.getD default).1<=((s.endsL l)[j]?.getD default).2/\((s.endsL l)[j]?.getD default).2<(s.endL l).length at hE
 unfold AH.laterL
 have wM:IntKind.i64.wrap (more*s.move)=more*s.move:=Aw _ (by omega)
 generalize s.endsL l=E at *
 obtain⟨M,hM⟩:∃M,more*s.move=M:=⟨_,rfl⟩
 rw[hM] at hmb wM
 rw[hM]
 rw[Ae];unfold FA
 (try (simp -implicitDefEqProofs only[go_sem,Ad]));repeat' first|(with_reducible first|exact tI|refine aI ?_ ?_|intro _)|((first|with_reducible refine AW ?_ ?_<;>intro _|(with_reducible refine isCall ?_);first|refine AD c1 ?_)<;>try (simp -implicitDefEqProofs only[go_sem,Ad]))|simp (disch:=omega) only[Au]|((with_reducible refine A6 ?_);refine⟨(_,_,_),rfl,?_,?_⟩)
 all_goals first|omega|(simp<;>omega)|skip
 refine A5 (α:=Int×(List Al)×Bool) (l0:=?l1) (m0:=?m1) (fun x=>[(12,.d (.int .i64 x.1))]) (fun x=>[(74,.row 50 2 x.2.2 (BO x.2.1))]) (fun x=>0<=x.1/\x.1<=E.length/\x.2.1=EA M s.last (E.take x.1.toNat)/\x.2.2=x.2.1.isEmpty) (fun x=>(E.length-x.1).toNat) (?a1_0,[],true) ?h01 ?he1 ?he21 ?hI1 ?step1
 case h01=>(simp -implicitDefEqProofs only[go_sem,Ad,AL];rfl)
 case he1=>rfl
 case he21=>rfl
 case' step1=>(rintro⟨i,out,b⟩ hI;try dsimp only at hI)
 case' hI1=>try dsimp only
 ·exact⟨by omega,by omega,rfl,rfl⟩
 ·obtain⟨h1,h2,h3,hb0⟩:=hI
  by_cases hi:i<E.length
  ·have hle:=H' M s.last E i.toNat (by omega)
   have hnx:EA M s.last (E.take (i+1).toNat)=Ee (EA M s.last (E.take i.toNat)) (EK M s.last (E[i.toNat]?.getD default)):=by
    rw[show (i+1).toNat=i.toNat+1 by omega];unfold EA;rw[Lu _ (by omega)]
   rw[←h3] at hle hnx
   have hq:=hE i.toNat (by omega)
   obtain⟨⟨x,y⟩,hxy⟩:∃q,E[i.toNat]?.getD default=q:=⟨_,rfl⟩
   rw[hxy] at hnx hq
   change 0<=x/\x<=y/\y<_ at hq
   have w1:IntKind.i64.wrap (x-M)=x-M:=Aw _ (by omega)
   have w2:IntKind.i64.wrap (y+M)=y+M:=Aw _ (by omega)
   have w3:IntKind.i64.wrap (max 0 (x-M)-1)=max 0 (x-M)-1:=Aw _ (by omega)
   have hk:IntKind.i64.wrap ((out.length:Int)-1)=(out.length:Int)-1:=Aw _ (by omega)
   have hk':((out.length:Int)-1).toNat=out.length-1:=by omega
   have hlp:out[out.length-1]?.getD default=Ez out:=rfl
   rw[Ee,show (EK M s.last (x,y)).1=max 0 (x-M) from rfl,show (EK M s.last (x,y)).2=min s.last (y+M) from rfl,show EK M s.last (x,y)=(max 0 (x-M),min s.last (y+M)) from rfl] at hnx
   by_cases h0:0<out.length
   ·have hge:(0:Int)<=(out.length:Int)-1:=by omega
    by_cases he:max 0 (x-M)-1<=(Ez out).2
    ·rw[if_pos ⟨h0,he⟩] at hnx
     (try (simp -implicitDefEqProofs only[go_sem,Ad,hM,wM,w1,w2,w3,hk,hk',hge,AL,Ag,A3,Aj,hxy,hlp,he,Dl]));repeat' first|(with_reducible first|exact tI|refine aI ?_ ?_|intro _)|((first|with_reducible refine AW ?_ ?_<;>intro _)<;>try (simp -implicitDefEqProofs only[go_sem,Ad,hM,wM,w1,w2,w3,hk,hk',hge,AL,Ag,A3,Aj,hxy,hlp,he,Dl]))|simp (disch:=omega) only[Au]|((with_reducible refine A6 ?_);refine⟨(_,_,_),rfl,?_,?_⟩)
     all_goals first|omega|(simp<;>omega)|skip
     all_goals first|exact hnx.symm|(rw[IB];exact hb0)|skip
    ·rw[if_neg (by omega)] at hnx
     (try (simp -implicitDefEqProofs only[go_sem,Ad,hM,wM,w1,w2,w3,hk,hk',hge,AL,Ag,A3,Aj,hxy,hlp,he,Dl,DG]));repeat' first|(with_reducible first|exact tI|refine aI ?_ ?_|intro _)|((first|with_reducible refine AW ?_ ?_<;>intro _)<;>try (simp -implicitDefEqProofs only[go_sem,Ad,hM,wM,w1,w2,w3,hk,hk',hge,AL,Ag,A3,Aj,hxy,hlp,he,Dl,DG]))|simp (disch:=omega) only[Au]|((with_reducible refine A6 ?_);refine⟨(_,_,_),rfl,?_,?_⟩)
     all_goals first|omega|(simp<;>omega)|skip
     all_goals first|exact hnx.symm|exact(DQ _ _).symm|skip
   ·have hge:¬(0:Int)<=(out.length:Int)-1:=by omega
    rw[if_neg (by omega)] at hnx
    (try (simp -implicitDefEqProofs only[go_sem,Ad,hM,wM,w1,w2,w3,hk,hk',hge,AL,Ag,A3,Aj,hxy,hlp,DG]));repeat' first|(with_reducible first|exact tI|refine aI ?_ ?_|intro _)|((first|with_reducible refine AW ?_ ?_<;>intro _)<;>try (simp -implicitDefEqProofs only[go_sem,Ad,hM,wM,w1,w2,w3,hk,hk',hge,AL,Ag,A3,Aj,hxy,hlp,DG]))|simp (disch:=omega) only[Au]|((with_reducible refine A6 ?_);refine⟨(_,_,_),rfl,?_,?_⟩)
    all_goals first|omega|(simp<;>omega)|skip
    all_goals first|exact hnx.symm|exact(DQ _ _).symm|skip
  ·have:E.take i.toNat=E:=List.take_of_length_le (by omega)
   rw[this] at h3
   rw[←h3,←hb0]
   (try (simp -implicitDefEqProofs only[go_sem]));repeat' first|(with_reducible first|exact tI|refine aI ?_ ?_|intro _)|((first|with_reducible refine AW ?_ ?_<;>intro _)<;>try (simp -implicitDefEqProofs only[go_sem]))|simp (disch:=omega) only[Au]|((with_reducible refine A6 ?_);refine⟨(_,_,_),rfl,?_,?_⟩)
   all_goals first|omega|(simp<;>omega)|skip
end Go.Pw
end
section
open Go Go.Pw Go.Proofs
namespace Go.Pw
set_option maxRecDepth 100000
set_option maxHeartbeats 1600000
attribute [local congr] DH Bv Bw BW DJ Bd Bf Be BV BH A' A0 BZ BA Ba BF Bc BG B1 CX BE B4 B5 B2 Bz B0 Bu DI Bx BX BC BB BD Bb B3
attribute [local irreducible] IntKind.wrap BR Option.getD and or
theorem VJ {V:AK}{o g:Nat}:AV.snap V (.ptr o g 0)=match V.get o g with
 |some (.cells xs)=>match Ak AV.toD1 xs with|some (c::l)=>some (.ptr (c::l))|_=>none
 |_=>none:=rfl
theorem Dq {s:AH}{l:List Al}(h:s.check l=0):s.ok=true/\l.all BS=true/\l.length<=24:=by
 unfold AH.check at h
 split at h
 ·omega
 ·rename_i h1
  split at h
  ·omega
  ·rename_i h2
   simp at h1 h2
   exact⟨h1,by simpa using h2.2,h2.1⟩
theorem JM (s:AH) (nl:Bool) (l:List Al) (h:s.check l=0) :
  C6 E0 HA [Cl s,.list nl (BO l)] (.tup [.ptr (JT s nl l),.int .i64 0]):=by
 refine AU IH A1 (by simp) fun hwf=>?_
 have c1:=HD s nl l
 rw[h] at c1
 obtain⟨hok,_,_⟩:=Dq h
 have hd:=AH.ok_head hok
 have hb:=Cp hok
 have w1:IntKind.i64.wrap (s.tracks-1)=s.tracks-1:=Aw _ (by omega)
 have w2:IntKind.i64.wrap (s.step*(s.tracks-1))=s.step*(s.tracks-1):=Aw _ (by unfold AH.last at hb;omega)
 have hls:s.step*(s.tracks-1)=s.last:=rfl
 rw[AI,AG] at c1
 rw[Ae];unfold GJ
 (try (simp -implicitDefEqProofs only[go_sem,AI,AG,w1,w2,hls,Ad,VJ]));repeat' first|(with_reducible first|exact tI|refine aI ?_ ?_|intro _)|((first|with_reducible refine AW ?_ ?_<;>intro _|(with_reducible refine isCall ?_);first|refine AD c1 ?_)<;>try (simp -implicitDefEqProofs only[go_sem,AI,AG,w1,w2,hls,Ad,VJ]))|simp (disch:=omega) only[Au]
 all_goals first|omega|(simp<;>omega)|skip
theorem Mn (s:AH) (nl:Bool) (l:List Al) (h:¬s.check l=0) :
  C6 E0 HA [Cl s,.list nl (BO l)] (.tup [.nilptr,.int .i64 (s.check l)]):=by
 refine AU IH A1 (by simp) fun hwf=>?_
 have c1:=HD s nl l
 rw[AI,AG] at c1
 rw[Ae];unfold GJ
 (try (simp -implicitDefEqProofs only[go_sem,AI,AG,h]));repeat' first|(with_reducible first|exact tI|refine aI ?_ ?_|intro _)|((first|with_reducible refine AW ?_ ?_<;>intro _|(with_reducible refine isCall ?_);first|refine AD c1 ?_)<;>try (simp -implicitDefEqProofs only[go_sem,AI,AG,h]))|simp (disch:=omega) only[Au]
 all_goals first|omega|(simp<;>omega)|skip
def AH.known (s:AH) (l:List Al) (told:Bool):Int :=
 if s.check l=0 then (if told then (if s.wrong<H7 (s.endL l) then 3 else 0) else 1) else s.check l
theorem NA {s:AH}{l:List Al}{told:Bool}(h:s.known l told=0):s.check l=0/\told=true/\¬s.wrong<H7 (s.endL l):=by
 unfold AH.known at h
 split at h
 ·split at h
  ·split at h
   ·omega
   ·exact⟨by assumption,by assumption,by assumption⟩
  ·omega
 ·exact absurd h (by assumption)
theorem Mq (s:AH) (nl:Bool) (l:List Al) (told:Bool) (h:s.known l told=0) :
  C6 E0 GP [Cl s,.list nl (BO l),.bool told] (.tup [.ptr (JT s nl l),.int .i64 0]):=by
 refine AU HV A1 (by simp) fun hwf=>?_
 obtain⟨hc,ht,hm⟩:=NA h
 subst ht
 have c1:=JM s nl l hc
 obtain⟨hok,ha,h24⟩:=Dq hc
 have hd:=AH.ok_head hok
 have hz:=Ff hok l
 have hb:=Cp hok
 have c2:=GH s hok nl l ha h24
 have c3:=FO false (s.endL l) (by omega)
 rw[AI,AG] at c1
 rw[Ad] at c1 c2
 rw[Ae];unfold FR
 (try (simp -implicitDefEqProofs only[go_sem,AI,AG,Ad,hm]));repeat' first|(with_reducible first|exact tI|refine aI ?_ ?_|intro _)|((first|with_reducible refine AW ?_ ?_<;>intro _|(with_reducible refine isCall ?_);first|refine AD c1 ?_|refine AD c2 ?_|refine AD c3 ?_)<;>try (simp -implicitDefEqProofs only[go_sem,AI,AG,Ad,hm]))|simp (disch:=omega) only[Au]
 all_goals first|omega|(simp<;>omega)|skip
theorem L_ (s:AH) (nl:Bool) (l:List Al) (told:Bool) (h:¬s.known l told=0) :
  C6 E0 GP [Cl s,.list nl (BO l),.bool told] (.tup [.nilptr,.int .i64 (s.known l told)]):=by
 refine AU HV A1 (by simp) fun hwf=>?_
 rw[Ae];unfold FR
 by_cases hc:s.check l=0
 ·have c1:=JM s nl l hc
  obtain⟨hok,ha,h24⟩:=Dq hc
  have hd:=AH.ok_head hok
  have hz:=Ff hok l
  have hb:=Cp hok
  have c2:=GH s hok nl l ha h24
  have c3:=FO false (s.endL l) (by omega)
  rw[AI,AG] at c1
  rw[Ad] at c1 c2
  cases told with
  |false =>
   have hk:s.known l false=1:=by simp[AH.known,hc]
   rw[hk]
   (try (simp -implicitDefEqProofs only[go_sem,AI,AG,Ad]));repeat' first|(with_reducible first|exact tI|refine aI ?_ ?_|intro _)|((first|with_reducible refine AW ?_ ?_<;>intro _|(with_reducible refine isCall ?_);first|refine AD c1 ?_|refine AD c2 ?_|refine AD c3 ?_)<;>try (simp -implicitDefEqProofs only[go_sem,AI,AG,Ad]))|simp (disch:=omega) only[Au]
   all_goals first|omega|(simp<;>omega)|skip
  |true =>
   have hm:s.wrong<H7 (s.endL l):=by
    rcases Classical.em (s.wrong<H7 (s.endL l)) with h1|h1
    ·exact h1
    ·exact absurd (by simp[AH.known,hc,h1]) h
   have hk:s.known l true=3:=by simp[AH.known,hc,hm]
   rw[hk]
   (try (simp -implicitDefEqProofs only[go_sem,AI,AG,Ad,hm]));repeat' first|(with_reducible first|exact tI|refine aI ?_ ?_|intro _)|((first|with_reducible refine AW ?_ ?_<;>intro _|(with_reducible refine isCall ?_);first|refine AD c1 ?_|refine AD c2 ?_|refine AD c3 ?_)<;>try (simp -implicitDefEqProofs only[go_sem,AI,AG,Ad,hm]))|simp (disch:=omega) only[Au]
   all_goals first|omega|(simp<;>omega)|skip
 ·have c1:=Mn s nl l hc
  have hk:s.known l told=s.check l:=by simp[AH.known,hc]
  rw[hk]
  rw[AI,AG] at c1
  (try (simp -implicitDefEqProofs only[go_sem,AI,AG,hc]));repeat' first|(with_reducible first|exact tI|refine aI ?_ ?_|intro _)|((first|with_reducible refine AW ?_ ?_<;>intro _|(with_reducible refine isCall ?_);first|refine AD c1 ?_)<;>try (simp -implicitDefEqProofs only[go_sem,AI,AG,hc]))|simp (disch:=omega) only[Au]
  all_goals first|omega|(simp<;>omega)|skip
theorem Ms (s:AH) (nl:Bool) (l:List Al) (more:Int) (h:s.known l (EU more 0 24)=0) :
  C6 E0 Er [Cl s,.list nl (BO l),.int .i64 more] (.tup [.list (s.laterL l more).isEmpty (BO (s.laterL l more)),.int .i64 0]):=by
 refine AU HW A1 (by simp) fun hwf=>?_
 have c1:=Mq s nl l _ h
 obtain⟨hc,ht,hm⟩:=NA h
 obtain⟨hok,ha,h24⟩:=Dq hc
 have c0:=Cn more 0 24
 have c2:=L9 s hok nl l ha h24 more (by simpa[EU] using ht)
 rw[ht] at c1 c0
 rw[AI,AG] at c1
 rw[Ae];unfold FW
 (try (simp -implicitDefEqProofs only[go_sem,AI,AG]));repeat' first|(with_reducible first|exact tI|refine aI ?_ ?_|intro _)|((first|with_reducible refine AW ?_ ?_<;>intro _|(with_reducible refine isCall ?_);first|refine AD c0 ?_|refine AD c1 ?_|refine AD c2 ?_)<;>try (simp -implicitDefEqProofs only[go_sem,AI,AG]))|simp (disch:=omega) only[Au]
 all_goals first|omega|(simp<;>omega)|skip
theorem MD (s:AH) (nl:Bool) (l:List Al) (more:Int) (h:¬s.known l (EU more 0 24)=0) :
  C6 E0 Er [Cl s,.list nl (BO l),.int .i64 more] (.tup [.list true [],.int .i64 (s.known l (EU more 0 24))]):=by
 refine AU HW A1 (by simp) fun hwf=>?_
 have c1:=L_ s nl l _ h
 have c0:=Cn more 0 24
 rw[AI,AG] at c1
 rw[Ae];unfold FW
 generalize EU more 0 24=b at *
 cases b<;>((try (simp -implicitDefEqProofs only[go_sem,AI,AG,h]));repeat' first|(with_reducible first|exact tI|refine aI ?_ ?_|intro _)|((first|with_reducible refine AW ?_ ?_<;>intro _|(with_reducible refine isCall ?_);first|refine AD c0 ?_|refine AD c1 ?_)<;>try (simp -implicitDefEqProofs only[go_sem,AI,AG,h]))|simp (disch:=omega) only[Au] )
 all_goals first|omega|(simp<;>omega)|skip
def AH.ahead (s:AH) (l:List Al) (more:Int):List Al×Int:=if s.known l (EU more 0 24)=0 then (s.laterL l more,0) else ([],s.known l (EU more 0 24))
theorem MC (s:AH) (nl:Bool) (l:List Al) (more:Int) :
  C6 E0 Er [Cl s,.list nl (BO l),.int .i64 more] (.tup [.list (s.ahead l more).1.isEmpty (BO (s.ahead l more).1),.int .i64 (s.ahead l more).2]):=by
 by_cases h:s.known l (EU more 0 24)=0
 ·have:=Ms s nl l more h
  simp only[AH.ahead,h,if_true];exact this
 ·have:=MD s nl l more h
  simp only[AH.ahead,h,if_false];exact this
theorem HC (s:AH) (nl:Bool) (l:List Al) :
  C6 E0 Jb [Cl s,.list nl (BO l)] (.tup [.list (s.ahead l 0).1.isEmpty (BO (s.ahead l 0).1),.int .i64 (s.ahead l 0).2]):=by
 refine AU ML A1 (by simp) fun hwf=>?_
 have c1:=MC s nl l 0
 generalize s.ahead l 0=r at *
 rw[AI,AG] at c1
 rw[Ae];unfold Hw
 (try (simp -implicitDefEqProofs only[go_sem,AI,AG]));repeat' first|(with_reducible first|exact tI|refine aI ?_ ?_|intro _)|((first|with_reducible refine AW ?_ ?_<;>intro _|(with_reducible refine isCall ?_);first|refine AD c1 ?_)<;>try (simp -implicitDefEqProofs only[go_sem,AI,AG]))|simp (disch:=omega) only[Au]
 all_goals first|omega|(simp<;>omega)|skip
def AH.fewest (s:AH) (l:List Al):Int×Int:=if s.check l=0 then (H7 (s.endL l),0) else (0,s.check l)
end Go.Pw
end
section
open Go Go.Pw Go.Proofs
namespace Go.Pw
set_option maxRecDepth 100000
set_option maxHeartbeats 1600000
attribute [local congr] DH Bv Bw BW DJ Bd Bf Be BV BH A' A0 BZ BA Ba BF Bc BG B1 CX BE B4 B5 B2 Bz B0 Bu DI Bx BX BC BB BD Bb B3
attribute [local irreducible] IntKind.wrap BR Option.getD and or
def Wb (p:Nat->Bool):Nat->Nat->Nat
 |0,k=>k
 |n+1,k=>if p k then k else Wb p n (k+1)
def AH.stop (s:AH) (l:List Al) (track limit:Int) (k:Nat):Bool :=
 decide (((s.laterL l k)[0]?.getD default).1<s.center track ((l.length:Int)-1+k)-limit) || decide (s.center track ((l.length:Int)-1+k)+limit<(Ez (s.laterL l k)).2)
def AH.told2 (s:AH) (track limit:Int):Bool:=EU track 0 (s.tracks-1) && EU limit 0 16
def AH.gate (s:AH) (l:List Al) (track limit:Int):Int×Int :=
 if s.known l (s.told2 track limit)=0 then (Wb (s.stop l track limit) 24 0,0) else (0,s.known l (s.told2 track limit))
end Go.Pw
end
section
open Go Go.Pw Go.Proofs
namespace Go.Pw
set_option maxRecDepth 100000
set_option maxHeartbeats 1600000
def MW:AH:=⟨4,4,2,1,0,false,[0,1]⟩
def NF:List Al:=[(1,0),(1,1),(3,-1)]
theorem Wc:MW.ahead NF 0=([(6,8)],0):=by decide +kernel
attribute [local congr] DH Bv Bw BW DJ Bd Bf Be BV BH A' A0 BZ BA Ba BF Bc BG B1 CX BE B4 B5 B2 Bz B0 Bu DI Bx BX BC BB BD Bb B3
attribute [local irreducible] IntKind.wrap BR Option.getD and or
theorem Kg:C6 E0 Hf [] (.tup [Cl MW,.list false (BO NF)]):=by
 refine AU Kw A1 (by simp) fun hwf=>?_
 rw[Ae];unfold Gf
 (try (simp -implicitDefEqProofs only[go_sem]));repeat' first|(with_reducible first|exact tI|refine aI ?_ ?_|intro _)|((first|with_reducible refine AW ?_ ?_<;>intro _)<;>try (simp -implicitDefEqProofs only[go_sem]))|simp (disch:=omega) only[Au]
 all_goals first|rfl|skip
end Go.Pw
end
