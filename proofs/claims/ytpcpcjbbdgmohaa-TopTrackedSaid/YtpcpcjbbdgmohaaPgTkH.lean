/- A part of the proof. -/
import Derived.Test.YtpcpcjbbdgmohaaPgTkB
import Derived.Test.YtpcpcjbbdgmohaaPgTkE
set_option linter.all false
section
open Go Go.Pw Go.Proofs
namespace Go.Pw
set_option maxRecDepth 100000
set_option maxHeartbeats 3200000
def TL (a:Ao) (t:Int) (s:BT):Int:=if a.ok then (if Eg t 0 a.last then (if a.has s then 0 else 61) else 1) else 60
attribute [local congr] DH Bv Bw BW DJ Bd Bf Be BV BH A' A0 BZ BA Ba BF Bc BG B1 CX BE B4 B5 B2 Bz B0 Bu DI Bx BX BC BB BD Bb B3
attribute [local irreducible] IntKind.wrap BR Option.getD and or
theorem HF (a:Ao):C6 E0 Jd [Ek a] (.int .i64 (if a.ok then 0 else 60)):=by
 refine AU MN A1 (by simp) fun hwf=>?_
 have c1:=Bk a.last 0 40
 have c2:=Bk a.speed 0 8
 have c3:=Bk a.force 0 4
 have c4:=Bk a.shake 0 2
 have c5:=Bk a.gate 0 4
 have c6:=Bk a.slow 0 a.speed
 rw[Ae];unfold Hy Ao.ok
 generalize Eg a.last 0 40=b1 at *
 generalize Eg a.speed 0 8=b2 at *
 generalize Eg a.force 0 4=b3 at *
 generalize Eg a.shake 0 2=b4 at *
 generalize Eg a.gate 0 4=b5 at *
 generalize Eg a.slow 0 a.speed=b6 at *
 cases b1
 ·(try (simp -implicitDefEqProofs only[go_sem,AM,AF]));repeat' first|(with_reducible first|exact tI|refine aI ?_ ?_|intro _)|((first|with_reducible refine AW ?_ ?_<;>intro _|(with_reducible refine isCall ?_);first|refine AD c1 ?_)<;>try (simp -implicitDefEqProofs only[go_sem,AM,AF]))|simp (disch:=omega) only[Au]
  all_goals first|rfl|(simp;done)
 cases b2
 ·(try (simp -implicitDefEqProofs only[go_sem,AM,AF]));repeat' first|(with_reducible first|exact tI|refine aI ?_ ?_|intro _)|((first|with_reducible refine AW ?_ ?_<;>intro _|(with_reducible refine isCall ?_);first|refine AD c1 ?_|refine AD c2 ?_)<;>try (simp -implicitDefEqProofs only[go_sem,AM,AF]))|simp (disch:=omega) only[Au]
  all_goals first|rfl|(simp;done)
 cases b3
 ·(try (simp -implicitDefEqProofs only[go_sem,AM,AF]));repeat' first|(with_reducible first|exact tI|refine aI ?_ ?_|intro _)|((first|with_reducible refine AW ?_ ?_<;>intro _|(with_reducible refine isCall ?_);first|refine AD c1 ?_|refine AD c2 ?_|refine AD c3 ?_)<;>try (simp -implicitDefEqProofs only[go_sem,AM,AF]))|simp (disch:=omega) only[Au]
  all_goals first|rfl|(simp;done)
 cases b4
 ·(try (simp -implicitDefEqProofs only[go_sem,AM,AF]));repeat' first|(with_reducible first|exact tI|refine aI ?_ ?_|intro _)|((first|with_reducible refine AW ?_ ?_<;>intro _|(with_reducible refine isCall ?_);first|refine AD c1 ?_|refine AD c2 ?_|refine AD c3 ?_|refine AD c4 ?_)<;>try (simp -implicitDefEqProofs only[go_sem,AM,AF]))|simp (disch:=omega) only[Au]
  all_goals first|rfl|(simp;done)
 cases b5
 ·(try (simp -implicitDefEqProofs only[go_sem,AM,AF]));repeat' first|(with_reducible first|exact tI|refine aI ?_ ?_|intro _)|((first|with_reducible refine AW ?_ ?_<;>intro _|(with_reducible refine isCall ?_);first|refine AD c1 ?_|refine AD c2 ?_|refine AD c3 ?_|refine AD c4 ?_|refine AD c5 ?_)<;>try (simp -implicitDefEqProofs only[go_sem,AM,AF]))|simp (disch:=omega) only[Au]
  all_goals first|rfl|(simp;done)
 cases b6
 ·(try (simp -implicitDefEqProofs only[go_sem,AM,AF]));repeat' first|(with_reducible first|exact tI|refine aI ?_ ?_|intro _)|((first|with_reducible refine AW ?_ ?_<;>intro _|(with_reducible refine isCall ?_);first|refine AD c1 ?_|refine AD c2 ?_|refine AD c3 ?_|refine AD c4 ?_|refine AD c5 ?_|refine AD c6 ?_)<;>try (simp -implicitDefEqProofs only[go_sem,AM,AF]))|simp (disch:=omega) only[Au]
  all_goals first|rfl|(simp;done)
 ·(try (simp -implicitDefEqProofs only[go_sem,AM,AF]));repeat' first|(with_reducible first|exact tI|refine aI ?_ ?_|intro _)|((first|with_reducible refine AW ?_ ?_<;>intro _|(with_reducible refine isCall ?_);first|refine AD c1 ?_|refine AD c2 ?_|refine AD c3 ?_|refine AD c4 ?_|refine AD c5 ?_|refine AD c6 ?_)<;>try (simp -implicitDefEqProofs only[go_sem,AM,AF]))|simp (disch:=omega) only[Au]
  all_goals first|rfl|(simp;done)
theorem Hh (a:Ao) (t:Int):C6 E0 FF [Ek a,.int .i64 t] (.int .i64 (if a.ok then (if Eg t 0 a.last then 0 else 1) else 60)):=by
 refine AU Hi A1 (by simp) fun hwf=>?_
 have c1:=HF a
 have c2:=Bk t 0 a.last
 rw[Ae];unfold Ew
 rw[AM,AF] at c1
 cases hok:a.ok with
 |false =>
  rw[hok] at c1
  (try (simp -implicitDefEqProofs only[go_sem,AM,AF]));repeat' first|(with_reducible first|exact tI|refine aI ?_ ?_|intro _)|((first|with_reducible refine AW ?_ ?_<;>intro _|(with_reducible refine isCall ?_);first|refine AD c1 ?_)<;>try (simp -implicitDefEqProofs only[go_sem,AM,AF]))|simp (disch:=omega) only[Au]
  all_goals first|rfl|(simp;done)
 |true =>
  rw[hok] at c1
  cases hin:Eg t 0 a.last with
  |false =>
   rw[hin] at c2
   (try (simp -implicitDefEqProofs only[go_sem,AM,AF]));repeat' first|(with_reducible first|exact tI|refine aI ?_ ?_|intro _)|((first|with_reducible refine AW ?_ ?_<;>intro _|(with_reducible refine isCall ?_);first|refine AD c1 ?_|refine AD c2 ?_)<;>try (simp -implicitDefEqProofs only[go_sem,AM,AF]))|simp (disch:=omega) only[Au]
   all_goals first|rfl|(simp;done)
  |true =>
   rw[hin] at c2
   (try (simp -implicitDefEqProofs only[go_sem,AM,AF]));repeat' first|(with_reducible first|exact tI|refine aI ?_ ?_|intro _)|((first|with_reducible refine AW ?_ ?_<;>intro _|(with_reducible refine isCall ?_);first|refine AD c1 ?_|refine AD c2 ?_)<;>try (simp -implicitDefEqProofs only[go_sem,AM,AF]))|simp (disch:=omega) only[Au]
   all_goals first|rfl|(simp;done)
theorem KK (a:Ao) (g:a.Good) (s:BT):C6 E0 Hb [Ek a,El s] (.bool (a.has s)):=by
 refine AU Ks A1 (by simp) fun hwf=>?_
 have g2:=g.s
 have c1:=Bk s.at' 0 a.last
 have c2:=Bk s.sp (-a.speed) a.speed
 have w1:IntKind.i64.wrap (0-a.speed)=-a.speed:=by rw[Aw _ (by omega)];omega
 rw[Ae];unfold Gb Ao.has
 generalize Eg s.at' 0 a.last=b1 at *
 generalize Eg s.sp (-a.speed) a.speed=b2 at *
 cases b1
 ·(try (simp -implicitDefEqProofs only[go_sem,AM,AF,AX,AQ]));repeat' first|(with_reducible first|exact tI|refine aI ?_ ?_|intro _)|((first|with_reducible refine AW ?_ ?_<;>intro _|(with_reducible refine isCall ?_);first|refine AD c1 ?_)<;>try (simp -implicitDefEqProofs only[go_sem,AM,AF,AX,AQ]))|simp (disch:=omega) only[Au]
  all_goals first|rfl|(simp;done)
 ·cases b2
  all_goals ((try (simp -implicitDefEqProofs only[go_sem,AM,AF,AX,AQ,w1]));repeat' first|(with_reducible first|exact tI|refine aI ?_ ?_|intro _)|((first|with_reducible refine AW ?_ ?_<;>intro _|(with_reducible refine isCall ?_);first|refine AD c1 ?_|refine AD c2 ?_)<;>try (simp -implicitDefEqProofs only[go_sem,AM,AF,AX,AQ,w1]))|simp (disch:=omega) only[Au] )
  all_goals first|rfl|(simp;done)
theorem Hq (a:Ao) (t:Int) (s:BT):C6 E0 Fq [Ek a,.int .i64 t,El s] (.int .i64 (TL a t s)):=by
 refine AU IL A1 (by simp) fun hwf=>?_
 have c1:=Hh a t
 rw[Ae];unfold FD TL
 rw[AM,AF] at c1
 cases hok:a.ok with
 |false =>
  rw[hok] at c1
  (try (simp -implicitDefEqProofs only[go_sem,AM,AF,AX,AQ]));repeat' first|(with_reducible first|exact tI|refine aI ?_ ?_|intro _)|((first|with_reducible refine AW ?_ ?_<;>intro _|(with_reducible refine isCall ?_);first|refine AD c1 ?_)<;>try (simp -implicitDefEqProofs only[go_sem,AM,AF,AX,AQ]))|simp (disch:=omega) only[Au]
  all_goals first|rfl|(simp;done)
 |true =>
  rw[hok] at c1
  have g:=IV hok
  have c2:=KK a g s
  rw[AM,AF,AX,AQ] at c2
  cases hin:Eg t 0 a.last with
  |false =>
   rw[hin] at c1
   (try (simp -implicitDefEqProofs only[go_sem,AM,AF,AX,AQ]));repeat' first|(with_reducible first|exact tI|refine aI ?_ ?_|intro _)|((first|with_reducible refine AW ?_ ?_<;>intro _|(with_reducible refine isCall ?_);first|refine AD c1 ?_)<;>try (simp -implicitDefEqProofs only[go_sem,AM,AF,AX,AQ]))|simp (disch:=omega) only[Au]
   all_goals first|rfl|(simp;done)
  |true =>
   rw[hin] at c1
   cases hh:a.has s with
   |false =>
    rw[hh] at c2
    (try (simp -implicitDefEqProofs only[go_sem,AM,AF,AX,AQ]));repeat' first|(with_reducible first|exact tI|refine aI ?_ ?_|intro _)|((first|with_reducible refine AW ?_ ?_<;>intro _|(with_reducible refine isCall ?_);first|refine AD c1 ?_|refine AD c2 ?_)<;>try (simp -implicitDefEqProofs only[go_sem,AM,AF,AX,AQ]))|simp (disch:=omega) only[Au]
    all_goals first|rfl|(simp;done)
   |true =>
    rw[hh] at c2
    (try (simp -implicitDefEqProofs only[go_sem,AM,AF,AX,AQ]));repeat' first|(with_reducible first|exact tI|refine aI ?_ ?_|intro _)|((first|with_reducible refine AW ?_ ?_<;>intro _|(with_reducible refine isCall ?_);first|refine AD c1 ?_|refine AD c2 ?_)<;>try (simp -implicitDefEqProofs only[go_sem,AM,AF,AX,AQ]))|simp (disch:=omega) only[Au]
    all_goals first|rfl|(simp;done)
def O' (a:Ao) (ks:List Int):Bool:=ks.all (fun k=>Eg k (-a.shake) a.shake) && decide (ks.length<=200)
theorem JB (a:Ao) (g:a.Good) (nb:Bool) (ks:List Int):C6 E0 GD [Ek a,.list nb (CT ks)] (.bool (O' a ks)):=by
 refine AU JG A1 (by simp) fun hwf=>?_
 simp only[EZ,D_,D9,Dw,E5,E4,HB,E3,CJ,Cf,Cg,EB,Cu,List.length_map,Cz,true_and,and_true] at hwf
 have g2:=g.k
 have w1:IntKind.i64.wrap (0-a.shake)=-a.shake:=by rw[Aw _ (by omega)];omega
 rw[Ae];unfold FX
 (try (simp -implicitDefEqProofs only[go_sem,AM,AF]));repeat' first|(with_reducible first|exact tI|refine aI ?_ ?_|intro _)|((first|with_reducible refine AW ?_ ?_<;>intro _)<;>try (simp -implicitDefEqProofs only[go_sem,AM,AF]))|simp (disch:=omega) only[Au]|((with_reducible refine BP ?_);refine⟨_,rfl,?_,?_⟩)
 all_goals first|omega|(simp<;>omega)|skip
 refine A5 (α:=Nat) (l0:=?l1) (m0:=?m1) (fun x=>[(5,.d (.int .i64 (x:Int)))]) (fun x=>[]) (fun x=>x<=ks.length/\∀(j:Nat),j<x->Eg (ks[j]?.getD 0) (-a.shake) a.shake=true) (fun x=>ks.length-x) 0 ?h01 ?he1 ?he21 ?hI1 ?step1
 case h01=>(simp -implicitDefEqProofs only[go_sem];rfl)
 case he1=>rfl
 case he21=>rfl
 case' step1=>(rintro i hI;try dsimp only at hI)
 case' hI1=>try dsimp only
 ·exact⟨Nat.zero_le _,fun j h=>absurd h (Nat.not_lt_zero j)⟩
 ·obtain⟨h1,h2⟩:=hI
  by_cases hi:i<ks.length
  ·have hi':(i:Int)<(ks.length:Int):=by omega
   have wi:IntKind.i64.wrap ((i:Int)+1)=((i+1:Nat):Int):=by rw[Aw _ (by omega)];omega
   obtain⟨k,hk⟩:∃k,ks[i]?.getD 0=k:=⟨_,rfl⟩
   have c1:=Bk k (-a.shake) a.shake
   cases hb:Eg k (-a.shake) a.shake with
   |false =>
    rw[hb] at c1
    have hno:O' a ks=false:=by
     unfold O'
     have:(ks.all fun k=>Eg k (-a.shake) a.shake)=false:=by
      rw[List.all_eq_false]
      refine⟨k,?_,by rw[hb];simp⟩
      rw[←hk,List.getElem?_eq_getElem hi,Option.getD_some]
      exact List.getElem_mem hi
     rw[this];simp
    rw[hno]
    (try (simp -implicitDefEqProofs only[go_sem,AF,hi',hi,hk,w1]));repeat' first|(with_reducible first|exact tI|refine aI ?_ ?_|intro _)|((first|with_reducible refine AW ?_ ?_<;>intro _|(with_reducible refine isCall ?_);first|refine AD c1 ?_)<;>try (simp -implicitDefEqProofs only[go_sem,AF,hi',hi,hk,w1]))|simp (disch:=omega) only[Au]|((with_reducible refine BP ?_);refine⟨_,rfl,?_,?_⟩)
    all_goals first|omega|rfl|(simp;done)|trace_state
   |true =>
    rw[hb] at c1
    have hnx:∀(j:Nat),j<i+1->Eg (ks[j]?.getD 0) (-a.shake) a.shake=true:=fun j hj=>by
     by_cases hji:j=i
     ·subst hji;rw[hk];exact hb
     ·exact h2 j (by omega)
    (try (simp -implicitDefEqProofs only[go_sem,AF,hi',hi,hk,w1,wi]));repeat' first|(with_reducible first|exact tI|refine aI ?_ ?_|intro _)|((first|with_reducible refine AW ?_ ?_<;>intro _|(with_reducible refine isCall ?_);first|refine AD c1 ?_)<;>try (simp -implicitDefEqProofs only[go_sem,AF,hi',hi,hk,w1,wi]))|simp (disch:=omega) only[Au]|((with_reducible refine BP ?_);refine⟨_,rfl,?_,?_⟩)
    all_goals first|omega|exact hnx|exact hnx _ (by assumption)|trace_state
  ·have hi':¬(i:Int)<(ks.length:Int):=by omega
   have hall:(ks.all fun k=>Eg k (-a.shake) a.shake)=true:=by
    rw[List.all_eq_true]
    intro k hk
    obtain⟨j,hj,rfl⟩:=List.getElem_of_mem hk
    have:=h2 j (by omega)
    rw[List.getElem?_eq_getElem hj,Option.getD_some] at this
    exact this
   unfold O'
   rw[hall]
   by_cases h200:ks.length<=200
   ·have h200':(ks.length:Int)<=200:=by omega
    rw[decide_eq_true h200]
    (try (simp -implicitDefEqProofs only[go_sem,AF,hi',h200']));repeat' first|(with_reducible first|exact tI|refine aI ?_ ?_|intro _)|((first|with_reducible refine AW ?_ ?_<;>intro _)<;>try (simp -implicitDefEqProofs only[go_sem,AF,hi',h200']))|simp (disch:=omega) only[Au]|((with_reducible refine BP ?_);refine⟨_,rfl,?_,?_⟩)
    all_goals first|omega|rfl|(simp;done)|trace_state
   ·have h200':¬(ks.length:Int)<=200:=by omega
    rw[decide_eq_false h200]
    (try (simp -implicitDefEqProofs only[go_sem,AF,hi',h200']));repeat' first|(with_reducible first|exact tI|refine aI ?_ ?_|intro _)|((first|with_reducible refine AW ?_ ?_<;>intro _)<;>try (simp -implicitDefEqProofs only[go_sem,AF,hi',h200']))|simp (disch:=omega) only[Au]|((with_reducible refine BP ?_);refine⟨_,rfl,?_,?_⟩)
    all_goals first|omega|rfl|(simp;done)|trace_state
def Zz (a:Ao):Bool:=a.ok && (decide (10<a.last) || (decide (3<a.speed) || decide (4<a.force)))
theorem Ni (a:Ao):C6 E0 L3 [Ek a] (.bool (Zz a)):=by
 refine AU Np A1 (by simp) fun hwf=>?_
 have c1:=HF a
 rw[Ae];unfold KN Zz
 rw[AM,AF] at c1
 cases hok:a.ok with
 |false =>
  rw[hok] at c1
  (try (simp -implicitDefEqProofs only[go_sem,AM,AF]));repeat' first|(with_reducible first|exact tI|refine aI ?_ ?_|intro _)|((first|with_reducible refine AW ?_ ?_<;>intro _|(with_reducible refine isCall ?_);first|refine AD c1 ?_)<;>try (simp -implicitDefEqProofs only[go_sem,AM,AF]))|simp (disch:=omega) only[Au]
  all_goals first|rfl|(simp;done)|trace_state
 |true =>
  rw[hok] at c1
  (try (simp -implicitDefEqProofs only[go_sem,AM,AF]));repeat' first|(with_reducible first|exact tI|refine aI ?_ ?_|intro _)|((first|with_reducible refine AW ?_ ?_<;>intro _|(with_reducible refine isCall ?_);first|refine AD c1 ?_)<;>try (simp -implicitDefEqProofs only[go_sem,AM,AF]))|simp (disch:=omega) only[Au]
  all_goals first|omega|(simp;omega)|(simp_all;done)|(simp_all;omega)|trace_state
def bt:Ao:=⟨6,2,3,1,1,2⟩
def Yq:Ao:=⟨6,2,3,0,0,0⟩
theorem Kf:C6 E0 He [] (.tup [Ek bt,Ek Yq]):=by
 refine AU Kv A1 (by simp) fun hwf=>?_
 rw[Ae];unfold Ge
 (try (simp -implicitDefEqProofs only[go_sem]));repeat' first|(with_reducible first|exact tI|refine aI ?_ ?_|intro _)|((first|with_reducible refine AW ?_ ?_<;>intro _)<;>try (simp -implicitDefEqProofs only[go_sem]))|simp (disch:=omega) only[Au]
 all_goals first|rfl|(simp;done)|trace_state
end Go.Pw
end
section
open Go Go.Pw Go.Proofs
namespace Go.Pw
set_option maxRecDepth 100000
set_option maxHeartbeats 3200000
theorem V8 (a:Ao) (g:a.Good) (es:List Ay) (s:BT):-4<=FE a es s/\FE a es s<=4:=by
 have g1:=g.f
 unfold FE
 cases h:Ft a (Xl es ((Co es s).getD 0)) s with
 |none=>exact⟨by decide,by decide⟩
 |some c =>
  have:=(NO h).1
  exact⟨by show -4<=c;omega,by show c<=4;omega⟩
def Mt (a:Ao) (es:List Ay) (s:BT) (ks:List Int) (n:Nat):List BT:=(List.range n).map fun i=>FQ a es s ks (i+1)
theorem QE (a:Ao) (es:List Ay) (s:BT) (ks:List Int) (n:Nat):(Mt a es s ks n).length=n:=by simp[Mt]
theorem Ti (a:Ao) (es:List Ay) (s:BT) (ks:List Int) (n:Nat):Mt a es s ks n++[FQ a es s ks (n+1)]=Mt a es s ks (n+1):=by simp[Mt,List.range_succ]
def GX (a:Ao) (t:Int):List Ay:=(JN a (I_ a t)).1
theorem Su {a:Ao}{ks:List Int}(h:O' a ks=true):ks.length<=200/\∀i,i<ks.length->-a.shake<=ks[i]?.getD 0/\ks[i]?.getD 0<=a.shake:=by
 unfold O' at h
 rw[Bool.and_eq_true,List.all_eq_true,decide_eq_true_eq] at h
 refine⟨h.2,fun i hi=>?_⟩
 rw[List.getElem?_eq_getElem hi,Option.getD_some]
 exact I4.1 (h.1 _ (List.getElem_mem hi))
attribute [local congr] DH Bv Bw BW DJ Bd Bf Be BV BH A' A0 BZ BA Ba BF Bc BG B1 CX BE B4 B5 B2 Bz B0 Bu DI Bx BX BC BB BD Bb B3
attribute [local irreducible] IntKind.wrap BR Option.getD and or
theorem JX (a:Ao) (t:Int) (s:BT) (h:TL a t s=0):C6 E0 L5 [Ek a,.int .i64 t,El s] (match Co (GX a t) s with|some n=>.tup [.int .i64 n,.int .i64 (FE a (GX a t) s),.int .i64 0]|none=>.tup [.int .i64 0,.int .i64 0,.int .i64 3]):=by
 have hE:Yj a t s=0:=h
 have hok:a.ok=true:=by
  cases hk:a.ok with
  |true=>rfl
  |false=>unfold TL at h;rw[hk] at h;simp at h
 have g:=IV hok
 have hs:a.has s=true:=by
  unfold TL at h
  rw[hok,if_pos rfl] at h
  cases hi:Eg t 0 a.last with
  |false=>rw[hi] at h;simp at h
  |true =>
   rw[hi,if_pos rfl] at h
   cases hh:a.has s with
   |true=>rfl
   |false=>rw[hh] at h;simp at h
 have c1:=L0 a t s
 rw[hE] at c1
 have cP:=NU a g t
 have hty:=Jj s
 unfold GX
 obtain⟨es,hes⟩:∃es,(JN a (I_ a t)).1=es:=⟨_,rfl⟩
 obtain⟨cl,hcl⟩:∃cl,(JN a (I_ a t)).2=cl:=⟨_,rfl⟩
 rw[hes,hcl] at cP
 rw[hes]
 have cN:=K3 a g es s (Ki g hs)
 obtain⟨C,hC⟩:∃C,FE a es s=C:=⟨_,rfl⟩
 rw[hC] at cN ⊢
 rw[←GL] at cN
 rw[AM,AF,AX,AQ] at c1 cN
 rw[AM,AF] at cP
 refine AU Ns A1 (by simp) fun hwf=>?_
 rw[Ae];unfold KQ
 cases hv:Co es s with
 |none =>
  have hl:=I2 hv
  rw[←GL,AX,AQ] at hl
  rw[AX,AQ] at hty
  (try (simp -implicitDefEqProofs only[go_sem,AM,AF,AX,AQ,hl,hty]));repeat' first|(with_reducible first|exact tI|refine aI ?_ ?_|intro _)|((first|with_reducible refine AW ?_ ?_<;>intro _|(with_reducible refine isCall ?_);first|refine AD c1 ?_|(refine J3 ([]) ([((5000017,0),(26,0))]) (cP) (by repeat' first|exact True.intro|exact rfl|refine And.intro ?_ ?_) (by simp[D4,D7.get,AR.ren,AV.ren,AV.ren.renL,AK.get,Av,CH,Fs,AK.reach,AV.sites,AV.sites.sitesL,AK.osites]) (by simp[DN,Ju,DZ,D7.get,Fs,C5,CD,GN,Ep]) (by rfl) (by simp only[E2,D7.get,AR.ren,AV.ren,AV.ren.renL,and_self,and_true,true_and,if_true,reduceIte];rfl) ?_))<;>try (simp -implicitDefEqProofs only[go_sem,AM,AF,AX,AQ,hl,hty]))|simp (disch:=omega) only[Au]
  all_goals first|omega|rfl|(simp;done)|trace_state
 |some n =>
  have hl:=I1 hv
  rw[←GL,AX,AQ] at hl
  rw[AX,AQ] at hty
  (try (simp -implicitDefEqProofs only[go_sem,AM,AF,AX,AQ,hl,hty]));repeat' first|(with_reducible first|exact tI|refine aI ?_ ?_|intro _)|((first|with_reducible refine AW ?_ ?_<;>intro _|(with_reducible refine isCall ?_);first|refine AD c1 ?_|(refine J3 ([]) ([((5000017,0),(26,0))]) (cP) (by repeat' first|exact True.intro|exact rfl|refine And.intro ?_ ?_) (by simp[D4,D7.get,AR.ren,AV.ren,AV.ren.renL,AK.get,Av,CH,Fs,AK.reach,AV.sites,AV.sites.sitesL,AK.osites]) (by simp[DN,Ju,DZ,D7.get,Fs,C5,CD,GN,Ep]) (by rfl) (by simp only[E2,D7.get,AR.ren,AV.ren,AV.ren.renL,and_self,and_true,true_and,if_true,reduceIte];rfl) ?_)|refine AD cN ?_)<;>try (simp -implicitDefEqProofs only[go_sem,AM,AF,AX,AQ,hl,hty]))|simp (disch:=omega) only[Au]
  all_goals first|omega|rfl|(simp;done)|trace_state
theorem Q5 (a:Ao) (t:Int) (s:BT) (nb:Bool) (ks:List Int) (h:TL a t s=0) (hk:O' a ks=true) :
  C6 E0 Oq [Ek a,.int .i64 t,El s,.list nb (CT ks)] (if CA (GX a t) s then .tup [.list (decide (ks.length=0)) (Jn (Mt a (GX a t) s ks ks.length)),.int .i64 0] else .tup [.list true [],.int .i64 3]):=by
 have hE:Yj a t s=0:=h
 have hok:a.ok=true:=by
  cases hk:a.ok with
  |true=>rfl
  |false=>unfold TL at h;rw[hk] at h;simp at h
 have g:=IV hok
 have hs:a.has s=true:=by
  unfold TL at h
  rw[hok,if_pos rfl] at h
  cases hi:Eg t 0 a.last with
  |false=>rw[hi] at h;simp at h
  |true =>
   rw[hi,if_pos rfl] at h
   cases hh:a.has s with
   |true=>rfl
   |false=>rw[hh] at h;simp at h
 have c1:=L0 a t s
 rw[hE] at c1
 have cP:=NU a g t
 obtain⟨hk200,hkg⟩:=Su hk
 obtain⟨m,hG⟩:=OI a (I_ a t)
 have c2:=Lf nb ks GG [.ptr (Pe a)] (fun x=>!Eg x (-a.shake) a.shake) Uz rfl (fun x _=>Pc a g x)
 have hany:(ks.any fun x=>!Eg x (-a.shake) a.shake)=false:=by
  rw[List.any_eq_false]
  intro x hx
  unfold O' at hk
  rw[Bool.and_eq_true,List.all_eq_true] at hk
  rw[hk.1 x hx];simp
 rw[hany,AF] at c2
 unfold GX
 obtain⟨es,hes⟩:∃es,(JN a (I_ a t)).1=es:=⟨_,rfl⟩
 obtain⟨cl,hcl⟩:∃cl,(JN a (I_ a t)).2=cl:=⟨_,rfl⟩
 rw[hes,hcl] at cP
 rw[hes] at hG ⊢
 have c3:=Fx es s
 rw[←GL,AX,AQ] at c3
 rw[AM,AF,AX,AQ] at c1
 rw[AM,AF] at cP
 have hk200':¬((ks.length:Nat):Int)>200:=by omega
 refine AU Qt A1 (by simp) fun hwf=>?_
 rw[Ae];unfold M1
 cases hm:CA es s with
 |false =>
  rw[hm] at c3
  (try (simp -implicitDefEqProofs only[go_sem,AM,AF,AX,AQ,hk200']));repeat' first|(with_reducible first|exact tI|refine aI ?_ ?_|intro _)|((first|with_reducible refine AW ?_ ?_<;>intro _|(with_reducible refine isCall ?_);first|refine AD c1 ?_|refine AD c2 ?_|(refine J3 ([]) ([((5000017,0),(37,0))]) (cP) (by repeat' first|exact True.intro|exact rfl|refine And.intro ?_ ?_) (by simp[D4,D7.get,AR.ren,AV.ren,AV.ren.renL,AK.get,Av,CH,Fs,AK.reach,AV.sites,AV.sites.sitesL,AK.osites]) (by simp[DN,Ju,DZ,D7.get,Fs,C5,CD,GN,Ep]) (by rfl) (by simp only[E2,D7.get,AR.ren,AV.ren,AV.ren.renL,and_self,and_true,true_and,if_true,reduceIte];rfl) ?_)|refine AD c3 ?_)<;>try (simp -implicitDefEqProofs only[go_sem,AM,AF,AX,AQ,hk200']))|simp (disch:=omega) only[Au]|((with_reducible refine S6 ?_);refine⟨(_,_,_,_),rfl,?_,?_⟩)
  all_goals first|omega|rfl|(simp;done)|trace_state
 |true =>
  rw[hm] at c3
  obtain⟨n0,hn0⟩:=Option.isSome_iff_exists.1 hm
  have hrun:=MU hG hn0 hkg
  (try (simp -implicitDefEqProofs only[go_sem,AM,AF,AX,AQ,hk200']));repeat' first|(with_reducible first|exact tI|refine aI ?_ ?_|intro _)|((first|with_reducible refine AW ?_ ?_<;>intro _|(with_reducible refine isCall ?_);first|refine AD c1 ?_|refine AD c2 ?_|(refine J3 ([]) ([((5000017,0),(37,0))]) (cP) (by repeat' first|exact True.intro|exact rfl|refine And.intro ?_ ?_) (by simp[D4,D7.get,AR.ren,AV.ren,AV.ren.renL,AK.get,Av,CH,Fs,AK.reach,AV.sites,AV.sites.sitesL,AK.osites]) (by simp[DN,Ju,DZ,D7.get,Fs,C5,CD,GN,Ep]) (by rfl) (by simp only[E2,D7.get,AR.ren,AV.ren,AV.ren.renL,and_self,and_true,true_and,if_true,reduceIte];rfl) ?_)|refine AD c3 ?_)<;>try (simp -implicitDefEqProofs only[go_sem,AM,AF,AX,AQ,hk200']))|simp (disch:=omega) only[Au]|((with_reducible refine S6 ?_);refine⟨(_,_,_,_),rfl,?_,?_⟩)
  all_goals first|omega|(simp<;>omega)|skip
  refine A5 (α:=Nat×BT×(List BT)×Bool) (l0:=?l1) (m0:=?m1) (fun x=>[(44,.d (.int .i64 (x.1:Int)))]) (fun x=>[(6,.cells [.d (.int .i64 x.2.1.at'),.d (.int .i64 x.2.1.sp)]),(62,.row 28 2 x.2.2.2 (Jn x.2.2.1))]) (fun x=>x.1<=ks.length/\x.2.1=FQ a es s ks x.1/\x.2.2.1=Mt a es s ks x.1/\x.2.2.2=decide (x.1=0)) (fun x=>ks.length-x.1) (0,s,[],true) ?h01 ?he1 ?he21 ?hI1 ?step1
  case h01=>(simp -implicitDefEqProofs only[go_sem];rfl)
  case he1=>rfl
  case he21=>rfl
  case' step1=>(rintro⟨i,y,out,nl⟩ hI;try dsimp only at hI)
  case' hI1=>try dsimp only
  ·exact⟨Nat.zero_le _,rfl,rfl,rfl⟩
  ·obtain⟨i1,i2,i3,i4⟩:=hI
   change y=FQ a es s ks i at i2
   change out=Mt a es s ks i at i3
   change nl=decide (i=0) at i4
   have hol:out.length=i:=by rw[i3,QE]
   by_cases hi:i<ks.length
   ·have hi':(i:Int)<(ks.length:Int):=by omega
    have wi:IntKind.i64.wrap ((i:Int)+1)=((i+1:Nat):Int):=by rw[Aw _ (by omega)];omega
    obtain⟨v,hv,_,_⟩:=hrun i i1
    rw[←i2] at hv
    have hny:=Ki g (Ou hG hv).1
    have cN:=K3 a g es y hny
    obtain⟨k1,k2⟩:=hkg i hi
    have g2:=g.k
    have hz:Nb y (FE a es y) (ks[i]?.getD 0)=FQ a es s ks (i+1):=by rw[i2];rfl
    have hsn:=Ti a es s ks i
    rw[←hz,←i3] at hsn
    obtain⟨C,hC⟩:∃C,FE a es y=C:=⟨_,rfl⟩
    have hCb:=V8 a g es y
    rw[hC] at cN hCb hz hsn
    obtain⟨k,hk⟩:∃k,ks[i]?.getD 0=k:=⟨_,rfl⟩
    rw[hk] at k1 k2 hz hsn
    have cS:=G_ a g y hny C k hCb (by omega)
    obtain⟨z,hzz⟩:∃z,Nb y C k=z:=⟨_,rfl⟩
    rw[hzz] at cS hz hsn
    obtain⟨B,hB⟩:∃B,a.has z=B:=⟨_,rfl⟩
    rw[hB] at cS
    rw[←GL] at cN
    rw[AM,AF,AX,AQ] at cN
    rw[AM,AF,AX,AQ,AX,AQ] at cS
    have hnf:false=decide (i+1=0):=by simp
    (try (simp -implicitDefEqProofs only[go_sem,AF,hi',hi,hk,wi]));repeat' first|(with_reducible first|exact tI|refine aI ?_ ?_|intro _)|((first|with_reducible refine AW ?_ ?_<;>intro _|(with_reducible refine isCall ?_);first|refine AD cN ?_|refine AD cS ?_)<;>try (simp -implicitDefEqProofs only[go_sem,AF,hi',hi,hk,wi]))|simp (disch:=omega) only[Au]|((with_reducible refine S6 ?_);refine⟨(_,_,_,_),rfl,?_,?_⟩)
    all_goals first|omega|(rw[Bi];omega)|skip
    all_goals
     rw[Iu]
     exact⟨(i+1,z,out++[z],false),rfl,⟨by show i+1<=ks.length;omega,hz,hsn,hnf⟩,by show ks.length-(i+1)<ks.length-i;omega⟩
   ·have hi':¬(i:Int)<(ks.length:Int):=by omega
    have hie:i=ks.length:=by omega
    subst hie
    rw[i3,i4]
    (try (simp -implicitDefEqProofs only[go_sem,hi']));repeat' first|(with_reducible first|exact tI|refine aI ?_ ?_|intro _)|((first|with_reducible refine AW ?_ ?_<;>intro _)<;>try (simp -implicitDefEqProofs only[go_sem,hi']))|simp (disch:=omega) only[Au]|((with_reducible refine S6 ?_);refine⟨(_,_,_,_),rfl,?_,?_⟩)
    all_goals first|omega|rfl|trace_state
end Go.Pw
end
