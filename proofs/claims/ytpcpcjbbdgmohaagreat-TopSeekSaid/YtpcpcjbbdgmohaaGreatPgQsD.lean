/- A part of the proof. -/
import Derived.Test.YtpcpcjbbdgmohaaGreatPgQsB
import Derived.Test.YtpcpcjbbdgmohaaGreatPgQsP
import Derived.Test.YtpcpcjbbdgmohaaGreatPgQsT
set_option linter.all false
section
open Go Go.Pw Go.Proofs
namespace Go.Pw
set_option maxRecDepth 100000
set_option maxHeartbeats 1600000
theorem jd {q:GQ}{i:Nat}(hi:i<q.sk.length) (h:VO (q.sk[i]?.getD default)=false):q.ok=false:=by
 have:=Wl hi h
 unfold GQ.ok;rw[this];simp
theorem jk {q:GQ}{i:Nat}(hi:i<q.rq.length) (h:q.rOk i=false):q.ok=false:=by
 have:(List.range q.rq.length).all q.rOk=false:=by
  rw[List.all_eq_false];exact⟨i,List.mem_range.2 hi,by rw[h];simp⟩
 unfold GQ.ok;rw[this];simp
theorem c_ {q:GQ}(h1:q.hOk=true) (h2:∀i,i<q.sk.length->VO (q.sk[i]?.getD default)=true) (h3:∀i,i<q.rq.length->q.rOk i=true):q.ok=true:=by
 unfold GQ.ok
 rw[h1,Ie.2 h2,List.all_eq_true.2 fun i hi=>h3 i (List.mem_range.1 hi)];rfl
def db (n:Nat) (l:List Int) (i:Nat):Bool:=FR (l[i]?.getD 0) 0 ((n:Int)-1) && (List.range i).all fun k=>!decide (l[k]?.getD 0=l[i]?.getD 0)
theorem Vw (n:Nat) (l:List Int):Hl n l=(((List.range l.length).all (db n l)) && decide (l.length=n)):=rfl
theorem Yx {n:Nat}{l:List Int}{i:Nat}(hi:i<l.length) (h:db n l i=false):Hl n l=false:=by
 have:(List.range l.length).all (db n l)=false:=by
  rw[List.all_eq_false];exact⟨i,List.mem_range.2 hi,by rw[h];simp⟩
 rw[Vw,this];rfl
theorem gN {n:Nat}{l:List Int}(h:∀i,i<l.length->db n l i=true):Hl n l=decide (l.length=n):=by
 rw[Vw,List.all_eq_true.2 fun i hi=>h i (List.mem_range.1 hi)];rfl
theorem gT {n:Nat}{l:List Int}{i k:Nat}(hk:k<i) (h:l[k]?.getD 0=l[i]?.getD 0):db n l i=false:=by
 have:((List.range i).all fun k=>!decide (l[k]?.getD 0=l[i]?.getD 0))=false:=by
  rw[List.all_eq_false];exact⟨k,List.mem_range.2 hk,by simp[h]⟩
 unfold db;rw[this];simp
theorem kF {n:Nat}{l:List Int}{i:Nat}(h1:FR (l[i]?.getD 0) 0 ((n:Int)-1)=true) (h2:∀k,k<i->l[k]?.getD 0≠l[i]?.getD 0):db n l i=true:=by
 unfold db
 rw[h1,List.all_eq_true.2 fun k hk=>by simpa using h2 k (List.mem_range.1 hk)];rfl
def V_ (d:AG):Bool:=decide (20<d.zones.length) || (d.ok && (decide (200<d.size) || decide (120<d.turn)))
def V9 (q:GQ):Bool:=V_ q.d || (decide (100<q.sk.length) || (decide (20<q.rq.length) || (decide (4<q.rq.length) && decide (q.check=0))))
attribute [local congr] DX B3 B4 Bc DZ Bj Bl Bk Bb BN BF A6 Be BG Bg CD CE CF Cd Ce B9 Bf BL Bi BM B8 Cf BK CB CC B_ B6 B7 B2 DY B5 Bd BI BH BJ Bh CA
attribute [local irreducible] IntKind.wrap CK Option.getD and or
theorem M5 (q:GQ) (nl:Bool) (l:List Int) (hn:q.rq.length<=1000) (hl:l.length<=1000):Ca E0 Js [Hy q,.list nl (Bs l)] (.bool (Hl q.rq.length l)):=by
 refine AW Nl Aq (by simp) fun hwf=>?_
 obtain⟨n,hne⟩:∃n,q.rq.length=n:=⟨_,rfl⟩
 have wn:IntKind.i64.wrap ((n:Int)-1)=(n:Int)-1:=Ad _ (by omega)
 rw[AZ];unfold IE
 rw[hne]
 (try (simp -implicitDefEqProofs only[go_sem,Ai,AN,AL]));repeat' first|(with_reducible first|exact tI|refine aI ?_ ?_|intro _)|((first|with_reducible refine AU ?_ ?_<;>intro _)<;>try (simp -implicitDefEqProofs only[go_sem,Ai,AN,AL]))|simp (disch:=omega) only[Al]|((with_reducible refine A5 ?_);refine⟨_,rfl,?_,?_⟩)
 all_goals first|omega|(simp<;>omega)|skip
 refine Ao (α:=Nat) (l0:=?l1) (m0:=?m1) (fun x=>[(5,.d (.int .i64 (x:Int)))]) (fun x=>[]) (fun x=>x<=l.length/\∀j,j<x->db n l j=true) (fun x=>l.length-x) 0 ?h01 ?he1 ?he21 ?hI1 ?step1
 case h01=>(simp -implicitDefEqProofs only[go_sem,AN,AL];rfl)
 case he1=>rfl
 case he21=>rfl
 case' step1=>(rintro i hI;try dsimp only at hI)
 case' hI1=>try dsimp only
 ·exact⟨by omega,fun j h=>absurd h (Nat.not_lt_zero j)⟩
 ·obtain⟨h1,h2⟩:=hI
  by_cases hi:i<l.length
  ·have hi':(i:Int)<(l.length:Int):=by omega
   have wi:IntKind.i64.wrap ((i:Int)+1)=((i+1:Nat):Int):=by rw[Ad _ (by omega)];omega
   obtain⟨v0,hx⟩:∃v0,l[i]?.getD 0=v0:=⟨_,rfl⟩
   have c1:=Dm v0 0 ((n:Int)-1)
   cases hb:FR v0 0 ((n:Int)-1) with
   |false =>
    rw[hb] at c1
    have hno:Hl n l=false:=Yx hi (by unfold db;rw[hx,hb,Bool.false_and])
    rw[hno]
    (try (simp -implicitDefEqProofs only[go_sem,AN,AL,hne,hi',hi,hx,wn]));repeat' first|(with_reducible first|exact tI|refine aI ?_ ?_|intro _)|((first|with_reducible refine AU ?_ ?_<;>intro _|(with_reducible refine isCall ?_);first|refine AF c1 ?_)<;>try (simp -implicitDefEqProofs only[go_sem,AN,AL,hne,hi',hi,hx,wn]))|simp (disch:=omega) only[Al]|((with_reducible refine A5 ?_);refine⟨_,rfl,?_,?_⟩)
    all_goals first|omega|rfl|trace_state
   |true =>
    rw[hb] at c1
    (try (simp -implicitDefEqProofs only[go_sem,AN,AL,hne,hi',hi,hx,wn]));repeat' first|(with_reducible first|exact tI|refine aI ?_ ?_|intro _)|((first|with_reducible refine AU ?_ ?_<;>intro _|(with_reducible refine isCall ?_);first|refine AF c1 ?_)<;>try (simp -implicitDefEqProofs only[go_sem,AN,AL,hne,hi',hi,hx,wn]))|simp (disch:=omega) only[Al]|((with_reducible refine A5 ?_);refine⟨_,rfl,?_,?_⟩)
    all_goals first|omega|(simp<;>omega)|skip
    refine Ao (α:=Nat) (l0:=?l2) (m0:=?m2) (fun x=>[(6,.d (.int .i64 (x:Int)))]) (fun x=>[]) (fun x=>x<=i/\∀j,j<x->l[j]?.getD 0≠v0) (fun x=>i-x) 0 ?h02 ?he2 ?he22 ?hI2 ?step2
    case h02=>(simp -implicitDefEqProofs only[go_sem,AN,AL];rfl)
    case he2=>rfl
    case he22=>rfl
    case' step2=>(rintro k hI2;try dsimp only at hI2)
    case' hI2=>try dsimp only
    ·exact⟨by omega,fun j h=>absurd h (Nat.not_lt_zero j)⟩
    ·obtain⟨k1,k2⟩:=hI2
     by_cases hk:k<i
     ·have hk':(k:Int)<(i:Int):=by omega
      have hkl:k<l.length:=by omega
      have hkl':(k:Int)<(l.length:Int):=by omega
      have wk:IntKind.i64.wrap ((k:Int)+1)=((k+1:Nat):Int):=by rw[Ad _ (by omega)];omega
      obtain⟨y,hy⟩:∃y,l[k]?.getD 0=y:=⟨_,rfl⟩
      by_cases hxy:y=v0
      ·have hno:Hl n l=false:=Yx hi (gT hk (by rw[hy,hx,hxy]))
       rw[hno]
       (try (simp -implicitDefEqProofs only[go_sem,AN,AL,hi',hi,hk',hkl,hkl',hx,hy,hxy]));repeat' first|(with_reducible first|exact tI|refine aI ?_ ?_|intro _)|((first|with_reducible refine AU ?_ ?_<;>intro _)<;>try (simp -implicitDefEqProofs only[go_sem,AN,AL,hi',hi,hk',hkl,hkl',hx,hy,hxy]))|simp (disch:=omega) only[Al]|((with_reducible refine A5 ?_);refine⟨_,rfl,?_,?_⟩)
       all_goals first|omega|rfl|trace_state
      ·have hnx:∀j,j<k+1->l[j]?.getD 0≠v0:=fun j hj=>by
        by_cases hjk:j=k
        ·subst hjk;rw[hy];exact hxy
        ·exact k2 j (by omega)
       (try (simp -implicitDefEqProofs only[go_sem,AN,AL,hi',hi,hk',hkl,hkl',hx,hy,hxy,wk]));repeat' first|(with_reducible first|exact tI|refine aI ?_ ?_|intro _)|((first|with_reducible refine AU ?_ ?_<;>intro _)<;>try (simp -implicitDefEqProofs only[go_sem,AN,AL,hi',hi,hk',hkl,hkl',hx,hy,hxy,wk]))|simp (disch:=omega) only[Al]|((with_reducible refine A5 ?_);refine⟨_,rfl,?_,?_⟩)
       all_goals first|omega|rfl|exact hnx|exact hnx _ (by assumption)|trace_state
     ·have hk':¬(k:Int)<(i:Int):=by omega
      have hnx:∀j,j<i+1->db n l j=true:=fun j hj=>by
       by_cases hji:j=i
       ·subst hji;exact kF (by rw[hx];exact hb) (fun k hk=>by rw[hx];exact k2 k (by omega))
       ·exact h2 j (by omega)
      (try (simp -implicitDefEqProofs only[go_sem,AN,AL,hk',wi]));repeat' first|(with_reducible first|exact tI|refine aI ?_ ?_|intro _)|((first|with_reducible refine AU ?_ ?_<;>intro _)<;>try (simp -implicitDefEqProofs only[go_sem,AN,AL,hk',wi]))|simp (disch:=omega) only[Al]|((with_reducible refine A5 ?_);refine⟨_,rfl,?_,?_⟩)
      all_goals first|omega|rfl|exact hnx|exact hnx _ (by assumption)|trace_state
  ·have hi':¬(i:Int)<(l.length:Int):=by omega
   have hie:i=l.length:=by omega
   rw[gN (fun j hj=>h2 j (by omega))]
   by_cases hln:l.length=n
   ·rw[decide_eq_true hln]
    (try (simp -implicitDefEqProofs only[go_sem,AN,AL,hi',hne,hln]));repeat' first|(with_reducible first|exact tI|refine aI ?_ ?_|intro _)|((first|with_reducible refine AU ?_ ?_<;>intro _)<;>try (simp -implicitDefEqProofs only[go_sem,AN,AL,hi',hne,hln]))|simp (disch:=omega) only[Al]|((with_reducible refine A5 ?_);refine⟨_,rfl,?_,?_⟩)
    all_goals first|omega|rfl|trace_state
   ·rw[decide_eq_false hln]
    have hln':¬(l.length:Int)=(n:Int):=by omega
    (try (simp -implicitDefEqProofs only[go_sem,AN,AL,hi',hne,hln']));repeat' first|(with_reducible first|exact tI|refine aI ?_ ?_|intro _)|((first|with_reducible refine AU ?_ ?_<;>intro _)<;>try (simp -implicitDefEqProofs only[go_sem,AN,AL,hi',hne,hln']))|simp (disch:=omega) only[Al]|((with_reducible refine A5 ?_);refine⟨_,rfl,?_,?_⟩)
    all_goals first|omega|rfl|trace_state
theorem JU (q:GQ) (hn:q.rq.length<=1000) (hsk:q.sk.length<=1000):Ca E0 L8 [Hy q] (.int .i64 q.check):=by
 refine AW P' Aq (by simp) fun hwf=>?_
 have c1:=D_ q.d
 unfold AG.check at c1
 unfold GQ.check
 cases hd:q.d.ok with
 |false =>
  rw[hd] at c1
  rw[AZ];unfold FN
  (try (simp -implicitDefEqProofs only[go_sem,Ai,AN,AI,AD]));repeat' first|(with_reducible first|exact tI|refine aI ?_ ?_|intro _)|((first|with_reducible refine AU ?_ ?_<;>intro _|(with_reducible refine isCall ?_);first|refine AF c1 ?_)<;>try (simp -implicitDefEqProofs only[go_sem,Ai,AN,AI,AD]))|simp (disch:=omega) only[Al]|((with_reducible refine A5 ?_);refine⟨_,rfl,?_,?_⟩)
  all_goals first|omega|rfl|trace_state
 |true =>
  rw[hd] at c1
  have gd:=Bu hd
  have hsz:=Cm gd
  have c2:=En q.d hd
  have hcl:=Un gd
  have w1:IntKind.i64.wrap ((q.d.cyls:Int)-1)=(q.d.cyls:Int)-1:=Ad _ (by omega)
  have c3:=Dm q.cyl 0 ((q.d.cyls:Int)-1)
  have c4:=Dm q.pas 0 6
  cases hh:q.hOk with
  |false =>
   have hno:q.ok=false:=by unfold GQ.ok;rw[hh,Bool.false_and]
   rw[hno]
   unfold GQ.hOk at hh
   rw[AZ];unfold FN
   cases b1:FR q.cyl 0 ((q.d.cyls:Int)-1) with
   |false =>
    rw[b1] at c3
    (try (simp -implicitDefEqProofs only[go_sem,Ai,AN,AI,AD,w1]));repeat' first|(with_reducible first|exact tI|refine aI ?_ ?_|intro _)|((first|with_reducible refine AU ?_ ?_<;>intro _|(with_reducible refine isCall ?_);first|refine AF c1 ?_|refine AF c2 ?_|refine AF c3 ?_)<;>try (simp -implicitDefEqProofs only[go_sem,Ai,AN,AI,AD,w1]))|simp (disch:=omega) only[Al]|((with_reducible refine A5 ?_);refine⟨_,rfl,?_,?_⟩)
    all_goals first|omega|rfl|trace_state
   |true =>
    rw[b1] at c3 hh
    by_cases b2:q.sk.length=q.d.cyls
    ·have b2':((q.sk.length:Nat):Int)=(q.d.cyls:Int):=by omega
     rw[decide_eq_true b2] at hh
     by_cases b3:q.rq.length<=6
     ·have b3':¬6<((q.rq.length:Nat):Int):=by omega
      rw[decide_eq_true b3] at hh
      have b4:FR q.pas 0 6=false:=by simpa using hh
      rw[b4] at c4
      (try (simp -implicitDefEqProofs only[go_sem,Ai,AN,AI,AD,AY,AL,w1,b2',b3']));repeat' first|(with_reducible first|exact tI|refine aI ?_ ?_|intro _)|((first|with_reducible refine AU ?_ ?_<;>intro _|(with_reducible refine isCall ?_);first|refine AF c1 ?_|refine AF c2 ?_|refine AF c3 ?_|refine AF c4 ?_)<;>try (simp -implicitDefEqProofs only[go_sem,Ai,AN,AI,AD,AY,AL,w1,b2',b3']))|simp (disch:=omega) only[Al]|((with_reducible refine A5 ?_);refine⟨_,rfl,?_,?_⟩)
      all_goals first|omega|rfl|trace_state
     ·have b3':6<((q.rq.length:Nat):Int):=by omega
      (try (simp -implicitDefEqProofs only[go_sem,Ai,AN,AI,AD,AY,AL,w1,b2',b3']));repeat' first|(with_reducible first|exact tI|refine aI ?_ ?_|intro _)|((first|with_reducible refine AU ?_ ?_<;>intro _|(with_reducible refine isCall ?_);first|refine AF c1 ?_|refine AF c2 ?_|refine AF c3 ?_|refine AF c4 ?_)<;>try (simp -implicitDefEqProofs only[go_sem,Ai,AN,AI,AD,AY,AL,w1,b2',b3']))|simp (disch:=omega) only[Al]|((with_reducible refine A5 ?_);refine⟨_,rfl,?_,?_⟩)
      all_goals first|omega|rfl|trace_state
    ·have b2':¬((q.sk.length:Nat):Int)=(q.d.cyls:Int):=by omega
     (try (simp -implicitDefEqProofs only[go_sem,Ai,AN,AI,AD,AY,AL,w1,b2']));repeat' first|(with_reducible first|exact tI|refine aI ?_ ?_|intro _)|((first|with_reducible refine AU ?_ ?_<;>intro _|(with_reducible refine isCall ?_);first|refine AF c1 ?_|refine AF c2 ?_|refine AF c3 ?_|refine AF c4 ?_)<;>try (simp -implicitDefEqProofs only[go_sem,Ai,AN,AI,AD,AY,AL,w1,b2']))|simp (disch:=omega) only[Al]|((with_reducible refine A5 ?_);refine⟨_,rfl,?_,?_⟩)
     all_goals first|omega|rfl|trace_state
  |true =>
   have hh':=hh
   unfold GQ.hOk at hh'
   simp only[Bool.and_eq_true,decide_eq_true_eq] at hh'
   obtain⟨b1,b2,b3,b4⟩:=hh'
   rw[b1] at c3
   rw[b4] at c4
   have b2':((q.sk.length:Nat):Int)=(q.d.cyls:Int):=by omega
   have b3':¬6<((q.rq.length:Nat):Int):=by omega
   rw[AZ];unfold FN
   (try (simp -implicitDefEqProofs only[go_sem,Ai,AN,AI,AD,AY,AL,w1,b2',b3']));repeat' first|(with_reducible first|exact tI|refine aI ?_ ?_|intro _)|((first|with_reducible refine AU ?_ ?_<;>intro _|(with_reducible refine isCall ?_);first|refine AF c1 ?_|refine AF c2 ?_|refine AF c3 ?_|refine AF c4 ?_)<;>try (simp -implicitDefEqProofs only[go_sem,Ai,AN,AI,AD,AY,AL,w1,b2',b3']))|simp (disch:=omega) only[Al]|((with_reducible refine A5 ?_);refine⟨_,rfl,?_,?_⟩)
   all_goals first|omega|(simp<;>omega)|skip
   refine Ao (α:=Nat) (l0:=?l3) (m0:=?m3) (fun x=>[(4,.d (.int .i64 (x:Int)))]) (fun x=>[]) (fun x=>x<=q.sk.length/\∀j,j<x->VO (q.sk[j]?.getD default)=true) (fun x=>q.sk.length-x) 0 ?h03 ?he3 ?he23 ?hI3 ?step3
   case h03=>(simp -implicitDefEqProofs only[go_sem,AN,AY];rfl)
   case he3=>rfl
   case he23=>rfl
   case' step3=>(rintro i hI;try dsimp only at hI)
   case' hI3=>try dsimp only
   ·exact⟨by omega,fun j h=>absurd h (Nat.not_lt_zero j)⟩
   ·obtain⟨h1,h2⟩:=hI
    by_cases hi:i<q.sk.length
    ·have hi':(i:Int)<(q.d.cyls:Int):=by omega
     have wi:IntKind.i64.wrap ((i:Int)+1)=((i+1:Nat):Int):=by rw[Ad _ (by omega)];omega
     obtain⟨p,hpe⟩:∃p,q.sk[i]?.getD default=p:=⟨_,rfl⟩
     cases hp:VO p with
     |false =>
      rw[jd hi (by rw[hpe];exact hp)]
      have hp':¬(0<=p.1/\p.1<=p.2/\p.2<=5000):=fun h=>by rw[Qp.2 h] at hp;cases hp
      (try (simp -implicitDefEqProofs only[go_sem,AN,AY,Ar,An,BR,hi',hi,hpe,b2']));repeat' first|(with_reducible first|exact tI|refine aI ?_ ?_|intro _)|((first|with_reducible refine AU ?_ ?_<;>intro _)<;>try (simp -implicitDefEqProofs only[go_sem,AN,AY,Ar,An,BR,hi',hi,hpe,b2']))|simp (disch:=omega) only[Al]|((with_reducible refine A5 ?_);refine⟨_,rfl,?_,?_⟩)
      all_goals first|omega|rfl|trace_state
     |true =>
      have hp':=Qp.1 hp
      have k1:¬p.1<0:=by omega
      have k2:¬p.2<p.1:=by omega
      have k3:¬5000<p.2:=by omega
      have hnx:∀j,j<i+1->VO (q.sk[j]?.getD default)=true:=fun j hj=>by
       by_cases hji:j=i
       ·subst hji;rw[hpe];exact hp
       ·exact h2 j (by omega)
      (try (simp -implicitDefEqProofs only[go_sem,AN,AY,Ar,An,BR,hi',hi,hpe,b2',wi,k1,k2,k3]));repeat' first|(with_reducible first|exact tI|refine aI ?_ ?_|intro _)|((first|with_reducible refine AU ?_ ?_<;>intro _)<;>try (simp -implicitDefEqProofs only[go_sem,AN,AY,Ar,An,BR,hi',hi,hpe,b2',wi,k1,k2,k3]))|simp (disch:=omega) only[Al]|((with_reducible refine A5 ?_);refine⟨_,rfl,?_,?_⟩)
      all_goals first|omega|rfl|exact hnx|exact hnx _ (by assumption)|trace_state
    ·have hi':¬(i:Int)<(q.d.cyls:Int):=by omega
     (try (simp -implicitDefEqProofs only[go_sem,AN,AY,hi',b2']));repeat' first|(with_reducible first|exact tI|refine aI ?_ ?_|intro _)|((first|with_reducible refine AU ?_ ?_<;>intro _)<;>try (simp -implicitDefEqProofs only[go_sem,AN,AY,hi',b2']))|simp (disch:=omega) only[Al]|((with_reducible refine A5 ?_);refine⟨_,rfl,?_,?_⟩)
     all_goals first|omega|(simp<;>omega)|skip
     refine Ao (α:=Nat) (l0:=?l4) (m0:=?m4) (fun x=>[(6,.d (.int .i64 (x:Int)))]) (fun x=>[]) (fun x=>x<=q.rq.length/\∀j,j<x->q.rOk j=true) (fun x=>q.rq.length-x) 0 ?h04 ?he4 ?he24 ?hI4 ?step4
     case h04=>(simp -implicitDefEqProofs only[go_sem,AN,AL];rfl)
     case he4=>rfl
     case he24=>rfl
     case' step4=>(rintro n hI2;try dsimp only at hI2)
     case' hI4=>try dsimp only
     ·exact⟨by omega,fun j h=>absurd h (Nat.not_lt_zero j)⟩
     ·obtain⟨j1,j2⟩:=hI2
      by_cases hj:n<q.rq.length
      ·have hj':(n:Int)<(q.rq.length:Int):=by omega
       have wj:IntKind.i64.wrap ((n:Int)+1)=((n+1:Nat):Int):=by rw[Ad _ (by omega)];omega
       obtain⟨r,hr⟩:∃r,q.rq[n]?.getD default=r:=⟨_,rfl⟩
       have c5:=JX q.d hd r.fr r.cnt
       have c6:=Dm r.at' 0 10000
       have c7:=Dm r.due (-1) 100000
       have hro:q.rOk n=(q.d.inRun r.fr r.cnt && (FR r.at' 0 10000 && (FR r.due (-1) 100000 && (decide (n=0) || decide ((q.rq[n-1]?.getD default).at'<=r.at'))))):=by unfold GQ.rOk;rw[hr]
       have hbad:q.rOk n=false->q.ok=false:=jk hj
       have hir:decide (q.d.isRun r.fr r.cnt)=q.d.inRun r.fr r.cnt:=rfl
       rw[hir] at c5
       cases e1:q.d.inRun r.fr r.cnt with
       |false =>
        rw[e1] at c5 hro
        rw[hbad (by rw[hro];simp)]
        (try (simp -implicitDefEqProofs only[go_sem,AN,AI,AD,AL,Az,Av,Bn,Bo,hj',hj,hr]));repeat' first|(with_reducible first|exact tI|refine aI ?_ ?_|intro _)|((first|with_reducible refine AU ?_ ?_<;>intro _|(with_reducible refine isCall ?_);first|refine AF c5 ?_)<;>try (simp -implicitDefEqProofs only[go_sem,AN,AI,AD,AL,Az,Av,Bn,Bo,hj',hj,hr]))|simp (disch:=omega) only[Al]|((with_reducible refine A5 ?_);refine⟨_,rfl,?_,?_⟩)
        all_goals first|omega|rfl|trace_state
       |true =>
       rw[e1] at c5 hro
       cases e2:FR r.at' 0 10000 with
       |false =>
        rw[e2] at c6 hro
        rw[hbad (by rw[hro];simp)]
        (try (simp -implicitDefEqProofs only[go_sem,AN,AI,AD,AL,Az,Av,Bn,Bo,hj',hj,hr]));repeat' first|(with_reducible first|exact tI|refine aI ?_ ?_|intro _)|((first|with_reducible refine AU ?_ ?_<;>intro _|(with_reducible refine isCall ?_);first|refine AF c5 ?_|refine AF c6 ?_)<;>try (simp -implicitDefEqProofs only[go_sem,AN,AI,AD,AL,Az,Av,Bn,Bo,hj',hj,hr]))|simp (disch:=omega) only[Al]|((with_reducible refine A5 ?_);refine⟨_,rfl,?_,?_⟩)
        all_goals first|omega|rfl|trace_state
       |true =>
       rw[e2] at c6 hro
       cases e3:FR r.due (-1) 100000 with
       |false =>
        rw[e3] at c7 hro
        rw[hbad (by rw[hro];simp)]
        (try (simp -implicitDefEqProofs only[go_sem,AN,AI,AD,AL,Az,Av,Bn,Bo,hj',hj,hr]));repeat' first|(with_reducible first|exact tI|refine aI ?_ ?_|intro _)|((first|with_reducible refine AU ?_ ?_<;>intro _|(with_reducible refine isCall ?_);first|refine AF c5 ?_|refine AF c6 ?_|refine AF c7 ?_)<;>try (simp -implicitDefEqProofs only[go_sem,AN,AI,AD,AL,Az,Av,Bn,Bo,hj',hj,hr]))|simp (disch:=omega) only[Al]|((with_reducible refine A5 ?_);refine⟨_,rfl,?_,?_⟩)
        all_goals first|omega|rfl|trace_state
       |true =>
       rw[e3] at c7 hro
       have hnx:q.rOk n=true->∀j,j<n+1->q.rOk j=true:=fun hh j hj=>by
        by_cases hji:j=n
        ·subst hji;exact hh
        ·exact j2 j (by omega)
       by_cases hz:n=0
       ·subst hz
        have hnx:=hnx (by rw[hro];simp)
        (try (simp -implicitDefEqProofs only[go_sem,AN,AI,AD,AL,Az,Av,Bn,Bo,hj',hj,hr,wj]));repeat' first|(with_reducible first|exact tI|refine aI ?_ ?_|intro _)|((first|with_reducible refine AU ?_ ?_<;>intro _|(with_reducible refine isCall ?_);first|refine AF c5 ?_|refine AF c6 ?_|refine AF c7 ?_)<;>try (simp -implicitDefEqProofs only[go_sem,AN,AI,AD,AL,Az,Av,Bn,Bo,hj',hj,hr,wj]))|simp (disch:=omega) only[Al]|((with_reducible refine A5 ?_);refine⟨_,rfl,?_,?_⟩)
        all_goals first|omega|rfl|exact hnx|exact hnx _ (by assumption)|trace_state
       ·have hz':0<(n:Int):=by omega
        have wm:IntKind.i64.wrap ((n:Int)-1)=((n-1:Nat):Int):=by rw[Ad _ (by omega)];omega
        have hm:n-1<q.rq.length:=by omega
        have hm':((n-1:Nat):Int)<(q.rq.length:Int):=by omega
        obtain⟨p,hp⟩:∃p,q.rq[n-1]?.getD default=p:=⟨_,rfl⟩
        rw[hp,decide_eq_false hz] at hro
        by_cases hlt:r.at' < p.at'
        ·rw[hbad (by rw[hro,decide_eq_false (by omega)];simp)]
         (try (simp -implicitDefEqProofs only[go_sem,AN,AI,AD,AL,Az,Av,Bn,Bo,hj',hj,hr,hz',wm,hm,hm',hp,hlt]));repeat' first|(with_reducible first|exact tI|refine aI ?_ ?_|intro _)|((first|with_reducible refine AU ?_ ?_<;>intro _|(with_reducible refine isCall ?_);first|refine AF c5 ?_|refine AF c6 ?_|refine AF c7 ?_)<;>try (simp -implicitDefEqProofs only[go_sem,AN,AI,AD,AL,Az,Av,Bn,Bo,hj',hj,hr,hz',wm,hm,hm',hp,hlt]))|simp (disch:=omega) only[Al]|((with_reducible refine A5 ?_);refine⟨_,rfl,?_,?_⟩)
         all_goals first|omega|rfl|trace_state
        ·have hnx:=hnx (by rw[hro,decide_eq_true (by omega)];simp)
         (try (simp -implicitDefEqProofs only[go_sem,AN,AI,AD,AL,Az,Av,Bn,Bo,hj',hj,hr,hz',wm,wj,hm,hm',hp,hlt]));repeat' first|(with_reducible first|exact tI|refine aI ?_ ?_|intro _)|((first|with_reducible refine AU ?_ ?_<;>intro _|(with_reducible refine isCall ?_);first|refine AF c5 ?_|refine AF c6 ?_|refine AF c7 ?_)<;>try (simp -implicitDefEqProofs only[go_sem,AN,AI,AD,AL,Az,Av,Bn,Bo,hj',hj,hr,hz',wm,wj,hm,hm',hp,hlt]))|simp (disch:=omega) only[Al]|((with_reducible refine A5 ?_);refine⟨_,rfl,?_,?_⟩)
         all_goals first|omega|rfl|exact hnx|exact hnx _ (by assumption)|trace_state
      ·have hj':¬(n:Int)<(q.rq.length:Int):=by omega
       rw[c_ hh (fun j hj=>h2 j (by omega)) (fun j hj=>j2 j (by omega))]
       (try (simp -implicitDefEqProofs only[go_sem,AN,AL,hj']));repeat' first|(with_reducible first|exact tI|refine aI ?_ ?_|intro _)|((first|with_reducible refine AU ?_ ?_<;>intro _)<;>try (simp -implicitDefEqProofs only[go_sem,AN,AL,hj']))|simp (disch:=omega) only[Al]|((with_reducible refine A5 ?_);refine⟨_,rfl,?_,?_⟩)
       all_goals first|omega|rfl|trace_state
theorem SD (d:AG):Ca E0 Po [Cr d] (.bool (V_ d)):=by
 refine AW SR Aq (by simp) fun hwf=>?_
 have c1:=D_ d
 unfold AG.check at c1
 rw[AZ];unfold NF V_
 by_cases h20:20<d.zones.length
 ·have h20':20<(d.zones.length:Int):=by omega
  rw[decide_eq_true h20,Bool.true_or]
  (try (simp -implicitDefEqProofs only[go_sem,AI,AD,AY,h20']));repeat' first|(with_reducible first|exact tI|refine aI ?_ ?_|intro _)|((first|with_reducible refine AU ?_ ?_<;>intro _|(with_reducible refine isCall ?_);first|refine AF c1 ?_)<;>try (simp -implicitDefEqProofs only[go_sem,AI,AD,AY,h20']))|simp (disch:=omega) only[Al]
  all_goals first|omega|rfl|trace_state
 ·have h20':¬20<(d.zones.length:Int):=by omega
  rw[decide_eq_false h20,Bool.false_or]
  cases hd:d.ok with
  |false =>
   rw[hd] at c1
   rw[Bool.false_and]
   (try (simp -implicitDefEqProofs only[go_sem,AI,AD,AY,h20']));repeat' first|(with_reducible first|exact tI|refine aI ?_ ?_|intro _)|((first|with_reducible refine AU ?_ ?_<;>intro _|(with_reducible refine isCall ?_);first|refine AF c1 ?_)<;>try (simp -implicitDefEqProofs only[go_sem,AI,AD,AY,h20']))|simp (disch:=omega) only[Al]
   all_goals first|omega|rfl|trace_state
  |true =>
   rw[hd] at c1
   have c2:=GK d hd
   rw[Bool.true_and]
   by_cases h2:200<d.size
   ·rw[decide_eq_true h2,Bool.true_or]
    (try (simp -implicitDefEqProofs only[go_sem,AI,AD,AY,h20',h2]));repeat' first|(with_reducible first|exact tI|refine aI ?_ ?_|intro _)|((first|with_reducible refine AU ?_ ?_<;>intro _|(with_reducible refine isCall ?_);first|refine AF c1 ?_|refine AF c2 ?_)<;>try (simp -implicitDefEqProofs only[go_sem,AI,AD,AY,h20',h2]))|simp (disch:=omega) only[Al]
    all_goals first|omega|rfl|trace_state
   ·rw[decide_eq_false h2,Bool.false_or]
    by_cases h3:120<d.turn
    ·rw[decide_eq_true h3]
     (try (simp -implicitDefEqProofs only[go_sem,AI,AD,AY,h20',h2,h3]));repeat' first|(with_reducible first|exact tI|refine aI ?_ ?_|intro _)|((first|with_reducible refine AU ?_ ?_<;>intro _|(with_reducible refine isCall ?_);first|refine AF c1 ?_|refine AF c2 ?_)<;>try (simp -implicitDefEqProofs only[go_sem,AI,AD,AY,h20',h2,h3]))|simp (disch:=omega) only[Al]
     all_goals first|omega|rfl|trace_state
    ·rw[decide_eq_false h3]
     (try (simp -implicitDefEqProofs only[go_sem,AI,AD,AY,h20',h2,h3]));repeat' first|(with_reducible first|exact tI|refine aI ?_ ?_|intro _)|((first|with_reducible refine AU ?_ ?_<;>intro _|(with_reducible refine isCall ?_);first|refine AF c1 ?_|refine AF c2 ?_)<;>try (simp -implicitDefEqProofs only[go_sem,AI,AD,AY,h20',h2,h3]))|simp (disch:=omega) only[Al]
     all_goals first|omega|rfl|trace_state
theorem SB (q:GQ):Ca E0 Pm [Hy q] (.bool (V9 q)):=by
 refine AW SP Aq (by simp) fun hwf=>?_
 have c1:=SD q.d
 rw[AZ];unfold ND V9
 cases h1:V_ q.d with
 |true =>
  rw[h1] at c1
  rw[Bool.true_or]
  (try (simp -implicitDefEqProofs only[go_sem,Ai,AN,AI,AD,AY,AL]));repeat' first|(with_reducible first|exact tI|refine aI ?_ ?_|intro _)|((first|with_reducible refine AU ?_ ?_<;>intro _|(with_reducible refine isCall ?_);first|refine AF c1 ?_)<;>try (simp -implicitDefEqProofs only[go_sem,Ai,AN,AI,AD,AY,AL]))|simp (disch:=omega) only[Al]
  all_goals first|omega|rfl|trace_state
 |false =>
 rw[h1] at c1
 rw[Bool.false_or]
 by_cases h2:100<q.sk.length
 ·have h2':100<(q.sk.length:Int):=by omega
  rw[decide_eq_true h2,Bool.true_or]
  (try (simp -implicitDefEqProofs only[go_sem,Ai,AN,AI,AD,AY,AL,h2']));repeat' first|(with_reducible first|exact tI|refine aI ?_ ?_|intro _)|((first|with_reducible refine AU ?_ ?_<;>intro _|(with_reducible refine isCall ?_);first|refine AF c1 ?_)<;>try (simp -implicitDefEqProofs only[go_sem,Ai,AN,AI,AD,AY,AL,h2']))|simp (disch:=omega) only[Al]
  all_goals first|omega|rfl|trace_state
 have h2':¬100<(q.sk.length:Int):=by omega
 rw[decide_eq_false h2,Bool.false_or]
 by_cases h3:20<q.rq.length
 ·have h3':20<(q.rq.length:Int):=by omega
  rw[decide_eq_true h3,Bool.true_or]
  (try (simp -implicitDefEqProofs only[go_sem,Ai,AN,AI,AD,AY,AL,h2',h3']));repeat' first|(with_reducible first|exact tI|refine aI ?_ ?_|intro _)|((first|with_reducible refine AU ?_ ?_<;>intro _|(with_reducible refine isCall ?_);first|refine AF c1 ?_)<;>try (simp -implicitDefEqProofs only[go_sem,Ai,AN,AI,AD,AY,AL,h2',h3']))|simp (disch:=omega) only[Al]
  all_goals first|omega|rfl|trace_state
 have h3':¬20<(q.rq.length:Int):=by omega
 rw[decide_eq_false h3,Bool.false_or]
 by_cases h4:4<q.rq.length
 ·have h4':4<(q.rq.length:Int):=by omega
  have c2:=JU q (by omega) (by omega)
  rw[decide_eq_true h4,Bool.true_and]
  obtain⟨e,he⟩:∃e,q.check=e:=⟨_,rfl⟩
  rw[he] at c2
  rw[he]
  rw[Ai,AN] at c2
  by_cases h5:e=0
  ·rw[decide_eq_true h5]
   (try (simp -implicitDefEqProofs only[go_sem,Ai,AN,AI,AD,AY,AL,h2',h3',h4',h5]));repeat' first|(with_reducible first|exact tI|refine aI ?_ ?_|intro _)|((first|with_reducible refine AU ?_ ?_<;>intro _|(with_reducible refine isCall ?_);first|refine AF c1 ?_|refine AF c2 ?_)<;>try (simp -implicitDefEqProofs only[go_sem,Ai,AN,AI,AD,AY,AL,h2',h3',h4',h5]))|simp (disch:=omega) only[Al]
   all_goals first|omega|rfl|trace_state
  ·rw[decide_eq_false h5]
   (try (simp -implicitDefEqProofs only[go_sem,Ai,AN,AI,AD,AY,AL,h2',h3',h4',h5]));repeat' first|(with_reducible first|exact tI|refine aI ?_ ?_|intro _)|((first|with_reducible refine AU ?_ ?_<;>intro _|(with_reducible refine isCall ?_);first|refine AF c1 ?_|refine AF c2 ?_)<;>try (simp -implicitDefEqProofs only[go_sem,Ai,AN,AI,AD,AY,AL,h2',h3',h4',h5]))|simp (disch:=omega) only[Al]
   all_goals first|omega|rfl|trace_state
 ·have h4':¬4<(q.rq.length:Int):=by omega
  rw[decide_eq_false h4,Bool.false_and]
  (try (simp -implicitDefEqProofs only[go_sem,Ai,AN,AI,AD,AY,AL,h2',h3',h4']));repeat' first|(with_reducible first|exact tI|refine aI ?_ ?_|intro _)|((first|with_reducible refine AU ?_ ?_<;>intro _|(with_reducible refine isCall ?_);first|refine AF c1 ?_)<;>try (simp -implicitDefEqProofs only[go_sem,Ai,AN,AI,AD,AY,AL,h2',h3',h4']))|simp (disch:=omega) only[Al]
  all_goals first|omega|rfl|trace_state
end Go.Pw
end
section
open Go Go.Pw Go.Proofs
namespace Go.Pw
set_option maxRecDepth 100000
set_option maxHeartbeats 3200000
abbrev zz (n:Nat):List Zp:=List.replicate n ((0:Int),(0:Int))
theorem Yb (n:Nat):List.replicate n (D.agg [.int .i64 0,.int .i64 0])=FJ (zz n):=by simp[FJ,bh,zz]
theorem QN (l:List Zp) (i:Nat) (u v:Int):(FJ l).set i (.agg [.int .i64 u,.int .i64 v])=FJ (l.set i (u,v)):=by simp[FJ,bh,List.map_set]
def Zm (f:Nat->Nat->Int) (m p:Nat):List Int:=(List.range m).map (f p)
theorem Eu (f m p):(Zm f m p).length=m:=by simp[Zm]
theorem VW {f m p j} (h:j<m):(Zm f m p)[j]?.getD 0=f p j:=by simp[Zm,h]
theorem Dl {f:Nat->Nat->Int}{n m i:Nat}{A:D->Prop}:Ax (Tx f n m)[i]? A=(i<n/\A (.list (decide (m=0)) (Bs (Zm f m i)))):=by
 unfold Tx
 by_cases h:i<n
 ·simp[h,Ax,NS,Zm]
 ·simp[h,Ax]
theorem CO (f n m):(Tx f n m).length=n:=by simp[Tx]
theorem EC (f n m):Ci 1 (Tx f n m)=True:=J7 fun _=>rfl
def P4 (T:Nat->Nat->Int) (K:Int) (i j:Nat):Bool:=decide (0<=T i j*K) && decide (T i j*K<=5000)
def kD (T:Nat->Nat->Int) (K:Int) (n:Nat):Bool:=(List.range n).all fun i=>(List.range n).all (P4 T K i)
theorem gR {T K n i j} (hi:i<n) (hj:j<n) (h:P4 T K i j=false):kD T K n=false:=by
 have:(List.range n).all (P4 T K i)=false:=by rw[List.all_eq_false];exact⟨j,List.mem_range.2 hj,by rw[h];simp⟩
 unfold kD;rw[List.all_eq_false];exact⟨i,List.mem_range.2 hi,by rw[this];simp⟩
theorem gS {T K n} (h:∀i j,i<n->j<n->P4 T K i j=true):kD T K n=true:=by
 unfold kD
 exact List.all_eq_true.2 fun i hi=>List.all_eq_true.2 fun j hj=>h i j (List.mem_range.1 hi) (List.mem_range.1 hj)
theorem kC {T K n} (h:kD T K n=true) {i j} (hi:i<n) (hj:j<n):0<=T i j*K/\T i j*K<=5000:=by
 have:=List.all_eq_true.1 (List.all_eq_true.1 h i (List.mem_range.2 hi)) j (List.mem_range.2 hj)
 simpa[P4] using this
attribute [local congr] DX B3 B4 Bc DZ Bj Bl Bk Bb BN BF A6 Be BG Bg CD CE CF Cd Ce B9 Bf BL Bi BM B8 Cf BK CB CC B_ B6 B7 B2 DY B5 Bd BI BH BJ Bh CA
attribute [local irreducible] IntKind.wrap CK Option.getD and or
theorem R2 (T:Nat->Nat->Int) (n:Nat) (K:Int) (hn:1<=n/\n<=41) (hK:1<=K/\K<=20) (hT:∀i j,-1<=T i j/\T i j<=1000000) :
  Ca E0 Pi [.list false (Tx T n n),.int .i64 K] (if kD T K n then .tup [.list false (FJ (Li T K n n)),.bool true] else .tup [.list true [],.bool false]):=by
 refine AW SK Aq (by simp) fun hwf=>?_
 have hn0:decide (n=0)=false:=by simp;omega
 rw[AZ];unfold M9
 (try (simp -implicitDefEqProofs only[go_sem,CO,Yb]));repeat' first|(with_reducible first|exact tI|refine aI ?_ ?_|intro _)|((first|with_reducible refine AU ?_ ?_<;>intro _)<;>try (simp -implicitDefEqProofs only[go_sem,CO,Yb]))|simp (disch:=omega) only[Al]|((with_reducible refine A0 ?_);refine⟨(_,_),rfl,?_,?_⟩)
 all_goals first|omega|(simp<;>omega)|skip
 refine Ao (α:=Nat×(List Zp)) (l0:=?l1) (m0:=?m1) (fun x=>[(7,.d (.int .i64 (x.1:Int)))]) (fun x=>[(13,.row 26 2 false (FJ x.2))]) (fun x=>x.1<=n/\x.2=Li T K n x.1/\(∀p j,p<x.1->j<n->P4 T K p j=true)) (fun x=>n-x.1) (0,(zz n)) ?h01 ?he1 ?he21 ?hI1 ?step1
 case h01=>(simp -implicitDefEqProofs only[go_sem,CO];rfl)
 case he1=>rfl
 case he21=>rfl
 case' step1=>(rintro⟨i,out⟩ hI;try dsimp only at hI)
 case' hI1=>try dsimp only
 ·exact⟨by omega,rfl,fun p j h=>absurd h (Nat.not_lt_zero p)⟩
 ·obtain⟨h1,h2,h3⟩:=hI
  by_cases hi:i<n
  ·have hi':(i:Int)<(n:Int):=by omega
   have wi:IntKind.i64.wrap ((i:Int)+1)=((i+1:Nat):Int):=by rw[Ad _ (by omega)];omega
   (try (simp -implicitDefEqProofs only[go_sem,CO,EC,Dl,Eu,hi',hi,hn0]));repeat' first|(with_reducible first|exact tI|refine aI ?_ ?_|intro _)|((first|with_reducible refine AU ?_ ?_<;>intro _)<;>try (simp -implicitDefEqProofs only[go_sem,CO,EC,Dl,Eu,hi',hi,hn0]))|simp (disch:=omega) only[Al]|((with_reducible refine A0 ?_);refine⟨(_,_),rfl,?_,?_⟩)
   all_goals first|omega|(simp<;>omega)|skip
   refine Ao (α:=Nat×(List Zp)) (l0:=?l2) (m0:=?m2) (fun x=>[(8,.d (.int .i64 (x.1:Int)))]) (fun x=>[(13,.row 26 2 false (FJ x.2))]) (fun x=>x.1<=n/\x.2=UI T K i x.1 (Li T K n i)/\(∀p,p<x.1->P4 T K i p=true)) (fun x=>n-x.1) (0,out) ?h02 ?he2 ?he22 ?hI2 ?step2
   case h02=>(simp -implicitDefEqProofs only[go_sem,CO];rfl)
   case he2=>rfl
   case he22=>rfl
   case' step2=>(rintro⟨j,oux⟩ hI2;try dsimp only at hI2)
   case' hI2=>try dsimp only
   ·exact⟨by omega,h2,fun p h=>absurd h (Nat.not_lt_zero p)⟩
   ·obtain⟨j1,j2,j3⟩:=hI2
    have hol:oux.length=n:=by rw[j2,Qs,Rs]
    by_cases hj:j<n
    ·have hj':(j:Int)<(n:Int):=by omega
     have wj:IntKind.i64.wrap ((j:Int)+1)=((j+1:Nat):Int):=by rw[Ad _ (by omega)];omega
     have hg:=VW (f:=T) (p:=i) hj
     have hTb:=hT i j
     have hm1:-20<=T i j*K/\T i j*K<=20000000:=by
      constructor
      ·have:(-1)*K<=T i j*K:=Int.mul_le_mul_of_nonneg_right hTb.1 (by omega)
       omega
      ·have:T i j*K<=1000000*20:=Int.mul_le_mul hTb.2 hK.2 (by omega) (by omega)
       omega
     have wv:IntKind.i64.wrap (T i j*K)=T i j*K:=Ad _ (by omega)
     have hrs:UI T K i (j+1) (Li T K n i)=iy T K oux i j:=by rw[UI,j2]
     cases hoc:P4 T K i j with
     |false =>
      rw[gR hi hj hoc,if_neg (by simp)]
      have hbad:¬(0<=T i j*K/\T i j*K<=5000):=fun h=>by unfold P4 at hoc;simp[h] at hoc
      obtain⟨v,hv⟩:∃v,T i j*K=v:=⟨_,rfl⟩
      rw[hv] at wv hbad
      (try (simp -implicitDefEqProofs only[go_sem,CO,EC,Dl,Eu,hi',hi,hj',hj,hn0,hg,hv,wv]));repeat' first|(with_reducible first|exact tI|refine aI ?_ ?_|intro _)|((first|with_reducible refine AU ?_ ?_<;>intro _)<;>try (simp -implicitDefEqProofs only[go_sem,CO,EC,Dl,Eu,hi',hi,hj',hj,hn0,hg,hv,wv]))|simp (disch:=omega) only[Al]|((with_reducible refine A0 ?_);refine⟨(_,_),rfl,?_,?_⟩)
      all_goals first|omega|rfl|exact .inl True.intro|trace_state
     |true =>
      have hok:0<=T i j*K/\T i j*K<=5000:=by unfold P4 at hoc;simpa using hoc
      have hnx:∀p,p<j+1->P4 T K i p=true:=fun p hp=>by
       by_cases hpj:p=j
       ·subst hpj;exact hoc
       ·exact j3 p (by omega)
      unfold iy at hrs
      simp only at hrs
      obtain⟨v,hv⟩:∃v,T i j*K=v:=⟨_,rfl⟩
      rw[hv] at wv hok hrs
      obtain⟨far,hfar⟩:∃far,(i-j)+(j-i)=far:=⟨_,rfl⟩
      rw[hfar] at hrs
      have hfi:max ((i:Int)-(j:Int)) ((j:Int)-(i:Int))=(far:Int):=by omega
      have hfl:far<oux.length:=by omega
      have hfl':(far:Int)<(oux.length:Int):=by omega
      have w1:IntKind.i64.wrap ((i:Int)-(j:Int))=(i:Int)-(j:Int):=Ad _ (by omega)
      have w2:IntKind.i64.wrap ((j:Int)-(i:Int))=(j:Int)-(i:Int):=Ad _ (by omega)
      have k1:¬v<0:=by omega
      have k2:¬5000<v:=by omega
      by_cases hz:i=0
      ·have hz':((i:Int)=0)=True:=eq_true (by omega)
       rw[if_pos hz] at hrs
       have hsl:(oux.set far (v,v)).length=oux.length:=by simp
       have hse:(oux.set far (v,v))[far]?.getD default=(v,v):=Kl hfl
       rw[hse] at hrs
       (try (simp -implicitDefEqProofs only[go_sem,CO,EC,Dl,Eu,hi',hi,hj',hj,hn0,hg,hv,wv,w1,w2,hfi,hfl,hfl',k1,k2,hz',AY,Ar,An,BR,QN,hsl,hse,wj]));repeat' first|(with_reducible first|exact tI|refine aI ?_ ?_|intro _)|((first|with_reducible refine AU ?_ ?_<;>intro _)<;>try (simp -implicitDefEqProofs only[go_sem,CO,EC,Dl,Eu,hi',hi,hj',hj,hn0,hg,hv,wv,w1,w2,hfi,hfl,hfl',k1,k2,hz',AY,Ar,An,BR,QN,hsl,hse,wj]))|simp (disch:=omega) only[Al]|((with_reducible refine A0 ?_);refine⟨(_,_),rfl,?_,?_⟩)
       all_goals first|omega|rfl|exact .inl True.intro|exact hnx|exact hnx _ (by assumption)|exact hrs.symm|trace_state
      ·have hz':¬(i:Int)=0:=by omega
       rw[if_neg hz] at hrs
       obtain⟨pr,hpr⟩:∃pr,oux[far]?.getD default=pr:=⟨_,rfl⟩
       rw[hpr] at hrs
       (try (simp -implicitDefEqProofs only[go_sem,CO,EC,Dl,Eu,hi',hi,hj',hj,hn0,hg,hv,wv,w1,w2,hfi,hfl,hfl',k1,k2,hz',AY,Ar,An,BR,QN,hpr,wj]));repeat' first|(with_reducible first|exact tI|refine aI ?_ ?_|intro _)|((first|with_reducible refine AU ?_ ?_<;>intro _)<;>try (simp -implicitDefEqProofs only[go_sem,CO,EC,Dl,Eu,hi',hi,hj',hj,hn0,hg,hv,wv,w1,w2,hfi,hfl,hfl',k1,k2,hz',AY,Ar,An,BR,QN,hpr,wj]))|simp (disch:=omega) only[Al]|((with_reducible refine A0 ?_);refine⟨(_,_),rfl,?_,?_⟩)
       all_goals first|omega|rfl|exact .inl True.intro|exact hnx|exact hnx _ (by assumption)|exact hrs.symm|trace_state
    ·have hj':¬(j:Int)<(n:Int):=by omega
     have hje:j=n:=by omega
     rw[hje] at j2 j3
     have hnx:∀p j,p<i+1->j<n->P4 T K p j=true:=fun p j hp hj=>by
      by_cases hpi:p=i
      ·subst hpi;exact j3 j hj
      ·exact h3 p j (by omega) hj
     have hal:oux=Li T K n (i+1):=by rw[Li,j2]
     (try (simp -implicitDefEqProofs only[go_sem,CO,hj',wi]));repeat' first|(with_reducible first|exact tI|refine aI ?_ ?_|intro _)|((first|with_reducible refine AU ?_ ?_<;>intro _)<;>try (simp -implicitDefEqProofs only[go_sem,CO,hj',wi]))|simp (disch:=omega) only[Al]|((with_reducible refine A0 ?_);refine⟨(_,_),rfl,?_,?_⟩)
     all_goals first|omega|rfl|exact .inl True.intro|exact hnx|exact hal|exact hnx _ _ (by assumption) (by assumption)|trace_state
  ·have hi':¬(i:Int)<(n:Int):=by omega
   have hie:i=n:=by omega
   rw[hie] at h2
   rw[gS (fun p j hp hj=>h3 p j (by omega) hj),if_pos rfl]
   (try (simp -implicitDefEqProofs only[go_sem,CO,hi',h2]));repeat' first|(with_reducible first|exact tI|refine aI ?_ ?_|intro _)|((first|with_reducible refine AU ?_ ?_<;>intro _)<;>try (simp -implicitDefEqProofs only[go_sem,CO,hi',h2]))|simp (disch:=omega) only[Al]|((with_reducible refine A0 ?_);refine⟨(_,_),rfl,?_,?_⟩)
   all_goals first|omega|rfl|exact .inl True.intro|trace_state
end Go.Pw
end
section
namespace Go.Pw
theorem Vc {a:A1}:∀(f:Nat) {n:Int}{es:List BT}{cl:Nat},(∀e,e∈es->0<=e.2.2/\e.2.2<n)->0<=n->∀e,e∈(KK a f n es cl).1->0<=e.2.2/\e.2.2<n+f
 |0,n,es,cl,h,_,e,he=>by
  have:=h e he;omega
 |f+1,n,es,cl,h,hn,e,he=>by
  rw[KK] at he
  split at he
  ·have:=h e he;omega
  ·have:=Vc f (n:=n+1) (fun e he=>by
    rcases List.mem_append.1 he with he|he
    ·have:=h e he;omega
    ·rw[(EV he).1];omega) (by omega) e he
   omega
theorem gH {a:A1}(g:a.Good) {p:Bv->Bool}{s:Bv}{v:Int}(h:Cv (GA a p).1 s=some v):0<=v/\v<=1000:=by
 obtain⟨e,h1,_,h3⟩:=Et h
 have h4:=Vc (a:=a) (NU a (E2 a p)+1) (n:=1) (cl:=(GX a p).length) (fun e he=>by rw[(IU he).1];omega) (by omega) e h1
 have h5:NU a (E2 a p)<=697:=Nat.le_trans (List.length_filter_le _ _) (Gt g)
 rw[h3] at h4;omega
theorem cH {a:A1}(g:a.Good) (i t:Nat):-1<=Fq a i t/\Fq a i t<=1000000:=by
 unfold Fq
 cases h:Cv (Ew a t) ⟨(i:Int),0⟩ with
 |none=>simp
 |some v=>have:=gH g h;simp;omega
theorem Ym {a:A1}{i t:Nat}(h:0<=Fq a i t):Cv (Ew a t) ⟨(i:Int),0⟩=some (Fq a i t):=by
 unfold Fq at h ⊢
 cases hv:Cv (Ew a t) ⟨(i:Int),0⟩ with
 |none=>rw[hv] at h;simp at h
 |some v=>rfl
theorem VQ {a:A1}{ks:List Int}(h:OS a ks=true) (n:Nat):OS a (ks.take n)=true:=by
 unfold OS at h ⊢
 rw[Bool.and_eq_true,List.all_eq_true,decide_eq_true_eq] at h ⊢
 exact⟨fun x hx=>h.1 x (List.mem_of_mem_take hx),Nat.le_trans (by rw[List.length_take];exact Nat.min_le_right _ _) h.2⟩
theorem Y8 (q:GQ) (l:List Int):∀n,(q.hds false l n).1=(q.hds true l n).1
 |0=>rfl
 |n+1=>rfl
theorem eG (q:GQ) (hi:Bool) (l:List Int) (n:Nat):(q.hds hi l (n+1)).1=q.last (q.req (l[n]?.getD 0)):=rfl
theorem Yw {q:GQ}{hi:Bool}{l:List Int}(hr:∀i,i<l.length->0<=l[i]?.getD 0/\l[i]?.getD 0<q.rq.length) (hd:∀i k,i<l.length->k<i->l[k]?.getD 0≠l[i]?.getD 0):∀m,m<=l.length->∀i,i<m->(q.outN hi l m)[(l[i]?.getD 0).toNat]?.getD 0=(q.hds hi l (i+1)).2
 |0,_,i,hi=>by omega
 |m+1,hm,i,hi'=>by
  have h1:=hr i (by omega);have h2:=hr m (by omega)
  rw[GQ.outN]
  by_cases him:i=m
  ·subst him
   rw[List.getElem?_set_self (by rw[IQ];omega)];rfl
  ·have h3:=hd m i (by omega) (by omega)
   rw[List.getElem?_set_ne (by omega)]
   exact Yw hr hd m (by omega) i (by omega)
theorem iP {q:GQ}{l:List Int}(ho:Hl q.rq.length l=true) {i:Nat}(hi:i<q.rq.length) :
  (RO q l q.rq.length)[(l[i]?.getD 0).toNat]?.getD default=((q.hds false l (i+1)).2,(q.hds true l (i+1)).2):=by
 obtain⟨h1,h2,h3⟩:=Ki ho
 have hx:=h2 i hi
 have ha:=fun b=>Yw (q:=q) (hi:=b) (l:=l) (fun i hi=>h2 i (by omega)) (fun i k hi hk=>h3 i k (by omega) hk) l.length (Nat.le_refl _) i (by omega)
 unfold RO
 rw[List.getElem?_map,List.getElem?_range (by omega)]
 show (_,_)=_
 rw[ha,ha]
theorem ck {q:GQ}(hT:0<q.d.turn) {l:List Int}{i:Nat}{now s e:Int}(h:(q.hds false l i).2<=now/\now<=(q.hds true l i).2)
  (hs:(q.sk[(Ok (q.first (q.req (l[i]?.getD 0))) (q.hds true l i).1).toNat]?.getD default).1<=s/\s<=(q.sk[(Ok (q.first (q.req (l[i]?.getD 0))) (q.hds true l i).1).toNat]?.getD default).2)
  (he:(q.d.run (q.req (l[i]?.getD 0)).fr (q.req (l[i]?.getD 0)).cnt).1.1<=e/\e<=(q.d.run (q.req (l[i]?.getD 0)).fr (q.req (l[i]?.getD 0)).cnt).1.2) :
  (q.hds false l (i+1)).2<=q.serveT (q.req (l[i]?.getD 0)) now s e/\q.serveT (q.req (l[i]?.getD 0)) now s e<=(q.hds true l (i+1)).2:=by
 rw[GQ.hds,GQ.hds]
 unfold GQ.serveV
 rw[Y8 q l i]
 exact⟨PE hT h.1 hs.1 he.1,PE hT h.2 hs.2 he.2⟩
theorem ew (i j:Nat):(Ok (i:Int) (j:Int)).toNat=(j-i)+(i-j):=by unfold Ok;omega
theorem bH {a:A1}{over to:Nat}{ks:List Int}(hk:OS a ks=true) (h0:0<=Fq a over to) (hn:(Fq a over to).toNat<=ks.length) :
  M3 a (Ew a to) ⟨(over:Int),0⟩ (ks.take (Fq a over to).toNat) (Fq a over to).toNat∈W9 a to:=by
 have hv:=Ym h0
 obtain⟨n,hn'⟩:∃n,(Fq a over to).toNat=n:=⟨_,rfl⟩
 rw[hn'] at hn ⊢
 have hl:(ks.take n).length=n:=by rw[List.length_take];omega
 have hg:=(Ys (VQ hk n)).2
 have h:=Zk (a:=a) (p:=Iy a to) (s:=⟨(over:Int),0⟩) (n:=Fq a over to) hv (ks:=ks.take n) hg (by rw[hl];omega)
 rw[hl] at h
 unfold W9
 exact List.mem_filter.2 ⟨IA.2 h.2,h.1⟩
def Na (E s:Bv):Bool:=decide (s.at'=E.at') && decide (s.sp=E.sp)
theorem aN (E:Bv):Na E E=true:=by simp[Na]
theorem kx {L:List Bv}{E:Bv}(h:E∈L):L.any (Na E)=true:=List.any_eq_true.2 ⟨E,h,aN E⟩
theorem Tl {L:List Bv}{i:Nat}(h:i<L.length) (p:Bv->Bool):(L.take (i+1)).any p=((L.take i).any p || p (L[i]?.getD default)):=by
 rw[List.take_add_one,List.getElem?_eq_getElem h,Option.toList_some,List.any_append,Option.getD_some];simp
end Go.Pw
end
