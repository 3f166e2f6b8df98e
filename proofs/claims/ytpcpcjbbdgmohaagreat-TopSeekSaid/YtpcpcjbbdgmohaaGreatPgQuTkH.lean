/- A part of the proof. -/
import Derived.Test.YtpcpcjbbdgmohaaGreatPgQuTkB
import Derived.Test.YtpcpcjbbdgmohaaGreatPgQuTkE
set_option linter.all false
section
open Go Go.Pw Go.Proofs
namespace Go.Pw
set_option maxRecDepth 100000
set_option maxHeartbeats 3200000
def fw (a:A1) (t:Int) (s:Bv):Int:=if a.ok then (if Gn t 0 a.last then (if a.has s then 0 else 61) else 1) else 60
attribute [local congr] DX B3 B4 Bc DZ Bj Bl Bk Bb BN BF A6 Be BG Bg CD CE CF Cd Ce B9 Bf BL Bi BM B8 Cf BK CB CC B_ B6 B7 B2 DY B5 Bd BI BH BJ Bh CA
attribute [local irreducible] IntKind.wrap CK Option.getD and or
theorem JV (a:A1):Ca E0 L9 [FW a] (.int .i64 (if a.ok then 0 else 60)):=by
 refine AW QA Aq (by simp) fun hwf=>?_
 have c1:=C1 a.last 0 40
 have c2:=C1 a.speed 0 8
 have c3:=C1 a.force 0 4
 have c4:=C1 a.shake 0 2
 have c5:=C1 a.gate 0 4
 have c6:=C1 a.slow 0 a.speed
 rw[AZ];unfold KQ A1.ok
 generalize Gn a.last 0 40=b1 at *
 generalize Gn a.speed 0 8=b2 at *
 generalize Gn a.force 0 4=b3 at *
 generalize Gn a.shake 0 2=b4 at *
 generalize Gn a.gate 0 4=b5 at *
 generalize Gn a.slow 0 a.speed=b6 at *
 cases b1
 ·(try (simp -implicitDefEqProofs only[go_sem,Aa,AP]));repeat' first|(with_reducible first|exact tI|refine aI ?_ ?_|intro _)|((first|with_reducible refine AU ?_ ?_<;>intro _|(with_reducible refine isCall ?_);first|refine AF c1 ?_)<;>try (simp -implicitDefEqProofs only[go_sem,Aa,AP]))|simp (disch:=omega) only[Al]
  all_goals first|rfl|(simp;done)
 cases b2
 ·(try (simp -implicitDefEqProofs only[go_sem,Aa,AP]));repeat' first|(with_reducible first|exact tI|refine aI ?_ ?_|intro _)|((first|with_reducible refine AU ?_ ?_<;>intro _|(with_reducible refine isCall ?_);first|refine AF c1 ?_|refine AF c2 ?_)<;>try (simp -implicitDefEqProofs only[go_sem,Aa,AP]))|simp (disch:=omega) only[Al]
  all_goals first|rfl|(simp;done)
 cases b3
 ·(try (simp -implicitDefEqProofs only[go_sem,Aa,AP]));repeat' first|(with_reducible first|exact tI|refine aI ?_ ?_|intro _)|((first|with_reducible refine AU ?_ ?_<;>intro _|(with_reducible refine isCall ?_);first|refine AF c1 ?_|refine AF c2 ?_|refine AF c3 ?_)<;>try (simp -implicitDefEqProofs only[go_sem,Aa,AP]))|simp (disch:=omega) only[Al]
  all_goals first|rfl|(simp;done)
 cases b4
 ·(try (simp -implicitDefEqProofs only[go_sem,Aa,AP]));repeat' first|(with_reducible first|exact tI|refine aI ?_ ?_|intro _)|((first|with_reducible refine AU ?_ ?_<;>intro _|(with_reducible refine isCall ?_);first|refine AF c1 ?_|refine AF c2 ?_|refine AF c3 ?_|refine AF c4 ?_)<;>try (simp -implicitDefEqProofs only[go_sem,Aa,AP]))|simp (disch:=omega) only[Al]
  all_goals first|rfl|(simp;done)
 cases b5
 ·(try (simp -implicitDefEqProofs only[go_sem,Aa,AP]));repeat' first|(with_reducible first|exact tI|refine aI ?_ ?_|intro _)|((first|with_reducible refine AU ?_ ?_<;>intro _|(with_reducible refine isCall ?_);first|refine AF c1 ?_|refine AF c2 ?_|refine AF c3 ?_|refine AF c4 ?_|refine AF c5 ?_)<;>try (simp -implicitDefEqProofs only[go_sem,Aa,AP]))|simp (disch:=omega) only[Al]
  all_goals first|rfl|(simp;done)
 cases b6
 ·(try (simp -implicitDefEqProofs only[go_sem,Aa,AP]));repeat' first|(with_reducible first|exact tI|refine aI ?_ ?_|intro _)|((first|with_reducible refine AU ?_ ?_<;>intro _|(with_reducible refine isCall ?_);first|refine AF c1 ?_|refine AF c2 ?_|refine AF c3 ?_|refine AF c4 ?_|refine AF c5 ?_|refine AF c6 ?_)<;>try (simp -implicitDefEqProofs only[go_sem,Aa,AP]))|simp (disch:=omega) only[Al]
  all_goals first|rfl|(simp;done)
 ·(try (simp -implicitDefEqProofs only[go_sem,Aa,AP]));repeat' first|(with_reducible first|exact tI|refine aI ?_ ?_|intro _)|((first|with_reducible refine AU ?_ ?_<;>intro _|(with_reducible refine isCall ?_);first|refine AF c1 ?_|refine AF c2 ?_|refine AF c3 ?_|refine AF c4 ?_|refine AF c5 ?_|refine AF c6 ?_)<;>try (simp -implicitDefEqProofs only[go_sem,Aa,AP]))|simp (disch:=omega) only[Al]
  all_goals first|rfl|(simp;done)
def OS (a:A1) (ks:List Int):Bool:=ks.all (fun k=>Gn k (-a.shake) a.shake) && decide (ks.length<=200)
theorem LY (a:A1) (g:a.Good) (nb:Bool) (ks:List Int):Ca E0 Ht [FW a,.list nb (Bs ks)] (.bool (OS a ks)):=by
 refine AW Ld Aq (by simp) fun hwf=>?_
 simp only[ML,LG,LF,Iw,OK,OJ,Sm,OI,FA,Fm,Fn,LQ,Gl,List.length_map,FQ,true_and,and_true] at hwf
 have g2:=g.k
 have w1:IntKind.i64.wrap (0-a.shake)=-a.shake:=by rw[Ad _ (by omega)];omega
 rw[AZ];unfold G6
 (try (simp -implicitDefEqProofs only[go_sem,Aa,AP]));repeat' first|(with_reducible first|exact tI|refine aI ?_ ?_|intro _)|((first|with_reducible refine AU ?_ ?_<;>intro _)<;>try (simp -implicitDefEqProofs only[go_sem,Aa,AP]))|simp (disch:=omega) only[Al]|((with_reducible refine A5 ?_);refine⟨_,rfl,?_,?_⟩)
 all_goals first|omega|(simp<;>omega)|skip
 refine Ao (α:=Nat) (l0:=?l1) (m0:=?m1) (fun x=>[(5,.d (.int .i64 (x:Int)))]) (fun x=>[]) (fun x=>x<=ks.length/\∀(j:Nat),j<x->Gn (ks[j]?.getD 0) (-a.shake) a.shake=true) (fun x=>ks.length-x) 0 ?h01 ?he1 ?he21 ?hI1 ?step1
 case h01=>(simp -implicitDefEqProofs only[go_sem];rfl)
 case he1=>rfl
 case he21=>rfl
 case' step1=>(rintro i hI;try dsimp only at hI)
 case' hI1=>try dsimp only
 ·exact⟨Nat.zero_le _,fun j h=>absurd h (Nat.not_lt_zero j)⟩
 ·obtain⟨h1,h2⟩:=hI
  by_cases hi:i<ks.length
  ·have hi':(i:Int)<(ks.length:Int):=by omega
   have wi:IntKind.i64.wrap ((i:Int)+1)=((i+1:Nat):Int):=by rw[Ad _ (by omega)];omega
   obtain⟨k,hk⟩:∃k,ks[i]?.getD 0=k:=⟨_,rfl⟩
   have c1:=C1 k (-a.shake) a.shake
   cases hb:Gn k (-a.shake) a.shake with
   |false =>
    rw[hb] at c1
    have hno:OS a ks=false:=by
     unfold OS
     have:(ks.all fun k=>Gn k (-a.shake) a.shake)=false:=by
      rw[List.all_eq_false]
      refine⟨k,?_,by rw[hb];simp⟩
      rw[←hk,List.getElem?_eq_getElem hi,Option.getD_some]
      exact List.getElem_mem hi
     rw[this];simp
    rw[hno]
    (try (simp -implicitDefEqProofs only[go_sem,AP,hi',hi,hk,w1]));repeat' first|(with_reducible first|exact tI|refine aI ?_ ?_|intro _)|((first|with_reducible refine AU ?_ ?_<;>intro _|(with_reducible refine isCall ?_);first|refine AF c1 ?_)<;>try (simp -implicitDefEqProofs only[go_sem,AP,hi',hi,hk,w1]))|simp (disch:=omega) only[Al]|((with_reducible refine A5 ?_);refine⟨_,rfl,?_,?_⟩)
    all_goals first|omega|rfl|(simp;done)|trace_state
   |true =>
    rw[hb] at c1
    have hnx:∀(j:Nat),j<i+1->Gn (ks[j]?.getD 0) (-a.shake) a.shake=true:=fun j hj=>by
     by_cases hji:j=i
     ·subst hji;rw[hk];exact hb
     ·exact h2 j (by omega)
    (try (simp -implicitDefEqProofs only[go_sem,AP,hi',hi,hk,w1,wi]));repeat' first|(with_reducible first|exact tI|refine aI ?_ ?_|intro _)|((first|with_reducible refine AU ?_ ?_<;>intro _|(with_reducible refine isCall ?_);first|refine AF c1 ?_)<;>try (simp -implicitDefEqProofs only[go_sem,AP,hi',hi,hk,w1,wi]))|simp (disch:=omega) only[Al]|((with_reducible refine A5 ?_);refine⟨_,rfl,?_,?_⟩)
    all_goals first|omega|exact hnx|exact hnx _ (by assumption)|trace_state
  ·have hi':¬(i:Int)<(ks.length:Int):=by omega
   have hall:(ks.all fun k=>Gn k (-a.shake) a.shake)=true:=by
    rw[List.all_eq_true]
    intro k hk
    obtain⟨j,hj,rfl⟩:=List.getElem_of_mem hk
    have:=h2 j (by omega)
    rw[List.getElem?_eq_getElem hj,Option.getD_some] at this
    exact this
   unfold OS
   rw[hall]
   by_cases h200:ks.length<=200
   ·have h200':(ks.length:Int)<=200:=by omega
    rw[decide_eq_true h200]
    (try (simp -implicitDefEqProofs only[go_sem,AP,hi',h200']));repeat' first|(with_reducible first|exact tI|refine aI ?_ ?_|intro _)|((first|with_reducible refine AU ?_ ?_<;>intro _)<;>try (simp -implicitDefEqProofs only[go_sem,AP,hi',h200']))|simp (disch:=omega) only[Al]|((with_reducible refine A5 ?_);refine⟨_,rfl,?_,?_⟩)
    all_goals first|omega|rfl|(simp;done)|trace_state
   ·have h200':¬(ks.length:Int)<=200:=by omega
    rw[decide_eq_false h200]
    (try (simp -implicitDefEqProofs only[go_sem,AP,hi',h200']));repeat' first|(with_reducible first|exact tI|refine aI ?_ ?_|intro _)|((first|with_reducible refine AU ?_ ?_<;>intro _)<;>try (simp -implicitDefEqProofs only[go_sem,AP,hi',h200']))|simp (disch:=omega) only[Al]|((with_reducible refine A5 ?_);refine⟨_,rfl,?_,?_⟩)
    all_goals first|omega|rfl|(simp;done)|trace_state
def ln (a:A1):Bool:=a.ok && (decide (10<a.last) || (decide (3<a.speed) || decide (4<a.force)))
theorem SC (a:A1):Ca E0 Pn [FW a] (.bool (ln a)):=by
 refine AW SQ Aq (by simp) fun hwf=>?_
 have c1:=JV a
 rw[AZ];unfold NE ln
 rw[Aa,AP] at c1
 cases hok:a.ok with
 |false =>
  rw[hok] at c1
  (try (simp -implicitDefEqProofs only[go_sem,Aa,AP]));repeat' first|(with_reducible first|exact tI|refine aI ?_ ?_|intro _)|((first|with_reducible refine AU ?_ ?_<;>intro _|(with_reducible refine isCall ?_);first|refine AF c1 ?_)<;>try (simp -implicitDefEqProofs only[go_sem,Aa,AP]))|simp (disch:=omega) only[Al]
  all_goals first|rfl|(simp;done)|trace_state
 |true =>
  rw[hok] at c1
  (try (simp -implicitDefEqProofs only[go_sem,Aa,AP]));repeat' first|(with_reducible first|exact tI|refine aI ?_ ?_|intro _)|((first|with_reducible refine AU ?_ ?_<;>intro _|(with_reducible refine isCall ?_);first|refine AF c1 ?_)<;>try (simp -implicitDefEqProofs only[go_sem,Aa,AP]))|simp (disch:=omega) only[Al]
  all_goals first|omega|(simp;omega)|(simp_all;done)|(simp_all;omega)|trace_state
def mu:A1:=⟨6,2,3,1,1,2⟩
def jB:A1:=⟨6,2,3,0,0,0⟩
theorem NX:Ca E0 Jw [] (.tup [FW mu,FW jB]):=by
 refine AW Nq Aq (by simp) fun hwf=>?_
 rw[AZ];unfold IK
 (try (simp -implicitDefEqProofs only[go_sem]));repeat' first|(with_reducible first|exact tI|refine aI ?_ ?_|intro _)|((first|with_reducible refine AU ?_ ?_<;>intro _)<;>try (simp -implicitDefEqProofs only[go_sem]))|simp (disch:=omega) only[Al]
 all_goals first|rfl|(simp;done)|trace_state
end Go.Pw
end
section
open Go Go.Pw Go.Proofs
namespace Go.Pw
set_option maxRecDepth 100000
set_option maxHeartbeats 3200000
theorem dm (a:A1) (g:a.Good) (es:List BT) (s:Bv):-4<=HD a es s/\HD a es s<=4:=by
 have g1:=g.f
 unfold HD
 cases h:HQ a (gV es ((Cv es s).getD 0)) s with
 |none=>exact⟨by decide,by decide⟩
 |some c =>
  have:=(Rh h).1
  exact⟨by show -4<=c;omega,by show c<=4;omega⟩
def Qr (a:A1) (es:List BT) (s:Bv) (ks:List Int) (n:Nat):List Bv:=(List.range n).map fun i=>M3 a es s ks (i+1)
theorem VV (a:A1) (es:List BT) (s:Bv) (ks:List Int) (n:Nat):(Qr a es s ks n).length=n:=by simp[Qr]
theorem Zl (a:A1) (es:List BT) (s:Bv) (ks:List Int) (n:Nat):Qr a es s ks n++[M3 a es s ks (n+1)]=Qr a es s ks (n+1):=by simp[Qr,List.range_succ]
def Ew (a:A1) (t:Int):List BT:=(GA a (Iy a t)).1
theorem Ys {a:A1}{ks:List Int}(h:OS a ks=true):ks.length<=200/\∀i,i<ks.length->-a.shake<=ks[i]?.getD 0/\ks[i]?.getD 0<=a.shake:=by
 unfold OS at h
 rw[Bool.and_eq_true,List.all_eq_true,decide_eq_true_eq] at h
 refine⟨h.2,fun i hi=>?_⟩
 rw[List.getElem?_eq_getElem hi,Option.getD_some]
 exact Nb.1 (h.1 _ (List.getElem_mem hi))
attribute [local congr] DX B3 B4 Bc DZ Bj Bl Bk Bb BN BF A6 Be BG Bg CD CE CF Cd Ce B9 Bf BL Bi BM B8 Cf BK CB CC B_ B6 B7 B2 DY B5 Bd BI BH BJ Bh CA
attribute [local irreducible] IntKind.wrap CK Option.getD and or
theorem Sc (a:A1) (t:Int) (s:Bv) (h:fw a t s=0):Ca E0 Pq [FW a,.int .i64 t,F7 s] (match Cv (Ew a t) s with|some n=>.tup [.int .i64 n,.int .i64 (HD a (Ew a t) s),.int .i64 0]|none=>.tup [.int .i64 0,.int .i64 0,.int .i64 3]):=by
 have hE:iu a t s=0:=h
 have hok:a.ok=true:=by
  cases hk:a.ok with
  |true=>rfl
  |false=>unfold fw at h;rw[hk] at h;simp at h
 have g:=Kv hok
 have hs:a.has s=true:=by
  unfold fw at h
  rw[hok,if_pos rfl] at h
  cases hi:Gn t 0 a.last with
  |false=>rw[hi] at h;simp at h
  |true =>
   rw[hi,if_pos rfl] at h
   cases hh:a.has s with
   |true=>rfl
   |false=>rw[hh] at h;simp at h
 have c1:=Pb a t s
 rw[hE] at c1
 have cP:=Mm a g t
 have hty:=J8 s
 unfold Ew
 obtain⟨es,hes⟩:∃es,(GA a (Iy a t)).1=es:=⟨_,rfl⟩
 obtain⟨cl,hcl⟩:∃cl,(GA a (Iy a t)).2=cl:=⟨_,rfl⟩
 rw[hes,hcl] at cP
 rw[hes]
 have cN:=N2 a g es s (Nc g hs)
 obtain⟨C,hC⟩:∃C,HD a es s=C:=⟨_,rfl⟩
 rw[hC] at cN ⊢
 rw[←Fx] at cN
 rw[Aa,AP,Ah,Af] at c1 cN
 rw[Aa,AP] at cP
 refine AW SU Aq (by simp) fun hwf=>?_
 rw[AZ];unfold NI
 cases hv:Cv es s with
 |none =>
  have hl:=IT hv
  rw[←Fx,Ah,Af] at hl
  rw[Ah,Af] at hty
  (try (simp -implicitDefEqProofs only[go_sem,Aa,AP,Ah,Af,hl,hty]));repeat' first|(with_reducible first|exact tI|refine aI ?_ ?_|intro _)|((first|with_reducible refine AU ?_ ?_<;>intro _|(with_reducible refine isCall ?_);first|refine AF c1 ?_|(refine H6 ([]) ([((5000017,0),(26,0))]) (cP) (by repeat' first|exact True.intro|exact rfl|refine And.intro ?_ ?_) (by simp[D7,EQ.get,Ae.ren,AV.ren,AV.ren.renL,AO.get,A7,CZ,Fd,AO.reach,AV.sites,AV.sites.sitesL,AO.osites]) (by simp[Db,IW,DW,EQ.get,Fd,DB,CN,F0,Eh]) (by rfl) (by simp only[FG,EQ.get,Ae.ren,AV.ren,AV.ren.renL,and_self,and_true,true_and,if_true,reduceIte];rfl) ?_))<;>try (simp -implicitDefEqProofs only[go_sem,Aa,AP,Ah,Af,hl,hty]))|simp (disch:=omega) only[Al]
  all_goals first|omega|rfl|(simp;done)|trace_state
 |some n =>
  have hl:=IR hv
  rw[←Fx,Ah,Af] at hl
  rw[Ah,Af] at hty
  (try (simp -implicitDefEqProofs only[go_sem,Aa,AP,Ah,Af,hl,hty]));repeat' first|(with_reducible first|exact tI|refine aI ?_ ?_|intro _)|((first|with_reducible refine AU ?_ ?_<;>intro _|(with_reducible refine isCall ?_);first|refine AF c1 ?_|(refine H6 ([]) ([((5000017,0),(26,0))]) (cP) (by repeat' first|exact True.intro|exact rfl|refine And.intro ?_ ?_) (by simp[D7,EQ.get,Ae.ren,AV.ren,AV.ren.renL,AO.get,A7,CZ,Fd,AO.reach,AV.sites,AV.sites.sitesL,AO.osites]) (by simp[Db,IW,DW,EQ.get,Fd,DB,CN,F0,Eh]) (by rfl) (by simp only[FG,EQ.get,Ae.ren,AV.ren,AV.ren.renL,and_self,and_true,true_and,if_true,reduceIte];rfl) ?_)|refine AF cN ?_)<;>try (simp -implicitDefEqProofs only[go_sem,Aa,AP,Ah,Af,hl,hty]))|simp (disch:=omega) only[Al]
  all_goals first|omega|rfl|(simp;done)|trace_state
theorem We (a:A1) (t:Int) (s:Bv) (nb:Bool) (ks:List Int) (h:fw a t s=0) (hk:OS a ks=true) :
  Ca E0 Tp [FW a,.int .i64 t,F7 s,.list nb (Bs ks)] (if CI (Ew a t) s then .tup [.list (decide (ks.length=0)) (H' (Qr a (Ew a t) s ks ks.length)),.int .i64 0] else .tup [.list true [],.int .i64 3]):=by
 have hE:iu a t s=0:=h
 have hok:a.ok=true:=by
  cases hk:a.ok with
  |true=>rfl
  |false=>unfold fw at h;rw[hk] at h;simp at h
 have g:=Kv hok
 have hs:a.has s=true:=by
  unfold fw at h
  rw[hok,if_pos rfl] at h
  cases hi:Gn t 0 a.last with
  |false=>rw[hi] at h;simp at h
  |true =>
   rw[hi,if_pos rfl] at h
   cases hh:a.has s with
   |true=>rfl
   |false=>rw[hh] at h;simp at h
 have c1:=Pb a t s
 rw[hE] at c1
 have cP:=Mm a g t
 obtain⟨hk200,hkg⟩:=Ys hk
 obtain⟨m,hG⟩:=S_ a (Iy a t)
 have c2:=O5 nb ks Hx [.ptr (Se a)] (fun x=>!Gn x (-a.shake) a.shake) bX rfl (fun x _=>Uu a g x)
 have hany:(ks.any fun x=>!Gn x (-a.shake) a.shake)=false:=by
  rw[List.any_eq_false]
  intro x hx
  unfold OS at hk
  rw[Bool.and_eq_true,List.all_eq_true] at hk
  rw[hk.1 x hx];simp
 rw[hany,AP] at c2
 unfold Ew
 obtain⟨es,hes⟩:∃es,(GA a (Iy a t)).1=es:=⟨_,rfl⟩
 obtain⟨cl,hcl⟩:∃cl,(GA a (Iy a t)).2=cl:=⟨_,rfl⟩
 rw[hes,hcl] at cP
 rw[hes] at hG ⊢
 have c3:=F8 es s
 rw[←Fx,Ah,Af] at c3
 rw[Aa,AP,Ah,Af] at c1
 rw[Aa,AP] at cP
 have hk200':¬((ks.length:Nat):Int)>200:=by omega
 refine AW WQ Aq (by simp) fun hwf=>?_
 rw[AZ];unfold Q8
 cases hm:CI es s with
 |false =>
  rw[hm] at c3
  (try (simp -implicitDefEqProofs only[go_sem,Aa,AP,Ah,Af,hk200']));repeat' first|(with_reducible first|exact tI|refine aI ?_ ?_|intro _)|((first|with_reducible refine AU ?_ ?_<;>intro _|(with_reducible refine isCall ?_);first|refine AF c1 ?_|refine AF c2 ?_|(refine H6 ([]) ([((5000017,0),(37,0))]) (cP) (by repeat' first|exact True.intro|exact rfl|refine And.intro ?_ ?_) (by simp[D7,EQ.get,Ae.ren,AV.ren,AV.ren.renL,AO.get,A7,CZ,Fd,AO.reach,AV.sites,AV.sites.sitesL,AO.osites]) (by simp[Db,IW,DW,EQ.get,Fd,DB,CN,F0,Eh]) (by rfl) (by simp only[FG,EQ.get,Ae.ren,AV.ren,AV.ren.renL,and_self,and_true,true_and,if_true,reduceIte];rfl) ?_)|refine AF c3 ?_)<;>try (simp -implicitDefEqProofs only[go_sem,Aa,AP,Ah,Af,hk200']))|simp (disch:=omega) only[Al]|((with_reducible refine Kj ?_);refine⟨(_,_,_,_),rfl,?_,?_⟩)
  all_goals first|omega|rfl|(simp;done)|trace_state
 |true =>
  rw[hm] at c3
  obtain⟨n0,hn0⟩:=Option.isSome_iff_exists.1 hm
  have hrun:=UH hG hn0 hkg
  (try (simp -implicitDefEqProofs only[go_sem,Aa,AP,Ah,Af,hk200']));repeat' first|(with_reducible first|exact tI|refine aI ?_ ?_|intro _)|((first|with_reducible refine AU ?_ ?_<;>intro _|(with_reducible refine isCall ?_);first|refine AF c1 ?_|refine AF c2 ?_|(refine H6 ([]) ([((5000017,0),(37,0))]) (cP) (by repeat' first|exact True.intro|exact rfl|refine And.intro ?_ ?_) (by simp[D7,EQ.get,Ae.ren,AV.ren,AV.ren.renL,AO.get,A7,CZ,Fd,AO.reach,AV.sites,AV.sites.sitesL,AO.osites]) (by simp[Db,IW,DW,EQ.get,Fd,DB,CN,F0,Eh]) (by rfl) (by simp only[FG,EQ.get,Ae.ren,AV.ren,AV.ren.renL,and_self,and_true,true_and,if_true,reduceIte];rfl) ?_)|refine AF c3 ?_)<;>try (simp -implicitDefEqProofs only[go_sem,Aa,AP,Ah,Af,hk200']))|simp (disch:=omega) only[Al]|((with_reducible refine Kj ?_);refine⟨(_,_,_,_),rfl,?_,?_⟩)
  all_goals first|omega|(simp<;>omega)|skip
  refine Ao (α:=Nat×Bv×(List Bv)×Bool) (l0:=?l1) (m0:=?m1) (fun x=>[(44,.d (.int .i64 (x.1:Int)))]) (fun x=>[(6,.cells [.d (.int .i64 x.2.1.at'),.d (.int .i64 x.2.1.sp)]),(62,.row 63 2 x.2.2.2 (H' x.2.2.1))]) (fun x=>x.1<=ks.length/\x.2.1=M3 a es s ks x.1/\x.2.2.1=Qr a es s ks x.1/\x.2.2.2=decide (x.1=0)) (fun x=>ks.length-x.1) (0,s,[],true) ?h01 ?he1 ?he21 ?hI1 ?step1
  case h01=>(simp -implicitDefEqProofs only[go_sem];rfl)
  case he1=>rfl
  case he21=>rfl
  case' step1=>(rintro⟨i,y,out,nl⟩ hI;try dsimp only at hI)
  case' hI1=>try dsimp only
  ·exact⟨Nat.zero_le _,rfl,rfl,rfl⟩
  ·obtain⟨i1,i2,i3,i4⟩:=hI
   change y=M3 a es s ks i at i2
   change out=Qr a es s ks i at i3
   change nl=decide (i=0) at i4
   have hol:out.length=i:=by rw[i3,VV]
   by_cases hi:i<ks.length
   ·have hi':(i:Int)<(ks.length:Int):=by omega
    have wi:IntKind.i64.wrap ((i:Int)+1)=((i+1:Nat):Int):=by rw[Ad _ (by omega)];omega
    obtain⟨v,hv,_,_⟩:=hrun i i1
    rw[←i2] at hv
    have hny:=Nc g (Ye hG hv).1
    have cN:=N2 a g es y hny
    obtain⟨k1,k2⟩:=hkg i hi
    have g2:=g.k
    have hz:R3 y (HD a es y) (ks[i]?.getD 0)=M3 a es s ks (i+1):=by rw[i2];rfl
    have hsn:=Zl a es s ks i
    rw[←hz,←i3] at hsn
    obtain⟨C,hC⟩:∃C,HD a es y=C:=⟨_,rfl⟩
    have hCb:=dm a g es y
    rw[hC] at cN hCb hz hsn
    obtain⟨k,hk⟩:∃k,ks[i]?.getD 0=k:=⟨_,rfl⟩
    rw[hk] at k1 k2 hz hsn
    have cS:=JO a g y hny C k hCb (by omega)
    obtain⟨z,hzz⟩:∃z,R3 y C k=z:=⟨_,rfl⟩
    rw[hzz] at cS hz hsn
    obtain⟨B,hB⟩:∃B,a.has z=B:=⟨_,rfl⟩
    rw[hB] at cS
    rw[←Fx] at cN
    rw[Aa,AP,Ah,Af] at cN
    rw[Aa,AP,Ah,Af,Ah,Af] at cS
    have hnf:false=decide (i+1=0):=by simp
    (try (simp -implicitDefEqProofs only[go_sem,AP,hi',hi,hk,wi]));repeat' first|(with_reducible first|exact tI|refine aI ?_ ?_|intro _)|((first|with_reducible refine AU ?_ ?_<;>intro _|(with_reducible refine isCall ?_);first|refine AF cN ?_|refine AF cS ?_)<;>try (simp -implicitDefEqProofs only[go_sem,AP,hi',hi,hk,wi]))|simp (disch:=omega) only[Al]|((with_reducible refine Kj ?_);refine⟨(_,_,_,_),rfl,?_,?_⟩)
    all_goals first|omega|(rw[BS];omega)|skip
    all_goals
     rw[Gj]
     exact⟨(i+1,z,out++[z],false),rfl,⟨by show i+1<=ks.length;omega,hz,hsn,hnf⟩,by show ks.length-(i+1)<ks.length-i;omega⟩
   ·have hi':¬(i:Int)<(ks.length:Int):=by omega
    have hie:i=ks.length:=by omega
    subst hie
    rw[i3,i4]
    (try (simp -implicitDefEqProofs only[go_sem,hi']));repeat' first|(with_reducible first|exact tI|refine aI ?_ ?_|intro _)|((first|with_reducible refine AU ?_ ?_<;>intro _)<;>try (simp -implicitDefEqProofs only[go_sem,hi']))|simp (disch:=omega) only[Al]|((with_reducible refine Kj ?_);refine⟨(_,_,_,_),rfl,?_,?_⟩)
    all_goals first|omega|rfl|trace_state
end Go.Pw
end
