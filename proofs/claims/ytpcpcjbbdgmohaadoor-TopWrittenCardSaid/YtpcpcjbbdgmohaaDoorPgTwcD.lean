/- A part of the proof. -/
import Derived.Test.YtpcpcjbbdgmohaaDoorPgTwcA
import Derived.Test.YtpcpcjbbdgmohaaDoorTwcSpec2
set_option linter.all false
section
open Go Go.Pw Go.Proofs
namespace Go.Pw
set_option maxRecDepth 100000
set_option maxHeartbeats 800000
attribute [local congr] Bx A9 A_ Au Bz A0 A2 A1 Ar An Ai Ab Av Aj Ax BG BK BI BJ BH BL BD Ay Aw Al Az Am BB BT Ak BE BF BC A' BA B1
attribute [local irreducible] IntKind.wrap BM Option.getD and or
theorem I3 (nl:Bool) (l:List Bo) (q:Bo):∃r:Int,(0<=r↔q∈l)/\DE E0 Cs [.list nl (EP l),Iq q] (.int .i64 r):=by
 refine⟨match l.findIdx? (fun p=>decide (q=p)) with|some i=>i|none=>-1,?_,?_⟩
 ·cases hf:l.findIdx? (fun p=>decide (q=p)) with
  |none=>rw[List.findIdx?_eq_none_iff] at hf;simp;intro h;have:=hf q h;simp at this
  |some i=>rw[List.findIdx?_eq_some_iff_getElem] at hf;simp;obtain⟨h1,h2,_⟩:=hf;simp at h2;rw[h2];exact List.getElem_mem h1
 refine AP ET A5 (by simp) fun hwf=>?_
 simp only[Dt,DM,DL,DC,EK,EJ,Fk,EI,Be,Br,Bs,DD,CC,List.length_map,CK,true_and,and_true,A6] at hwf
 rw[AU];unfold Cg
 simp -implicitDefEqProofs only[go_sem,A6,CR]
 refine AX (α:=Int) (l0:=?l1) (m0:=?m1) (fun x=>[(8,.d (.int .i64 x))]) (fun x=>[]) (fun x=>0<=x/\x<=l.length/\∀(j:Nat) (hj:j<l.length),(j:Int)<x->q≠l[j]) (fun x=>(l.length-x).toNat) ?a1_0 ?h01 ?he1 ?he21 ?hI1 ?step1
 case h01=>(simp -implicitDefEqProofs only[go_sem,A6,CR];rfl)
 case he1=>rfl
 case he21=>rfl
 case' step1=>(rintro i hI;try dsimp only at hI)
 case' hI1=>try dsimp only
 ·simp;omega
 ·(try (simp -implicitDefEqProofs only[go_sem,A6,Ca,CR]));repeat' first|(with_reducible first|exact tI|refine aI ?_ ?_|intro _)|((first|with_reducible refine AN ?_ ?_<;>intro _)<;>try (simp -implicitDefEqProofs only[go_sem,A6,Ca,CR]))|simp (disch:=omega) only[Ap]|((with_reducible refine Ae ?_);refine⟨_,rfl,?_,?_⟩)
  all_goals first|omega|(simp<;>omega)|skip
  ·have:l.findIdx? (fun p=>decide (q=p))=some i.toNat:=by
    rw[List.findIdx?_eq_some_iff_getElem]
    have hx:l[i.toNat]?.getD default=l[i.toNat]'(by omega):=by rw[List.getElem?_eq_getElem (by omega),Option.getD_some]
    rename_i h1 h2
    rw[hx] at h2
    exact⟨by omega,by simp;exact Prod.ext h2.1 h2.2,fun j hj=>by simpa using hI.2.2 j (by omega) (by omega)⟩
   rw[this];simp;omega
  ·rename_i h1 h2 j hj hlt
   by_cases hji:j=i.toNat
   ·subst hji
    have hx:l[i.toNat]?.getD default=l[i.toNat]'(by omega):=by rw[List.getElem?_eq_getElem (by omega),Option.getD_some]
    intro h;rw[hx,←h] at h2;exact h2 ⟨rfl,rfl⟩
   ·exact hI.2.2 j hj (by omega)
  ·have:l.findIdx? (fun p=>decide (q=p))=none:=by
    rw[List.findIdx?_eq_none_iff];intro x hx;obtain⟨j,hj,rfl⟩:=List.getElem_of_mem hx
    simpa using hI.2.2 j hj (by omega)
   rw[this]
theorem HJ (nl:Bool) (l:List Bo) (q:Bo):DE E0 CY [.list nl (EP l),Iq q] (.bool (decide (q∈l))):=by
 refine AP D3 A5 (by simp) fun hwf=>?_
 obtain⟨r,hr,hret⟩:=I3 nl l q
 rw[AU];unfold CQ
 (try (simp -implicitDefEqProofs only[go_sem,CR]));repeat' first|(with_reducible first|exact tI|refine aI ?_ ?_|intro _)|((first|with_reducible refine AN ?_ ?_<;>intro _|(with_reducible refine isCall ?_);first|refine AG hret ?_)<;>try (simp -implicitDefEqProofs only[go_sem,CR]))|simp (disch:=omega) only[Ap]
 all_goals simp_all
end Go.Pw
end
section
open Go Go.Pw Go.Proofs
namespace Go.Pw
set_option maxRecDepth 100000
set_option maxHeartbeats 1600000
attribute [local congr] Bx A9 A_ Au Bz A0 A2 A1 Ar An Ai Ab Av Aj Ax BG BK BI BJ BH BL BD Ay Aw Al Az Am BB BT Ak BE BF BC A' BA B1
attribute [local irreducible] IntKind.wrap BM Option.getD and or
theorem GCode.lvl_good {c:GCode}(h:c.ok=true) {differ:Bool}{p:Bo}{a b:Int}{out:List Bo}(hp:c.isState p.1=true/\c.isState p.2=true) (ha:c.isWord a=true) (hb:c.isWord b=true) (hg:c.GoodP out):c.GoodP (c.lvl differ p a out b):=by
 unfold GCode.lvl
 split
 ·rename_i hc
  refine⟨?_,fun q hq=>?_⟩
  ·rw[List.nodup_append]
   exact⟨hg.1,by simp,fun x hx y hy=>by simp at hy;subst hy;intro he;subst he;exact hc.2.2 hx⟩
  ·simp only[List.mem_append,List.mem_singleton] at hq
   rcases hq with hq|rfl
   ·exact hg.2 q hq
   ·exact⟨GCode.nxt_state h hp.1 ha,GCode.nxt_state h hp.2 hb⟩
 ·exact hg
theorem GCode.W_eq (c:GCode):(c.W:Int)=2^c.bits.toNat:=by simp[GCode.W]
theorem N8 {β:Type}(f:β->Int->β) {w:Nat}{i:Int}(b:β) (h0:0<=i) (h:i<w):Fx f (w-i.toNat) i b=Fx f (w-(i+1).toNat) (i+1) (f b i):=by
 rw[show w-i.toNat=(w-(i+1).toNat)+1 by omega,Fx]
theorem Pq {β:Type}(f:β->Int->β) {w:Nat}{i:Int}(b:β) (h0:0<=i) (h:¬i<w):Fx f (w-i.toNat) i b=b:=by
 rw[show w-i.toNat=0 by omega,Fx]
theorem HD (c:GCode) (h:c.ok=true) (nl:Bool) (l:List Bo) (hl:∀p,p∈l->c.isState p.1=true/\c.isState p.2=true) (differ:Bool) :
  DE E0 F9 [.list nl (EP l),.bool differ,.ptr (KU c)] (.list (c.level l differ).isEmpty (EP (c.level l differ))):=by
 refine AP Ls A5 (by simp) fun hwf=>?_
 have hd:=GCode.ok_head h
 have h12:=IC (b:=c.bits) (by omega)
 have hW:=c.W_eq
 simp only[Dt,DM,DL,DC,EK,EJ,Fk,EI,Be,Br,Bs,DD,CC,List.length_map,CK,true_and,and_true,A6] at hwf
 rw[AU];unfold Hf
 simp -implicitDefEqProofs only[go_sem,A6]
 refine AX (α:=Int×Bool×(List Bo)) (l0:=?l1) (m0:=?m1) (fun x=>[(14,.d (.int .i64 x.1))]) (fun x=>[(88,.row 141 2 x.2.1 (EP x.2.2))]) (fun x=>0<=x.1/\x.1<=l.length/\x.2.1=x.2.2.isEmpty/\c.GoodP x.2.2/\(l.drop x.1.toNat).foldl (c.lvlP differ) x.2.2=c.level l differ) (fun x=>(l.length-x.1).toNat) (?a1_0,?a1_1,[]) ?h01 ?he1 ?he21 ?hI1 ?step1
 case h01=>(simp -implicitDefEqProofs only[go_sem,A6];rfl)
 case he1=>rfl
 case he21=>rfl
 case' step1=>(rintro⟨i,nl',out⟩ hI;try dsimp only at hI)
 case' hI1=>try dsimp only
 ·simp[GCode.GoodP,GCode.level]
 by_cases hi:i<l.length
 ·obtain⟨p,hpe⟩:∃p,l[i.toNat]?.getD default=p:=⟨_,rfl⟩
  have hpm:p∈l:=by rw[←hpe];exact Hj (by omega)
  have hp:=hl p hpm
  have hstep:(l.drop i.toNat).foldl (c.lvlP differ) out=(l.drop (i+1).toNat).foldl (c.lvlP differ) (c.lvlP differ out p):=by
   rw[show (i+1).toNat=i.toNat+1 by omega,List.drop_eq_getElem_cons (by omega),List.foldl_cons]
   rw[List.getElem?_eq_getElem (by omega),Option.getD_some] at hpe
   rw[hpe]
  (try (simp -implicitDefEqProofs only[go_sem,A6,Ca,hpe,CR,AH,AF]));repeat' first|(with_reducible first|exact tI|refine aI ?_ ?_|intro _)|((first|with_reducible refine AN ?_ ?_<;>intro _|(with_reducible refine isCall ?_);first|refine AG (CD c (by omega)) ?_)<;>try (simp -implicitDefEqProofs only[go_sem,A6,Ca,hpe,CR,AH,AF]))|simp (disch:=omega) only[Ap]|((with_reducible refine Ad ?_);refine⟨(_,_,_),rfl,?_,?_⟩)
  all_goals first|omega|(simp<;>omega)|skip
  ·have hp1:=hp.1
   have hp2:=hp.2
   simp only[GCode.isState,Dp,decide_eq_true_eq] at hp1 hp2
   have hn1:=GCode.ok_next h p.1.toNat (by omega)
   have hn2:=GCode.ok_next h p.2.toNat (by omega)
   have hw1:=GCode.ok_words h p.1.toNat (by omega)
   have hw2:=GCode.ok_words h p.2.toNat (by omega)
   refine AX (α:=Int×Bool×(List Bo)) (l0:=?l2) (m0:=?m2) (fun x=>[(20,.d (.int .i64 x.1))]) (fun x=>[(88,.row 141 2 x.2.1 (EP x.2.2))]) (fun x=>0<=x.1/\x.1<=c.W/\x.2.1=x.2.2.isEmpty/\c.GoodP x.2.2/\Fx (c.lvlA differ p) (c.W-x.1.toNat) x.1 x.2.2=c.lvlP differ out p) (fun x=>(c.W-x.1).toNat) (?a2_0,?a2_1,out) ?h02 ?he2 ?he22 ?hI2 ?step2
   case h02=>(simp -implicitDefEqProofs only[go_sem,A6,hpe,CR];rfl)
   case he2=>rfl
   case he22=>rfl
   case' step2=>(rintro⟨a,nl2,out2⟩ hI2;try dsimp only at hI2)
   case' hI2=>try dsimp only
   ·simp[GCode.lvlP];simp_all
   by_cases ha:a<c.W
   ·have haw:c.isWord a=true:=by simp only[GCode.isWord,Dp,decide_eq_true_eq];omega
    have hsA:=N8 (c.lvlA differ p) out2 hI2.1 ha
    (try (simp -implicitDefEqProofs only[go_sem,A6,Ca,hpe,CR,AH,AF]));repeat' first|(with_reducible first|exact tI|refine aI ?_ ?_|intro _)|((first|with_reducible refine AN ?_ ?_<;>intro _|(with_reducible refine isCall ?_);first|refine AG (CD c (by omega)) ?_)<;>try (simp -implicitDefEqProofs only[go_sem,A6,Ca,hpe,CR,AH,AF]))|simp (disch:=omega) only[Ap]|((with_reducible refine Ad ?_);refine⟨(_,_,_),rfl,?_,?_⟩)
    all_goals first|omega|(simp<;>omega)|skip
    ·refine AX (α:=Int×Bool×(List Bo)) (l0:=?l3) (m0:=?m3) (fun x=>[(25,.d (.int .i64 x.1))]) (fun x=>[(88,.row 141 2 x.2.1 (EP x.2.2))]) (fun x=>0<=x.1/\x.1<=c.W/\x.2.1=x.2.2.isEmpty/\c.GoodP x.2.2/\Fx (c.lvl differ p a) (c.W-x.1.toNat) x.1 x.2.2=c.lvlA differ p out2 a) (fun x=>(c.W-x.1).toNat) (?a3_0,?a3_1,out2) ?h03 ?he3 ?he23 ?hI3 ?step3
     case h03=>(simp -implicitDefEqProofs only[go_sem,A6,hpe,CR];rfl)
     case he3=>rfl
     case he23=>rfl
     case' step3=>(rintro⟨b,nl3,out3⟩ hI3;try dsimp only at hI3)
     case' hI3=>try dsimp only
     ·simp[GCode.lvlA];simp_all
     by_cases hb:b<c.W
     ·have hbw:c.isWord b=true:=by simp only[GCode.isWord,Dp,decide_eq_true_eq];omega
      have hsB:=N8 (c.lvl differ p a) out3 hI3.1 hb
      have hg':=GCode.lvl_good (differ:=differ) h hp haw hbw hI3.2.2.2.1
      have hlen:=GCode.GoodP.len h hI3.2.2.2.1
      have cc:=fun nl l=>HJ nl l (c.nxt p.1 a,c.nxt p.2 b)
      cases differ
      all_goals
       (try (simp -implicitDefEqProofs only[go_sem,A6,G9,G8,GL,Ca,AR,CG,hpe,CR,AF,c.nxt_eq,c.wrd_eq]));repeat' first|(with_reducible first|exact tI|refine aI ?_ ?_|intro _)|((first|with_reducible refine AN ?_ ?_<;>intro _|(with_reducible refine isCall ?_);first|refine AG (cc _ _) ?_)<;>try (simp -implicitDefEqProofs only[go_sem,A6,G9,G8,GL,Ca,AR,CG,hpe,CR,AF,c.nxt_eq,c.wrd_eq]))|simp (disch:=omega) only[Ap]|((with_reducible refine Ad ?_);refine⟨(_,_,_),rfl,?_,?_⟩)
       all_goals first|omega|(simp<;>omega)|skip
       all_goals first
        |exact hI3.2.2.1
        |exact hI3.2.2.2.1
        |(rw[←hI3.2.2.2.2,hsB];refine congrArg (Fx _ _ _) ?_;unfold GCode.lvl;simp_all;done)
        |(refine cast (congrArg c.GoodP ?_) hg';unfold GCode.lvl;simp_all;done)
     ·(try (simp -implicitDefEqProofs only[go_sem]));repeat' first|(with_reducible first|exact tI|refine aI ?_ ?_|intro _)|((first|with_reducible refine AN ?_ ?_<;>intro _)<;>try (simp -implicitDefEqProofs only[go_sem]))|simp (disch:=omega) only[Ap]|((with_reducible refine Ad ?_);refine⟨(_,_,_),rfl,?_,?_⟩)
      all_goals first|omega|(simp<;>omega)|skip
      ·exact hI3.2.2.1
      ·exact hI3.2.2.2.1
      ·rw[←hI2.2.2.2.2,hsA,←hI3.2.2.2.2,Pq _ _ hI3.1 hb]
   ·(try (simp -implicitDefEqProofs only[go_sem,A6,Ca,hpe,CR,AH,AF]));repeat' first|(with_reducible first|exact tI|refine aI ?_ ?_|intro _)|((first|with_reducible refine AN ?_ ?_<;>intro _|(with_reducible refine isCall ?_);first|refine AG (CD c (by omega)) ?_)<;>try (simp -implicitDefEqProofs only[go_sem,A6,Ca,hpe,CR,AH,AF]))|simp (disch:=omega) only[Ap]|((with_reducible refine Ad ?_);refine⟨(_,_,_),rfl,?_,?_⟩)
    all_goals first|omega|(simp<;>omega)|skip
    ·exact hI2.2.2.1
    ·exact hI2.2.2.2.1
    ·rw[←hI.2.2.2.2,hstep,←hI2.2.2.2.2,Pq _ _ hI2.1 ha]
 ·(try (simp -implicitDefEqProofs only[go_sem]));repeat' first|(with_reducible first|exact tI|refine aI ?_ ?_|intro _)|((first|with_reducible refine AN ?_ ?_<;>intro _)<;>try (simp -implicitDefEqProofs only[go_sem]))|simp (disch:=omega) only[Ap]|((with_reducible refine Ad ?_);refine⟨(_,_,_),rfl,?_,?_⟩)
  all_goals first|omega|(simp<;>omega)|skip
  have h0:l.drop i.toNat=[]:=List.drop_eq_nil_of_le (by omega)
  have:=hI.2.2.2.2
  rw[h0,List.foldl_nil] at this
  rw[←this,hI.2.2.1]
end Go.Pw
end
section
open Go Go.Pw Go.Proofs
namespace Go.Pw
set_option maxRecDepth 100000
set_option maxHeartbeats 1600000
attribute [local congr] Bx A9 A_ Au Bz A0 A2 A1 Ar An Ai Ab Av Aj Ax BG BK BI BJ BH BL BD Ay Aw Al Az Am BB BT Ak BE BF BC A' BA B1
attribute [local irreducible] IntKind.wrap BM Option.getD and or
theorem IG {c:GCode}(h:c.ok=true) (differ:Bool) (l:List Bo) (hl:∀p,p∈l->c.isState p.1=true/\c.isState p.2=true):c.GoodP (c.level l differ):=by
 have hA:∀(p:Bo),c.isState p.1=true/\c.isState p.2=true->∀(a:Int),c.isWord a=true->∀(n:Nat) (b:Int) (out:List Bo),0<=b->b+n<=c.W->c.GoodP out->c.GoodP (Fx (c.lvl differ p a) n b out):=by
  intro p hp a ha n
  induction n with
  |zero=>intro b out _ _ hg;exact hg
  |succ n ih =>
   intro b out h0 h1 hg
   rw[Fx]
   have hW:=c.W_eq
   have hbw:c.isWord b=true:=by simp only[GCode.isWord,Dp,decide_eq_true_eq];omega
   exact ih (b+1) _ (by omega) (by omega) (GCode.lvl_good h hp ha hbw hg)
 have hP:∀(p:Bo),c.isState p.1=true/\c.isState p.2=true->∀(n:Nat) (a:Int) (out:List Bo),0<=a->a+n<=c.W->c.GoodP out->c.GoodP (Fx (c.lvlA differ p) n a out):=by
  intro p hp n
  induction n with
  |zero=>intro b out _ _ hg;exact hg
  |succ n ih =>
   intro a out h0 h1 hg
   rw[Fx]
   have hW:=c.W_eq
   have haw:c.isWord a=true:=by simp only[GCode.isWord,Dp,decide_eq_true_eq];omega
   exact ih (a+1) _ (by omega) (by omega) (hA p hp a haw c.W 0 out (by omega) (by omega) hg)
 have:∀(l:List Bo) (out:List Bo),(∀p,p∈l->c.isState p.1=true/\c.isState p.2=true)->c.GoodP out->c.GoodP (l.foldl (c.lvlP differ) out):=by
  intro l
  induction l with
  |nil=>intro out _ hg;exact hg
  |cons p l ih =>
   intro out hl hg
   rw[List.foldl_cons]
   exact ih _ (fun q hq=>hl q (by simp[hq])) (hP p (hl p (by simp)) c.W 0 out (by omega) (by omega) hg)
 exact this l [] hl ⟨by simp,by simp⟩
theorem Iv (c:GCode):DE E0 Kd [E7 c] (.tup [.int .i64 c.order.1,.int .i64 c.order.2]):=by
 refine AP NE A5 (by simp) fun hwf=>?_
 have hb57:Bq E0.P F9=true:=by kernel_rfl
 rw[AU];unfold JS
 cases hok:c.ok with
 |false =>
  have ho:c.order=(0,40):=by simp[GCode.order,hok]
  rw[ho]
  (try (simp -implicitDefEqProofs only[go_sem,AH,AF,AR]));repeat' first|(with_reducible first|exact tI|refine aI ?_ ?_|intro _)|((first|with_reducible refine AN ?_ ?_<;>intro _|(with_reducible refine isCall ?_);first|refine AG (F8 c) ?_)<;>try (simp -implicitDefEqProofs only[go_sem,AH,AF,AR]))|simp (disch:=omega) only[Ap]|((with_reducible refine Ad ?_);refine⟨(_,_,_),rfl,?_,?_⟩)
  all_goals simp_all[IJ]
 |true =>
  have hd:=GCode.ok_head hok
  have ho:c.order=c.orderF (c.words.length*c.words.length+1) 1 c.pairs0:=by simp[GCode.order,hok]
  rw[ho]
  (try (simp -implicitDefEqProofs only[go_sem,AH,AF,AR]));repeat' first|(with_reducible first|exact tI|refine aI ?_ ?_|intro _)|((first|with_reducible refine AN ?_ ?_<;>intro _|(with_reducible refine isCall ?_);first|refine AG (F8 c) ?_)<;>try (simp -implicitDefEqProofs only[go_sem,AH,AF,AR]))|simp (disch:=omega) only[Ap]|((with_reducible refine Ad ?_);refine⟨(_,_,_),rfl,?_,?_⟩)
  all_goals try (exfalso;simp_all[IJ];done)
  refine AX (α:=Int×Bool×(List Bo)) (l0:=?l1) (m0:=?m1) (fun x=>[(22,.d (.int .i64 x.1))]) (fun x=>[(30,.row 141 2 x.2.1 (EP x.2.2))]) (fun x=>0<=x.1/\x.1<=c.words.length/\x.2.1=x.2.2.isEmpty/\x.2.2=(List.range x.1.toNat).map fun(s:Nat)=>((s:Int),(s:Int))) (fun x=>(c.words.length-x.1).toNat) (?a1_0,?a1_1,[]) ?h01 ?he1 ?he21 ?hI1 ?step1
  case h01=>(simp -implicitDefEqProofs only[go_sem,A6];rfl)
  case he1=>rfl
  case he21=>rfl
  case' step1=>(rintro⟨i,nl,out⟩ hI;try dsimp only at hI)
  case' hI1=>try dsimp only
  ·simp
  by_cases hi:i<c.words.length
  ·have hlen:out.length=i.toNat:=by rw[hI.2.2.2];simp
   (try (simp -implicitDefEqProofs only[go_sem,A6,G9,G8,GL,CR]));repeat' first|(with_reducible first|exact tI|refine aI ?_ ?_|intro _)|((first|with_reducible refine AN ?_ ?_<;>intro _)<;>try (simp -implicitDefEqProofs only[go_sem,A6,G9,G8,GL,CR]))|simp (disch:=omega) only[Ap]|((with_reducible refine Ad ?_);refine⟨(_,_,_),rfl,?_,?_⟩)
   all_goals first|omega|(simp<;>omega)|skip
   ·rw[hI.2.2.2,show (i+1).toNat=i.toNat+1 by omega,List.range_succ,List.map_append];simp;omega
  ·have h0:out=c.pairs0:=by rw[hI.2.2.2,GCode.pairs0,show i.toNat=c.words.length by omega]
   subst h0
   (try (simp -implicitDefEqProofs only[go_sem,A6]));repeat' first|(with_reducible first|exact tI|refine aI ?_ ?_|intro _)|((first|with_reducible refine AN ?_ ?_<;>intro _)<;>try (simp -implicitDefEqProofs only[go_sem,A6]))|simp (disch:=omega) only[Ap]|((with_reducible refine Ad ?_);refine⟨(_,_,_),rfl,?_,?_⟩)
   all_goals first|omega|(simp<;>omega)|skip
   have hlw:(c.words.length:Int)*c.words.length<=16/\1<=(c.words.length:Int)*c.words.length:=by
    have:c.words.length=1\/c.words.length=2\/c.words.length=3\/c.words.length=4:=by omega
    rcases this with h|h|h|h<;>rw[h]<;>simp
   have hlwN:((c.words.length*c.words.length:Nat):Int)=(c.words.length:Int)*c.words.length:=by simp
   generalize hN:c.words.length*c.words.length=N at *
   have hgood0:∀p,p∈c.pairs0->c.isState p.1=true/\c.isState p.2=true:=by
    intro p hp
    simp only[GCode.pairs0,List.mem_map,List.mem_range] at hp
    obtain⟨s,hs,rfl⟩:=hp
    simp[GCode.isState,Dp];omega
   refine AX (α:=Int×Bool×(List Bo)) (l0:=?l2) (m0:=?m2) (fun x=>[(9,.d (.int .i64 x.1)),(7,.d (.list x.2.1 (EP x.2.2)))]) (fun x=>[]) (fun x=>1<=x.1/\x.1<=N+2/\(∀p,p∈x.2.2->c.isState p.1=true/\c.isState p.2=true)/\c.orderF (N+2-x.1).toNat x.1 x.2.2=c.orderF (N+1) 1 c.pairs0) (fun x=>(N+2-x.1).toNat) (?a2_0,?a2_1,c.pairs0) ?h02 ?he2 ?he22 ?hI2 ?step2
   case h02=>(simp -implicitDefEqProofs only[go_sem,A6];rfl)
   case he2=>rfl
   case he22=>rfl
   case' step2=>(rintro⟨k,nl2,now⟩ hI2;try dsimp only at hI2)
   case' hI2=>try dsimp only
   ·refine⟨by omega,by omega,hgood0,?_⟩
    rw[show ((N:Int)+2-1).toNat=N+1 by omega]
   by_cases hk:k<=N+1
   ·have hs:(N+2-k).toNat=(N+2-(k+1)).toNat+1:=by omega
    have hst:=hI2.2.2.2
    rw[hs,GCode.orderF] at hst
    obtain⟨d,hdk⟩:∃d,decide (k=1)=d:=⟨_,rfl⟩
    rw[hdk] at hst
    have c1:=fun nl=>HD c hok nl now hI2.2.2.1 true
    have c2:=fun nl=>HD c hok nl now hI2.2.2.1 false
    (try (simp -implicitDefEqProofs only[go_sem,A6,AF,AR,←hlwN]));repeat' first|(with_reducible first|exact tI|refine aI ?_ ?_|intro _)|((first|with_reducible refine AN ?_ ?_<;>intro _|(with_reducible refine isCall ?_);first|refine AG (c1 _) ?_|refine AG (c2 _) ?_)<;>try (simp -implicitDefEqProofs only[go_sem,A6,AF,AR,←hlwN]))|simp (disch:=omega) only[Ap]|((with_reducible refine Ad ?_);refine⟨(_,_,_),rfl,?_,?_⟩)
    all_goals (try simp (disch:=omega) only[Ap] at *)
    all_goals first|omega|(simp<;>omega)|skip
    all_goals first
     |exact((IG hok true now hI2.2.2.1).2 _ (by assumption)).1
     |exact((IG hok true now hI2.2.2.1).2 _ (by assumption)).2
     |(
      have hdd:d=true:=by rw[←hdk];simp;omega
      subst hdd
      first
       |(
        have he:c.level now true=[]:=List.isEmpty_iff.1 (by assumption)
        try dsimp only at hst
        rw[if_pos he] at hst;rw[←hst];done)
       |(
        have he:¬c.level now true=[]:=by intro h;simp_all
        try dsimp only at hst
        rw[if_neg he] at hst;exact hst))
     |exact((IG hok false now hI2.2.2.1).2 _ (by assumption)).1
     |exact((IG hok false now hI2.2.2.1).2 _ (by assumption)).2
     |(
      have hdd:d=false:=by rw[←hdk];simp;omega
      subst hdd
      first
       |(
        have he:c.level now false=[]:=List.isEmpty_iff.1 (by assumption)
        try dsimp only at hst
        rw[if_pos he] at hst;rw[←hst];done)
       |(
        have he:¬c.level now false=[]:=by intro h;simp_all
        try dsimp only at hst
        rw[if_neg he] at hst;exact hst))
   ·(try (simp -implicitDefEqProofs only[go_sem,A6,AR,←hlwN]));repeat' first|(with_reducible first|exact tI|refine aI ?_ ?_|intro _)|((first|with_reducible refine AN ?_ ?_<;>intro _)<;>try (simp -implicitDefEqProofs only[go_sem,A6,AR,←hlwN]))|simp (disch:=omega) only[Ap]|((with_reducible refine Ad ?_);refine⟨(_,_,_),rfl,?_,?_⟩)
    all_goals (try simp (disch:=omega) only[Ap] at *)
    all_goals first|omega|(simp<;>omega)|skip
    have h0:(N+2-k:Int).toNat=0:=by omega
    have hst:=hI2.2.2.2
    rw[h0,GCode.orderF] at hst
    rw[←hst]
end Go.Pw
end
section
open Go Go.Pw Go.Proofs
namespace Go.Pw
set_option maxRecDepth 100000
set_option maxHeartbeats 1600000
attribute [local congr] Bx A9 A_ Au Bz A0 A2 A1 Ar An Ai Ab Av Aj Ax BG BK BI BJ BH BL BD Ay Aw Al Az Am BB BT Ak BE BF BC A' BA B1
attribute [local irreducible] IntKind.wrap BM Option.getD and or
theorem Ic (c:GCode):DE E0 Ka [E7 c] (.int .i64 (IJ c.ok 40)):=by
 refine AP NB A5 (by simp) fun hwf=>?_
 simp only[Dt,DM,DL,DC,EK,EJ,Fk,EI,Be,Br,Bs,DD,CC,List.length_map,CK,true_and,and_true,AH,AF,AR] at hwf
 have noHead:c.head=false->IJ c.ok 40=40:=fun h=>by simp[IJ,GCode.ok,h]
 rw[AU];unfold JP
 (try (simp -implicitDefEqProofs only[go_sem,AH,AF,AR]));repeat' first|(with_reducible first|exact tI|refine aI ?_ ?_|intro _)|((first|with_reducible refine AN ?_ ?_<;>intro _|(with_reducible refine isCall ?_);first|refine AG (C5 _ _ _) ?_)<;>try (simp -implicitDefEqProofs only[go_sem,AH,AF,AR]))|simp (disch:=omega) only[Ap]|((with_reducible refine Ae ?_);refine⟨_,rfl,?_,?_⟩)
 all_goals first|(rw[noHead (by cases hh:c.head;rfl;exfalso;simp only[GCode.head,Dp,Bool.and_eq_true,decide_eq_true_eq,decide_eq_false_iff_not] at *;omega)];done)|skip
 have hh:c.head=true:=by simp only[GCode.head,Dp,Bool.and_eq_true,decide_eq_true_eq,decide_eq_false_iff_not] at *;omega
 have ho:1<=c.out/\c.out<=5:=by simp_all[Dp]
 have hb:1<=c.bits/\c.bits<=2:=by simp_all[Dp]
 have hl:c.next.length=c.words.length:=by omega
 have h12:=IC hb
 have hp1:=Nx (k:=c.out.toNat) (by omega)
 have hp2:=Nw c.out.toNat
 have bad:∀j,j<c.words.length->c.rowsOk j=false->IJ c.ok 40=40:=fun j hj h=>by rw[IJ,YE c hh j hj h];rfl
 refine AX (α:=Int) (l0:=?l1) (m0:=?m1) (fun x=>[(3,.d (.int .i64 x))]) (fun x=>[]) (fun x=>0<=x/\x<=c.words.length/\∀(j:Nat),(j:Int)<x->c.rowsOk j=true) (fun x=>(c.words.length-x).toNat) ?a1_0 ?h01 ?he1 ?he21 ?hI1 ?step1
 case h01=>(simp -implicitDefEqProofs only[go_sem,AH,AF,AR];rfl)
 case he1=>rfl
 case he21=>rfl
 case' step1=>(rintro i hI;try dsimp only at hI)
 case' hI1=>try dsimp only
 ·simp;omega
 by_cases hi:i<c.words.length
 ·obtain⟨rw_,hrw⟩:∃r,c.words[i.toNat]?.getD default=r:=⟨_,rfl⟩
  obtain⟨rn,hrn⟩:∃r,c.next[i.toNat]?.getD default=r:=⟨_,rfl⟩
  have hrow:c.rowsOk i.toNat=(decide ((rw_.2.length:Int)=2^c.bits.toNat) && (rw_.2.all fun n=>Dp n 0 (2^c.out.toNat-1)) && (decide ((rn.2.length:Int)=2^c.bits.toNat) && rn.2.all c.isState)):=by rw[MG,hrw,hrn]
  (try (simp -implicitDefEqProofs only[go_sem,AR,CG,hrw,hrn]));repeat' first|(with_reducible first|exact tI|refine aI ?_ ?_|intro _)|((first|with_reducible refine AN ?_ ?_<;>intro _|(with_reducible refine isCall ?_);first|refine AG (C5 _ _ _) ?_)<;>try (simp -implicitDefEqProofs only[go_sem,AR,CG,hrw,hrn]))|simp (disch:=omega) only[Ap]|((with_reducible refine Ae ?_);refine⟨_,rfl,?_,?_⟩)
  all_goals (try simp (disch:=omega) only[Ap] at *)
  all_goals first|omega|(simp<;>omega)|skip
  ·refine AX (α:=Int) (l0:=?l2) (m0:=?m2) (fun x=>[(4,.d (.int .i64 x))]) (fun x=>[]) (fun x=>0<=x/\x<=rw_.2.length/\∀(j:Nat),(j:Int)<x->Dp (rw_.2[j]?.getD 0) 0 (2^c.out.toNat-1)=true/\c.isState (rn.2[j]?.getD 0)=true) (fun x=>(rw_.2.length-x).toNat) ?a2_0 ?h02 ?he2 ?he22 ?hI2 ?step2
   case h02=>(simp -implicitDefEqProofs only[go_sem,AH,AF,AR];rfl)
   case he2=>rfl
   case he22=>rfl
   case' step2=>(rintro w hI2;try dsimp only at hI2)
   case' hI2=>try dsimp only
   ·simp;omega
   by_cases hw:w<rw_.2.length
   ·have hs:Dp (rw_.2[w.toNat]?.getD 0) 0 (2^c.out.toNat-1)=true->c.isState (rn.2[w.toNat]?.getD 0)=true->∀(j:Nat),(j:Int)<w+1->Dp (rw_.2[j]?.getD 0) 0 (2^c.out.toNat-1)=true/\c.isState (rn.2[j]?.getD 0)=true:=fun h1 h2 j hj=>by
     by_cases hjw:j=w.toNat
     ·subst hjw;exact⟨h1,h2⟩
     ·exact hI2.2.2 j (by omega)
    (try (simp -implicitDefEqProofs only[go_sem,AR,CG,hrw,hrn]));repeat' first|(with_reducible first|exact tI|refine aI ?_ ?_|intro _)|((first|with_reducible refine AN ?_ ?_<;>intro _|(with_reducible refine isCall ?_);first|refine AG (C5 _ _ _) ?_)<;>try (simp -implicitDefEqProofs only[go_sem,AR,CG,hrw,hrn]))|simp (disch:=omega) only[Ap]|((with_reducible refine Ae ?_);refine⟨_,rfl,?_,?_⟩)
    all_goals (try simp (disch:=omega) only[Ap] at *)
    all_goals first|omega|(simp<;>omega)|skip
    ·exact(hs (by assumption) (by show Dp _ 0 _=true;assumption) _ (by assumption)).1
    ·exact(hs (by assumption) (by show Dp _ 0 _=true;assumption) _ (by assumption)).2
    ·refine congrArg (D.int .i64) (bad i.toNat (by omega) ?_).symm
     rw[hrow,all_bad (l:=rn.2) (p:=c.isState) (j:=w.toNat) (by omega) (by show Dp _ 0 _=false;assumption)];simp
    ·refine congrArg (D.int .i64) (bad i.toNat (by omega) ?_).symm
     rw[hrow,all_bad (l:=rw_.2) (p:=fun n=>Dp n 0 (2^c.out.toNat-1)) (j:=w.toNat) (by omega) (by assumption)];simp
   ·have hT:rw_.2.length=2^c.bits.toNat->rn.2.length=2^c.bits.toNat->∀(j:Nat),(j:Int)<i+1->c.rowsOk j=true:=fun h1 h2 j hj=>by
     by_cases hji:j=i.toNat
     ·subst hji
      have e1:(rw_.2.length:Int)=2^c.bits.toNat:=by omega
      have e2:(rn.2.length:Int)=2^c.bits.toNat:=by omega
      rw[hrow,all_iff.2 fun k hk=>(hI2.2.2 k (by omega)).1,all_iff.2 fun k hk=>(hI2.2.2 k (by omega)).2,e1,e2];simp
     ·exact hI.2.2 j (by omega)
    (try (simp -implicitDefEqProofs only[go_sem,AR,CG,hrw,hrn]));repeat' first|(with_reducible first|exact tI|refine aI ?_ ?_|intro _)|((first|with_reducible refine AN ?_ ?_<;>intro _|(with_reducible refine isCall ?_);first|refine AG (C5 _ _ _) ?_)<;>try (simp -implicitDefEqProofs only[go_sem,AR,CG,hrw,hrn]))|simp (disch:=omega) only[Ap]|((with_reducible refine Ae ?_);refine⟨_,rfl,?_,?_⟩)
    all_goals (try simp (disch:=omega) only[Ap] at *)
    all_goals first|omega|(simp<;>omega)|skip
    exact hT (by omega) (by omega) _ (by assumption)
  all_goals (refine congrArg (D.int .i64) (bad i.toNat (by omega) ?_).symm;rw[hrow];simp_all;done)
 ·(try (simp -implicitDefEqProofs only[go_sem,AR]));repeat' first|(with_reducible first|exact tI|refine aI ?_ ?_|intro _)|((first|with_reducible refine AN ?_ ?_<;>intro _)<;>try (simp -implicitDefEqProofs only[go_sem,AR]))|simp (disch:=omega) only[Ap]|((with_reducible refine Ae ?_);refine⟨_,rfl,?_,?_⟩)
  all_goals first|omega|(simp<;>omega)|skip
  have:c.ok=true:=(TZ c hh).2 fun j hj=>hI.2.2 j (by omega)
  rw[IJ,this];rfl
theorem HY (c:GCode) (nl:Bool) (l:List Int) (h:1<=c.bits/\c.bits<=2):DE E0 Jp [E7 c,.list nl (A4 l)] (.bool (c.isData l)):=by
 refine AP MU A5 (by simp) fun hwf=>?_
 have h12:=IC h
 simp only[Dt,DM,DL,DC,EK,EJ,Fk,EI,Be,Br,Bs,DD,CC,List.length_map,CK,true_and,and_true,AH,AF,AR] at hwf
 rw[AU];unfold Ih
 simp -implicitDefEqProofs only[go_sem,AH,AF]
 refine AX (α:=Int) (l0:=?l3) (m0:=?m3) (fun x=>[(5,.d (.int .i64 x))]) (fun x=>[]) (fun x=>0<=x/\x<=l.length/\∀(j:Nat),(j:Int)<x->c.isWord (l[j]?.getD 0)=true) (fun x=>(l.length-x).toNat) ?a3_0 ?h03 ?he3 ?he23 ?hI3 ?step3
 case h03=>(simp -implicitDefEqProofs only[go_sem,AH,AF];rfl)
 case he3=>rfl
 case he23=>rfl
 case' step3=>(rintro i hI;try dsimp only at hI)
 case' hI3=>try dsimp only
 ·simp;omega
 by_cases hi:i<l.length
 ·have hs:c.isWord (l[i.toNat]?.getD 0)=true->∀(j:Nat),(j:Int)<i+1->c.isWord (l[j]?.getD 0)=true:=fun h1 j hj=>by
   by_cases hji:j=i.toNat
   ·subst hji;exact h1
   ·exact hI.2.2 j (by omega)
  (try (simp -implicitDefEqProofs only[go_sem]));repeat' first|(with_reducible first|exact tI|refine aI ?_ ?_|intro _)|((first|with_reducible refine AN ?_ ?_<;>intro _|(with_reducible refine isCall ?_);first|refine AG (C5 _ _ _) ?_)<;>try (simp -implicitDefEqProofs only[go_sem]))|simp (disch:=omega) only[Ap]|((with_reducible refine Ae ?_);refine⟨_,rfl,?_,?_⟩)
  all_goals (try simp (disch:=omega) only[Ap] at *)
  all_goals first|omega|(simp<;>omega)|skip
  ·exact hs (by show Dp _ 0 _=true;assumption) _ (by assumption)
  ·have:=all_bad (l:=l) (p:=c.isWord) (j:=i.toNat) (by omega) (by show Dp _ 0 _=false;assumption)
   simp[GCode.isData,this]
 ·have hall:l.all c.isWord=true:=all_iff.2 fun j hj=>hI.2.2 j (by omega)
  (try (simp -implicitDefEqProofs only[go_sem]));repeat' first|(with_reducible first|exact tI|refine aI ?_ ?_|intro _)|((first|with_reducible refine AN ?_ ?_<;>intro _)<;>try (simp -implicitDefEqProofs only[go_sem]))|simp (disch:=omega) only[Ap]|((with_reducible refine Ae ?_);refine⟨_,rfl,?_,?_⟩)
  all_goals first|omega|(simp<;>omega)|skip
  all_goals (simp only[GCode.isData,hall];simp;omega)
end Go.Pw
end
section
open Go Go.Pw Go.Proofs
namespace Go.Pw
set_option maxRecDepth 100000
set_option maxHeartbeats 1600000
attribute [local congr] Bx A9 A_ Au Bz A0 A2 A1 Ar An Ai Ab Av Aj Ax BG BK BI BJ BH BL BD Ay Aw Al Az Am BB BT Ak BE BF BC A' BA B1
attribute [local irreducible] IntKind.wrap BM Option.getD and or
def GCode.far (c:GCode):Bool:=decide (20<c.words.length) || decide (20<c.next.length) || c.words.any (fun r=>decide (20<r.2.length)) || c.next.any (fun r=>decide (20<r.2.length))
theorem Q6 {l:Rows}{p:Bool×List Int->Bool}:l.any p=false↔∀(j:Nat),j<l.length->p (l[j]?.getD default)=false:=by
 rw[List.any_eq_false]
 constructor
 ·intro h j hj;simpa using h _ (Hj hj)
 ·intro h x hx
  obtain⟨j,hj,rfl⟩:=List.getElem_of_mem hx
  have:=h j hj
  rw[List.getElem?_eq_getElem hj,Option.getD_some] at this
  simpa using this
theorem VA {l:Rows}{p:Bool×List Int->Bool}{j:Nat}(hj:j<l.length) (h:p (l[j]?.getD default)=true):l.any p=true:=by
 cases ha:l.any p with
 |true=>rfl
 |false=>rw[Q6.1 ha j hj] at h;cases h
theorem KP (c:GCode):DE E0 M3 [E7 c] (.bool c.far):=by
 refine AP PD A5 (by simp) fun hwf=>?_
 simp only[Dt,DM,DL,DC,EK,EJ,Fk,EI,Be,Br,Bs,DD,CC,List.length_map,CK,true_and,and_true,AH,AF,AR] at hwf
 rw[AU];unfold LP
 (try (simp -implicitDefEqProofs only[go_sem,AH,AF,AR]));repeat' first|(with_reducible first|exact tI|refine aI ?_ ?_|intro _)|((first|with_reducible refine AN ?_ ?_<;>intro _)<;>try (simp -implicitDefEqProofs only[go_sem,AH,AF,AR]))|simp (disch:=omega) only[Ap]|((with_reducible refine Ae ?_);refine⟨_,rfl,?_,?_⟩)
 ·have:decide (20<c.words.length)=true:=by simp;omega
  simp only[GCode.far,this,Bool.true_or]
 ·have:decide (20<c.next.length)=true:=by simp;omega
  simp only[GCode.far,this,Bool.true_or,Bool.or_true]
 ·refine AX (α:=Int) (l0:=?l1) (m0:=?m1) (fun x=>[(3,.d (.int .i64 x))]) (fun x=>[]) (fun x=>0<=x/\x<=c.words.length/\∀(j:Nat),(j:Int)<x->(c.words[j]?.getD default).2.length<=20) (fun x=>(c.words.length-x).toNat) ?a1_0 ?h01 ?he1 ?he21 ?hI1 ?step1
  case h01=>(simp -implicitDefEqProofs only[go_sem,AH,AF,AR];rfl)
  case he1=>rfl
  case he21=>rfl
  case' step1=>(rintro i hI;try dsimp only at hI)
  case' hI1=>try dsimp only
  ·simp;omega
  by_cases hi:i<c.words.length
  ·have hs:(c.words[i.toNat]?.getD default).2.length<=20->∀(j:Nat),(j:Int)<i+1->(c.words[j]?.getD default).2.length<=20:=fun h1 j hj=>by
    by_cases hji:j=i.toNat
    ·subst hji;exact h1
    ·exact hI.2.2 j (by omega)
   (try (simp -implicitDefEqProofs only[go_sem,AR,CG]));repeat' first|(with_reducible first|exact tI|refine aI ?_ ?_|intro _)|((first|with_reducible refine AN ?_ ?_<;>intro _)<;>try (simp -implicitDefEqProofs only[go_sem,AR,CG]))|simp (disch:=omega) only[Ap]|((with_reducible refine Ae ?_);refine⟨_,rfl,?_,?_⟩)
   all_goals (try simp (disch:=omega) only[Ap] at *)
   all_goals first|omega|(simp<;>omega)|skip
   ·have:=VA (l:=c.words) (p:=fun r=>decide (20<r.2.length)) (j:=i.toNat) (by omega) (by simp;omega)
    simp only[GCode.far,this,Bool.true_or,Bool.or_true]
   ·exact hs (by omega) _ (by assumption)
  ·have h1:c.words.any (fun r=>decide (20<r.2.length))=false:=Q6.2 fun j hj=>by simpa using hI.2.2 j (by omega)
   (try (simp -implicitDefEqProofs only[go_sem,AR]));repeat' first|(with_reducible first|exact tI|refine aI ?_ ?_|intro _)|((first|with_reducible refine AN ?_ ?_<;>intro _)<;>try (simp -implicitDefEqProofs only[go_sem,AR]))|simp (disch:=omega) only[Ap]|((with_reducible refine Ae ?_);refine⟨_,rfl,?_,?_⟩)
   all_goals first|omega|(simp<;>omega)|skip
   refine AX (α:=Int) (l0:=?l2) (m0:=?m2) (fun x=>[(4,.d (.int .i64 x))]) (fun x=>[]) (fun x=>0<=x/\x<=c.next.length/\∀(j:Nat),(j:Int)<x->(c.next[j]?.getD default).2.length<=20) (fun x=>(c.next.length-x).toNat) ?a2_0 ?h02 ?he2 ?he22 ?hI2 ?step2
   case h02=>(simp -implicitDefEqProofs only[go_sem,AH,AF,AR];rfl)
   case he2=>rfl
   case he22=>rfl
   case' step2=>(rintro k hI2;try dsimp only at hI2)
   case' hI2=>try dsimp only
   ·simp;omega
   by_cases hk:k<c.next.length
   ·have hs:(c.next[k.toNat]?.getD default).2.length<=20->∀(j:Nat),(j:Int)<k+1->(c.next[j]?.getD default).2.length<=20:=fun h1 j hj=>by
     by_cases hji:j=k.toNat
     ·subst hji;exact h1
     ·exact hI2.2.2 j (by omega)
    (try (simp -implicitDefEqProofs only[go_sem,AR,CG]));repeat' first|(with_reducible first|exact tI|refine aI ?_ ?_|intro _)|((first|with_reducible refine AN ?_ ?_<;>intro _)<;>try (simp -implicitDefEqProofs only[go_sem,AR,CG]))|simp (disch:=omega) only[Ap]|((with_reducible refine Ae ?_);refine⟨_,rfl,?_,?_⟩)
    all_goals (try simp (disch:=omega) only[Ap] at *)
    all_goals first|omega|(simp<;>omega)|skip
    ·have:=VA (l:=c.next) (p:=fun r=>decide (20<r.2.length)) (j:=k.toNat) (by omega) (by simp;omega)
     simp only[GCode.far,this,Bool.true_or,Bool.or_true]
    ·exact hs (by omega) _ (by assumption)
   ·have h2:c.next.any (fun r=>decide (20<r.2.length))=false:=Q6.2 fun j hj=>by simpa using hI2.2.2 j (by omega)
    (try (simp -implicitDefEqProofs only[go_sem,AR]));repeat' first|(with_reducible first|exact tI|refine aI ?_ ?_|intro _)|((first|with_reducible refine AN ?_ ?_<;>intro _)<;>try (simp -implicitDefEqProofs only[go_sem,AR]))|simp (disch:=omega) only[Ap]|((with_reducible refine Ae ?_);refine⟨_,rfl,?_,?_⟩)
    all_goals first|omega|(simp<;>omega)|skip
    have h3:decide (20<c.words.length)=false:=by simp;omega
    have h4:decide (20<c.next.length)=false:=by simp;omega
    simp only[GCode.far,h1,h2,h3,h4];simp
def Ev:GCode:=⟨1,2,1,3,false,[(false,[2,1]),(false,[0,1])],false,[(false,[0,1]),(false,[0,1])]⟩
theorem LY:DE E0 Iz [] (E7 Ev):=by
 refine AP Lo A5 (by simp) fun hwf=>?_
 rw[AU];unfold Hb
 (try (simp -implicitDefEqProofs only[go_sem]));repeat' first|(with_reducible first|exact tI|refine aI ?_ ?_|intro _)|((first|with_reducible refine AN ?_ ?_<;>intro _)<;>try (simp -implicitDefEqProofs only[go_sem]))|simp (disch:=omega) only[Ap]
 rfl
end Go.Pw
end
