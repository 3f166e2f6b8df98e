/- A part of the proof. -/
import Derived.Test.YtibkjeolahobbaaGreatDoorPgChE
import Derived.Test.YtibkjeolahobbaaGreatDoorPgChrPh2
set_option linter.all false
open Go Go.Pw Go.Proofs
namespace Go.Pw
set_option maxRecDepth 100000
set_option maxHeartbeats 3200000
section
theorem Sa {α:Type}{f:α->List Int}{m:Nat}(hf:∀x,(f x).length=m):∀(l:List α) (i k:Nat) (h:i<l.length),k<m->(l.flatMap f)[m*i+k]?=(f l[i])[k]?
 |[],_,_,h,_=>by cases h
 |x::l,0,k,_,hk=>by
  rw[Nat.mul_zero,Nat.zero_add,List.flatMap_cons,List.getElem?_append_left (by rw[hf];exact hk)];rfl
 |x::l,i+1,k,h,hk=>by
  rw[List.flatMap_cons,Nat.mul_succ,List.getElem?_append_right (by rw[hf];omega),hf,show m*i+m+k-m=m*i+k by omega]
  exact Sa hf l i k (by simpa using h) hk
theorem gF (xs:List Int) {i k:Nat}(hi:i<xs.length) (hk:k<4):(EW xs).take (4*i+k)++[(xs[i]?.getD 0)/2^(3-k)%2]=(EW xs).take (4*i+(k+1)):=by
 have h1:=JT xs
 have h2:4*i+k<(EW xs).length:=by omega
 rw[show 4*i+(k+1)=4*i+k+1 by omega,List.take_add_one]
 congr 1
 have h3:=Sa (f:=I5 1) (m:=4) (fun x=>Fn 1 x) xs i k hi hk
 unfold EW
 rw[h3,List.getElem?_eq_getElem hi]
 simp only[Option.getD_some]
 match k,hk with
 |0,_=>rfl|1,_=>rfl|2,_=>rfl|3,_=>rfl
theorem T8:∀(l:List Int) (a:Int),A8 l=true->0<=a->0<=l.foldl (fun a w=>a*2^1+w) a/\l.foldl (fun a w=>a*2^1+w) a+1<=(a+1)*2^l.length
 |[],a,_,h=>by simp;omega
 |x::l,a,hb,h=>by
  have hx:0<=x/\x<=1:=by
   simp only[A8,List.all_cons,Bool.and_eq_true,C1,decide_eq_true_eq] at hb;exact hb.1
  have hl:A8 l=true:=by
   simp only[A8,List.all_cons,Bool.and_eq_true] at hb;exact hb.2
  have ih:=T8 l (a*2^1+x) hl (by omega)
  refine⟨ih.1,Int.le_trans ih.2 ?_⟩
  have e:(a+1)*(2:Int)^(x::l).length=((a+1)*2)*2^l.length:=by rw[List.length_cons,Int.pow_succ,Int.mul_comm (2^l.length) 2,Int.mul_assoc]
  rw[e]
  exact Int.mul_le_mul_of_nonneg_right (by omega) (Int.le_of_lt (Int.pow_pos (by omega)))
theorem U1 {l:List Int}(h:A8 l=true) (hl:l.length<=4):0<=Gb 1 l/\Gb 1 l<=15:=by
 have h1:=T8 l 0 h (Int.le_refl 0)
 have h2:(2:Int)^l.length<=16:=by
  have:l.length=0\/l.length=1\/l.length=2\/l.length=3\/l.length=4:=by omega
  rcases this with e|e|e|e|e<;>rw[e]<;>omega
 unfold Gb
 omega
theorem T7:∀(l:List Int) (m n:Nat),l.length=m*4->n<m->(Wb l)[n]?.getD 0=Gb 1 ((l.drop (n*4)).take 4)
 |l,0,n,_,h=>by cases h
 |a::b::c::d::l,m+1,0,hl,_=>rfl
 |a::b::c::d::l,m+1,n+1,hl,h=>by
  have:=T7 l m n (by simp at hl;omega) (by omega)
  show (Wb l)[n]?.getD 0=_
  rw[this,show (n+1)*4=n*4+4 by omega]
  rfl
 |[],m+1,n,hl,_=>by simp at hl
 |[_],m+1,n,hl,_=>by simp at hl;omega
 |[_,_],m+1,n,hl,_=>by simp at hl;omega
 |[_,_,_],m+1,n,hl,_=>by simp at hl;omega
theorem W5 (s:Int) (xs:List Int) {n:Nat}(h:n<xs.length):(CG s xs).take n++[Gb 1 (((B1 s (EW xs)).drop (n*4)).take 4)]=(CG s xs).take (n+1):=by
 have h1:(B1 s (EW xs)).length=xs.length*4:=by rw[EP,JT];omega
 have h2:=T7 _ _ n h1 h
 rw[T6] at h2
 rw[←h2,List.take_add_one,List.getElem?_eq_getElem (by rw[CX];exact h)]
 rfl
theorem bg {p:List Int}{j:Nat}(h:j<p.length):2*Gb 1 (p.take j)+(p[j]?.getD 0)=Gb 1 (p.take (j+1)):=by
 rw[List.take_add_one,List.getElem?_eq_getElem h,Option.toList_some,bh]
 simp only[Option.getD_some];omega
def qt (X:List Int):Nat->List (Nat×Nat×Am)
 |0=>[(5000009,0,.cells [.d (.list true [])])]
 |k+1=>[(59,0,.row 3 1 false (Ab (X.take (k+1)))),(5000009,0,.cells [.own 59 0])]
theorem fQ (X:List Int):qt X 0=[(5000009,0,.cells [.d (.list true [])])]:=rfl
theorem W7 (X:List Int) (k:Nat):qt X (k+1)=[(59,0,.row 3 1 false (Ab (X.take (k+1)))),(5000009,0,.cells [.own 59 0])]:=rfl
attribute [local congr] Bm A' BA Au Bn Az A1 A0 Ar Al Af Aa Aw Ag Ax BM BQ BO BP BN BR BG Aj Ay Ak BE BX Ai BK BL BF BH BJ BI BC BD A_ Bp BB Av Ah
attribute [local irreducible] IntKind.wrap A3 Option.getD and or
theorem Gt (c:AY) (r:List D) (nb:Bool) (xs:List Int) (hs:C1 c.seed 1 127=true) (hl:xs.length<=32) (h0:0<xs.length) :
  CA E0 Ev [.ptr (T0 c r),.list nb (Ab xs)] (.list false (Ab (CG c.seed xs))):=by
 have hnl:=JT xs
 refine AL Gq An (by simp) fun hwf=>?_
 rw[AR];unfold EH
 (try (simp -implicitDefEqProofs only[go_sem,BZ]));repeat' first|(with_reducible first|exact tI|refine aI ?_ ?_|intro _)|((first|with_reducible refine AK ?_ ?_<;>intro _)<;>try (simp -implicitDefEqProofs only[go_sem,BZ]))|simp (disch:=omega) only[Ae]|((with_reducible refine Ao ?_);refine⟨(_,_,_),rfl,?_,?_⟩)|((with_reducible refine Ap ?_);refine⟨(_,_),rfl,?_,?_⟩)
 all_goals first|omega|(simp<;>omega)|skip
 refine AX (α:=Nat×Bool) (l0:=?l1) (m0:=?m1) (fun x=>[(16,.d (.int .i64 (x.1:Int)))]) (fun x=>[(30,.row 3 1 x.2 (Ab ((EW xs).take (4*x.1))))]) (fun x=>x.1<=xs.length/\x.2=decide (x.1=0)) (fun x=>xs.length-x.1) (0,true) ?h01 ?he1 ?he21 ?hI1 ?step1
 case h01=>(simp -implicitDefEqProofs only[go_sem];rfl)
 case he1=>rfl
 case he21=>rfl
 case' step1=>(rintro⟨i,nl⟩ hI;try dsimp only at hI)
 case' hI1=>try dsimp only
 ·exact⟨Nat.zero_le _,rfl⟩
 ·obtain⟨i1,i2⟩:=hI
  change nl=decide (i=0) at i2
  subst i2
  by_cases hi:i<xs.length
  ·have hi':(i:Int)<(xs.length:Int):=by omega
   have hwi:IntKind.i64.wrap ((i:Int)+1)=((i+1:Nat):Int):=by rw[AZ _ (by omega)];omega
   obtain⟨x,hx⟩:∃x,xs[i]?.getD 0=x:=⟨_,rfl⟩
   have hst:=fun k hk=>@gF xs i k hi hk
   simp only[hx] at hst
   (try (simp -implicitDefEqProofs only[go_sem,BZ,hi',hi,hx]));repeat' first|(with_reducible first|exact tI|refine aI ?_ ?_|intro _)|((first|with_reducible refine AK ?_ ?_<;>intro _)<;>try (simp -implicitDefEqProofs only[go_sem,BZ,hi',hi,hx]))|simp (disch:=omega) only[Ae]|((with_reducible refine Ao ?_);refine⟨(_,_,_),rfl,?_,?_⟩)|((with_reducible refine Ap ?_);refine⟨(_,_),rfl,?_,?_⟩)
   all_goals first|omega|(simp<;>omega)|skip
   refine AX (α:=Nat×Int×Bool) (l0:=?l2) (m0:=?m2) (fun x=>[(8,.d (.int .i64 x.2.1))]) (fun x=>[(30,.row 3 1 x.2.2 (Ab ((EW xs).take (4*i+x.1))))]) (fun x=>x.1<=4/\x.2.1=3-(x.1:Int)/\x.2.2=(decide (i=0) && decide (x.1=0))) (fun x=>4-x.1) (0,3,(decide (i=0))) ?h02 ?he2 ?he22 ?hI2 ?step2
   case h02=>(simp -implicitDefEqProofs only[go_sem];rfl)
   case he2=>rfl
   case he22=>rfl
   case' step2=>(rintro⟨k,a,e⟩ hI2;try dsimp only at hI2)
   case' hI2=>try dsimp only
   ·exact⟨Nat.zero_le _,rfl,by cases i<;>simp⟩
   ·obtain⟨k1,k2,k3⟩:=hI2
    change a=3-(k:Int) at k2
    change e=(decide (i=0) && decide (k=0)) at k3
    by_cases hk:k<4
    ·have ha:0<=a:=by omega
     have hat:a.toNat=3-k:=by omega
     have hst:=hst k hk
     have hwa:IntKind.i64.wrap (a-1)=a-1:=AZ _ (by omega)
     have hl4:((EW xs).take (4*i+k)).length<=128:=by rw[List.length_take];omega
     have hfe:false=(decide (i=0) && decide (k+1=0)):=by simp
     (try (simp -implicitDefEqProofs only[go_sem,ha,hwa]));repeat' first|(with_reducible first|exact tI|refine aI ?_ ?_|intro _)|((first|with_reducible refine AK ?_ ?_<;>intro _)<;>try (simp -implicitDefEqProofs only[go_sem,ha,hwa]))|simp (disch:=omega) only[Ae]|((with_reducible refine Ao ?_);refine⟨(_,_,_),rfl,?_,?_⟩)|((with_reducible refine Ap ?_);refine⟨(_,_),rfl,?_,?_⟩)
     all_goals first|omega|(simp<;>omega)|skip
     rw[hat,hst]
     exact⟨(k+1,a-1,false),rfl,⟨by show k+1<=4;omega,by show a-1=3-((k+1:Nat):Int);omega,hfe⟩,by show 4-(k+1)<4-k;omega⟩
    ·have ha:¬0<=a:=by omega
     have hk4:4*i+k=4*(i+1):=by omega
     have hfe:e=decide (i+1=0):=by rw[k3];simp;omega
     (try (simp -implicitDefEqProofs only[go_sem,ha,hwi,hk4]));repeat' first|(with_reducible first|exact tI|refine aI ?_ ?_|intro _)|((first|with_reducible refine AK ?_ ?_<;>intro _)<;>try (simp -implicitDefEqProofs only[go_sem,ha,hwi,hk4]))|simp (disch:=omega) only[Ae]|((with_reducible refine Ao ?_);refine⟨(_,_,_),rfl,?_,?_⟩)|((with_reducible refine Ap ?_);refine⟨(_,_),rfl,?_,?_⟩)
     all_goals first|omega|(simp<;>omega)|skip
     all_goals skip
  ·have hi':¬(i:Int)<(xs.length:Int):=by omega
   have htk:(EW xs).take (4*i)=EW xs:=List.take_of_length_le (by omega)
   have hi0:decide (i=0)=false:=decide_eq_false (by omega)
   rw[htk,hi0]
   have hso:Hc c.seed (EW xs)=(B1 c.seed (EW xs),0):=OB (by unfold DU;rw[hs,UR,decide_eq_true (by omega)];simp only[Bool.and_self])
   have c1:=Hw c.seed false (EW xs)
   rw[hso] at c1
   have hr1:=EP c.seed (EW xs)
   have hrb:=IE c.seed (EW xs)
   obtain⟨R,hR⟩:∃R,B1 c.seed (EW xs)=R:=⟨_,rfl⟩
   have hsc:=fun n hn=>@W5 c.seed xs n hn
   rw[hR] at c1 hr1 hrb
   simp only[hR] at hsc
   have hRe:R.isEmpty=false:=Fe (fun e=>by rw[e] at hr1;simp at hr1;omega)
   rw[hRe] at c1
   have c2:=Uu false R 4 (by omega)
   have c3:=Ut false R 4 xs.length (by omega) (by omega) (by omega) rfl
   (try (simp -implicitDefEqProofs only[go_sem,BZ,hi']));repeat' first|(with_reducible first|exact tI|refine aI ?_ ?_|intro _)|((first|with_reducible refine AK ?_ ?_<;>intro _|(with_reducible refine isCall ?_);first|refine AE c1 ?_|refine AE c2 ?_)<;>try (simp -implicitDefEqProofs only[go_sem,BZ,hi']))|simp (disch:=omega) only[Ae]|((with_reducible refine Ao ?_);refine⟨(_,_,_),rfl,?_,?_⟩)|((with_reducible refine Ap ?_);refine⟨(_,_),rfl,?_,?_⟩)
   all_goals first|omega|(simp<;>omega)|skip
   refine aj (α:=Nat) (fun k=>⟨Be (qt (CG c.seed xs) k),fun _=>1⟩) (fun n k=>k=n) (fun e x=>False) 0 (sl1:=E_ ?l7) ?h07 (fun _=>rfl) Ee (by simp[PC.noR]) c3 ?hw7 rfl ?step7 ?hend7 (fun e x h=>h.elim)
   case h07 =>
    simp -implicitDefEqProofs only[go_sem]
    simp only[or_true,true_or,true_and]
    rfl
   case hw7=>simp -implicitDefEqProofs only[go_sem,fQ]
   case step7 =>
    intro n k ds hds hk
    subst hk
    have hkl:k<xs.length:=by have:=(List.getElem?_eq_some_iff.1 hds).1;rw[Lq] at this;exact this
    rw[S8 R hkl] at hds
    obtain rfl:=Option.some.inj hds
    refine⟨rfl,?_⟩
    have hsk:=hsc k hkl
    obtain⟨p,hp⟩:∃p,(R.drop (k*4)).take 4=p:=⟨_,rfl⟩
    have hpl:p.length=4:=by rw[←hp,List.length_take,List.length_drop,hr1,hnl];omega
    have hpb:A8 p=true:=by rw[←hp];exact E1 (EC hrb _) _
    rw[hp] at hsk ⊢
    have hl32:((CG c.seed xs).take k).length<=32:=by rw[List.length_take];omega
    obtain⟨O,hO⟩:∃O,qt (CG c.seed xs) k=O:=⟨_,rfl⟩
    have hround:∀(a:Int) (j:Nat),a=Gb 1 (p.take j)->j<4->IntKind.i64.wrap (2*a)=2*a/\IntKind.i64.wrap (2*a+p[j]?.getD 0)=Gb 1 (p.take (j+1)):=fun a j h2 hj=>by
     have hbd:=U1 (E1 hpb j) (by rw[List.length_take];omega)
     have hbd2:=U1 (E1 hpb (j+1)) (by rw[List.length_take];omega)
     have hst:=bg (show j<p.length by omega)
     refine⟨AZ _ (by omega),?_⟩
     rw[h2,hst];exact AZ _ (by omega)
    rcases Nat.eq_zero_or_pos k with h0k|h0k
    ·subst h0k
     (try (simp -implicitDefEqProofs only[go_sem,fQ]));repeat' first|(with_reducible first|exact tI|refine aI ?_ ?_|intro _)|((first|with_reducible refine AK ?_ ?_<;>intro _)<;>try (simp -implicitDefEqProofs only[go_sem,fQ]))|simp (disch:=omega) only[Ae]|((with_reducible refine Ao ?_);refine⟨(_,_,_),rfl,?_,?_⟩)|((with_reducible refine Ap ?_);refine⟨(_,_),rfl,?_,?_⟩)
     all_goals first|omega|(simp<;>omega)|skip
     refine AX (α:=Nat×Int) (l0:=?l3) (m0:=?m3) (fun x=>[(47,.d (.int .i64 (x.1:Int))),(11,.d (.int .i64 x.2))]) (fun x=>[]) (fun x=>x.1<=4/\x.2=Gb 1 (p.take x.1)) (fun x=>4-x.1) (0,0) ?h03 ?he3 ?he23 ?hI3 ?step3
     case h03=>(simp -implicitDefEqProofs only[go_sem];rfl)
     case he3=>rfl
     case he23=>rfl
     case' step3=>(rintro⟨j,a⟩ hI3;try dsimp only at hI3)
     case' hI3=>try dsimp only
     ·exact⟨Nat.zero_le _,rfl⟩
     ·obtain⟨j1,j2⟩:=hI3
      change a=Gb 1 (p.take j) at j2
      by_cases hj:j<4
      ·have hj':(j:Int)<(p.length:Int):=by omega
       have hjl:j<p.length:=by omega
       obtain⟨hw2,hw3⟩:=hround a j j2 hj
       have hwj:IntKind.i64.wrap ((j:Int)+1)=((j+1:Nat):Int):=by rw[AZ _ (by omega)];omega
       (try (simp -implicitDefEqProofs only[go_sem,hj',hjl,hwj,hw2,hw3]));repeat' first|(with_reducible first|exact tI|refine aI ?_ ?_|intro _)|((first|with_reducible refine AK ?_ ?_<;>intro _)<;>try (simp -implicitDefEqProofs only[go_sem,hj',hjl,hwj,hw2,hw3]))|simp (disch:=omega) only[Ae]|((with_reducible refine Ao ?_);refine⟨(_,_,_),rfl,?_,?_⟩)|((with_reducible refine Ap ?_);refine⟨(_,_),rfl,?_,?_⟩)
       all_goals first|omega|(simp<;>omega)|skip
       rfl
      ·have hj':¬(j:Int)<(p.length:Int):=by omega
       have hpt:p.take j=p:=List.take_of_length_le (by omega)
       rw[hpt] at j2
       subst j2
       (try (simp -implicitDefEqProofs only[go_sem,hj']));repeat' first|(with_reducible first|exact tI|refine aI ?_ ?_|intro _)|((first|with_reducible refine AK ?_ ?_<;>intro _)<;>try (simp -implicitDefEqProofs only[go_sem,hj']))|simp (disch:=omega) only[Ae]|((with_reducible refine Ao ?_);refine⟨(_,_,_),rfl,?_,?_⟩)|((with_reducible refine Ap ?_);refine⟨(_,_),rfl,?_,?_⟩)
       refine⟨1,?_,rfl⟩
       rw[W7,←hsk];rfl
    ·obtain⟨m,rfl⟩:∃m,k=m+1:=⟨k-1,by omega⟩
     (try (simp -implicitDefEqProofs only[go_sem,W7]));repeat' first|(with_reducible first|exact tI|refine aI ?_ ?_|intro _)|((first|with_reducible refine AK ?_ ?_<;>intro _)<;>try (simp -implicitDefEqProofs only[go_sem,W7]))|simp (disch:=omega) only[Ae]|((with_reducible refine Ao ?_);refine⟨(_,_,_),rfl,?_,?_⟩)|((with_reducible refine Ap ?_);refine⟨(_,_),rfl,?_,?_⟩)
     all_goals first|omega|(simp<;>omega)|skip
     refine AX (α:=Nat×Int) (l0:=?l4) (m0:=?m4) (fun x=>[(47,.d (.int .i64 (x.1:Int))),(11,.d (.int .i64 x.2))]) (fun x=>[]) (fun x=>x.1<=4/\x.2=Gb 1 (p.take x.1)) (fun x=>4-x.1) (0,0) ?h04 ?he4 ?he24 ?hI4 ?step4
     case h04=>(simp -implicitDefEqProofs only[go_sem];rfl)
     case he4=>rfl
     case he24=>rfl
     case' step4=>(rintro⟨j,a⟩ hI4;try dsimp only at hI4)
     case' hI4=>try dsimp only
     ·exact⟨Nat.zero_le _,rfl⟩
     ·obtain⟨j1,j2⟩:=hI4
      change a=Gb 1 (p.take j) at j2
      by_cases hj:j<4
      ·have hj':(j:Int)<(p.length:Int):=by omega
       have hjl:j<p.length:=by omega
       obtain⟨hw2,hw3⟩:=hround a j j2 hj
       have hwj:IntKind.i64.wrap ((j:Int)+1)=((j+1:Nat):Int):=by rw[AZ _ (by omega)];omega
       (try (simp -implicitDefEqProofs only[go_sem,hj',hjl,hwj,hw2,hw3]));repeat' first|(with_reducible first|exact tI|refine aI ?_ ?_|intro _)|((first|with_reducible refine AK ?_ ?_<;>intro _)<;>try (simp -implicitDefEqProofs only[go_sem,hj',hjl,hwj,hw2,hw3]))|simp (disch:=omega) only[Ae]|((with_reducible refine Ao ?_);refine⟨(_,_,_),rfl,?_,?_⟩)|((with_reducible refine Ap ?_);refine⟨(_,_),rfl,?_,?_⟩)
       all_goals first|omega|(simp<;>omega)|skip
       rfl
      ·have hj':¬(j:Int)<(p.length:Int):=by omega
       have hpt:p.take j=p:=List.take_of_length_le (by omega)
       rw[hpt] at j2
       subst j2
       (try (simp -implicitDefEqProofs only[go_sem,hj',hsk]));repeat' first|(with_reducible first|exact tI|refine aI ?_ ?_|intro _)|((first|with_reducible refine AK ?_ ?_<;>intro _)<;>try (simp -implicitDefEqProofs only[go_sem,hj',hsk]))|simp (disch:=omega) only[Ae]|((with_reducible refine Ao ?_);refine⟨(_,_,_),rfl,?_,?_⟩)|((with_reducible refine Ap ?_);refine⟨(_,_),rfl,?_,?_⟩)
       ·omega
       ·exact⟨m+1+1,rfl,rfl⟩
   case hend7 =>
    intro k hk
    rw[Lq] at hk
    change k=xs.length at hk
    obtain⟨m,rfl⟩:∃m,k=m+1:=⟨k-1,by omega⟩
    have hte:(CG c.seed xs).take (m+1)=CG c.seed xs:=List.take_of_length_le (by rw[CX];omega)
    (try (simp -implicitDefEqProofs only[go_sem,W7,hte]));repeat' first|(with_reducible first|exact tI|refine aI ?_ ?_|intro _)|((first|with_reducible refine AK ?_ ?_<;>intro _)<;>try (simp -implicitDefEqProofs only[go_sem,W7,hte]))|simp (disch:=omega) only[Ae]|((with_reducible refine Ao ?_);refine⟨(_,_,_),rfl,?_,?_⟩)|((with_reducible refine Ap ?_);refine⟨(_,_),rfl,?_,?_⟩)
    all_goals first|rfl|skip
end
section
def rR (p:List Int):D:=.list false (Ab p)
def kU (rs:List (List Int)):List D:=rs.map rR
theorem kT (rs:List (List Int)):(kU rs).length=rs.length:=by simp[kU]
theorem ci {rs:List (List Int)}{i:Nat}{A:D->Prop}:BW (kU rs)[i]? A=(i<rs.length/\A (.list false (Ab (rs[i]?.getD [])))):=by
 unfold kU
 rw[List.getElem?_map]
 by_cases h:i<rs.length
 ·simp[h,BW,rR]
 ·have:rs[i]?=none:=List.getElem?_eq_none (by omega)
  simp[this,h,BW]
theorem fT (rs:List (List Int)):C6 1 (kU rs)=True:=by
 refine eq_true fun x hx=>?_
 simp only[kU,List.mem_map] at hx
 obtain⟨p,_,rfl⟩:=hx;rfl
attribute [go_sem] kT ci fT
def U3 (c:AW):List (List Int):=(List.range 16).map c.stm
theorem Wc (c:AW):(U3 c).length=16:=by simp[U3]
theorem aO (c:AW):GS c=kU (U3 c):=by
 unfold GS kU U3;rw[List.map_map];rfl
def e9:Option Nat->Int
 |some s=>(s:Int)
 |none=>-1
def VF (l:List (Option Nat)):List Int:=l.map e9
theorem N' (l:List (Option Nat)):(VF l).length=l.length:=by simp[VF]
theorem lV {c:AW}(h:JV c 16=true) (p:List Int):(match (U3 c).findIdx? (fun q=>decide (q=p)) with|some i=>(i:Int)|none=>-1)=e9 (Kw c p):=by
 cases hf:(U3 c).findIdx? (fun q=>decide (q=p)) with
 |some i =>
  rw[List.findIdx?_eq_some_iff_getElem] at hf
  obtain⟨hi,he,_⟩:=hf
  have hi16:i<16:=by rw[Wc] at hi;exact hi
  simp only[U3,List.getElem_map,List.getElem_range,decide_eq_true_eq] at he
  rw[←he,Rs h hi16];rfl
 |none =>
  rw[List.findIdx?_eq_none_iff] at hf
  cases hs:Kw c p with
  |none=>rfl
  |some s =>
   obtain⟨h1,h2⟩:=MI hs
   have:=hf (c.stm s) (by simp only[U3,List.mem_map,List.mem_range];exact⟨s,h1,rfl⟩)
   simp[h2] at this
theorem eo (c:AY) (bits:List Int) (a:Nat) {i:Nat}(h:i<c.syms):(VF (c.syL bits a)).take i++[e9 (Kw c.code (c.part bits a i))]=(VF (c.syL bits a)).take (i+1):=by
 rw[List.take_add_one]
 congr 1
 unfold VF AY.syL
 rw[List.map_map,List.getElem?_map,List.getElem?_range h];rfl
theorem jJ (c:AY) (bits:List Int) (a i:Nat) (h:i<c.syms):(((bits.drop (a+c.mark.length)).take (c.syms*c.code.sz)).drop (i*c.code.sz)).take c.code.sz=c.part bits a i:=by
 have h1:i*c.code.sz+c.code.sz<=c.syms*c.code.sz:=by have:=Nat.mul_le_mul_right c.code.sz (show i+1<=c.syms from h);rw[Nat.add_mul,Nat.one_mul] at this;exact this
 unfold AY.part
 rw[List.drop_take,List.take_take,List.drop_drop,Nat.min_eq_left (by omega)]
def MS (c:AY) (bits:List Int):D:=match c.find bits with
 |some a=>.tup [.int .i64 (a:Int),.list false (Ab (VF (c.syL bits a))),.bool true]
 |none=>.tup [.int .i64 0,.list true [],.bool false]
theorem Xj {c:AY}{bits:List Int}{a:Nat}(h:∀j,j<a->c.errs<Cs c.mark (bits.drop j)) (ha:a+c.tot<=bits.length):(Cs c.mark (bits.drop a)<=c.errs->c.find bits=some a) :=
 fun hd=>MR.2 ⟨ha,hd,h⟩
theorem Xi {c:AY}{bits:List Int}{a:Nat}(h:∀j,j<a->c.errs<Cs c.mark (bits.drop j)) (ha:¬a+c.tot<=bits.length):c.find bits=none:=by
 cases hf:c.find bits with
 |none=>rfl
 |some r =>
  obtain⟨h1,h2,h3⟩:=MR.1 hf
  have:=h r (by omega)
  omega
theorem YI:B5 E0.P C0=true:=by kernel_rfl
def iW (c:AY):Nat×Nat×Am:=(5000002,0,.cells [.d (.ptr (T0 c (GS c.code)))])
def rE (c:AY) (X:List Int):Nat->List (Nat×Nat×Am)
 |0=>[iW c,(5000005,0,.cells [.d (.list true [])])]
 |k+1=>[(68,0,.row 3 1 false (Ab (X.take (k+1)))),iW c,(5000005,0,.cells [.own 68 0])]
theorem iV (c:AY) (X:List Int):rE c X 0=[iW c,(5000005,0,.cells [.d (.list true [])])]:=rfl
theorem Xn (c:AY) (X:List Int) (k:Nat):rE c X (k+1)=[(68,0,.row 3 1 false (Ab (X.take (k+1)))),iW c,(5000005,0,.cells [.own 68 0])]:=rfl
attribute [local congr] Bm A' BA Au Bn Az A1 A0 Ar Al Af Aa Aw Ag Ax BM BQ BO BP BN BR BG Aj Ay Ak BE BX Ai BK BL BF BH BJ BI BC BD A_ Bp BB Av Ah
attribute [local irreducible] IntKind.wrap A3 Option.getD and or
theorem N2 (rs:List (List Int)) (hlen:rs.length<=1000) (f:FuncId) (cs:List D) (p:List Int->Bool) (hb:B5 E0.P f=true) (hcs:BV AV.toD1 (cs.map .d)=some cs) (h:∀x,x∈rs->CA E0 f (.list false (Ab x)::cs) (.bool (p x))) :
  CA E0 Dy [.list false (kU rs),.fn f cs] (.int .i64 (match rs.findIdx? p with|some i=>i|none=>-1)):=by
 refine AL Fm An (by simp) fun hwf=>?_
 simp only[DY,Cv,Cu,Ck,Dq,Dp,FD,Dn,Bj,Bt,Bu,Cy,B6,List.length_map,B4,true_and,and_true] at hwf
 rw[AR];unfold Dg
 simp -implicitDefEqProofs only[go_sem]
 refine AX (α:=Int) (l0:=?l1) (m0:=?m1) (fun x=>[(8,.d (.int .i64 x))]) (fun x=>[]) (fun x=>0<=x/\x<=rs.length/\∀(j:Nat) (hj:j<rs.length),(j:Int)<x->p rs[j]=false) (fun x=>(rs.length-x).toNat) ?a1_0 ?h01 ?he1 ?he21 ?hI1 ?step1
 case h01=>(simp -implicitDefEqProofs only[go_sem];rfl)
 case he1=>rfl
 case he21=>rfl
 case' step1=>(rintro i hI;try dsimp only at hI)
 case' hI1=>try dsimp only
 ·simp
  omega
 ·have hwi:i<rs.length->IntKind.i64.wrap (i+1)=i+1:=fun h=>AZ _ (by omega)
  (try (simp -implicitDefEqProofs only[go_sem]));repeat' first|(with_reducible first|exact tI|refine aI ?_ ?_|intro _)|((first|with_reducible refine AK ?_ ?_<;>intro _)<;>try (simp -implicitDefEqProofs only[go_sem]))|simp (disch:=omega) only[Ae]|((with_reducible refine Ad ?_);refine⟨_,rfl,?_,?_⟩)
  all_goals first|omega|(simp<;>omega)|skip
  ·have hx:rs[i.toNat]?.getD []=rs[i.toNat]'(by omega):=by rw[List.getElem?_eq_getElem (by omega),Option.getD_some]
   rw[hx]
   refine aA (h _ (List.getElem_mem _)) (Ls rfl hcs) (fun hp=>?_) (fun hp=>?_)
   ·simp -implicitDefEqProofs only[go_sem]
    have:rs.findIdx? p=some i.toNat:=by rw[List.findIdx?_eq_some_iff_getElem];exact⟨by omega,hp,fun j hj=>by simp[hI.2.2 j (by omega) (by omega)]⟩
    rw[this];simp;omega
   ·have hwi:=hwi (by omega)
    (try (simp -implicitDefEqProofs only[go_sem,hwi]));repeat' first|(with_reducible first|exact tI|refine aI ?_ ?_|intro _)|((first|with_reducible refine AK ?_ ?_<;>intro _)<;>try (simp -implicitDefEqProofs only[go_sem,hwi]))|simp (disch:=omega) only[Ae]|((with_reducible refine Ad ?_);refine⟨_,rfl,?_,?_⟩)
    all_goals first|omega|(simp<;>omega)|skip
    rename_i j hj hlt
    by_cases hjk:j=i.toNat
    ·subst hjk;exact hp
    ·exact hI.2.2 j hj (by omega)
  ·have:rs.findIdx? p=none:=by
    rw[List.findIdx?_eq_none_iff];intro x hx;obtain⟨j,hj,rfl⟩:=List.getElem_of_mem hx;exact hI.2.2 j hj (by omega)
   rw[this]
theorem QN (c:AY) (hk:HU c) (nb:Bool) (bits:List Int) (hb:Ps bits=true) (hnb:nb=true->bits=[]) :
  CA E0 GA [.ptr (T0 c (GS c.code)),.list nb (Ab bits)] (MS c bits):=by
 have hm:=hk.markl
 have hs:=hk.syms
 have ht:=hk.tot
 have hz:=Ha hk.code
 have hbl:bits.length<=1000/\A8 bits=true:=by simp only[Ps,Bool.and_eq_true,decide_eq_true_eq] at hb;exact hb
 have htt:c.tot=c.mark.length+c.syms*c.code.sz:=rfl
 have cB:=Ez c hk.wev hk.code
 have cL:=GV c
 obtain⟨B,hB⟩:∃B,c.syms*c.code.sz=B:=⟨_,rfl⟩
 rw[hB] at cB ht htt
 refine AL Iv An (by simp) fun hwf=>?_
 rw[AR];unfold Fc
 (try (simp -implicitDefEqProofs only[go_sem,BZ]));repeat' first|(with_reducible first|exact tI|refine aI ?_ ?_|intro _)|((first|with_reducible refine AK ?_ ?_<;>intro _)<;>try (simp -implicitDefEqProofs only[go_sem,BZ]))|simp (disch:=omega) only[Ae]|((with_reducible refine Ad ?_);refine⟨_,rfl,?_,?_⟩)
 all_goals first|omega|(simp<;>omega)|skip
 refine AX (α:=Nat) (l0:=?l2) (m0:=?m2) (fun x=>[(4,.d (.int .i64 (x:Int)))]) (fun x=>[]) (fun x=>x<=bits.length+1/\∀j,j<x->c.errs<Cs c.mark (bits.drop j)) (fun x=>bits.length+1-x) 0 ?h02 ?he2 ?he22 ?hI2 ?step2
 case h02=>(simp -implicitDefEqProofs only[go_sem];rfl)
 case he2=>rfl
 case he22=>rfl
 case' step2=>(rintro a hI;try dsimp only at hI)
 case' hI2=>try dsimp only
 ·exact⟨Nat.zero_le _,fun j hj=>by omega⟩
 ·obtain⟨i1,i2⟩:=hI
  have w1:IntKind.i64.wrap ((a:Int)+(c.mark.length:Int))=((a+c.mark.length:Nat):Int):=by rw[AZ _ (by omega)];omega
  have w2:IntKind.i64.wrap (((a+c.mark.length:Nat):Int)+(B:Int))=((a+c.mark.length+B:Nat):Int):=by rw[AZ _ (by omega)];omega
  have w3:IntKind.i64.wrap ((a:Int)+1)=((a+1:Nat):Int):=by rw[AZ _ (by omega)];omega
  by_cases ha:a+c.tot<=bits.length
  ·have g1:((a+c.mark.length+B:Nat):Int)<=(bits.length:Int):=by omega
   have g2:(a:Int)<=(bits.length:Int):=by omega
   have cD:=Et c.nm nb c.mark (bits.drop a) hm.2.2 (EC hbl.2 a) (by rw[List.length_drop];omega) (by omega)
   by_cases hd:c.errs<Cs c.mark (bits.drop a)
   ·(try (simp -implicitDefEqProofs only[go_sem,BZ,w1,w2,g1,g2,hd,w3]));repeat' first|(with_reducible first|exact tI|refine aI ?_ ?_|intro _)|((first|with_reducible refine AK ?_ ?_<;>intro _|(with_reducible refine isCall ?_);first|refine AE cB ?_|refine AE cD ?_)<;>try (simp -implicitDefEqProofs only[go_sem,BZ,w1,w2,g1,g2,hd,w3]))|simp (disch:=omega) only[Ae]|((with_reducible refine Ad ?_);refine⟨_,rfl,?_,?_⟩)
    all_goals first|omega|(simp<;>omega)|skip
    rename_i j hj
    by_cases e:j=a
    ·rw[e];exact hd
    ·exact i2 j (by omega)
   ·have hf:=Xj i2 ha (by omega)
    have hnf:nb=false:=by
     cases nb with
     |false=>rfl
     |true=>have:=hnb rfl;rw[this] at ha;simp at ha;omega
    subst hnf
    obtain⟨R,hR⟩:∃R,(bits.drop (a+c.mark.length)).take B=R:=⟨_,rfl⟩
    have hRl:R.length=c.syms*c.code.sz:=by rw[←hR,List.length_take,List.length_drop];omega
    have cC:=Uu false R c.code.sz (by omega)
    have cS:=Ut false R c.code.sz c.syms (by omega) hRl (by omega) rfl
    have hpart:=fun i h=>jJ c bits a i h
    rw[hB,hR] at hpart
    have g3:((a+c.mark.length:Nat):Int)<=(bits.length:Int):=by omega
    have g4:(B:Int)<=((bits.drop (a+c.mark.length)).length:Int):=by rw[List.length_drop];omega
    have hSt:=(aO c.code).symm
    have hd12:(T0 c (GS c.code)).drop 12=GS c.code:=rfl
    have h16:=T9 c.code
    (try (simp -implicitDefEqProofs only[go_sem,BZ,w1,w2,g1,g2,hd,w3,g3,g4,hR]));repeat' first|(with_reducible first|exact tI|refine aI ?_ ?_|intro _)|((first|with_reducible refine AK ?_ ?_<;>intro _|(with_reducible refine isCall ?_);first|refine AE cB ?_|refine AE cD ?_|refine AE cL ?_|refine AE cC ?_)<;>try (simp -implicitDefEqProofs only[go_sem,BZ,w1,w2,g1,g2,hd,w3,g3,g4,hR]))|simp (disch:=omega) only[Ae]|((with_reducible refine Ad ?_);refine⟨_,rfl,?_,?_⟩)
    all_goals first|omega|(simp<;>omega)|skip
    refine aj (α:=Nat) (fun k=>⟨Be (rE c (VF (c.syL bits a)) k),fun _=>1⟩) (fun n k=>k=n) (fun e x=>False) 0 (sl1:=E_ ?l7) ?h07 (fun _=>rfl) Ee (by simp[PC.noR]) cS ?hw7 rfl ?step7 ?hend7 (fun e x h=>h.elim)
    case h07 =>
     simp -implicitDefEqProofs only[go_sem]
     simp only[or_true,true_or,true_and]
     rfl
    case hw7=>simp -implicitDefEqProofs only[go_sem,iV,iW]
    case step7 =>
     intro n k ds hds hkn
     subst hkn
     have hkl:k<c.syms:=by have:=(List.getElem?_eq_some_iff.1 hds).1;rw[Lq] at this;exact this
     rw[S8 R hkl,hpart k hkl] at hds
     obtain rfl:=Option.some.inj hds
     refine⟨rfl,?_⟩
     have cI:=N2 (U3 c.code) (by rw[Wc];omega) C0 [.ptr [.list false (Ab (c.part bits a k))]] (fun q=>decide (q=c.part bits a k)) YI rfl (fun x _=>Zm false false x _)
     rw[lV hk.dst,←aO] at cI
     have hst:=eo c bits a hkl
     have h28:=Rt c.code
     have hl32:((VF (c.syL bits a)).take k).length<=32:=by rw[List.length_take];omega
     rcases Nat.eq_zero_or_pos k with h0k|h0k
     ·subst h0k
      (try (simp -implicitDefEqProofs only[go_sem,iV,iW,BZ,h16,h28]));repeat' first|(with_reducible first|exact tI|refine aI ?_ ?_|intro _)|((first|with_reducible refine AK ?_ ?_<;>intro _|(with_reducible refine isCall ?_);first|refine AE cI ?_)<;>try (simp -implicitDefEqProofs only[go_sem,iV,iW,BZ,h16,h28]))|simp (disch:=omega) only[Ae]|((with_reducible refine Ad ?_);refine⟨_,rfl,?_,?_⟩)
      all_goals first|omega|(simp<;>omega)|skip
      refine⟨1,?_,rfl⟩
      rw[Xn,←hst];rfl
     ·obtain⟨m,rfl⟩:∃m,k=m+1:=⟨k-1,by omega⟩
      (try (simp -implicitDefEqProofs only[go_sem,Xn,iW,BZ,h16,h28,hst]));repeat' first|(with_reducible first|exact tI|refine aI ?_ ?_|intro _)|((first|with_reducible refine AK ?_ ?_<;>intro _|(with_reducible refine isCall ?_);first|refine AE cI ?_)<;>try (simp -implicitDefEqProofs only[go_sem,Xn,iW,BZ,h16,h28,hst]))|simp (disch:=omega) only[Ae]|((with_reducible refine Ad ?_);refine⟨_,rfl,?_,?_⟩)
      all_goals first|omega|(simp<;>omega)|skip
      exact⟨m+1+1,rfl,rfl⟩
    case hend7 =>
     intro k hkk
     rw[Lq] at hkk
     change k=c.syms at hkk
     obtain⟨m,rfl⟩:∃m,k=m+1:=⟨k-1,by omega⟩
     have hte:(VF (c.syL bits a)).take (m+1)=VF (c.syL bits a):=List.take_of_length_le (by rw[N',Jw];omega)
     have hr:MS c bits=.tup [.int .i64 (a:Int),.list false (Ab (VF (c.syL bits a))),.bool true]:=by unfold MS;rw[hf]
     rw[hr]
     (try (simp -implicitDefEqProofs only[go_sem,Xn,iW,BZ,hte]));repeat' first|(with_reducible first|exact tI|refine aI ?_ ?_|intro _)|((first|with_reducible refine AK ?_ ?_<;>intro _)<;>try (simp -implicitDefEqProofs only[go_sem,Xn,iW,BZ,hte]))|simp (disch:=omega) only[Ae]|((with_reducible refine Ad ?_);refine⟨_,rfl,?_,?_⟩)
     all_goals first|rfl|skip
  ·have g1:¬((a+c.mark.length+B:Nat):Int)<=(bits.length:Int):=by omega
   have hf:=Xi i2 ha
   have hr:MS c bits=.tup [.int .i64 0,.list true [],.bool false]:=by unfold MS;rw[hf]
   rw[hr]
   (try (simp -implicitDefEqProofs only[go_sem,BZ,w1,w2,g1]));repeat' first|(with_reducible first|exact tI|refine aI ?_ ?_|intro _)|((first|with_reducible refine AK ?_ ?_<;>intro _|(with_reducible refine isCall ?_);first|refine AE cB ?_)<;>try (simp -implicitDefEqProofs only[go_sem,BZ,w1,w2,g1]))|simp (disch:=omega) only[Ae]|((with_reducible refine Ad ?_);refine⟨_,rfl,?_,?_⟩)
   all_goals first|omega|(simp<;>omega)|skip
   all_goals skip
end
section
theorem Ws {α:Type}(l:List α) (x:α):false=(l++[x]).isEmpty:=by cases l<;>rfl
attribute [local congr] Bm A' BA Au Bn Az A1 A0 Ar Al Af Aa Aw Ag Ax BM BQ BO BP BN BR BG Aj Ay Ak BE BX Ai BK BL BF BH BJ BI BC BD A_ Bp BB Av Ah
attribute [local irreducible] IntKind.wrap A3 Option.getD and or
theorem Nu (L P Q:Int) (n n2:Bool) (xs ms:List Int) (hxl:xs.length<=1000):CA E0 Jo [.agg [.int .i64 L,.int .i64 P,.int .i64 Q],.list n (Ab xs),.list n2 (Ab ms)] (.tup [.list (g_ L P Q xs ms).isEmpty (Ab (g_ L P Q xs ms)),.int .i64 (le L P Q xs ms)]):=by
 refine AL Mf An (by simp) fun hwf=>?_
 rw[AR];unfold Hi g_ le
 cases hw:C2 L P Q with
 |false =>
  have c1:=D5 L P Q n xs DT (if EM L P=true then L else 0) YJ (by
   split
   ·rename_i hc;have:=Lp hc;omega
   ·omega) fun hc=>by rw[if_pos hc];exact Kg L P
  unfold nF at c1
  rw[hw] at c1
  simp only[Bool.false_eq_true,if_false] at c1 ⊢
  rw[SP] at c1
  (try (simp -implicitDefEqProofs only[go_sem]));repeat' first|(with_reducible first|exact tI|refine aI ?_ ?_|intro _)|((first|with_reducible refine AK ?_ ?_<;>intro _|(with_reducible refine isCall ?_);first|refine AE c1 ?_)<;>try (simp -implicitDefEqProofs only[go_sem]))|simp (disch:=omega) only[Ae]|((with_reducible refine Ao ?_);refine⟨(_,_,_),rfl,?_,?_⟩)|((with_reducible refine Ap ?_);refine⟨(_,_),rfl,?_,?_⟩)
  all_goals first|rfl|(simp;done)|skip
 |true =>
  obtain⟨l,p,q,rfl,rfl,rfl,b1,b2,b3,b4,b5,b6,b7,hc⟩:=IB hw
  have c1:=D5 l p q n xs DT (l:Int) YJ (by omega) fun hc=>Kg l p
  unfold nF at c1
  rw[hw] at c1
  simp only[if_true] at c1 ⊢
  cases hs:CP xs ((q:Int)*(l:Int)) with
  |false =>
   rw[hs] at c1
   simp only[Bool.false_eq_true,if_false] at c1 ⊢
   rw[ZA] at c1
   (try (simp -implicitDefEqProofs only[go_sem]));repeat' first|(with_reducible first|exact tI|refine aI ?_ ?_|intro _)|((first|with_reducible refine AK ?_ ?_<;>intro _|(with_reducible refine isCall ?_);first|refine AE c1 ?_)<;>try (simp -implicitDefEqProofs only[go_sem]))|simp (disch:=omega) only[Ae]|((with_reducible refine Ao ?_);refine⟨(_,_,_),rfl,?_,?_⟩)|((with_reducible refine Ap ?_);refine⟨(_,_),rfl,?_,?_⟩)
   all_goals first|rfl|(simp;done)|skip
  |true =>
   rw[hs] at c1
   simp only[if_true] at c1 ⊢
   rw[al] at c1
   have cp:=Nq n2 ms xs.length
   cases hm:Da ms xs.length with
   |false =>
    rw[hm] at cp
    simp only[Bool.false_eq_true,if_false]
    (try (simp -implicitDefEqProofs only[go_sem]));repeat' first|(with_reducible first|exact tI|refine aI ?_ ?_|intro _)|((first|with_reducible refine AK ?_ ?_<;>intro _|(with_reducible refine isCall ?_);first|refine AE c1 ?_|refine AE cp ?_)<;>try (simp -implicitDefEqProofs only[go_sem]))|simp (disch:=omega) only[Ae]|((with_reducible refine Ao ?_);refine⟨(_,_,_),rfl,?_,?_⟩)|((with_reducible refine Ap ?_);refine⟨(_,_),rfl,?_,?_⟩)
    all_goals first|rfl|(simp;done)|skip
   |true =>
    rw[hm] at cp
    simp only[if_true]
    obtain⟨hl,hf⟩:=K6 hs
    obtain⟨d,hd⟩:∃d,fs xs=d:=⟨_,rfl⟩
    rw[hd] at hf ⊢
    subst hf
    have hmk:=gJ hm
    have hmf:=nG hm
    obtain⟨mk,hMK⟩:∃mk,nt ms=mk:=⟨_,rfl⟩
    rw[hMK] at hmk hmf ⊢
    subst hmf
    rw[G6] at hl hmk hxl cp
    have hdl:=OW hl
    rw[hdl] at hmk
    have hmq:=SV b2 b7
    have hml:=VW hmk
    simp only[Int.toNat_natCast]
    have c2:=fun k hk=>Ja l p q l k n d (by omega) (by omega) b7 hk hdl
    have hpm:=fun k=>@RU l q k (by omega) mk hmk
    have c3:=fun k b=>Ns l p false b (CI l q k d) (OU q k mk) b2 (by omega) b3 (by omega) (B' ..) (hpm k) (by have:=VW (hpm k);omega) rfl
    have hO:∀k,G9 l p (CI l q k d) (OU q k mk)=Ve l p q d mk k:=fun k=>rfl
    simp only[hO] at c3
    have c4:=GU l p (by omega)
    have w1:(l:Int)-(p:Int)=((l-p:Nat):Int):=by omega
    rw[w1] at c4
    have hst:=fun k hk=>@WO q (bD l p q d mk) k hk
    have hwl:=RL q (bD l p q d mk)
    (try (simp -implicitDefEqProofs only[go_sem]));repeat' first|(with_reducible first|exact tI|refine aI ?_ ?_|intro _)|((first|with_reducible refine AK ?_ ?_<;>intro _|(with_reducible refine isCall ?_);first|refine AE c1 ?_|refine AE cp ?_)<;>try (simp -implicitDefEqProofs only[go_sem]))|simp (disch:=omega) only[Ae]|((with_reducible refine Ao ?_);refine⟨(_,_,_),rfl,?_,?_⟩)|((with_reducible refine Ap ?_);refine⟨(_,_),rfl,?_,?_⟩)
    all_goals first|omega|(simp<;>omega)|skip
    refine AX (α:=Nat×Bool) (l0:=?l1) (m0:=?m1) (fun x=>[(33,.d (.int .i64 (x.1:Int)))]) (fun x=>[(76,.row 110 1 x.2 (jg ((Yb q (bD l p q d mk)).take x.1)))]) (fun x=>x.1<=q/\x.2=decide (x.1=0)/\∀i,i<x.1->(Ve l p q d mk i).isSome=true) (fun x=>q-x.1) (0,true) ?h01 ?he1 ?he21 ?hI1 ?step1
    case h01=>(simp -implicitDefEqProofs only[go_sem];rfl)
    case he1=>rfl
    case he21=>rfl
    case' step1=>(rintro⟨k,e⟩ hI;try dsimp only at hI)
    case' hI1=>try dsimp only
    ·exact⟨Nat.zero_le _,rfl,fun i hi=>absurd hi (by omega)⟩
    ·obtain⟨k1,k2,k3⟩:=hI
     change e=decide (k=0) at k2
     subst k2
     by_cases hk:k<q
     ·have hk':(k:Int)<(q:Int):=by omega
      have hwk:IntKind.i64.wrap ((k:Int)+1)=((k+1:Nat):Int):=by rw[AZ _ (by omega)];omega
      have hq0:¬(q:Int)=0:=by omega
      (try (simp -implicitDefEqProofs only[go_sem,hk']));repeat' first|(with_reducible first|exact tI|refine aI ?_ ?_|intro _)|((first|with_reducible refine AK ?_ ?_<;>intro _)<;>try (simp -implicitDefEqProofs only[go_sem,hk']))|simp (disch:=omega) only[Ae]|((with_reducible refine Ao ?_);refine⟨(_,_,_),rfl,?_,?_⟩)|((with_reducible refine Ap ?_);refine⟨(_,_),rfl,?_,?_⟩)
      all_goals first|omega|(simp<;>omega)|skip
      refine AX (α:=Nat×Bool×(List Nat)) (l0:=?l2) (m0:=?m2) (fun x=>[(38,.d (.int .i64 (x.1:Int)))]) (fun x=>[(54,.row 3 1 x.2.1 (Ab (ni x.2.2)))]) (fun x=>x.1<=mk.length/\x.2.1=x.2.2.isEmpty/\x.2.2=OU q k (mk.take x.1)) (fun x=>mk.length-x.1) (0,true,[]) ?h02 ?he2 ?he22 ?hI2 ?step2
      case h02=>(simp -implicitDefEqProofs only[go_sem];rfl)
      case he2=>rfl
      case he22=>rfl
      case' step2=>(rintro⟨i,e,mm⟩ hI2;try dsimp only at hI2)
      case' hI2=>try dsimp only
      ·exact⟨Nat.zero_le _,rfl,rfl⟩
      ·obtain⟨i1,i2,i3⟩:=hI2
       change e=mm.isEmpty at i2
       have hmml:mm.length<=1000:=by
        have h1:mm.length<=(mk.take i).length:=by
         rw[i3];unfold OU;rw[List.length_map];exact List.length_filter_le ..
        rw[List.length_take] at h1;omega
       by_cases hi:i<mk.length
       ·have hi':(i:Int)<(mk.length:Int):=by omega
        have hwi:IntKind.i64.wrap ((i:Int)+1)=((i+1:Nat):Int):=by rw[AZ _ (by omega)];omega
        have hx:=XP q k i mk hi
        have hxl2:=hmk.lt (mk[i]?.getD 0) (get_mem hi)
        obtain⟨x,hxx⟩:∃x,mk[i]?.getD 0=x:=⟨_,rfl⟩
        rw[hxx] at hx hxl2
        have t1:Int.tmod (x:Int) (q:Int)=((x%q:Nat):Int):=WZ x q
        have t2:Int.tdiv (x:Int) (q:Int)=((x/q:Nat):Int):=Rq x q
        have hdv:=Nat.div_le_self x q
        by_cases hxk:x%q=k
        ·have hxk':((x%q:Nat):Int)=(k:Int):=by omega
         rw[if_pos hxk,←i3] at hx
         have hse:=Ws mm (x/q)
         obtain⟨y,hy⟩:∃y,x/q=y:=⟨_,rfl⟩
         rw[hy] at t2 hx hdv hse
         have w2:IntKind.i64.wrap (y:Int)=(y:Int):=AZ _ (by omega)
         (try (simp -implicitDefEqProofs only[go_sem,hi',hi,hwi,hxx,t1,t2,w2,hxk',hq0]));repeat' first|(with_reducible first|exact tI|refine aI ?_ ?_|intro _)|((first|with_reducible refine AK ?_ ?_<;>intro _)<;>try (simp -implicitDefEqProofs only[go_sem,hi',hi,hwi,hxx,t1,t2,w2,hxk',hq0]))|simp (disch:=omega) only[Ae]|((with_reducible refine Ao ?_);refine⟨(_,_,_),rfl,?_,?_⟩)|((with_reducible refine Ap ?_);refine⟨(_,_),rfl,?_,?_⟩)
         all_goals first|omega|(simp<;>omega)|skip
         all_goals first|exact⟨hse,hx.symm⟩|exact hx.symm|exact hse|skip
        ·have hxk':¬((x%q:Nat):Int)=(k:Int):=by omega
         rw[if_neg hxk,←i3] at hx
         (try (simp -implicitDefEqProofs only[go_sem,hi',hi,hwi,hxx,t1,t2,hxk',hq0]));repeat' first|(with_reducible first|exact tI|refine aI ?_ ?_|intro _)|((first|with_reducible refine AK ?_ ?_<;>intro _)<;>try (simp -implicitDefEqProofs only[go_sem,hi',hi,hwi,hxx,t1,t2,hxk',hq0]))|simp (disch:=omega) only[Ae]|((with_reducible refine Ao ?_);refine⟨(_,_,_),rfl,?_,?_⟩)|((with_reducible refine Ap ?_);refine⟨(_,_),rfl,?_,?_⟩)
         all_goals first|omega|(simp<;>omega)|skip
         all_goals first|exact⟨i2,hx.symm⟩|exact hx.symm|exact i2|skip
       ·have hi':¬(i:Int)<(mk.length:Int):=by omega
        have htk:mk.take i=mk:=List.take_of_length_le (by omega)
        rw[htk] at i3
        subst i3
        have c5:=c2 k hk
        have c6:=c3 k e
        rw[Bc] at c6
        have hsome:=fun r=>@Od l p q d mk k r
        have hno:=@g9 l p q d mk k hk
        have hdec:=fun r h=>@Lg l p (CI l q k d) r (OU q k mk) (B' ..) (hpm k) h
        simp only[hO] at hdec
        have hst2:=hst k hk
        obtain⟨O,hOO⟩:∃O,Ve l p q d mk k=O:=⟨_,rfl⟩
        rw[hOO] at c6 hsome hno hdec
        cases O with
        |none =>
         rw[Uf] at c6
         rw[hno rfl,ap,an]
         (try (simp -implicitDefEqProofs only[go_sem,hi']));repeat' first|(with_reducible first|exact tI|refine aI ?_ ?_|intro _)|((first|with_reducible refine AK ?_ ?_<;>intro _|(with_reducible refine isCall ?_);first|refine AE c5 ?_|refine AE c6 ?_)<;>try (simp -implicitDefEqProofs only[go_sem,hi']))|simp (disch:=omega) only[Ae]|((with_reducible refine Ao ?_);refine⟨(_,_,_),rfl,?_,?_⟩)|((with_reducible refine Ap ?_);refine⟨(_,_),rfl,?_,?_⟩)
         all_goals first|rfl|omega|(simp;done)|skip
        |some r =>
         rw[Ue] at c6
         have hrl:=(hdec r rfl).2.1
         have hWr:=hsome r rfl
         rw[hWr] at hst2
         have hk3:∀i,i<k+1->(Ve l p q d mk i).isSome=true:=fun i hi=>by
          rcases Nat.lt_succ_iff_lt_or_eq.1 hi with hi|rfl
          ·exact k3 i hi
          ·rw[hOO];rfl
         have hle:l-p<=r.length:=by omega
         (try (simp -implicitDefEqProofs only[go_sem,hi',hwk,hst2,hle]));repeat' first|(with_reducible first|exact tI|refine aI ?_ ?_|intro _)|((first|with_reducible refine AK ?_ ?_<;>intro _|(with_reducible refine isCall ?_);first|refine AE c5 ?_|refine AE c6 ?_|refine AE c4 ?_)<;>try (simp -implicitDefEqProofs only[go_sem,hi',hwk,hst2,hle]))|simp (disch:=omega) only[Ae]|((with_reducible refine Ao ?_);refine⟨(_,_,_),rfl,?_,?_⟩)|((with_reducible refine Ap ?_);refine⟨(_,_),rfl,?_,?_⟩)
         all_goals first|omega|(simp<;>omega)|skip
         all_goals first|exact hk3|exact hk3 _ (by assumption)|skip
     ·have hk':¬(k:Int)<(q:Int):=by omega
      have hke:k=q:=by omega
      have hk0:decide (k=0)=false:=decide_eq_false (by omega)
      have htk:(Yb q (bD l p q d mk)).take k=Yb q (bD l p q d mk):=List.take_of_length_le (by omega)
      have hgs:=@SY l p q d mk fun i hi=>k3 i (by omega)
      rw[hk0,htk,hgs,ao,am]
      have hWl:∀i,i<q->(bD l p q d mk i).length=l-p:=fun i hi=>by
       have h1:=k3 i (by omega)
       obtain⟨O,hOO⟩:∃O,Ve l p q d mk i=O:=⟨_,rfl⟩
       rw[hOO] at h1
       cases O with
       |none=>cases h1
       |some r =>
        rw[Od hOO,List.length_take,(Lg (B' ..) (hpm i) hOO).2.1];omega
      have c7:=Jb (.agg [.int .i64 (l:Int),.int .i64 (p:Int),.int .i64 (q:Int)]) q (l-p) (bD l p q d mk) (by omega) (by omega) b7 b6 hWl ⟨_,_,_,rfl⟩
      have hB:0<(GW (l-p) q (bD l p q d mk)).length:=by rw[F0];exact Nat.mul_pos (by omega) (by omega)
      rw[J4 hB]
      (try (simp -implicitDefEqProofs only[go_sem,hk']));repeat' first|(with_reducible first|exact tI|refine aI ?_ ?_|intro _)|((first|with_reducible refine AK ?_ ?_<;>intro _|(with_reducible refine isCall ?_);first|refine AE c7 ?_)<;>try (simp -implicitDefEqProofs only[go_sem,hk']))|simp (disch:=omega) only[Ae]|((with_reducible refine Ao ?_);refine⟨(_,_,_),rfl,?_,?_⟩)|((with_reducible refine Ap ?_);refine⟨(_,_),rfl,?_,?_⟩)
      all_goals first|rfl|omega|(simp;done)|skip
end
end Go.Pw
