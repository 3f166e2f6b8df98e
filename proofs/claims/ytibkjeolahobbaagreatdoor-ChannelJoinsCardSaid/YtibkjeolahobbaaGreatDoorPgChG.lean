/- A part of the proof. -/
import Derived.Test.YtibkjeolahobbaaGreatDoorPgChE
import Derived.Test.YtibkjeolahobbaaGreatDoorPgChrBw
set_option linter.all false
open Go Go.Pw Go.Proofs
namespace Go.Pw
set_option maxRecDepth 100000
set_option maxHeartbeats 3200000
section
theorem Rc {α:Type}{f:α->List Int}{m:Nat}(hf:∀x,(f x).length=m):∀(l:List α) (i k:Nat) (h:i<l.length),k<m->(l.flatMap f)[m*i+k]?=(f l[i])[k]?
 |[],_,_,h,_=>by cases h
 |x::l,0,k,_,hk=>by
  rw[Nat.mul_zero,Nat.zero_add,List.flatMap_cons,List.getElem?_append_left (by rw[hf];exact hk)];rfl
 |x::l,i+1,k,h,hk=>by
  rw[List.flatMap_cons,Nat.mul_succ,List.getElem?_append_right (by rw[hf];omega),hf,show m*i+m+k-m=m*i+k by omega]
  exact Rc hf l i k (by simpa using h) hk
theorem fM (xs:List Int) {i k:Nat}(hi:i<xs.length) (hk:k<4):(Dg xs).take (4*i+k)++[(xs[i]?.getD 0)/2^(3-k)%2]=(Dg xs).take (4*i+(k+1)):=by
 have h1:=IZ xs
 have h2:4*i+k<(Dg xs).length:=by omega
 rw[show 4*i+(k+1)=4*i+k+1 by omega,List.take_add_one]
 congr 1
 have h3:=Rc (f:=H8 1) (m:=4) (fun x=>Ex 1 x) xs i k hi hk
 unfold Dg
 rw[h3,List.getElem?_eq_getElem hi]
 simp only[Option.getD_some]
 match k,hk with
 |0,_=>rfl|1,_=>rfl|2,_=>rfl|3,_=>rfl
theorem S3:∀(l:List Int) (a:Int),Al l=true->0<=a->0<=l.foldl (fun a w=>a*2^1+w) a/\l.foldl (fun a w=>a*2^1+w) a+1<=(a+1)*2^l.length
 |[],a,_,h=>by simp;omega
 |x::l,a,hb,h=>by
  have hx:0<=x/\x<=1:=by
   simp only[Al,List.all_cons,Bool.and_eq_true,B_,decide_eq_true_eq] at hb;exact hb.1
  have hl:Al l=true:=by
   simp only[Al,List.all_cons,Bool.and_eq_true] at hb;exact hb.2
  have ih:=S3 l (a*2^1+x) hl (by omega)
  refine⟨ih.1,Int.le_trans ih.2 ?_⟩
  have e:(a+1)*(2:Int)^(x::l).length=((a+1)*2)*2^l.length:=by rw[List.length_cons,Int.pow_succ,Int.mul_comm (2^l.length) 2,Int.mul_assoc]
  rw[e]
  exact Int.mul_le_mul_of_nonneg_right (by omega) (Int.le_of_lt (Int.pow_pos (by omega)))
theorem Tt {l:List Int}(h:Al l=true) (hl:l.length<=4):0<=Ft 1 l/\Ft 1 l<=15:=by
 have h1:=S3 l 0 h (Int.le_refl 0)
 have h2:(2:Int)^l.length<=16:=by
  have:l.length=0\/l.length=1\/l.length=2\/l.length=3\/l.length=4:=by omega
  rcases this with e|e|e|e|e<;>rw[e]<;>omega
 unfold Ft
 omega
theorem S2:∀(l:List Int) (m n:Nat),l.length=m*4->n<m->(VS l)[n]?.getD 0=Ft 1 ((l.drop (n*4)).take 4)
 |l,0,n,_,h=>by cases h
 |a::b::c::d::l,m+1,0,hl,_=>rfl
 |a::b::c::d::l,m+1,n+1,hl,h=>by
  have:=S2 l m n (by simp at hl;omega) (by omega)
  show (VS l)[n]?.getD 0=_
  rw[this,show (n+1)*4=n*4+4 by omega]
  rfl
 |[],m+1,n,hl,_=>by simp at hl
 |[_],m+1,n,hl,_=>by simp at hl;omega
 |[_,_],m+1,n,hl,_=>by simp at hl;omega
 |[_,_,_],m+1,n,hl,_=>by simp at hl;omega
theorem Vr (s:Int) (xs:List Int) {n:Nat}(h:n<xs.length):(Bd s xs).take n++[Ft 1 (((BK s (Dg xs)).drop (n*4)).take 4)]=(Bd s xs).take (n+1):=by
 have h1:(BK s (Dg xs)).length=xs.length*4:=by rw[Db,IZ];omega
 have h2:=S2 _ _ n h1 h
 rw[S1] at h2
 rw[←h2,List.take_add_one,List.getElem?_eq_getElem (by rw[Bm];exact h)]
 rfl
theorem aP {p:List Int}{j:Nat}(h:j<p.length):2*Ft 1 (p.take j)+(p[j]?.getD 0)=Ft 1 (p.take (j+1)):=by
 rw[List.take_add_one,List.getElem?_eq_getElem h,Option.toList_some,aQ]
 simp only[Option.getD_some];omega
def rd (X:List Int):Nat->List (Nat×Nat×Ah)
 |0=>[(5000009,0,.cells [.d (.list true [])])]
 |k+1=>[(59,0,.row 3 1 false (Aa (X.take (k+1)))),(5000009,0,.cells [.own 59 0])]
theorem eR (X:List Int):rd X 0=[(5000009,0,.cells [.d (.list true [])])]:=rfl
theorem Vt (X:List Int) (k:Nat):rd X (k+1)=[(59,0,.row 3 1 false (Aa (X.take (k+1)))),(5000009,0,.cells [.own 59 0])]:=rfl
attribute [local irreducible] IntKind.wrap Ai Option.getD and or
theorem F7 (c:AX) (r:List D) (nb:Bool) (xs:List Int) (hs:B_ c.seed 1 127=true) (hl:xs.length<=32) (h0:0<xs.length) :
  BR E0 D6 [.ptr (Sv c r),.list nb (Aa xs)] (.list false (Aa (Bd c.seed xs))):=by
 have hnl:=IZ xs
 refine AM F4 Af (by simp) fun hwf=>?_
 rw[AQ];unfold DR
 (try (simp -implicitDefEqProofs only[go_sem,A0]));repeat' first|(with_reducible first|exact tI|refine aI ?_ ?_|intro _|refine AJ ?_ ?_<;>intro _<;>try simp -implicitDefEqProofs only[go_sem,A0])|simp (disch:=omega) only[Ad]|((with_reducible first|apply Ag|apply Ae);exact rfl)
 all_goals first|omega|(simp<;>omega)|skip
 refine AU (α:=Nat×Bool) (l0:=?l1) (m0:=?m1) (fun x=>[(16,.d (.int .i64 (x.1:Int)))]) (fun x=>[(30,.row 3 1 x.2 (Aa ((Dg xs).take (4*x.1))))]) (fun x=>x.1<=xs.length/\x.2=decide (x.1=0)) (fun x=>xs.length-x.1) (0,true) ?h01 ?he1 ?he21 ?hI1 ?step1
 case h01=>(simp -implicitDefEqProofs only[go_sem];rfl)
 case he1=>rfl
 case he21=>rfl
 case' step1=>(rintro⟨i,nl⟩ hI;try dsimp only at hI)
 case' hI1=>try dsimp only
 ·exact⟨Nat.zero_le _,rfl⟩
 ·obtain⟨i1,i2⟩:=hI
  change nl=decide (i=0) at i2
  subst i2
  by_cases hi:i<xs.length
  ·have hi':(i:Int)<(xs.length:Int):=by omega
   have hwi:IntKind.i64.wrap ((i:Int)+1)=((i+1:Nat):Int):=by rw[AZ _ (by omega)];omega
   obtain⟨x,hx⟩:∃x,xs[i]?.getD 0=x:=⟨_,rfl⟩
   have hst:=fun k hk=>@fM xs i k hi hk
   simp only[hx] at hst
   (try (simp -implicitDefEqProofs only[go_sem,A0,hi',hi,hx]));repeat' first|(with_reducible first|exact tI|refine aI ?_ ?_|intro _|refine AJ ?_ ?_<;>intro _<;>try simp -implicitDefEqProofs only[go_sem,A0,hi',hi,hx])|simp (disch:=omega) only[Ad]|((with_reducible refine Ca ?_);refine⟨(_,_,_),rfl,?_,?_⟩)|((with_reducible refine Ca ?_);refine⟨(_,_),rfl,?_,?_⟩)
   all_goals first|omega|(simp<;>omega)|skip
   refine AU (α:=Nat×Int×Bool) (l0:=?l2) (m0:=?m2) (fun x=>[(8,.d (.int .i64 x.2.1))]) (fun x=>[(30,.row 3 1 x.2.2 (Aa ((Dg xs).take (4*i+x.1))))]) (fun x=>x.1<=4/\x.2.1=3-(x.1:Int)/\x.2.2=(decide (i=0) && decide (x.1=0))) (fun x=>4-x.1) (0,3,(decide (i=0))) ?h02 ?he2 ?he22 ?hI2 ?step2
   case h02=>(simp -implicitDefEqProofs only[go_sem];rfl)
   case he2=>rfl
   case he22=>rfl
   case' step2=>(rintro⟨k,a,e⟩ hI2;try dsimp only at hI2)
   case' hI2=>try dsimp only
   ·exact⟨Nat.zero_le _,rfl,by cases i<;>simp⟩
   ·obtain⟨k1,k2,k3⟩:=hI2
    change a=3-(k:Int) at k2
    change e=(decide (i=0) && decide (k=0)) at k3
    by_cases hk:k<4
    ·have ha:0<=a:=by omega
     have hat:a.toNat=3-k:=by omega
     have hst:=hst k hk
     have hwa:IntKind.i64.wrap (a-1)=a-1:=AZ _ (by omega)
     have hl4:((Dg xs).take (4*i+k)).length<=128:=by rw[List.length_take];omega
     have hfe:false=(decide (i=0) && decide (k+1=0)):=by simp
     (try (simp -implicitDefEqProofs only[go_sem,ha,hwa]));repeat' first|(with_reducible first|exact tI|refine aI ?_ ?_|intro _|refine AJ ?_ ?_<;>intro _<;>try simp -implicitDefEqProofs only[go_sem,ha,hwa])|simp (disch:=omega) only[Ad]|((with_reducible refine Ca ?_);refine⟨(_,_,_),rfl,?_,?_⟩)|((with_reducible refine Ca ?_);refine⟨(_,_),rfl,?_,?_⟩)
     all_goals first|omega|(simp<;>omega)|skip
     rw[hat,hst]
     exact⟨(k+1,a-1,false),rfl,⟨by show k+1<=4;omega,by show a-1=3-((k+1:Nat):Int);omega,hfe⟩,by show 4-(k+1)<4-k;omega⟩
    ·have ha:¬0<=a:=by omega
     have hk4:4*i+k=4*(i+1):=by omega
     have hfe:e=decide (i+1=0):=by rw[k3];simp;omega
     (try (simp -implicitDefEqProofs only[go_sem,ha,hwi,hk4]));repeat' first|(with_reducible first|exact tI|refine aI ?_ ?_|intro _|refine AJ ?_ ?_<;>intro _<;>try simp -implicitDefEqProofs only[go_sem,ha,hwi,hk4])|simp (disch:=omega) only[Ad]|((with_reducible first|apply Ag|apply Ae);exact rfl)
     all_goals first|omega|(simp<;>omega)|skip
     all_goals skip
  ·have hi':¬(i:Int)<(xs.length:Int):=by omega
   have htk:(Dg xs).take (4*i)=Dg xs:=List.take_of_length_le (by omega)
   have hi0:decide (i=0)=false:=decide_eq_false (by omega)
   rw[htk,hi0]
   have hso:Gn c.seed (Dg xs)=(BK c.seed (Dg xs),0):=NF (by unfold Cj;rw[hs,TH,decide_eq_true (by omega)];simp only[Bool.and_self])
   have c1:=G8 c.seed false (Dg xs)
   rw[hso] at c1
   have hr1:=Db c.seed (Dg xs)
   have hrb:=HT c.seed (Dg xs)
   obtain⟨R,hR⟩:∃R,BK c.seed (Dg xs)=R:=⟨_,rfl⟩
   have hsc:=fun n hn=>@Vr c.seed xs n hn
   rw[hR] at c1 hr1 hrb
   simp only[hR] at hsc
   have hRe:R.isEmpty=false:=Fj (fun e=>by rw[e] at hr1;simp at hr1;omega)
   rw[hRe] at c1
   have c2:=Tj false R 4 (by omega)
   have c3:=Ti false R 4 xs.length (by omega) (by omega) (by omega) rfl
   (try (simp -implicitDefEqProofs only[go_sem,A0,hi']));repeat' first|(with_reducible first|exact tI|refine aI ?_ ?_|intro _)|((first|with_reducible refine AJ ?_ ?_<;>intro _|(with_reducible refine isCall ?_);first|refine AE c1 ?_|refine AE c2 ?_)<;>try (simp -implicitDefEqProofs only[go_sem,A0,hi']))|simp (disch:=omega) only[Ad]|((with_reducible first|apply Ag|apply Ae);exact rfl)
   all_goals first|omega|(simp<;>omega)|skip
   refine Zf (α:=Nat) (fun k=>⟨A' (rd (Bd c.seed xs) k),fun _=>1⟩) (fun n k=>k=n) (fun e x=>False) 0 (sl1:=EJ ?l7) ?h07 (fun _=>rfl) Dp (by simp[PC.noR]) c3 ?hw7 rfl ?step7 ?hend7 (fun e x h=>h.elim)
   case h07 =>
    simp -implicitDefEqProofs only[go_sem]
    simp only[or_true,true_or,true_and]
    rfl
   case hw7=>simp -implicitDefEqProofs only[go_sem,eR]
   case step7 =>
    intro n k ds hds hk
    subst hk
    have hkl:k<xs.length:=by have:=(List.getElem?_eq_some_iff.1 hds).1;rw[Ky] at this;exact this
    rw[R9 R hkl] at hds
    obtain rfl:=Option.some.inj hds
    refine⟨rfl,?_⟩
    have hsk:=hsc k hkl
    obtain⟨p,hp⟩:∃p,(R.drop (k*4)).take 4=p:=⟨_,rfl⟩
    have hpl:p.length=4:=by rw[←hp,List.length_take,List.length_drop,hr1,hnl];omega
    have hpb:Al p=true:=by rw[←hp];exact EB (DM hrb _) _
    rw[hp] at hsk ⊢
    have hl32:((Bd c.seed xs).take k).length<=32:=by rw[List.length_take];omega
    obtain⟨O,hO⟩:∃O,rd (Bd c.seed xs) k=O:=⟨_,rfl⟩
    have hround:∀(a:Int) (j:Nat),a=Ft 1 (p.take j)->j<4->IntKind.i64.wrap (2*a)=2*a/\IntKind.i64.wrap (2*a+p[j]?.getD 0)=Ft 1 (p.take (j+1)):=fun a j h2 hj=>by
     have hbd:=Tt (EB hpb j) (by rw[List.length_take];omega)
     have hbd2:=Tt (EB hpb (j+1)) (by rw[List.length_take];omega)
     have hst:=aP (show j<p.length by omega)
     refine⟨AZ _ (by omega),?_⟩
     rw[h2,hst];exact AZ _ (by omega)
    rcases Nat.eq_zero_or_pos k with h0k|h0k
    ·subst h0k
     (try (simp -implicitDefEqProofs only[go_sem,eR]));repeat' first|(with_reducible first|exact tI|refine aI ?_ ?_|intro _|refine AJ ?_ ?_<;>intro _<;>try simp -implicitDefEqProofs only[go_sem,eR])|simp (disch:=omega) only[Ad]|((with_reducible first|apply Ag|apply Ae);exact rfl)
     all_goals first|omega|(simp<;>omega)|skip
     refine AU (α:=Nat×Int) (l0:=?l3) (m0:=?m3) (fun x=>[(47,.d (.int .i64 (x.1:Int))),(11,.d (.int .i64 x.2))]) (fun x=>[]) (fun x=>x.1<=4/\x.2=Ft 1 (p.take x.1)) (fun x=>4-x.1) (0,0) ?h03 ?he3 ?he23 ?hI3 ?step3
     case h03=>(simp -implicitDefEqProofs only[go_sem];rfl)
     case he3=>rfl
     case he23=>rfl
     case' step3=>(rintro⟨j,a⟩ hI3;try dsimp only at hI3)
     case' hI3=>try dsimp only
     ·exact⟨Nat.zero_le _,rfl⟩
     ·obtain⟨j1,j2⟩:=hI3
      change a=Ft 1 (p.take j) at j2
      by_cases hj:j<4
      ·have hj':(j:Int)<(p.length:Int):=by omega
       have hjl:j<p.length:=by omega
       obtain⟨hw2,hw3⟩:=hround a j j2 hj
       have hwj:IntKind.i64.wrap ((j:Int)+1)=((j+1:Nat):Int):=by rw[AZ _ (by omega)];omega
       (try (simp -implicitDefEqProofs only[go_sem,hj',hjl,hwj,hw2,hw3]));repeat' first|(with_reducible first|exact tI|refine aI ?_ ?_|intro _|refine AJ ?_ ?_<;>intro _<;>try simp -implicitDefEqProofs only[go_sem,hj',hjl,hwj,hw2,hw3])|simp (disch:=omega) only[Ad]|((with_reducible first|apply Ag|apply Ae);exact rfl)
       all_goals first|omega|(simp<;>omega)|skip
       rfl
      ·have hj':¬(j:Int)<(p.length:Int):=by omega
       have hpt:p.take j=p:=List.take_of_length_le (by omega)
       rw[hpt] at j2
       subst j2
       (try (simp -implicitDefEqProofs only[go_sem,hj']));repeat' first|(with_reducible first|exact tI|refine aI ?_ ?_|intro _|refine AJ ?_ ?_<;>intro _<;>try simp -implicitDefEqProofs only[go_sem,hj'])|simp (disch:=omega) only[Ad]|((with_reducible first|apply Ag|apply Ae);exact rfl)
       refine⟨1,?_,rfl⟩
       rw[Vt,←hsk];rfl
    ·obtain⟨m,rfl⟩:∃m,k=m+1:=⟨k-1,by omega⟩
     (try (simp -implicitDefEqProofs only[go_sem,Vt]));repeat' first|(with_reducible first|exact tI|refine aI ?_ ?_|intro _|refine AJ ?_ ?_<;>intro _<;>try simp -implicitDefEqProofs only[go_sem,Vt])|simp (disch:=omega) only[Ad]|((with_reducible first|apply Ag|apply Ae);exact rfl)
     all_goals first|omega|(simp<;>omega)|skip
     refine AU (α:=Nat×Int) (l0:=?l4) (m0:=?m4) (fun x=>[(47,.d (.int .i64 (x.1:Int))),(11,.d (.int .i64 x.2))]) (fun x=>[]) (fun x=>x.1<=4/\x.2=Ft 1 (p.take x.1)) (fun x=>4-x.1) (0,0) ?h04 ?he4 ?he24 ?hI4 ?step4
     case h04=>(simp -implicitDefEqProofs only[go_sem];rfl)
     case he4=>rfl
     case he24=>rfl
     case' step4=>(rintro⟨j,a⟩ hI4;try dsimp only at hI4)
     case' hI4=>try dsimp only
     ·exact⟨Nat.zero_le _,rfl⟩
     ·obtain⟨j1,j2⟩:=hI4
      change a=Ft 1 (p.take j) at j2
      by_cases hj:j<4
      ·have hj':(j:Int)<(p.length:Int):=by omega
       have hjl:j<p.length:=by omega
       obtain⟨hw2,hw3⟩:=hround a j j2 hj
       have hwj:IntKind.i64.wrap ((j:Int)+1)=((j+1:Nat):Int):=by rw[AZ _ (by omega)];omega
       (try (simp -implicitDefEqProofs only[go_sem,hj',hjl,hwj,hw2,hw3]));repeat' first|(with_reducible first|exact tI|refine aI ?_ ?_|intro _|refine AJ ?_ ?_<;>intro _<;>try simp -implicitDefEqProofs only[go_sem,hj',hjl,hwj,hw2,hw3])|simp (disch:=omega) only[Ad]|((with_reducible first|apply Ag|apply Ae);exact rfl)
       all_goals first|omega|(simp<;>omega)|skip
       rfl
      ·have hj':¬(j:Int)<(p.length:Int):=by omega
       have hpt:p.take j=p:=List.take_of_length_le (by omega)
       rw[hpt] at j2
       subst j2
       (try (simp -implicitDefEqProofs only[go_sem,hj',hsk]));repeat' first|(with_reducible first|exact tI|refine aI ?_ ?_|intro _|refine AJ ?_ ?_<;>intro _<;>try simp -implicitDefEqProofs only[go_sem,hj',hsk])|simp (disch:=omega) only[Ad]|((with_reducible refine Ca ?_);refine⟨(_,_,_),rfl,?_,?_⟩)|((with_reducible refine Ca ?_);refine⟨(_,_),rfl,?_,?_⟩)
       ·omega
       ·exact⟨m+1+1,rfl,rfl⟩
   case hend7 =>
    intro k hk
    rw[Ky] at hk
    change k=xs.length at hk
    obtain⟨m,rfl⟩:∃m,k=m+1:=⟨k-1,by omega⟩
    have hte:(Bd c.seed xs).take (m+1)=Bd c.seed xs:=List.take_of_length_le (by rw[Bm];omega)
    (try (simp -implicitDefEqProofs only[go_sem,Vt,hte]));repeat' first|(with_reducible first|exact tI|refine aI ?_ ?_|intro _|refine AJ ?_ ?_<;>intro _<;>try simp -implicitDefEqProofs only[go_sem,Vt,hte])|simp (disch:=omega) only[Ad]|((with_reducible first|apply Ag|apply Ae);exact rfl)
    all_goals first|rfl|skip
end
section
def rr (p:List Int):D:=.list false (Aa p)
def XT (rs:List (List Int)):List D:=rs.map rr
theorem ZY (rs:List (List Int)):(XT rs).length=rs.length:=by simp[XT]
theorem bJ {rs:List (List Int)}{i:Nat}{A:D->Prop}:Av (XT rs)[i]? A=(i<rs.length/\A (.list false (Aa (rs[i]?.getD [])))):=by
 unfold XT
 rw[List.getElem?_map]
 by_cases h:i<rs.length
 ·simp[h,Av,rr]
 ·have:rs[i]?=none:=List.getElem?_eq_none (by omega)
  simp[this,h,Av]
theorem eU (rs:List (List Int)):CJ 1 (XT rs)=True:=by
 refine eq_true fun x hx=>?_
 simp only[XT,List.mem_map] at hx
 obtain⟨p,_,rfl⟩:=hx;rfl
attribute [go_sem] ZY bJ eU
def Tv (c:AW):List (List Int):=(List.range 16).map c.stm
theorem VT (c:AW):(Tv c).length=16:=by simp[Tv]
theorem ZO (c:AW):FR c=XT (Tv c):=by
 unfold FR XT Tv;rw[List.map_map];rfl
def Se:Option Nat->Int
 |some s=>(s:Int)
 |none=>-1
def OM (l:List (Option Nat)):List Int:=l.map Se
theorem Ez (l:List (Option Nat)):(OM l).length=l.length:=by simp[OM]
theorem lG {c:AW}(h:Ib c 16=true) (p:List Int):(match (Tv c).findIdx? (fun q=>decide (q=p)) with|some i=>(i:Int)|none=>-1)=Se (J2 c p):=by
 cases hf:(Tv c).findIdx? (fun q=>decide (q=p)) with
 |some i =>
  rw[List.findIdx?_eq_some_iff_getElem] at hf
  obtain⟨hi,he,_⟩:=hf
  have hi16:i<16:=by rw[VT] at hi;exact hi
  simp only[Tv,List.getElem_map,List.getElem_range,decide_eq_true_eq] at he
  rw[←he,Qp h hi16];rfl
 |none =>
  rw[List.findIdx?_eq_none_iff] at hf
  cases hs:J2 c p with
  |none=>rfl
  |some s =>
   obtain⟨h1,h2⟩:=H' hs
   have:=hf (c.stm s) (by simp only[Tv,List.mem_map,List.mem_range];exact⟨s,h1,rfl⟩)
   simp[h2] at this
theorem dz (c:AX) (bits:List Int) (a:Nat) {i:Nat}(h:i<c.syms):(OM (c.syL bits a)).take i++[Se (J2 c.code (c.part bits a i))]=(OM (c.syL bits a)).take (i+1):=by
 rw[List.take_add_one]
 congr 1
 unfold OM AX.syL
 rw[List.map_map,List.getElem?_map,List.getElem?_range h];rfl
theorem iY (c:AX) (bits:List Int) (a i:Nat) (h:i<c.syms):(((bits.drop (a+c.mark.length)).take (c.syms*c.code.sz)).drop (i*c.code.sz)).take c.code.sz=c.part bits a i:=by
 have h1:i*c.code.sz+c.code.sz<=c.syms*c.code.sz:=by have:=Nat.mul_le_mul_right c.code.sz (show i+1<=c.syms from h);rw[Nat.add_mul,Nat.one_mul] at this;exact this
 unfold AX.part
 rw[List.drop_take,List.take_take,List.drop_drop,Nat.min_eq_left (by omega)]
def Hg (c:AX) (bits:List Int):D:=match c.find bits with
 |some a=>.tup [.int .i64 (a:Int),.list false (Aa (OM (c.syL bits a))),.bool true]
 |none=>.tup [.int .i64 0,.list true [],.bool false]
theorem WW {c:AX}{bits:List Int}{a:Nat}(h:∀j,j<a->c.errs<B' c.mark (bits.drop j)) (ha:a+c.tot<=bits.length):(B' c.mark (bits.drop a)<=c.errs->c.find bits=some a) :=
 fun hd=>LW.2 ⟨ha,hd,h⟩
theorem WV {c:AX}{bits:List Int}{a:Nat}(h:∀j,j<a->c.errs<B' c.mark (bits.drop j)) (ha:¬a+c.tot<=bits.length):c.find bits=none:=by
 cases hf:c.find bits with
 |none=>rfl
 |some r =>
  obtain⟨h1,h2,h3⟩:=LW.1 hf
  have:=h r (by omega)
  omega
theorem W_:BL E0.P CG=true:=by kernel_rfl
def gq (c:AX):Nat×Nat×Ah:=(5000002,0,.cells [.d (.ptr (Sv c (FR c.code)))])
def r5 (c:AX) (X:List Int):Nat->List (Nat×Nat×Ah)
 |0=>[gq c,(5000005,0,.cells [.d (.list true [])])]
 |k+1=>[(68,0,.row 3 1 false (Aa (X.take (k+1)))),gq c,(5000005,0,.cells [.own 68 0])]
theorem gn (c:AX) (X:List Int):r5 c X 0=[gq c,(5000005,0,.cells [.d (.list true [])])]:=rfl
theorem Wa (c:AX) (X:List Int) (k:Nat):r5 c X (k+1)=[(68,0,.row 3 1 false (Aa (X.take (k+1)))),gq c,(5000005,0,.cells [.own 68 0])]:=rfl
attribute [local irreducible] IntKind.wrap Ai Option.getD and or
theorem HC (rs:List (List Int)) (hlen:rs.length<=1000) (f:FuncId) (cs:List D) (p:List Int->Bool) (hb:BL E0.P f=true) (hcs:Ax AV.toD1 (cs.map .d)=some cs) (h:∀x,x∈rs->BR E0 f (.list false (Aa x)::cs) (.bool (p x))) :
  BR E0 C9 [.list false (XT rs),.fn f cs] (.int .i64 (match rs.findIdx? p with|some i=>i|none=>-1)):=by
 refine AM Ew Af (by simp) fun hwf=>?_
 simp only[CU,Bu,Bt,Bq,Cd,Cc,Dt,Cb,A2,A9,A_,Bz,BG,List.length_map,BH,true_and,and_true] at hwf
 rw[AQ];unfold Cv
 simp -implicitDefEqProofs only[go_sem]
 refine AU (α:=Int) (l0:=?l1) (m0:=?m1) (fun x=>[(8,.d (.int .i64 x))]) (fun x=>[]) (fun x=>0<=x/\x<=rs.length/\∀(j:Nat) (hj:j<rs.length),(j:Int)<x->p rs[j]=false) (fun x=>(rs.length-x).toNat) ?a1_0 ?h01 ?he1 ?he21 ?hI1 ?step1
 case h01=>(simp -implicitDefEqProofs only[go_sem];rfl)
 case he1=>rfl
 case he21=>rfl
 case' step1=>(rintro i hI;try dsimp only at hI)
 case' hI1=>try dsimp only
 ·simp
  omega
 ·have hwi:i<rs.length->IntKind.i64.wrap (i+1)=i+1:=fun h=>AZ _ (by omega)
  (try (simp -implicitDefEqProofs only[go_sem]));repeat' first|(with_reducible first|exact tI|refine aI ?_ ?_|intro _|refine AJ ?_ ?_<;>intro _<;>try simp -implicitDefEqProofs only[go_sem])|simp (disch:=omega) only[Ad]|((with_reducible apply Ab);exact rfl)
  all_goals first|omega|(simp<;>omega)|skip
  ·have hx:rs[i.toNat]?.getD []=rs[i.toNat]'(by omega):=by rw[List.getElem?_eq_getElem (by omega),Option.getD_some]
   rw[hx]
   refine Y9 (h _ (List.getElem_mem _)) (K1 rfl hcs) (fun hp=>?_) (fun hp=>?_)
   ·simp -implicitDefEqProofs only[go_sem]
    have:rs.findIdx? p=some i.toNat:=by rw[List.findIdx?_eq_some_iff_getElem];exact⟨by omega,hp,fun j hj=>by simp[hI.2.2 j (by omega) (by omega)]⟩
    rw[this];simp;omega
   ·have hwi:=hwi (by omega)
    (try (simp -implicitDefEqProofs only[go_sem,hwi]));repeat' first|(with_reducible first|exact tI|refine aI ?_ ?_|intro _|refine AJ ?_ ?_<;>intro _<;>try simp -implicitDefEqProofs only[go_sem,hwi])|simp (disch:=omega) only[Ad]|((with_reducible apply Ab);exact rfl)
    all_goals first|omega|(simp<;>omega)|skip
    rename_i j hj hlt
    by_cases hjk:j=i.toNat
    ·subst hjk;exact hp
    ·exact hI.2.2 j hj (by omega)
  ·have:rs.findIdx? p=none:=by
    rw[List.findIdx?_eq_none_iff];intro x hx;obtain⟨j,hj,rfl⟩:=List.getElem_of_mem hx;exact hI.2.2 j hj (by omega)
   rw[this]
theorem Ip (c:AX) (hk:HJ c) (nb:Bool) (bits:List Int) (hb:Dr bits=true) (hnb:nb=true->bits=[]) :
  BR E0 FO [.ptr (Sv c (FR c.code)),.list nb (Aa bits)] (Hg c bits):=by
 have hm:=hk.markl
 have hs:=hk.syms
 have ht:=hk.tot
 have hz:=Hl hk.code
 have hbl:bits.length<=1000/\Al bits=true:=by simp only[Dr,Bool.and_eq_true,decide_eq_true_eq] at hb;exact hb
 have htt:c.tot=c.mark.length+c.syms*c.code.sz:=rfl
 have cB:=Fm c hk.wev hk.code
 have cL:=Fl c
 obtain⟨B,hB⟩:∃B,c.syms*c.code.sz=B:=⟨_,rfl⟩
 rw[hB] at cB ht htt
 refine AM Hy Af (by simp) fun hwf=>?_
 rw[AQ];unfold Em
 (try (simp -implicitDefEqProofs only[go_sem,A0]));repeat' first|(with_reducible first|exact tI|refine aI ?_ ?_|intro _|refine AJ ?_ ?_<;>intro _<;>try simp -implicitDefEqProofs only[go_sem,A0])|simp (disch:=omega) only[Ad]|((with_reducible apply Ab);exact rfl)
 all_goals first|omega|(simp<;>omega)|skip
 refine AU (α:=Nat) (l0:=?l2) (m0:=?m2) (fun x=>[(4,.d (.int .i64 (x:Int)))]) (fun x=>[]) (fun x=>x<=bits.length+1/\∀j,j<x->c.errs<B' c.mark (bits.drop j)) (fun x=>bits.length+1-x) 0 ?h02 ?he2 ?he22 ?hI2 ?step2
 case h02=>(simp -implicitDefEqProofs only[go_sem];rfl)
 case he2=>rfl
 case he22=>rfl
 case' step2=>(rintro a hI;try dsimp only at hI)
 case' hI2=>try dsimp only
 ·exact⟨Nat.zero_le _,fun j hj=>by omega⟩
 ·obtain⟨i1,i2⟩:=hI
  have w1:IntKind.i64.wrap ((a:Int)+(c.mark.length:Int))=((a+c.mark.length:Nat):Int):=by rw[AZ _ (by omega)];omega
  have w2:IntKind.i64.wrap (((a+c.mark.length:Nat):Int)+(B:Int))=((a+c.mark.length+B:Nat):Int):=by rw[AZ _ (by omega)];omega
  have w3:IntKind.i64.wrap ((a:Int)+1)=((a+1:Nat):Int):=by rw[AZ _ (by omega)];omega
  by_cases ha:a+c.tot<=bits.length
  ·have g1:((a+c.mark.length+B:Nat):Int)<=(bits.length:Int):=by omega
   have g2:(a:Int)<=(bits.length:Int):=by omega
   have cD:=D5 c.nm nb c.mark (bits.drop a) hm.2.2 (DM hbl.2 a) (by rw[List.length_drop];omega) (by omega)
   by_cases hd:c.errs<B' c.mark (bits.drop a)
   ·(try (simp -implicitDefEqProofs only[go_sem,A0,w1,w2,g1,g2,hd,w3]));repeat' first|(with_reducible first|exact tI|refine aI ?_ ?_|intro _)|((first|with_reducible refine AJ ?_ ?_<;>intro _|(with_reducible refine isCall ?_);first|refine AE cB ?_|refine AE cD ?_)<;>try (simp -implicitDefEqProofs only[go_sem,A0,w1,w2,g1,g2,hd,w3]))|simp (disch:=omega) only[Ad]|((with_reducible apply Ab);exact rfl)
    all_goals first|omega|(simp<;>omega)|skip
    rename_i j hj
    by_cases e:j=a
    ·rw[e];exact hd
    ·exact i2 j (by omega)
   ·have hf:=WW i2 ha (by omega)
    have hnf:nb=false:=by
     cases nb with
     |false=>rfl
     |true=>have:=hnb rfl;rw[this] at ha;simp at ha;omega
    subst hnf
    obtain⟨R,hR⟩:∃R,(bits.drop (a+c.mark.length)).take B=R:=⟨_,rfl⟩
    have hRl:R.length=c.syms*c.code.sz:=by rw[←hR,List.length_take,List.length_drop];omega
    have cC:=Tj false R c.code.sz (by omega)
    have cS:=Ti false R c.code.sz c.syms (by omega) hRl (by omega) rfl
    have hpart:=fun i h=>iY c bits a i h
    rw[hB,hR] at hpart
    have g3:((a+c.mark.length:Nat):Int)<=(bits.length:Int):=by omega
    have g4:(B:Int)<=((bits.drop (a+c.mark.length)).length:Int):=by rw[List.length_drop];omega
    have hSt:=(ZO c.code).symm
    have hd12:(Sv c (FR c.code)).drop 12=FR c.code:=rfl
    have h16:=S4 c.code
    (try (simp -implicitDefEqProofs only[go_sem,A0,w1,w2,g1,g2,hd,w3,g3,g4,hR]));repeat' first|(with_reducible first|exact tI|refine aI ?_ ?_|intro _)|((first|with_reducible refine AJ ?_ ?_<;>intro _|(with_reducible refine isCall ?_);first|refine AE cB ?_|refine AE cD ?_|refine AE cL ?_|refine AE cC ?_)<;>try (simp -implicitDefEqProofs only[go_sem,A0,w1,w2,g1,g2,hd,w3,g3,g4,hR]))|simp (disch:=omega) only[Ad]|((with_reducible apply Ab);exact rfl)
    all_goals first|omega|(simp<;>omega)|skip
    refine Zf (α:=Nat) (fun k=>⟨A' (r5 c (OM (c.syL bits a)) k),fun _=>1⟩) (fun n k=>k=n) (fun e x=>False) 0 (sl1:=EJ ?l7) ?h07 (fun _=>rfl) Dp (by simp[PC.noR]) cS ?hw7 rfl ?step7 ?hend7 (fun e x h=>h.elim)
    case h07 =>
     simp -implicitDefEqProofs only[go_sem]
     simp only[or_true,true_or,true_and]
     rfl
    case hw7=>simp -implicitDefEqProofs only[go_sem,gn,gq]
    case step7 =>
     intro n k ds hds hkn
     subst hkn
     have hkl:k<c.syms:=by have:=(List.getElem?_eq_some_iff.1 hds).1;rw[Ky] at this;exact this
     rw[R9 R hkl,hpart k hkl] at hds
     obtain rfl:=Option.some.inj hds
     refine⟨rfl,?_⟩
     have cI:=HC (Tv c.code) (by rw[VT];omega) CG [.ptr [.list false (Aa (c.part bits a k))]] (fun q=>decide (q=c.part bits a k)) W_ rfl (fun x _=>Yf false false x _)
     rw[lG hk.dst,←ZO] at cI
     have hst:=dz c bits a hkl
     have h28:=Qq c.code
     have hl32:((OM (c.syL bits a)).take k).length<=32:=by rw[List.length_take];omega
     rcases Nat.eq_zero_or_pos k with h0k|h0k
     ·subst h0k
      (try (simp -implicitDefEqProofs only[go_sem,gn,gq,A0,h16,h28]));repeat' first|(with_reducible first|exact tI|refine aI ?_ ?_|intro _)|((first|with_reducible refine AJ ?_ ?_<;>intro _|(with_reducible refine isCall ?_);first|refine AE cI ?_)<;>try (simp -implicitDefEqProofs only[go_sem,gn,gq,A0,h16,h28]))|simp (disch:=omega) only[Ad]|((with_reducible apply Ab);exact rfl)
      all_goals first|omega|(simp<;>omega)|skip
      refine⟨1,?_,rfl⟩
      rw[Wa,←hst];rfl
     ·obtain⟨m,rfl⟩:∃m,k=m+1:=⟨k-1,by omega⟩
      (try (simp -implicitDefEqProofs only[go_sem,Wa,gq,A0,h16,h28,hst]));repeat' first|(with_reducible first|exact tI|refine aI ?_ ?_|intro _)|((first|with_reducible refine AJ ?_ ?_<;>intro _|(with_reducible refine isCall ?_);first|refine AE cI ?_)<;>try (simp -implicitDefEqProofs only[go_sem,Wa,gq,A0,h16,h28,hst]))|simp (disch:=omega) only[Ad]|((with_reducible refine Ca ?_);refine⟨_,rfl,?_,?_⟩)
      all_goals first|omega|(simp<;>omega)|skip
      exact⟨m+1+1,rfl,rfl⟩
    case hend7 =>
     intro k hkk
     rw[Ky] at hkk
     change k=c.syms at hkk
     obtain⟨m,rfl⟩:∃m,k=m+1:=⟨k-1,by omega⟩
     have hte:(OM (c.syL bits a)).take (m+1)=OM (c.syL bits a):=List.take_of_length_le (by rw[Ez,HS];omega)
     have hr:Hg c bits=.tup [.int .i64 (a:Int),.list false (Aa (OM (c.syL bits a))),.bool true]:=by unfold Hg;rw[hf]
     rw[hr]
     (try (simp -implicitDefEqProofs only[go_sem,Wa,gq,A0,hte]));repeat' first|(with_reducible first|exact tI|refine aI ?_ ?_|intro _|refine AJ ?_ ?_<;>intro _<;>try simp -implicitDefEqProofs only[go_sem,Wa,gq,A0,hte])|simp (disch:=omega) only[Ad]|((with_reducible apply Ab);exact rfl)
     all_goals first|rfl|skip
  ·have g1:¬((a+c.mark.length+B:Nat):Int)<=(bits.length:Int):=by omega
   have hf:=WV i2 ha
   have hr:Hg c bits=.tup [.int .i64 0,.list true [],.bool false]:=by unfold Hg;rw[hf]
   rw[hr]
   (try (simp -implicitDefEqProofs only[go_sem,A0,w1,w2,g1]));repeat' first|(with_reducible first|exact tI|refine aI ?_ ?_|intro _)|((first|with_reducible refine AJ ?_ ?_<;>intro _|(with_reducible refine isCall ?_);first|refine AE cB ?_)<;>try (simp -implicitDefEqProofs only[go_sem,A0,w1,w2,g1]))|simp (disch:=omega) only[Ad]|((with_reducible apply Ab);exact rfl)
   all_goals first|omega|(simp<;>omega)|skip
   all_goals skip
end
section
theorem Vh {α:Type}(l:List α) (x:α):false=(l++[x]).isEmpty:=by cases l<;>rfl
attribute [local irreducible] IntKind.wrap Ai Option.getD and or
theorem Mu (L P Q:Int) (n n2:Bool) (xs ms:List Int) (hxl:xs.length<=1000):BR E0 I2 [.agg [.int .i64 L,.int .i64 P,.int .i64 Q],.list n (Aa xs),.list n2 (Aa ms)] (.tup [.list (dU L P Q xs ms).isEmpty (Aa (dU L P Q xs ms)),.int .i64 (jP L P Q xs ms)]):=by
 refine AM Lk Af (by simp) fun hwf=>?_
 rw[AQ];unfold Gs dU jP
 cases hw:CL L P Q with
 |false =>
  have c1:=DH L P Q n xs Ci (if DY L P=true then L else 0) XA (by
   split
   ·rename_i hc;have:=Kx hc;omega
   ·omega) fun hc=>by rw[if_pos hc];exact Jn L P
  unfold nM at c1
  rw[hw] at c1
  simp only[Bool.false_eq_true,if_false] at c1 ⊢
  rw[RP] at c1
  (try (simp -implicitDefEqProofs only[go_sem]));repeat' first|(with_reducible first|exact tI|refine aI ?_ ?_|intro _)|((first|with_reducible refine AJ ?_ ?_<;>intro _|(with_reducible refine isCall ?_);first|refine AE c1 ?_)<;>try (simp -implicitDefEqProofs only[go_sem]))|simp (disch:=omega) only[Ad]|((with_reducible first|apply Ag|apply Ae);exact rfl)
  all_goals first|rfl|(simp;done)|skip
 |true =>
  obtain⟨l,p,q,rfl,rfl,rfl,b1,b2,b3,b4,b5,b6,b7,hc⟩:=I7 hw
  have c1:=DH l p q n xs Ci (l:Int) XA (by omega) fun hc=>Jn l p
  unfold nM at c1
  rw[hw] at c1
  simp only[if_true] at c1 ⊢
  cases hs:Bl xs ((q:Int)*(l:Int)) with
  |false =>
   rw[hs] at c1
   simp only[Bool.false_eq_true,if_false] at c1 ⊢
   rw[X6] at c1
   (try (simp -implicitDefEqProofs only[go_sem]));repeat' first|(with_reducible first|exact tI|refine aI ?_ ?_|intro _)|((first|with_reducible refine AJ ?_ ?_<;>intro _|(with_reducible refine isCall ?_);first|refine AE c1 ?_)<;>try (simp -implicitDefEqProofs only[go_sem]))|simp (disch:=omega) only[Ad]|((with_reducible first|apply Ag|apply Ae);exact rfl)
   all_goals first|rfl|(simp;done)|skip
  |true =>
   rw[hs] at c1
   simp only[if_true] at c1 ⊢
   rw[Zh] at c1
   have cp:=Mq n2 ms xs.length
   cases hm:Cq ms xs.length with
   |false =>
    rw[hm] at cp
    simp only[Bool.false_eq_true,if_false]
    (try (simp -implicitDefEqProofs only[go_sem]));repeat' first|(with_reducible first|exact tI|refine aI ?_ ?_|intro _)|((first|with_reducible refine AJ ?_ ?_<;>intro _|(with_reducible refine isCall ?_);first|refine AE c1 ?_|refine AE cp ?_)<;>try (simp -implicitDefEqProofs only[go_sem]))|simp (disch:=omega) only[Ad]|((with_reducible first|apply Ag|apply Ae);exact rfl)
    all_goals first|rfl|(simp;done)|skip
   |true =>
    rw[hm] at cp
    simp only[if_true]
    obtain⟨hl,hf⟩:=NC hs
    obtain⟨d,hd⟩:∃d,fs xs=d:=⟨_,rfl⟩
    rw[hd] at hf ⊢
    subst hf
    have hmk:=fT hm
    have hmf:=nN hm
    obtain⟨mk,hMK⟩:∃mk,nt ms=mk:=⟨_,rfl⟩
    rw[hMK] at hmk hmf ⊢
    subst hmf
    rw[Gx] at hl hmk hxl cp
    have hdl:=QO hl
    rw[hdl] at hmk
    have hmq:=TJ b2 b7
    have hml:=UL hmk
    simp only[Int.toNat_natCast]
    have c2:=fun k hk=>Il l p q l k n d (by omega) (by omega) b7 hk hdl
    have hpm:=fun k=>@QM l q k (by omega) mk hmk
    have c3:=fun k b=>Ms l p false b (Bw l q k d) (NS q k mk) b2 (by omega) b3 (by omega) (Bn ..) (hpm k) (by have:=UL (hpm k);omega) rfl
    have hO:∀k,GK l p (Bw l q k d) (NS q k mk)=UV l p q d mk k:=fun k=>rfl
    simp only[hO] at c3
    have c4:=Fk l p (by omega)
    have w1:(l:Int)-(p:Int)=((l-p:Nat):Int):=by omega
    rw[w1] at c4
    have hst:=fun k hk=>@VE q (Zy l p q d mk) k hk
    have hwl:=QE q (Zy l p q d mk)
    (try (simp -implicitDefEqProofs only[go_sem]));repeat' first|(with_reducible first|exact tI|refine aI ?_ ?_|intro _)|((first|with_reducible refine AJ ?_ ?_<;>intro _|(with_reducible refine isCall ?_);first|refine AE c1 ?_|refine AE cp ?_)<;>try (simp -implicitDefEqProofs only[go_sem]))|simp (disch:=omega) only[Ad]|((with_reducible refine Ca ?_);refine⟨(_,_,_),rfl,?_,?_⟩)|((with_reducible refine Ca ?_);refine⟨(_,_),rfl,?_,?_⟩)
    all_goals first|omega|(simp<;>omega)|skip
    refine AU (α:=Nat×Bool) (l0:=?l1) (m0:=?m1) (fun x=>[(33,.d (.int .i64 (x.1:Int)))]) (fun x=>[(76,.row 110 1 x.2 (jL ((XS q (Zy l p q d mk)).take x.1)))]) (fun x=>x.1<=q/\x.2=decide (x.1=0)/\∀i,i<x.1->(UV l p q d mk i).isSome=true) (fun x=>q-x.1) (0,true) ?h01 ?he1 ?he21 ?hI1 ?step1
    case h01=>(simp -implicitDefEqProofs only[go_sem];rfl)
    case he1=>rfl
    case he21=>rfl
    case' step1=>(rintro⟨k,e⟩ hI;try dsimp only at hI)
    case' hI1=>try dsimp only
    ·exact⟨Nat.zero_le _,rfl,fun i hi=>absurd hi (by omega)⟩
    ·obtain⟨k1,k2,k3⟩:=hI
     change e=decide (k=0) at k2
     subst k2
     by_cases hk:k<q
     ·have hk':(k:Int)<(q:Int):=by omega
      have hwk:IntKind.i64.wrap ((k:Int)+1)=((k+1:Nat):Int):=by rw[AZ _ (by omega)];omega
      have hq0:¬(q:Int)=0:=by omega
      (try (simp -implicitDefEqProofs only[go_sem,hk']));repeat' first|(with_reducible first|exact tI|refine aI ?_ ?_|intro _|refine AJ ?_ ?_<;>intro _<;>try simp -implicitDefEqProofs only[go_sem,hk'])|simp (disch:=omega) only[Ad]|((with_reducible refine Ca ?_);refine⟨(_,_,_),rfl,?_,?_⟩)|((with_reducible refine Ca ?_);refine⟨(_,_),rfl,?_,?_⟩)
      all_goals first|omega|(simp<;>omega)|skip
      refine AU (α:=Nat×Bool×(List Nat)) (l0:=?l2) (m0:=?m2) (fun x=>[(38,.d (.int .i64 (x.1:Int)))]) (fun x=>[(54,.row 3 1 x.2.1 (Aa (ni x.2.2)))]) (fun x=>x.1<=mk.length/\x.2.1=x.2.2.isEmpty/\x.2.2=NS q k (mk.take x.1)) (fun x=>mk.length-x.1) (0,true,[]) ?h02 ?he2 ?he22 ?hI2 ?step2
      case h02=>(simp -implicitDefEqProofs only[go_sem];rfl)
      case he2=>rfl
      case he22=>rfl
      case' step2=>(rintro⟨i,e,mm⟩ hI2;try dsimp only at hI2)
      case' hI2=>try dsimp only
      ·exact⟨Nat.zero_le _,rfl,rfl⟩
      ·obtain⟨i1,i2,i3⟩:=hI2
       change e=mm.isEmpty at i2
       have hmml:mm.length<=1000:=by
        have h1:mm.length<=(mk.take i).length:=by
         rw[i3];unfold NS;rw[List.length_map];exact List.length_filter_le ..
        rw[List.length_take] at h1;omega
       by_cases hi:i<mk.length
       ·have hi':(i:Int)<(mk.length:Int):=by omega
        have hwi:IntKind.i64.wrap ((i:Int)+1)=((i+1:Nat):Int):=by rw[AZ _ (by omega)];omega
        have hx:=WD q k i mk hi
        have hxl2:=hmk.lt (mk[i]?.getD 0) (get_mem hi)
        obtain⟨x,hxx⟩:∃x,mk[i]?.getD 0=x:=⟨_,rfl⟩
        rw[hxx] at hx hxl2
        have t1:Int.tmod (x:Int) (q:Int)=((x%q:Nat):Int):=VQ x q
        have t2:Int.tdiv (x:Int) (q:Int)=((x/q:Nat):Int):=Qn x q
        have hdv:=Nat.div_le_self x q
        by_cases hxk:x%q=k
        ·have hxk':((x%q:Nat):Int)=(k:Int):=by omega
         rw[if_pos hxk,←i3] at hx
         have hse:=Vh mm (x/q)
         obtain⟨y,hy⟩:∃y,x/q=y:=⟨_,rfl⟩
         rw[hy] at t2 hx hdv hse
         have w2:IntKind.i64.wrap (y:Int)=(y:Int):=AZ _ (by omega)
         (try (simp -implicitDefEqProofs only[go_sem,hi',hi,hwi,hxx,t1,t2,w2,hxk',hq0]));repeat' first|(with_reducible first|exact tI|refine aI ?_ ?_|intro _|refine AJ ?_ ?_<;>intro _<;>try simp -implicitDefEqProofs only[go_sem,hi',hi,hwi,hxx,t1,t2,w2,hxk',hq0])|simp (disch:=omega) only[Ad]|((with_reducible first|apply Ag|apply Ae);exact rfl)
         all_goals first|omega|(simp<;>omega)|skip
         all_goals first|exact⟨hse,hx.symm⟩|exact hx.symm|exact hse|skip
        ·have hxk':¬((x%q:Nat):Int)=(k:Int):=by omega
         rw[if_neg hxk,←i3] at hx
         (try (simp -implicitDefEqProofs only[go_sem,hi',hi,hwi,hxx,t1,t2,hxk',hq0]));repeat' first|(with_reducible first|exact tI|refine aI ?_ ?_|intro _|refine AJ ?_ ?_<;>intro _<;>try simp -implicitDefEqProofs only[go_sem,hi',hi,hwi,hxx,t1,t2,hxk',hq0])|simp (disch:=omega) only[Ad]|((with_reducible first|apply Ag|apply Ae);exact rfl)
         all_goals first|omega|(simp<;>omega)|skip
         all_goals first|exact⟨i2,hx.symm⟩|exact hx.symm|exact i2|skip
       ·have hi':¬(i:Int)<(mk.length:Int):=by omega
        have htk:mk.take i=mk:=List.take_of_length_le (by omega)
        rw[htk] at i3
        subst i3
        have c5:=c2 k hk
        have c6:=c3 k e
        rw[A4] at c6
        have hsome:=fun r=>@Nb l p q d mk k r
        have hno:=@gO l p q d mk k hk
        have hdec:=fun r h=>@Kn l p (Bw l q k d) r (NS q k mk) (Bn ..) (hpm k) h
        simp only[hO] at hdec
        have hst2:=hst k hk
        obtain⟨O,hOO⟩:∃O,UV l p q d mk k=O:=⟨_,rfl⟩
        rw[hOO] at c6 hsome hno hdec
        cases O with
        |none =>
         rw[TS] at c6
         rw[hno rfl,Zl,Zj]
         (try (simp -implicitDefEqProofs only[go_sem,hi']));repeat' first|(with_reducible first|exact tI|refine aI ?_ ?_|intro _)|((first|with_reducible refine AJ ?_ ?_<;>intro _|(with_reducible refine isCall ?_);first|refine AE c5 ?_|refine AE c6 ?_)<;>try (simp -implicitDefEqProofs only[go_sem,hi']))|simp (disch:=omega) only[Ad]|((with_reducible first|apply Ag|apply Ae);exact rfl)
         all_goals first|rfl|omega|(simp;done)|skip
        |some r =>
         rw[TR] at c6
         have hrl:=(hdec r rfl).2.1
         have hWr:=hsome r rfl
         rw[hWr] at hst2
         have hk3:∀i,i<k+1->(UV l p q d mk i).isSome=true:=fun i hi=>by
          rcases Nat.lt_succ_iff_lt_or_eq.1 hi with hi|rfl
          ·exact k3 i hi
          ·rw[hOO];rfl
         have hle:l-p<=r.length:=by omega
         (try (simp -implicitDefEqProofs only[go_sem,hi',hwk,hst2,hle]));repeat' first|(with_reducible first|exact tI|refine aI ?_ ?_|intro _)|((first|with_reducible refine AJ ?_ ?_<;>intro _|(with_reducible refine isCall ?_);first|refine AE c5 ?_|refine AE c6 ?_|refine AE c4 ?_)<;>try (simp -implicitDefEqProofs only[go_sem,hi',hwk,hst2,hle]))|simp (disch:=omega) only[Ad]|((with_reducible first|apply Ag|apply Ae);exact rfl)
         all_goals first|omega|(simp<;>omega)|skip
         all_goals first|exact hk3|exact hk3 _ (by assumption)|skip
     ·have hk':¬(k:Int)<(q:Int):=by omega
      have hke:k=q:=by omega
      have hk0:decide (k=0)=false:=decide_eq_false (by omega)
      have htk:(XS q (Zy l p q d mk)).take k=XS q (Zy l p q d mk):=List.take_of_length_le (by omega)
      have hgs:=@Ra l p q d mk fun i hi=>k3 i (by omega)
      rw[hk0,htk,hgs,Zk,Zi]
      have hWl:∀i,i<q->(Zy l p q d mk i).length=l-p:=fun i hi=>by
       have h1:=k3 i (by omega)
       obtain⟨O,hOO⟩:∃O,UV l p q d mk i=O:=⟨_,rfl⟩
       rw[hOO] at h1
       cases O with
       |none=>cases h1
       |some r =>
        rw[Nb hOO,List.length_take,(Kn (Bn ..) (hpm i) hOO).2.1];omega
      have c7:=Im (.agg [.int .i64 (l:Int),.int .i64 (p:Int),.int .i64 (q:Int)]) q (l-p) (Zy l p q d mk) (by omega) (by omega) b7 b6 hWl ⟨_,_,_,rfl⟩
      have hB:0<(GL (l-p) q (Zy l p q d mk)).length:=by rw[F8];exact Nat.mul_pos (by omega) (by omega)
      rw[Mc hB]
      (try (simp -implicitDefEqProofs only[go_sem,hk']));repeat' first|(with_reducible first|exact tI|refine aI ?_ ?_|intro _)|((first|with_reducible refine AJ ?_ ?_<;>intro _|(with_reducible refine isCall ?_);first|refine AE c7 ?_)<;>try (simp -implicitDefEqProofs only[go_sem,hk']))|simp (disch:=omega) only[Ad]|((with_reducible first|apply Ag|apply Ae);exact rfl)
      all_goals first|rfl|omega|(simp;done)|skip
end
end Go.Pw
