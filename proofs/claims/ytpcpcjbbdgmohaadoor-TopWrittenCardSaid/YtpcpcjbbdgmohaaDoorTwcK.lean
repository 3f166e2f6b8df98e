/- A part of the proof. -/
import Derived.Test.YtpcpcjbbdgmohaaDoorTwcJ
set_option linter.all false
open Go Go.Pw Go.Proofs
namespace Go.Pw
set_option maxRecDepth 100000
set_option maxHeartbeats 800000
attribute [local congr] Bx A9 A_ Au Bz A0 A2 A1 Ar An Ai Ab Av Aj Ax BG BK BI BJ BH BL BD Ay Aw Al Az Am BB BT Ak BE BF BC A' BA B1
attribute [local irreducible] IntKind.wrap BM Option.getD and or
def ez (s:Int):Int:=(2*s+(s/64%2+s/32%2)%2)%128
def Xh:Int->List Int->List Int
 |_,[]=>[]
 |s,x::l=>((x+s/64%2)%2)::Xh (ez s) l
def aJ (s:Int) (l:List Int):Bool:=Dp s 1 127 && decide (l.length<=128) && BR l
def gF (s:Int) (l:List Int):List Int×Int:=if aJ s l then (Xh s l,0) else ([],1)
theorem G2 (nl:Bool) (xs:List Int):DE E0 Ix [.list nl (A4 xs)] (.bool (BR xs)):=by
 refine AP Lm A5 (by simp) fun hwf=>?_
 simp only[Dt,DM,DL,DC,EK,EJ,Fk,EI,Be,Br,Bs,DD,CC,List.length_map,CK,true_and,and_true] at hwf
 rw[AU];unfold HZ
 simp -implicitDefEqProofs only[go_sem]
 refine AX (α:=Int) (l0:=?l1) (m0:=?m1) (fun x=>[(3,.d (.int .i64 x))]) (fun x=>[]) (fun x=>0<=x/\x<=xs.length/\BR (xs.drop x.toNat)=BR xs) (fun x=>(xs.length-x).toNat) ?a1_0 ?h01 ?he1 ?he21 ?hI1 ?step1
 case h01=>(simp -implicitDefEqProofs only[go_sem];rfl)
 case he1=>rfl
 case he21=>rfl
 case' step1=>(rintro i hI;try dsimp only at hI)
 case' hI1=>try dsimp only
 ·simp
 ·by_cases hi:i<xs.length
  ·have hd:BR (xs.drop i.toNat)=(Dp (xs[i.toNat]?.getD 0) 0 1 && BR (xs.drop (i+1).toNat)):=by
    rw[ZH (xs:=xs) (i:=i.toNat) (by omega),show (i+1).toNat=i.toNat+1 by omega];rfl
   (try (simp -implicitDefEqProofs only[go_sem]));repeat' first|(with_reducible first|exact tI|refine aI ?_ ?_|intro _)|((first|with_reducible refine AN ?_ ?_<;>intro _|(with_reducible refine isCall ?_);first|refine AG (C5 _ _ _) ?_)<;>try (simp -implicitDefEqProofs only[go_sem]))|simp (disch:=omega) only[Ap]|((with_reducible refine Ae ?_);refine⟨_,rfl,?_,?_⟩)
   all_goals (first|omega|skip)
   all_goals simp_all
  ·(try (simp -implicitDefEqProofs only[go_sem]));repeat' first|(with_reducible first|exact tI|refine aI ?_ ?_|intro _)|((first|with_reducible refine AN ?_ ?_<;>intro _)<;>try (simp -implicitDefEqProofs only[go_sem]))|simp (disch:=omega) only[Ap]|((with_reducible refine Ae ?_);refine⟨_,rfl,?_,?_⟩)
   all_goals first|omega|(simp<;>omega)|skip
   have h0:xs.drop i.toNat=[]:=List.drop_eq_nil_of_le (by omega)
   rw[h0] at hI
   rw[←hI.2.2];rfl
end Go.Pw
