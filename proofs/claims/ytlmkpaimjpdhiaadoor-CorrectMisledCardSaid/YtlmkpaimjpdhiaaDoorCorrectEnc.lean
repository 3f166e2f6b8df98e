/- A part of the proof. -/
import Derived.Test.YtlmkpaimjpdhiaaDoorCorrectDec
set_option linter.all false
namespace Go.Pw
set_option linter.unusedSimpArgs false
set_option linter.unusedVariables false
theorem Yy (n i:Nat):Ln (n+1) i=gp (i * n) :: Ln n i:=by
 unfold Ln
 rw [List.range_succ_eq_map,List.map_cons,List.map_map]
 congr 1
 apply List.map_congr_left
 intro j hj
 show Qy (n+1) i (j+1)=Qy n i j
 unfold Qy
 rw [show n+1 - 1 - (j+1)=n - 1 - j by omega]
def Ka (i:Nat) (w:List F):F:=EI w (Ln w.length i)
theorem Yk (i:Nat):Ka i []=0:=rfl
theorem NB (i:Nat) (y:F) (ys:List F):Ka i (y :: ys)=fa (fm y (gp (i * ys.length))) (Ka i ys):=by
 show EI (y :: ys) (Ln (ys.length+1) i)=_
 rw [Yy];rfl
theorem dJ (i:Nat) (l:List F) (o:Nat) (y:F) (h:o < l.length):Ka i (l.set o y)=fa (Ka i l) (fm (fa (l[o]?.getD 0) y) (gp (i * (l.length - 1 - o)))):=by
 unfold Ka
 rw [List.length_set,QX y l _ o h (by rw [Jm];omega),NE _ _ _ h];rfl
def CT:List F→Nat→F→List F→List F
 |l,o,b,[]=>l
 |l,o,b,y :: ys=>CT (l.set o (fa (l[o]?.getD 0) (fm b y))) (o+1) b ys
theorem Hh:∀(g l:List F) (o:Nat) (b:F),(CT l o b g).length=l.length
 |[],l,o,b=>rfl
 |y :: ys,l,o,b=>by show (CT _ (o+1) b ys).length=_;rw [Hh ys];simp
theorem OE (y:F):∀(g l:List F) (o:Nat) (b:F),CT l o b (g++[y])=(CT l o b g).set (o+g.length) (fa ((CT l o b g)[o+g.length]?.getD 0) (fm b y))
 |[],l,o,b=>rfl
 |z :: zs,l,o,b=>by
  show CT _ (o+1) b (zs++[y])=_
  rw [OE y zs]
  show _=(CT (l.set o (fa (l[o]?.getD 0) (fm b z))) (o+1) b zs).set (o+(zs.length+1)) (fa ((CT (l.set o (fa (l[o]?.getD 0) (fm b z))) (o+1) b zs)[o+(zs.length+1)]?.getD 0) (fm b y))
  rw [show o+1+zs.length=o+(zs.length+1) by omega]
theorem OG (j:Nat):∀(g l:List F) (o:Nat) (b:F),j < o→(CT l o b g)[j]?.getD 0=l[j]?.getD 0
 |[],l,o,b,_=>rfl
 |y :: ys,l,o,b,h=>by
  show (CT _ (o+1) b ys)[j]?.getD 0=_
  rw [OG j ys _ (o+1) b (by omega),List.getElem?_set_ne (by omega)]
theorem Nm (i:Nat):∀(g l:List F) (o:Nat) (b:F),o+g.length≤l.length→Ka i (CT l o b g)=fa (Ka i l) (fm (fm b (Ka i g)) (gp (i * (l.length - o - g.length))))
 |[],l,o,b,h=>by show Ka i l=_;rw [Yk,Cw,B6,CK]
 |y :: ys,l,o,b,h=>by
  simp only [List.length_cons] at h
  show Ka i (CT _ (o+1) b ys)=_
  rw [Nm i ys _ (o+1) b (by rw [List.length_set];omega),dJ i l o _ (by omega),NB,List.length_set,List.length_cons]
  rw [←DX (l[o]?.getD 0),E1,Gh,J_,DX]
  congr 1
  have e1:l.length - 1 - o=ys.length+(l.length - o - (ys.length+1)):=by omega
  have e2:l.length - (o+1) - ys.length=l.length - o - (ys.length+1):=by omega
  rw [e1,e2,Nat.mul_add,QI,Cl (fa _ _),J_,Cl (gp (i * (l.length - o - (ys.length+1)))),Cl (gp (i * (l.length - o - (ys.length+1))))]
  simp only [Ez]
theorem Nl (i:Nat):∀a:List F,Ka i (a++[0])=fm (Ka i a) (gp i)
 |[]=>by
  show Ka i [0]=_
  rw [NB,B6,Yk,B6,CK]
 |y :: ys=>by
  show Ka i (y :: (ys++[0]))=_
  rw [NB,NB,Nl i ys,List.length_append,List.length_singleton,Nat.mul_add,Nat.mul_one,QI,Cl (fa _ _),J_,Cl (gp i) (Ka i ys),Cl (gp i) (fm y _),Ez]
theorem ak (i:Nat) (a:List F) (h:Ka i a=0):∀n,Ka i (a++List.replicate n 0)=0
 |0=>by simpa using h
 |n+1=>by rw [List.replicate_succ',←List.append_assoc,Nl,ak i a h n,B6]
def HX:Nat→List F
 |0=>[1]
 |i+1=>CT (HX i++[0]) 1 (gp i) (HX i)
theorem JF:∀i,(HX i).length=i+1
 |0=>rfl
 |i+1=>by show (CT (HX i++[0]) 1 (gp i) (HX i)).length=_;rw [Hh];simp [JF i]
theorem Yt:∀i,(HX i)[0]?.getD 0=1
 |0=>rfl
 |i+1=>by
  show (CT (HX i++[0]) 1 (gp i) (HX i))[0]?.getD 0=1
  rw [OG 0 _ _ 1 _ (by omega),List.getElem?_append_left (by rw [JF];omega),Yt i]
theorem Yn (r:Nat):∀i,r < i→Ka r (HX i)=0
 |0,h=>by omega
 |i+1,h=>by
  show Ka r (CT (HX i++[0]) 1 (gp i) (HX i))=0
  rw [Nm r _ _ _ _ (by simp;omega),Nl,List.length_append,JF]
  rw [show i+1+([(0:F)]).length - 1 - (i+1)=0 by simp,Nat.mul_zero,QF,H2,Cl (gp i)]
  by_cases hr:r < i
  ·rw [Yn r i hr,B6,B6,CK]
  ·have:r=i:=by omega
   subst this
   rw [E1]
def FU (g d:List F) (P:Nat):Nat→List F
 |0=>d++List.replicate P 0
 |i+1=>CT (FU g d P i) i ((FU g d P i)[i]?.getD 0) g
theorem Fy (g d:List F) (P:Nat):∀i,(FU g d P i).length=d.length+P
 |0=>by simp [FU]
 |i+1=>by show (CT _ _ _ _).length=_;rw [Hh,Fy g d P i]
theorem UV (g d:List F) (P:Nat) (hg:g[0]?.getD 0=1):∀i,i≤d.length→∀j,j < i→(FU g d P i)[j]?.getD 0=0
 |0,_,j,hj=>by omega
 |i+1,hi,j,hj=>by
  show (CT (FU g d P i) i ((FU g d P i)[i]?.getD 0) g)[j]?.getD 0=0
  cases g with
  |nil=>exact absurd hg (by decide)
  |cons y ys =>
   have hy:y=1:=by simpa using hg
   subst hy
   show (CT ((FU (1 :: ys) d P i).set i _) (i+1) _ ys)[j]?.getD 0=0
   rw [OG j _ _ _ _ (by omega)]
   by_cases h:j=i
   ·subst h
    rw [H2,E1,List.getElem?_set_self (by rw [Fy];omega)];rfl
   ·rw [List.getElem?_set_ne (fun e=>h e.symm)]
    exact UV (1 :: ys) d P rfl i (by omega) j (by omega)
theorem Ur (r:Nat) (g d:List F) (P:Nat) (hg:Ka r g=0) (hl:g.length=P+1):∀i,i≤d.length→Ka r (FU g d P i)=Ka r (d++List.replicate P 0)
 |0,_=>rfl
 |i+1,hi=>by
  show Ka r (CT _ _ _ _)=_
  rw [Nm r _ _ _ _ (by rw [Fy];omega),hg,Cw,B6,CK]
  exact Ur r g d P hg hl i (by omega)
def CS (P:Nat) (d:List F):List F:=d++(FU (HX P) d P d.length).drop d.length
theorem CD (P:Nat) (d:List F):(CS P d).length=d.length+P:=by
 unfold CS;rw [List.length_append,List.length_drop,Fy];omega
theorem Yq (P:Nat) (d:List F) (j:Nat) (h:j < d.length):(CS P d)[j]?.getD 0=d[j]?.getD 0:=by
 unfold CS;rw [List.getElem?_append_left h]
theorem dU (L P:Nat) (w:List F) (hw:w.length=L):UG L P w↔∀i,i < P→Ka i w=0:=by
 subst hw
 constructor
 ·intro h i hi
  have:=h i hi
  rwa [show DZ (Eh w.length P w) i=EI w (Ln w.length i) from FS _ _ _ _ hi] at this
 ·intro h i hi
  rw [show DZ (Eh w.length P w) i=EI w (Ln w.length i) from FS _ _ _ _ hi]
  exact h i hi
theorem JE (P:Nat) (d:List F):UG (d.length+P) P (CS P d):=by
 rw [dU _ _ _ (CD P d)]
 intro i hi
 obtain⟨R,hR⟩:∃R,FU (HX P) d P d.length=R:=⟨_,rfl⟩
 have hl:R.length=d.length+P:=by rw [←hR];exact Fy _ _ _ _
 have h0:∀j,j < d.length→R[j]?.getD 0=0:=by rw [←hR];exact UV _ _ _ (Yt P) _ (Nat.le_refl _)
 have he:Ka i R=Ka i (d++List.replicate P 0):=by rw [←hR];exact Ur i _ _ _ (Yn i P hi) (JF P) _ (Nat.le_refl _)
 have hlen:(d++List.replicate P (0:F)).length=R.length:=by simp [hl]
 have hE:CS P d=C5 (d++List.replicate P 0) R 1:=by
  apply KZ
  ·rw [CD,GX _ _ _ hlen];simp
  ·intro j hj
   rw [CD] at hj
   show (CS P d)[j]?.getD 0=(C5 (d++List.replicate P 0) R 1)[j]?.getD 0
   rw [show (C5 (d++List.replicate P 0) R 1)[j]?.getD 0=fa ((d++List.replicate P (0:F))[j]?.getD 0) (fm (R[j]?.getD 0) 1) from JL _ _ _ _ hlen]
   unfold CS
   rw [hR,H2]
   by_cases h:j < d.length
   ·rw [List.getElem?_append_left h,List.getElem?_append_left h,h0 j h,CK]
   ·rw [List.getElem?_append_right (by omega),List.getElem?_append_right (by omega),List.getElem?_drop,List.getElem?_replicate,if_pos (by omega),show d.length+(j - d.length)=j by omega]
    exact(Gh _).symm
 rw [hE]
 unfold Ka
 have h2:(C5 (d++List.replicate P 0) R 1).length=(d++List.replicate P (0:F)).length:=by rw [GX _ _ _ hlen]
 rw [h2,LN _ _ _ _ hlen]
 have h3:Ka i (d++List.replicate P (0:F))=EI (d++List.replicate P (0:F)) (Ln (d++List.replicate P (0:F)).length i):=rfl
 have h4:Ka i R=EI R (Ln (d++List.replicate P (0:F)).length i):=by unfold Ka;rw [hlen]
 rw [←h3,←h4,he,P7,E1]
end Go.Pw
