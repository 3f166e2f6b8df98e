/- A part of the proof. -/
import Derived.Test.YtlmkpaimjpdhiaaDoorCorrectDec
set_option linter.all false
namespace Go.Pw
set_option linter.unusedSimpArgs false
set_option linter.unusedVariables false
theorem Y_ (n i:Nat):Lx (n+1) i=gp (i * n) :: Lx n i:=by
 unfold Lx
 rw [List.range_succ_eq_map,List.map_cons,List.map_map]
 congr 1
 apply List.map_congr_left
 intro j hj
 show Q9 (n+1) i (j+1)=Q9 n i j
 unfold Q9
 rw [show n+1 - 1 - (j+1)=n - 1 - j by omega]
def Kl (i:Nat) (w:List F):F:=EK w (Lx w.length i)
theorem Yu (i:Nat):Kl i []=0:=rfl
theorem NM (i:Nat) (y:F) (ys:List F):Kl i (y :: ys)=fa (fm y (gp (i * ys.length))) (Kl i ys):=by
 show EK (y :: ys) (Lx (ys.length+1) i)=_
 rw [Y_];rfl
theorem dU (i:Nat) (l:List F) (o:Nat) (y:F) (h:o < l.length):Kl i (l.set o y)=fa (Kl i l) (fm (fa (l[o]?.getD 0) y) (gp (i * (l.length - 1 - o)))):=by
 unfold Kl
 rw [List.length_set,Qh y l _ o h (by rw [Jw];omega),NP _ _ _ h];rfl
def CV:List F→Nat→F→List F→List F
 |l,o,b,[]=>l
 |l,o,b,y :: ys=>CV (l.set o (fa (l[o]?.getD 0) (fm b y))) (o+1) b ys
theorem Hp:∀(g l:List F) (o:Nat) (b:F),(CV l o b g).length=l.length
 |[],l,o,b=>rfl
 |y :: ys,l,o,b=>by show (CV _ (o+1) b ys).length=_;rw [Hp ys];simp
theorem OQ (y:F):∀(g l:List F) (o:Nat) (b:F),CV l o b (g++[y])=(CV l o b g).set (o+g.length) (fa ((CV l o b g)[o+g.length]?.getD 0) (fm b y))
 |[],l,o,b=>rfl
 |z :: zs,l,o,b=>by
  show CV _ (o+1) b (zs++[y])=_
  rw [OQ y zs]
  show _=(CV (l.set o (fa (l[o]?.getD 0) (fm b z))) (o+1) b zs).set (o+(zs.length+1)) (fa ((CV (l.set o (fa (l[o]?.getD 0) (fm b z))) (o+1) b zs)[o+(zs.length+1)]?.getD 0) (fm b y))
  rw [show o+1+zs.length=o+(zs.length+1) by omega]
theorem OS (j:Nat):∀(g l:List F) (o:Nat) (b:F),j < o→(CV l o b g)[j]?.getD 0=l[j]?.getD 0
 |[],l,o,b,_=>rfl
 |y :: ys,l,o,b,h=>by
  show (CV _ (o+1) b ys)[j]?.getD 0=_
  rw [OS j ys _ (o+1) b (by omega),List.getElem?_set_ne (by omega)]
theorem Nx (i:Nat):∀(g l:List F) (o:Nat) (b:F),o+g.length≤l.length→Kl i (CV l o b g)=fa (Kl i l) (fm (fm b (Kl i g)) (gp (i * (l.length - o - g.length))))
 |[],l,o,b,h=>by show Kl i l=_;rw [Yu,Cy,B8,CM]
 |y :: ys,l,o,b,h=>by
  simp only [List.length_cons] at h
  show Kl i (CV _ (o+1) b ys)=_
  rw [Nx i ys _ (o+1) b (by rw [List.length_set];omega),dU i l o _ (by omega),NM,List.length_set,List.length_cons]
  rw [←Da (l[o]?.getD 0),E3,Gp,KI,Da]
  congr 1
  have e1:l.length - 1 - o=ys.length+(l.length - o - (ys.length+1)):=by omega
  have e2:l.length - (o+1) - ys.length=l.length - o - (ys.length+1):=by omega
  rw [e1,e2,Nat.mul_add,QS,Cn (fa _ _),KI,Cn (gp (i * (l.length - o - (ys.length+1)))),Cn (gp (i * (l.length - o - (ys.length+1))))]
  simp only [E2]
theorem Nw (i:Nat):∀a:List F,Kl i (a++[0])=fm (Kl i a) (gp i)
 |[]=>by
  show Kl i [0]=_
  rw [NM,B8,Yu,B8,CM]
 |y :: ys=>by
  show Kl i (y :: (ys++[0]))=_
  rw [NM,NM,Nw i ys,List.length_append,List.length_singleton,Nat.mul_add,Nat.mul_one,QS,Cn (fa _ _),KI,Cn (gp i) (Kl i ys),Cn (gp i) (fm y _),E2]
theorem a5 (i:Nat) (a:List F) (h:Kl i a=0):∀n,Kl i (a++List.replicate n 0)=0
 |0=>by simpa using h
 |n+1=>by rw [List.replicate_succ',←List.append_assoc,Nw,a5 i a h n,B8]
def Hf:Nat→List F
 |0=>[1]
 |i+1=>CV (Hf i++[0]) 1 (gp i) (Hf i)
theorem JP:∀i,(Hf i).length=i+1
 |0=>rfl
 |i+1=>by show (CV (Hf i++[0]) 1 (gp i) (Hf i)).length=_;rw [Hp];simp [JP i]
theorem Y5:∀i,(Hf i)[0]?.getD 0=1
 |0=>rfl
 |i+1=>by
  show (CV (Hf i++[0]) 1 (gp i) (Hf i))[0]?.getD 0=1
  rw [OS 0 _ _ 1 _ (by omega),List.getElem?_append_left (by rw [JP];omega),Y5 i]
theorem Yx (r:Nat):∀i,r < i→Kl r (Hf i)=0
 |0,h=>by omega
 |i+1,h=>by
  show Kl r (CV (Hf i++[0]) 1 (gp i) (Hf i))=0
  rw [Nx r _ _ _ _ (by simp;omega),Nw,List.length_append,JP]
  rw [show i+1+([(0:F)]).length - 1 - (i+1)=0 by simp,Nat.mul_zero,QP,H9,Cn (gp i)]
  by_cases hr:r < i
  ·rw [Yx r i hr,B8,B8,CM]
  ·have:r=i:=by omega
   subst this
   rw [E3]
def FY (g d:List F) (P:Nat):Nat→List F
 |0=>d++List.replicate P 0
 |i+1=>CV (FY g d P i) i ((FY g d P i)[i]?.getD 0) g
theorem F4 (g d:List F) (P:Nat):∀i,(FY g d P i).length=d.length+P
 |0=>by simp [FY]
 |i+1=>by show (CV _ _ _ _).length=_;rw [Hp,F4 g d P i]
theorem Uf (g d:List F) (P:Nat) (hg:g[0]?.getD 0=1):∀i,i≤d.length→∀j,j < i→(FY g d P i)[j]?.getD 0=0
 |0,_,j,hj=>by omega
 |i+1,hi,j,hj=>by
  show (CV (FY g d P i) i ((FY g d P i)[i]?.getD 0) g)[j]?.getD 0=0
  cases g with
  |nil=>exact absurd hg (by decide)
  |cons y ys =>
   have hy:y=1:=by simpa using hg
   subst hy
   show (CV ((FY (1 :: ys) d P i).set i _) (i+1) _ ys)[j]?.getD 0=0
   rw [OS j _ _ _ _ (by omega)]
   by_cases h:j=i
   ·subst h
    rw [H9,E3,List.getElem?_set_self (by rw [F4];omega)];rfl
   ·rw [List.getElem?_set_ne (fun e=>h e.symm)]
    exact Uf (1 :: ys) d P rfl i (by omega) j (by omega)
theorem U1 (r:Nat) (g d:List F) (P:Nat) (hg:Kl r g=0) (hl:g.length=P+1):∀i,i≤d.length→Kl r (FY g d P i)=Kl r (d++List.replicate P 0)
 |0,_=>rfl
 |i+1,hi=>by
  show Kl r (CV _ _ _ _)=_
  rw [Nx r _ _ _ _ (by rw [F4];omega),hg,Cy,B8,CM]
  exact U1 r g d P hg hl i (by omega)
def CU (P:Nat) (d:List F):List F:=d++(FY (Hf P) d P d.length).drop d.length
theorem CF (P:Nat) (d:List F):(CU P d).length=d.length+P:=by
 unfold CU;rw [List.length_append,List.length_drop,F4];omega
theorem Y0 (P:Nat) (d:List F) (j:Nat) (h:j < d.length):(CU P d)[j]?.getD 0=d[j]?.getD 0:=by
 unfold CU;rw [List.getElem?_append_left h]
theorem df (L P:Nat) (w:List F) (hw:w.length=L):UQ L P w↔∀i,i < P→Kl i w=0:=by
 subst hw
 constructor
 ·intro h i hi
  have:=h i hi
  rwa [show Dc (Ej w.length P w) i=EK w (Lx w.length i) from FW _ _ _ _ hi] at this
 ·intro h i hi
  rw [show Dc (Ej w.length P w) i=EK w (Lx w.length i) from FW _ _ _ _ hi]
  exact h i hi
theorem JO (P:Nat) (d:List F):UQ (d.length+P) P (CU P d):=by
 rw [df _ _ _ (CF P d)]
 intro i hi
 obtain⟨R,hR⟩:∃R,FY (Hf P) d P d.length=R:=⟨_,rfl⟩
 have hl:R.length=d.length+P:=by rw [←hR];exact F4 _ _ _ _
 have h0:∀j,j < d.length→R[j]?.getD 0=0:=by rw [←hR];exact Uf _ _ _ (Y5 P) _ (Nat.le_refl _)
 have he:Kl i R=Kl i (d++List.replicate P 0):=by rw [←hR];exact U1 i _ _ _ (Yx i P hi) (JP P) _ (Nat.le_refl _)
 have hlen:(d++List.replicate P (0:F)).length=R.length:=by simp [hl]
 have hE:CU P d=C8 (d++List.replicate P 0) R 1:=by
  apply Kk
  ·rw [CF,Gd _ _ _ hlen];simp
  ·intro j hj
   rw [CF] at hj
   show (CU P d)[j]?.getD 0=(C8 (d++List.replicate P 0) R 1)[j]?.getD 0
   rw [show (C8 (d++List.replicate P 0) R 1)[j]?.getD 0=fa ((d++List.replicate P (0:F))[j]?.getD 0) (fm (R[j]?.getD 0) 1) from JV _ _ _ _ hlen]
   unfold CU
   rw [hR,H9]
   by_cases h:j < d.length
   ·rw [List.getElem?_append_left h,List.getElem?_append_left h,h0 j h,CM]
   ·rw [List.getElem?_append_right (by omega),List.getElem?_append_right (by omega),List.getElem?_drop,List.getElem?_replicate,if_pos (by omega),show d.length+(j - d.length)=j by omega]
    exact(Gp _).symm
 rw [hE]
 unfold Kl
 have h2:(C8 (d++List.replicate P 0) R 1).length=(d++List.replicate P (0:F)).length:=by rw [Gd _ _ _ hlen]
 rw [h2,LX _ _ _ _ hlen]
 have h3:Kl i (d++List.replicate P (0:F))=EK (d++List.replicate P (0:F)) (Lx (d++List.replicate P (0:F)).length i):=rfl
 have h4:Kl i R=EK R (Lx (d++List.replicate P (0:F)).length i):=by unfold Kl;rw [hlen]
 rw [←h3,←h4,he,QF,E3]
end Go.Pw
