/- A part of the proof. -/
import Derived.Test.YtlmkpaimjpdhiaaDoorCorrectDec
set_option linter.all false
namespace Go.Pw
set_option linter.unusedSimpArgs false
set_option linter.unusedVariables false
theorem ZC (n i:Nat):L1 (n+1) i=gp (i * n) :: L1 n i:=by
 unfold L1
 rw [List.range_succ_eq_map,List.map_cons,List.map_map]
 congr 1
 apply List.map_congr_left
 intro j hj
 show RC (n+1) i (j+1)=RC n i j
 unfold RC
 rw [show n+1 - 1 - (j+1)=n - 1 - j by omega]
def Ko (i:Nat) (w:List F):F:=EK w (L1 w.length i)
theorem Yy (i:Nat):Ko i []=0:=rfl
theorem NR (i:Nat) (y:F) (ys:List F):Ko i (y :: ys)=fa (fm y (gp (i * ys.length))) (Ko i ys):=by
 show EK (y :: ys) (L1 (ys.length+1) i)=_
 rw [ZC];rfl
theorem dY (i:Nat) (l:List F) (o:Nat) (y:F) (h:o < l.length):Ko i (l.set o y)=fa (Ko i l) (fm (fa (l[o]?.getD 0) y) (gp (i * (l.length - 1 - o)))):=by
 unfold Ko
 rw [List.length_set,Qm y l _ o h (by rw [Jx];omega),NU _ _ _ h];rfl
def CV:List F→Nat→F→List F→List F
 |l,o,b,[]=>l
 |l,o,b,y :: ys=>CV (l.set o (fa (l[o]?.getD 0) (fm b y))) (o+1) b ys
theorem Ho:∀(g l:List F) (o:Nat) (b:F),(CV l o b g).length=l.length
 |[],l,o,b=>rfl
 |y :: ys,l,o,b=>by show (CV _ (o+1) b ys).length=_;rw [Ho ys];simp
theorem OX (y:F):∀(g l:List F) (o:Nat) (b:F),CV l o b (g++[y])=(CV l o b g).set (o+g.length) (fa ((CV l o b g)[o+g.length]?.getD 0) (fm b y))
 |[],l,o,b=>rfl
 |z :: zs,l,o,b=>by
  show CV _ (o+1) b (zs++[y])=_
  rw [OX y zs]
  show _=(CV (l.set o (fa (l[o]?.getD 0) (fm b z))) (o+1) b zs).set (o+(zs.length+1)) (fa ((CV (l.set o (fa (l[o]?.getD 0) (fm b z))) (o+1) b zs)[o+(zs.length+1)]?.getD 0) (fm b y))
  rw [show o+1+zs.length=o+(zs.length+1) by omega]
theorem OY (j:Nat):∀(g l:List F) (o:Nat) (b:F),j < o→(CV l o b g)[j]?.getD 0=l[j]?.getD 0
 |[],l,o,b,_=>rfl
 |y :: ys,l,o,b,h=>by
  show (CV _ (o+1) b ys)[j]?.getD 0=_
  rw [OY j ys _ (o+1) b (by omega),List.getElem?_set_ne (by omega)]
theorem N2 (i:Nat):∀(g l:List F) (o:Nat) (b:F),o+g.length≤l.length→Ko i (CV l o b g)=fa (Ko i l) (fm (fm b (Ko i g)) (gp (i * (l.length - o - g.length))))
 |[],l,o,b,h=>by show Ko i l=_;rw [Yy,Cz,B8,CM]
 |y :: ys,l,o,b,h=>by
  simp only [List.length_cons] at h
  show Ko i (CV _ (o+1) b ys)=_
  rw [N2 i ys _ (o+1) b (by rw [List.length_set];omega),dY i l o _ (by omega),NR,List.length_set,List.length_cons]
  rw [←Db (l[o]?.getD 0),E2,Gp,KK,Db]
  congr 1
  have e1:l.length - 1 - o=ys.length+(l.length - o - (ys.length+1)):=by omega
  have e2:l.length - (o+1) - ys.length=l.length - o - (ys.length+1):=by omega
  rw [e1,e2,Nat.mul_add,QX,Cn (fa _ _),KK,Cn (gp (i * (l.length - o - (ys.length+1)))),Cn (gp (i * (l.length - o - (ys.length+1))))]
  simp only [E1]
theorem N1 (i:Nat):∀a:List F,Ko i (a++[0])=fm (Ko i a) (gp i)
 |[]=>by
  show Ko i [0]=_
  rw [NR,B8,Yy,B8,CM]
 |y :: ys=>by
  show Ko i (y :: (ys++[0]))=_
  rw [NR,NR,N1 i ys,List.length_append,List.length_singleton,Nat.mul_add,Nat.mul_one,QX,Cn (fa _ _),KK,Cn (gp i) (Ko i ys),Cn (gp i) (fm y _),E1]
theorem a9 (i:Nat) (a:List F) (h:Ko i a=0):∀n,Ko i (a++List.replicate n 0)=0
 |0=>by simpa using h
 |n+1=>by rw [List.replicate_succ',←List.append_assoc,N1,a9 i a h n,B8]
def Hf:Nat→List F
 |0=>[1]
 |i+1=>CV (Hf i++[0]) 1 (gp i) (Hf i)
theorem JR:∀i,(Hf i).length=i+1
 |0=>rfl
 |i+1=>by show (CV (Hf i++[0]) 1 (gp i) (Hf i)).length=_;rw [Ho];simp [JR i]
theorem Y9:∀i,(Hf i)[0]?.getD 0=1
 |0=>rfl
 |i+1=>by
  show (CV (Hf i++[0]) 1 (gp i) (Hf i))[0]?.getD 0=1
  rw [OY 0 _ _ 1 _ (by omega),List.getElem?_append_left (by rw [JR];omega),Y9 i]
theorem Y3 (r:Nat):∀i,r < i→Ko r (Hf i)=0
 |0,h=>by omega
 |i+1,h=>by
  show Ko r (CV (Hf i++[0]) 1 (gp i) (Hf i))=0
  rw [N2 r _ _ _ _ (by simp;omega),N1,List.length_append,JR]
  rw [show i+1+([(0:F)]).length - 1 - (i+1)=0 by simp,Nat.mul_zero,QU,H8,Cn (gp i)]
  by_cases hr:r < i
  ·rw [Y3 r i hr,B8,B8,CM]
  ·have:r=i:=by omega
   subst this
   rw [E2]
def FX (g d:List F) (P:Nat):Nat→List F
 |0=>d++List.replicate P 0
 |i+1=>CV (FX g d P i) i ((FX g d P i)[i]?.getD 0) g
theorem F4 (g d:List F) (P:Nat):∀i,(FX g d P i).length=d.length+P
 |0=>by simp [FX]
 |i+1=>by show (CV _ _ _ _).length=_;rw [Ho,F4 g d P i]
theorem Uj (g d:List F) (P:Nat) (hg:g[0]?.getD 0=1):∀i,i≤d.length→∀j,j < i→(FX g d P i)[j]?.getD 0=0
 |0,_,j,hj=>by omega
 |i+1,hi,j,hj=>by
  show (CV (FX g d P i) i ((FX g d P i)[i]?.getD 0) g)[j]?.getD 0=0
  cases g with
  |nil=>exact absurd hg (by decide)
  |cons y ys =>
   have hy:y=1:=by simpa using hg
   subst hy
   show (CV ((FX (1 :: ys) d P i).set i _) (i+1) _ ys)[j]?.getD 0=0
   rw [OY j _ _ _ _ (by omega)]
   by_cases h:j=i
   ·subst h
    rw [H8,E2,List.getElem?_set_self (by rw [F4];omega)];rfl
   ·rw [List.getElem?_set_ne (fun e=>h e.symm)]
    exact Uj (1 :: ys) d P rfl i (by omega) j (by omega)
theorem U5 (r:Nat) (g d:List F) (P:Nat) (hg:Ko r g=0) (hl:g.length=P+1):∀i,i≤d.length→Ko r (FX g d P i)=Ko r (d++List.replicate P 0)
 |0,_=>rfl
 |i+1,hi=>by
  show Ko r (CV _ _ _ _)=_
  rw [N2 r _ _ _ _ (by rw [F4];omega),hg,Cz,B8,CM]
  exact U5 r g d P hg hl i (by omega)
def CU (P:Nat) (d:List F):List F:=d++(FX (Hf P) d P d.length).drop d.length
theorem CF (P:Nat) (d:List F):(CU P d).length=d.length+P:=by
 unfold CU;rw [List.length_append,List.length_drop,F4];omega
theorem Y6 (P:Nat) (d:List F) (j:Nat) (h:j < d.length):(CU P d)[j]?.getD 0=d[j]?.getD 0:=by
 unfold CU;rw [List.getElem?_append_left h]
theorem dk (L P:Nat) (w:List F) (hw:w.length=L):UU L P w↔∀i,i < P→Ko i w=0:=by
 subst hw
 constructor
 ·intro h i hi
  have:=h i hi
  rwa [show Dd (Ej w.length P w) i=EK w (L1 w.length i) from FV _ _ _ _ hi] at this
 ·intro h i hi
  rw [show Dd (Ej w.length P w) i=EK w (L1 w.length i) from FV _ _ _ _ hi]
  exact h i hi
theorem JQ (P:Nat) (d:List F):UU (d.length+P) P (CU P d):=by
 rw [dk _ _ _ (CF P d)]
 intro i hi
 obtain⟨R,hR⟩:∃R,FX (Hf P) d P d.length=R:=⟨_,rfl⟩
 have hl:R.length=d.length+P:=by rw [←hR];exact F4 _ _ _ _
 have h0:∀j,j < d.length→R[j]?.getD 0=0:=by rw [←hR];exact Uj _ _ _ (Y9 P) _ (Nat.le_refl _)
 have he:Ko i R=Ko i (d++List.replicate P 0):=by rw [←hR];exact U5 i _ _ _ (Y3 i P hi) (JR P) _ (Nat.le_refl _)
 have hlen:(d++List.replicate P (0:F)).length=R.length:=by simp [hl]
 have hE:CU P d=C8 (d++List.replicate P 0) R 1:=by
  apply Kn
  ·rw [CF,Gd _ _ _ hlen];simp
  ·intro j hj
   rw [CF] at hj
   show (CU P d)[j]?.getD 0=(C8 (d++List.replicate P 0) R 1)[j]?.getD 0
   rw [show (C8 (d++List.replicate P 0) R 1)[j]?.getD 0=fa ((d++List.replicate P (0:F))[j]?.getD 0) (fm (R[j]?.getD 0) 1) from JX _ _ _ _ hlen]
   unfold CU
   rw [hR,H8]
   by_cases h:j < d.length
   ·rw [List.getElem?_append_left h,List.getElem?_append_left h,h0 j h,CM]
   ·rw [List.getElem?_append_right (by omega),List.getElem?_append_right (by omega),List.getElem?_drop,List.getElem?_replicate,if_pos (by omega),show d.length+(j - d.length)=j by omega]
    exact(Gp _).symm
 rw [hE]
 unfold Ko
 have h2:(C8 (d++List.replicate P 0) R 1).length=(d++List.replicate P (0:F)).length:=by rw [Gd _ _ _ hlen]
 rw [h2,La _ _ _ _ hlen]
 have h3:Ko i (d++List.replicate P (0:F))=EK (d++List.replicate P (0:F)) (L1 (d++List.replicate P (0:F)).length i):=rfl
 have h4:Ko i R=EK R (L1 (d++List.replicate P (0:F)).length i):=by unfold Ko;rw [hlen]
 rw [←h3,←h4,he,QK,E2]
end Go.Pw
