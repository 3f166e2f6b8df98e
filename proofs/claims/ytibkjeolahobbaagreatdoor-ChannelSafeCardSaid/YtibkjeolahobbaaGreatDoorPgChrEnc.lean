/- A part of the proof. -/
import Derived.Test.YtibkjeolahobbaaGreatDoorPgChrK
import Derived.Test.YtibkjeolahobbaaGreatDoorPgChrA
set_option linter.all false
section
namespace Go.Pw
set_option linter.unusedSimpArgs false
set_option linter.unusedVariables false
theorem dl (n i:Nat):Q6 (n+1) i=gp (i * n) :: Q6 n i:=by
 unfold Q6
 rw [List.range_succ_eq_map,List.map_cons,List.map_map]
 congr 1
 apply List.map_congr_left
 intro j hj
 show Wq (n+1) i (j+1)=Wq n i j
 unfold Wq
 rw [show n+1 - 1 - (j+1)=n - 1 - j by omega]
def L0 (i:Nat) (w:List F):F:=FG w (Q6 w.length i)
theorem dT (i:Nat):L0 i []=0:=rfl
theorem PB (i:Nat) (y:F) (ys:List F):L0 i (y :: ys)=fa (fm y (gp (i * ys.length))) (L0 i ys):=by
 show FG (y :: ys) (Q6 (ys.length+1) i)=_
 rw [dl];rfl
theorem kd (i:Nat) (l:List F) (o:Nat) (y:F) (h:o < l.length):L0 i (l.set o y)=fa (L0 i l) (fm (fa (l[o]?.getD 0) y) (gp (i * (l.length - 1 - o)))):=by
 unfold L0
 rw [List.length_set,S2 y l _ o h (by rw [PF];omega),S9 _ _ _ h];rfl
def Cu:List F→Nat→F→List F→List F
 |l,o,b,[]=>l
 |l,o,b,y :: ys=>Cu (l.set o (fa (l[o]?.getD 0) (fm b y))) (o+1) b ys
theorem Ih:∀(g l:List F) (o:Nat) (b:F),(Cu l o b g).length=l.length
 |[],l,o,b=>rfl
 |y :: ys,l,o,b=>by show (Cu _ (o+1) b ys).length=_;rw [Ih ys];simp
theorem Qf (y:F):∀(g l:List F) (o:Nat) (b:F),Cu l o b (g++[y])=(Cu l o b g).set (o+g.length) (fa ((Cu l o b g)[o+g.length]?.getD 0) (fm b y))
 |[],l,o,b=>rfl
 |z :: zs,l,o,b=>by
  show Cu _ (o+1) b (zs++[y])=_
  rw [Qf y zs]
  show _=(Cu (l.set o (fa (l[o]?.getD 0) (fm b z))) (o+1) b zs).set (o+(zs.length+1)) (fa ((Cu (l.set o (fa (l[o]?.getD 0) (fm b z))) (o+1) b zs)[o+(zs.length+1)]?.getD 0) (fm b y))
  rw [show o+1+zs.length=o+(zs.length+1) by omega]
theorem Qg (j:Nat):∀(g l:List F) (o:Nat) (b:F),j < o→(Cu l o b g)[j]?.getD 0=l[j]?.getD 0
 |[],l,o,b,_=>rfl
 |y :: ys,l,o,b,h=>by
  show (Cu _ (o+1) b ys)[j]?.getD 0=_
  rw [Qg j ys _ (o+1) b (by omega),List.getElem?_set_ne (by omega)]
theorem P6 (i:Nat):∀(g l:List F) (o:Nat) (b:F),o+g.length≤l.length→L0 i (Cu l o b g)=fa (L0 i l) (fm (fm b (L0 i g)) (gp (i * (l.length - o - g.length))))
 |[],l,o,b,h=>by show L0 i l=_;rw [dT,DZ,CS,Cz]
 |y :: ys,l,o,b,h=>by
  simp only [List.length_cons] at h
  show L0 i (Cu _ (o+1) b ys)=_
  rw [P6 i ys _ (o+1) b (by rw [List.length_set];omega),kd i l o _ (by omega),PB,List.length_set,List.length_cons]
  rw [←Dt (l[o]?.getD 0),FR,Iu,Lc,Dt]
  congr 1
  have e1:l.length - 1 - o=ys.length+(l.length - o - (ys.length+1)):=by omega
  have e2:l.length - (o+1) - ys.length=l.length - o - (ys.length+1):=by omega
  rw [e1,e2,Nat.mul_add,Wa,Da (fa _ _),Lc,Da (gp (i * (l.length - o - (ys.length+1)))),Da (gp (i * (l.length - o - (ys.length+1))))]
  simp only [FQ]
theorem P4 (i:Nat):∀a:List F,L0 i (a++[0])=fm (L0 i a) (gp i)
 |[]=>by
  show L0 i [0]=_
  rw [PB,CS,dT,CS,Cz]
 |y :: ys=>by
  show L0 i (y :: (ys++[0]))=_
  rw [PB,PB,P4 i ys,List.length_append,List.length_singleton,Nat.mul_add,Nat.mul_one,Wa,Da (fa _ _),Lc,Da (gp i) (L0 i ys),Da (gp i) (fm y _),FQ]
theorem g0 (i:Nat) (a:List F) (h:L0 i a=0):∀n,L0 i (a++List.replicate n 0)=0
 |0=>by simpa using h
 |n+1=>by rw [List.replicate_succ',←List.append_assoc,P4,g0 i a h n,CS]
def IW:Nat→List F
 |0=>[1]
 |i+1=>Cu (IW i++[0]) 1 (gp i) (IW i)
theorem Ke:∀i,(IW i).length=i+1
 |0=>rfl
 |i+1=>by show (Cu (IW i++[0]) 1 (gp i) (IW i)).length=_;rw [Ih];simp [Ke i]
theorem dg:∀i,(IW i)[0]?.getD 0=1
 |0=>rfl
 |i+1=>by
  show (Cu (IW i++[0]) 1 (gp i) (IW i))[0]?.getD 0=1
  rw [Qg 0 _ _ 1 _ (by omega),List.getElem?_append_left (by rw [Ke];omega),dg i]
theorem dW (r:Nat):∀i,r < i→L0 r (IW i)=0
 |0,h=>by omega
 |i+1,h=>by
  show L0 r (Cu (IW i++[0]) 1 (gp i) (IW i))=0
  rw [P6 r _ _ _ _ (by simp;omega),P4,List.length_append,Ke]
  rw [show i+1+([(0:F)]).length - 1 - (i+1)=0 by simp,Nat.mul_zero,Xr,I_,Da (gp i)]
  by_cases hr:r < i
  ·rw [dW r i hr,CS,CS,Cz]
  ·have:r=i:=by omega
   subst this
   rw [FR]
def F6 (g d:List F) (P:Nat):Nat→List F
 |0=>d++List.replicate P 0
 |i+1=>Cu (F6 g d P i) i ((F6 g d P i)[i]?.getD 0) g
theorem Gl (g d:List F) (P:Nat):∀i,(F6 g d P i).length=d.length+P
 |0=>by simp [F6]
 |i+1=>by show (Cu _ _ _ _).length=_;rw [Ih,Gl g d P i]
theorem Xd (g d:List F) (P:Nat) (hg:g[0]?.getD 0=1):∀i,i≤d.length→∀j,j < i→(F6 g d P i)[j]?.getD 0=0
 |0,_,j,hj=>by omega
 |i+1,hi,j,hj=>by
  show (Cu (F6 g d P i) i ((F6 g d P i)[i]?.getD 0) g)[j]?.getD 0=0
  cases g with
  |nil=>exact absurd hg (by decide)
  |cons y ys =>
   have hy:y=1:=by simpa using hg
   subst hy
   show (Cu ((F6 (1 :: ys) d P i).set i _) (i+1) _ ys)[j]?.getD 0=0
   rw [Qg j _ _ _ _ (by omega)]
   by_cases h:j=i
   ·subst h
    rw [I_,FR,List.getElem?_set_self (by rw [Gl];omega)];rfl
   ·rw [List.getElem?_set_ne (fun e=>h e.symm)]
    exact Xd (1 :: ys) d P rfl i (by omega) j (by omega)
theorem Xv (r:Nat) (g d:List F) (P:Nat) (hg:L0 r g=0) (hl:g.length=P+1):∀i,i≤d.length→L0 r (F6 g d P i)=L0 r (d++List.replicate P 0)
 |0,_=>rfl
 |i+1,hi=>by
  show L0 r (Cu _ _ _ _)=_
  rw [P6 r _ _ _ _ (by rw [Gl];omega),hg,DZ,CS,Cz]
  exact Xv r g d P hg hl i (by omega)
def GD (P:Nat) (d:List F):List F:=d++(F6 (IW P) d P d.length).drop d.length
theorem G3 (P:Nat) (d:List F):(GD P d).length=d.length+P:=by
 unfold GD;rw [List.length_append,List.length_drop,Gl];omega
theorem kn (L P:Nat) (w:List F) (hw:w.length=L):eP L P w↔∀i,i < P→L0 i w=0:=by
 subst hw
 constructor
 ·intro h i hi
  have:=h i hi
  rwa [show EJ (Js w.length P w) i=FG w (Q6 w.length i) from J3 _ _ _ _ hi] at this
 ·intro h i hi
  rw [show EJ (Js w.length P w) i=FG w (Q6 w.length i) from J3 _ _ _ _ hi]
  exact h i hi
theorem U1 (P:Nat) (d:List F):eP (d.length+P) P (GD P d):=by
 rw [kn _ _ _ (G3 P d)]
 intro i hi
 obtain⟨R,hR⟩:∃R,F6 (IW P) d P d.length=R:=⟨_,rfl⟩
 have hl:R.length=d.length+P:=by rw [←hR];exact Gl _ _ _ _
 have h0:∀j,j < d.length→R[j]?.getD 0=0:=by rw [←hR];exact Xd _ _ _ (dg P) _ (Nat.le_refl _)
 have he:L0 i R=L0 i (d++List.replicate P 0):=by rw [←hR];exact Xv i _ _ _ (dW i P hi) (Ke P) _ (Nat.le_refl _)
 have hlen:(d++List.replicate P (0:F)).length=R.length:=by simp [hl]
 have hE:GD P d=GH (d++List.replicate P 0) R 1:=by
  apply dN
  ·rw [G3,NW _ _ _ hlen];simp
  ·intro j hj
   rw [G3] at hj
   show (GD P d)[j]?.getD 0=(GH (d++List.replicate P 0) R 1)[j]?.getD 0
   rw [show (GH (d++List.replicate P 0) R 1)[j]?.getD 0=fa ((d++List.replicate P (0:F))[j]?.getD 0) (fm (R[j]?.getD 0) 1) from NT _ _ _ _ hlen]
   unfold GD
   rw [hR,I_]
   by_cases h:j < d.length
   ·rw [List.getElem?_append_left h,List.getElem?_append_left h,h0 j h,Cz]
   ·rw [List.getElem?_append_right (by omega),List.getElem?_append_right (by omega),List.getElem?_drop,List.getElem?_replicate,if_pos (by omega),show d.length+(j - d.length)=j by omega]
    exact(Iu _).symm
 rw [hE]
 unfold L0
 have h2:(GH (d++List.replicate P 0) R 1).length=(d++List.replicate P (0:F)).length:=by rw [NW _ _ _ hlen]
 rw [h2,My _ _ _ _ hlen]
 have h3:L0 i (d++List.replicate P (0:F))=FG (d++List.replicate P (0:F)) (Q6 (d++List.replicate P (0:F)).length i):=rfl
 have h4:L0 i R=FG R (Q6 (d++List.replicate P (0:F)).length i):=by unfold L0;rw [hlen]
 rw [←h3,←h4,he,Se,FR]
end Go.Pw
end
section
open Go Go.Pw Go.Proofs
namespace Go.Pw
set_option linter.unusedSimpArgs false
set_option linter.unusedVariables false
set_option maxRecDepth 100000
set_option maxHeartbeats 3200000
theorem Qe (l g:List F) (o k:Nat) (b:F) (h:k < g.length):(Cu l o b (g.take k)).set (o+k) (fa ((Cu l o b (g.take k))[o+k]?.getD 0) (fm b (g[k]?.getD 0)))=Cu l o b (g.take (k+1)):=by
 rw [←Bk g 0 k h,Qf]
 rw [show (g.take k).length=k by simp;omega]
theorem VU (l g:List F) (k:Nat) (b:F) (h:k < g.length):(Cu l 1 b (g.take k)).set (k+1) (fa ((Cu l 1 b (g.take k))[k+1]?.getD 0) (fm (g[k]?.getD 0) b))=Cu l 1 b (g.take (k+1)):=by
 rw [←Qe l g 1 k b h,Da b,Nat.add_comm 1 k]
attribute [local congr] Bh A_ A' Ap Bi Av Ax Aw Ao Ah Ab AZ Ar Ac As BI BM BK BL BJ BN BF Af Au Ag BD BQ Ae BG BH BE BB BC A9 BA Aq Ad
attribute [local irreducible] IntKind.wrap A5 Option.getD and or
theorem MD (L P:Nat) (n1:Bool) (d:List F) (hL:L≤15) (hP:1≤P) (hd:d.length+P=L) (hd1:1≤d.length) (hn1:n1=false) :
  CF E0 Fo [S_ L P,.list n1 (us d)] (.list false (us (GD P d))):=by
 subst hn1
 have c0:=H6 false d (by omega) (by omega) rfl
 refine AO IY Am (by simp) fun hwf=>?_
 rw [AW];unfold FL
 rw [Bm]
 (try (simp -implicitDefEqProofs only [go_sem]));repeat' first|(with_reducible first|exact True.intro|refine And.intro ?_ ?_|intro _)|(((with_reducible refine AS ?_ ?_)<;>intro _)<;>try (simp -implicitDefEqProofs only [go_sem]))|simp (disch:=omega) only [AC,AH,AP,AJ,AD,AQ,AI,AA]|((with_reducible refine A4 ?_);refine⟨_,rfl,?_,?_⟩)
 all_goals first|omega|(simp;done)|(simp;omega)|skip
 rw [show ([D.int .u8 1]:List D)=us (IW 0) from rfl]
 refine AY (α:=Nat) (l0:=?l1) (m0:=?m1) (fun x=>[(19,.d (.int .i64 (x:Int))),(5,.d (.list false (us (IW x))))]) (fun x=>[]) (fun x=>x≤P) (fun x=>P - x) 0 ?h01 ?he1 ?he21 ?hI1 ?step1
 case h01=>(simp -implicitDefEqProofs only [go_sem];rfl)
 case he1=>rfl
 case he21=>rfl
 case' step1=>(rintro i hI;try dsimp only at hI)
 case' hI1=>try dsimp only
 ·exact Nat.zero_le _
 ·have hgl:=Ke i
  by_cases h:i < P
  ·have h':(i:Int) < (P:Int):=by omega
   have hwi:IntKind.i64.wrap ((i:Int)+1)=((i+1:Nat):Int):=by rw [AC _ (by omega)];omega
   have hG:IW (i+1)=Cu (IW i++[0]) 1 (gp i) (IW i):=rfl
   obtain⟨G,hGe⟩:∃G,IW i=G:=⟨_,rfl⟩
   rw [hGe] at hgl hG ⊢
   have c1:=H6 false G (by omega) (by omega) rfl
   have c2:=EG i (by omega)
   (try (simp -implicitDefEqProofs only [go_sem,h',MT]));repeat' first|(with_reducible first|exact True.intro|refine And.intro ?_ ?_|intro _)|(((with_reducible refine isCall ?_);first|(refine Ei ([]) ([((7,1),(23,1))]) (c1) (by repeat' first|exact True.intro|exact rfl|refine And.intro ?_ ?_) (by simp [Handed,DU.get,Aa.ren,AV.ren,AV.ren.renL,AN.get,BS,B6,Dj,AN.reach,AV.sites,AV.sites.sitesL,AN.osites]) (by simp [CD,Eh,CI,DU.get,Dj,EF,B9]) (by rfl) (by simp only [Dk,DU.get,Aa.ren,AV.ren,AV.ren.renL,and_self,and_true,true_and,if_true,reduceIte];rfl) ?_))<;>try (simp -implicitDefEqProofs only [go_sem,h',MT]))|(((with_reducible refine AS ?_ ?_)<;>intro _)<;>try (simp -implicitDefEqProofs only [go_sem,h',MT]))|simp (disch:=omega) only [AC,AH,AP,AJ,AD,AQ,AI,AA]|((with_reducible refine A4 ?_);refine⟨_,rfl,?_,?_⟩)
   all_goals first|omega|(simp;done)|(simp;omega)|skip
   refine AY (α:=Nat) (l0:=?l2) (m0:=?m2) (fun x=>[(28,.d (.int .i64 (x:Int)))]) (fun x=>[(23,.row 135 1 false (us (Cu (G++[0]) 1 (gp i) (G.take x))))]) (fun x=>x≤G.length) (fun x=>G.length - x) 0 ?h02 ?he2 ?he22 ?hI2 ?step2
   case h02=>(simp -implicitDefEqProofs only [go_sem];rfl)
   case he2=>rfl
   case he22=>rfl
   case' step2=>(rintro k hI2;try dsimp only at hI2)
   case' hI2=>try dsimp only
   ·exact Nat.zero_le _
   ·have hA:=Ih (G.take k) (G++[0]) 1 (gp i)
    rw [List.length_append,List.length_singleton] at hA
    by_cases hk:k < G.length
    ·have hk':(k:Int) < (G.length:Int):=by omega
     have hwk:IntKind.i64.wrap ((k:Int)+1)=((k+1:Nat):Int):=by rw [AC _ (by omega)];omega
     have c3:=DN (G[k]?.getD 0) (gp i)
     have hst:=VU (G++[0]) G k (gp i) hk
     (try (simp -implicitDefEqProofs only [go_sem,hk',hwk,hA,hst]));repeat' first|(with_reducible first|exact True.intro|refine And.intro ?_ ?_|intro _)|(((with_reducible refine isCall ?_);first|refine AF (c2) rfl ?_ ?_|refine AE (c2) rfl ?_|refine AB (c2) rfl ?_ ?_|refine AG (c2) rfl rfl ?_|refine AF (c3) rfl ?_ ?_|refine AE (c3) rfl ?_|refine AB (c3) rfl ?_ ?_|refine AG (c3) rfl rfl ?_)<;>try (simp -implicitDefEqProofs only [go_sem,hk',hwk,hA,hst]))|(((with_reducible refine AS ?_ ?_)<;>intro _)<;>try (simp -implicitDefEqProofs only [go_sem,hk',hwk,hA,hst]))|simp (disch:=omega) only [AC,AH,AP,AJ,AD,AQ,AI,AA]|((with_reducible refine A4 ?_);refine⟨_,rfl,?_,?_⟩)
     all_goals first|omega|(simp;done)|(simp;omega)|skip
     all_goals first|rfl|(simp at *;done)|(simp at *;omega)|skip
    ·have hk':¬(k:Int) < (G.length:Int):=by omega
     have hke:G.take k=G:=List.take_of_length_le (by omega)
     rw [hke,←hG]
     (try (simp -implicitDefEqProofs only [go_sem,hk',hwi]));repeat' first|(with_reducible first|exact True.intro|refine And.intro ?_ ?_|intro _)|(((with_reducible refine AS ?_ ?_)<;>intro _)<;>try (simp -implicitDefEqProofs only [go_sem,hk',hwi]))|simp (disch:=omega) only [AC,AH,AP,AJ,AD,AQ,AI,AA]|((with_reducible refine A4 ?_);refine⟨_,rfl,?_,?_⟩)
     all_goals first|omega|(simp;done)|(simp;omega)|skip
     all_goals first|rfl|omega|skip
  ·have h':¬(i:Int) < (P:Int):=by omega
   have hie:i=P:=by omega
   subst hie
   obtain⟨G,hGe⟩:∃G,IW i=G:=⟨_,rfl⟩
   rw [hGe] at hgl ⊢
   (try (simp -implicitDefEqProofs only [go_sem,h',O5,SE]));repeat' first|(with_reducible first|exact True.intro|refine And.intro ?_ ?_|intro _)|(((with_reducible refine isCall ?_);first|(refine Ei ([]) ([((7,1),(48,1))]) (c0) (by repeat' first|exact True.intro|exact rfl|refine And.intro ?_ ?_) (by simp [Handed,DU.get,Aa.ren,AV.ren,AV.ren.renL,AN.get,BS,B6,Dj,AN.reach,AV.sites,AV.sites.sitesL,AN.osites]) (by simp [CD,Eh,CI,DU.get,Dj,EF,B9]) (by rfl) (by simp only [Dk,DU.get,Aa.ren,AV.ren,AV.ren.renL,and_self,and_true,true_and,if_true,reduceIte];rfl) ?_))<;>try (simp -implicitDefEqProofs only [go_sem,h',O5,SE]))|(((with_reducible refine AS ?_ ?_)<;>intro _)<;>try (simp -implicitDefEqProofs only [go_sem,h',O5,SE]))|simp (disch:=omega) only [AC,AH,AP,AJ,AD,AQ,AI,AA]|((with_reducible refine A4 ?_);refine⟨_,rfl,?_,?_⟩)
   all_goals first|omega|(simp;done)|(simp;omega)|skip
   rw [show us (d++List.replicate i 0)=us (F6 G d i 0) from rfl]
   refine AY (α:=Nat) (l0:=?l3) (m0:=?m3) (fun x=>[(55,.d (.int .i64 (x:Int)))]) (fun x=>[(48,.row 135 1 false (us (F6 G d i x)))]) (fun x=>x≤d.length) (fun x=>d.length - x) 0 ?h03 ?he3 ?he23 ?hI3 ?step3
   case h03=>(simp -implicitDefEqProofs only [go_sem];rfl)
   case he3=>rfl
   case he23=>rfl
   case' step3=>(rintro m hI3;try dsimp only at hI3)
   case' hI3=>try dsimp only
   ·exact Nat.zero_le _
   ·have hrl:=Gl G d i m
    have hrs:F6 G d i (m+1)=Cu (F6 G d i m) m ((F6 G d i m)[m]?.getD 0) G:=rfl
    obtain⟨R,hR⟩:∃R,F6 G d i m=R:=⟨_,rfl⟩
    rw [hR] at hrl hrs ⊢
    by_cases hm:m < d.length
    ·have hm':(m:Int) < (d.length:Int):=by omega
     have hwm:IntKind.i64.wrap ((m:Int)+1)=((m+1:Nat):Int):=by rw [AC _ (by omega)];omega
     have hmR:m < R.length:=by omega
     obtain⟨B,hB⟩:∃B,R[m]?.getD 0=B:=⟨_,rfl⟩
     rw [hB] at hrs
     (try (simp -implicitDefEqProofs only [go_sem,hm',hmR,hB]));repeat' first|(with_reducible first|exact True.intro|refine And.intro ?_ ?_|intro _)|(((with_reducible refine AS ?_ ?_)<;>intro _)<;>try (simp -implicitDefEqProofs only [go_sem,hm',hmR,hB]))|simp (disch:=omega) only [AC,AH,AP,AJ,AD,AQ,AI,AA]|((with_reducible refine A4 ?_);refine⟨_,rfl,?_,?_⟩)
     all_goals first|omega|(simp;done)|(simp;omega)|skip
     rw [show us R=us (Cu R m B (G.take 0)) from rfl]
     refine AY (α:=Nat) (l0:=?l4) (m0:=?m4) (fun x=>[(64,.d (.int .i64 (x:Int)))]) (fun x=>[(48,.row 135 1 false (us (Cu R m B (G.take x))))]) (fun x=>x≤G.length) (fun x=>G.length - x) 0 ?h04 ?he4 ?he24 ?hI4 ?step4
     case h04=>(simp -implicitDefEqProofs only [go_sem];rfl)
     case he4=>rfl
     case he24=>rfl
     case' step4=>(rintro k hI4;try dsimp only at hI4)
     case' hI4=>try dsimp only
     ·exact Nat.zero_le _
     ·have hA:=Ih (G.take k) R m B
      by_cases hk:k < G.length
      ·have hk':(k:Int) < (G.length:Int):=by omega
       have hwk:IntKind.i64.wrap ((k:Int)+1)=((k+1:Nat):Int):=by rw [AC _ (by omega)];omega
       have hwmk:IntKind.i64.wrap ((m:Int)+(k:Int))=((m+k:Nat):Int):=by rw [AC _ (by omega)];omega
       have hmk:m+k < R.length:=by omega
       have c3:=DN B (G[k]?.getD 0)
       have hst:=Qe R G m k B hk
       (try (simp -implicitDefEqProofs only [go_sem,hk',hwk,hwmk,hA,hmk,hst]));repeat' first|(with_reducible first|exact True.intro|refine And.intro ?_ ?_|intro _)|(((with_reducible refine isCall ?_);first|refine AF (c3) rfl ?_ ?_|refine AE (c3) rfl ?_|refine AB (c3) rfl ?_ ?_|refine AG (c3) rfl rfl ?_)<;>try (simp -implicitDefEqProofs only [go_sem,hk',hwk,hwmk,hA,hmk,hst]))|(((with_reducible refine AS ?_ ?_)<;>intro _)<;>try (simp -implicitDefEqProofs only [go_sem,hk',hwk,hwmk,hA,hmk,hst]))|simp (disch:=omega) only [AC,AH,AP,AJ,AD,AQ,AI,AA]|((with_reducible refine A4 ?_);refine⟨_,rfl,?_,?_⟩)
       all_goals first|omega|(simp;done)|(simp;omega)|skip
       all_goals first|rfl|(simp at *;done)|(simp at *;omega)|skip
      ·have hk':¬(k:Int) < (G.length:Int):=by omega
       have hke:G.take k=G:=List.take_of_length_le (by omega)
       rw [hke,←hrs]
       (try (simp -implicitDefEqProofs only [go_sem,hk',hwm]));repeat' first|(with_reducible first|exact True.intro|refine And.intro ?_ ?_|intro _)|(((with_reducible refine AS ?_ ?_)<;>intro _)<;>try (simp -implicitDefEqProofs only [go_sem,hk',hwm]))|simp (disch:=omega) only [AC,AH,AP,AJ,AD,AQ,AI,AA]|((with_reducible refine A4 ?_);refine⟨_,rfl,?_,?_⟩)
       all_goals first|omega|(simp;done)|(simp;omega)|skip
       all_goals first|rfl|omega|skip
    ·have hm':¬(m:Int) < (d.length:Int):=by omega
     have hme:m=d.length:=by omega
     have c4:=Qj false false d (R.drop d.length) (by omega) (by simp;omega)
     have hres:d++R.drop d.length=GD i d:=by rw [←hR,hme,←hGe];rfl
     have hemp:(GD i d).isEmpty=false:=by
      have h5:=G3 i d
      cases hE:GD i d with
      |nil=>rw [hE] at h5;simp at h5;omega
      |cons=>rfl
     have hdr:List.take (d.length+i - d.length) (R.drop d.length)=R.drop d.length:=List.take_of_length_le (by simp;omega)
     rw [hres,hemp] at c4
     (try (simp -implicitDefEqProofs only [go_sem,hm',hrl,hdr]));repeat' first|(with_reducible first|exact True.intro|refine And.intro ?_ ?_|intro _)|(((with_reducible refine isCall ?_);first|refine AF (c4) rfl ?_ ?_|refine AE (c4) rfl ?_|refine AB (c4) rfl ?_ ?_|refine AG (c4) rfl rfl ?_)<;>try (simp -implicitDefEqProofs only [go_sem,hm',hrl,hdr]))|(((with_reducible refine AS ?_ ?_)<;>intro _)<;>try (simp -implicitDefEqProofs only [go_sem,hm',hrl,hdr]))|simp (disch:=omega) only [AC,AH,AP,AJ,AD,AQ,AI,AA]|((with_reducible refine A4 ?_);refine⟨_,rfl,?_,?_⟩)
     all_goals first|omega|(simp;done)|(simp;omega)|skip
     all_goals first|rfl|(simp at *;done)|(simp at *;omega)|skip
end Go.Pw
end
section
open Go Go.Pw Go.Proofs
namespace Go.Pw
set_option linter.unusedSimpArgs false
set_option linter.unusedVariables false
set_option maxRecDepth 100000
set_option maxHeartbeats 3200000
theorem GF {L P:Int} (h:DP L P=true):2≤L∧L≤15∧1≤P∧P≤8∧P < L:=by simpa [DP] using h
theorem Zx {L P:Int} (h:DP L P=true):∃l p:Nat,L=(l:Int)∧P=(p:Int)∧2≤l∧l≤15∧1≤p∧p≤8∧p < l:=by
 have:=GF h
 exact⟨L.toNat,P.toNat,by omega,by omega,by omega,by omega,by omega,by omega,by omega⟩
def gv (L P n:Int):Int:=if DP L P=true then if 0≤n∧n≤L then 0 else 1 else 50
def ZK (L P n:Int):Bool:=DP L P && (decide (0≤n∧n≤L) && decide (P < n+P / 2))
def ii (L:Nat):Nat→Nat×Nat
 |0=>(0,1)
 |e+1=>((ii L e).1+(ii L e).2,(ii L e).2 * (L - e) * 15 / (e+1))
def nE (L P:Nat):Nat:=(ii L (P / 2+1)).1
def nD (L P:Nat):Nat:=Nat.gcd (nE L P) (2 ^ (4 * P))
def n8 (L P:Int):Int:=if DP L P=true then ((nE L.toNat P.toNat / nD L.toNat P.toNat:Nat):Int) else 0
def nz (L P:Int):Int:=if DP L P=true then ((2 ^ (4 * P.toNat) / nD L.toNat P.toNat:Nat):Int) else 0
theorem ae (a b:Nat):Int.tdiv (a:Int) (b:Int)=((a / b:Nat):Int):=by
 rw [Int.tdiv_eq_ediv_of_nonneg (by omega)];rfl
theorem ab (a b:Nat):Int.tmod (a:Int) (b:Int)=((a % b:Nat):Int):=by
 rw [Int.tmod_eq_emod_of_nonneg (by omega)];rfl
attribute [local congr] Bh A_ A' Ap Bi Av Ax Aw Ao Ah Ab AZ Ar Ac As BI BM BK BL BJ BN BF Af Au Ag BD BQ Ae BG BH BE BB BC A9 BA Aq Ad
attribute [local irreducible] IntKind.wrap A5 Option.getD and or
theorem G_ (L P n:Int):CF E0 Ir [.agg [.int .i64 L,.int .i64 P],.int .i64 n] (.tup [.bool (ZK L P n),.int .i64 (gv L P n)]):=by
 have c1:=Hk L P
 refine AO L7 Am (by simp) fun hwf=>?_
 simp only [Dl,DB,DA,Cw,D7,D6,Fi,D5,Bd,Bo,Bp,DC,B1,List.length_map,Bx,true_and,and_true] at hwf
 rw [AW];unfold Hb ZK gv
 cases hc:DP L P with
 |false =>
  rw [hc] at c1
  simp only [Bool.false_eq_true,if_false] at c1
  (try (simp -implicitDefEqProofs only [go_sem,hc]));repeat' first|(with_reducible first|exact True.intro|refine And.intro ?_ ?_|intro _)|(((with_reducible refine isCall ?_);first|refine AF (c1) rfl ?_ ?_|refine AE (c1) rfl ?_|refine AB (c1) rfl ?_ ?_|refine AG (c1) rfl rfl ?_)<;>try (simp -implicitDefEqProofs only [go_sem,hc]))|(((with_reducible refine AS ?_ ?_)<;>intro _)<;>try (simp -implicitDefEqProofs only [go_sem,hc]))|simp (disch:=omega) only [AC,AH,AP,AJ,AD,AQ,AI,AA]
  all_goals first|rfl|(simp;done)|skip
 |true =>
  have hb:=GF hc
  have hd:P.tdiv 2=P / 2:=Int.tdiv_eq_ediv_of_nonneg (by omega)
  have hw:IntKind.i64.wrap (P / 2)=P / 2:=AC _ (by omega)
  rw [hc] at c1
  simp only [if_true] at c1
  by_cases hn:0≤n∧n≤L
  ·have hn1:¬n < 0:=by omega
   have hn2:¬L < n:=by omega
   have hw2:IntKind.i64.wrap (n+P / 2)=n+P / 2:=AC _ (by omega)
   (try (simp -implicitDefEqProofs only [go_sem,hc,hd,hw,hw2,hn1,hn2]));repeat' first|(with_reducible first|exact True.intro|refine And.intro ?_ ?_|intro _)|(((with_reducible refine isCall ?_);first|refine AF (c1) rfl ?_ ?_|refine AE (c1) rfl ?_|refine AB (c1) rfl ?_ ?_|refine AG (c1) rfl rfl ?_)<;>try (simp -implicitDefEqProofs only [go_sem,hc,hd,hw,hw2,hn1,hn2]))|(((with_reducible refine AS ?_ ?_)<;>intro _)<;>try (simp -implicitDefEqProofs only [go_sem,hc,hd,hw,hw2,hn1,hn2]))|simp (disch:=omega) only [AC,AH,AP,AJ,AD,AQ,AI,AA]
   all_goals first|omega|(simp [*];done)|skip
  ·by_cases hn1:n < 0
   ·have hn3:¬0≤n:=by omega
    (try (simp -implicitDefEqProofs only [go_sem,hc,hn1]));repeat' first|(with_reducible first|exact True.intro|refine And.intro ?_ ?_|intro _)|(((with_reducible refine isCall ?_);first|refine AF (c1) rfl ?_ ?_|refine AE (c1) rfl ?_|refine AB (c1) rfl ?_ ?_|refine AG (c1) rfl rfl ?_)<;>try (simp -implicitDefEqProofs only [go_sem,hc,hn1]))|(((with_reducible refine AS ?_ ?_)<;>intro _)<;>try (simp -implicitDefEqProofs only [go_sem,hc,hn1]))|simp (disch:=omega) only [AC,AH,AP,AJ,AD,AQ,AI,AA]
    all_goals first|rfl|(simp [hn3];done)|(simp [hn3];omega)|skip
   ·have hn2:L < n:=by omega
    have hn3:¬n≤L:=by omega
    (try (simp -implicitDefEqProofs only [go_sem,hc,hn1,hn2]));repeat' first|(with_reducible first|exact True.intro|refine And.intro ?_ ?_|intro _)|(((with_reducible refine isCall ?_);first|refine AF (c1) rfl ?_ ?_|refine AE (c1) rfl ?_|refine AB (c1) rfl ?_ ?_|refine AG (c1) rfl rfl ?_)<;>try (simp -implicitDefEqProofs only [go_sem,hc,hn1,hn2]))|(((with_reducible refine AS ?_ ?_)<;>intro _)<;>try (simp -implicitDefEqProofs only [go_sem,hc,hn1,hn2]))|simp (disch:=omega) only [AC,AH,AP,AJ,AD,AQ,AI,AA]
    all_goals first|rfl|(simp [hn3];done)|(simp [hn3];omega)|skip
end Go.Pw
end
section
namespace Go.Pw
set_option linter.unusedSimpArgs false
set_option linter.unusedVariables false
def fs (xs:List Int):List F:=xs.map fun x=>Fin.ofNat 16 x.toNat
theorem So (xs:List Int):(fs xs).length=xs.length:=by simp [fs]
theorem Xq:∀{xs:List Int},xs.all J4=true→iv (fs xs)=xs
 |[],_=>rfl
 |x :: xs,h=>by
  simp only [List.all_cons,Bool.and_eq_true] at h
  have hx:0≤x∧x≤15:=by simpa [J4] using h.1
  show ((Fin.ofNat 16 x.toNat).val:Int) :: iv (fs xs)=x :: xs
  rw [Xq h.2]
  congr 1
  show ((x.toNat % 16:Nat):Int)=x
  omega
theorem m_ (w:List F):fs (iv w)=w:=by
 apply iv_inj.1
 apply Xq
 rw [List.all_eq_true]
 intro x hx
 simp [iv] at hx
 obtain⟨a,_,rfl⟩:=hx
 have:=a.isLt
 simp [J4];omega
theorem kM (w:List F):(iv w).all J4=true:=by
 rw [List.all_eq_true]
 intro x hx
 simp [iv] at hx
 obtain⟨a,_,rfl⟩:=hx
 have:=a.isLt
 simp [J4];omega
theorem af (w:List F) (m:Int):CG (iv w) m=decide ((w.length:Int)=m):=by
 unfold CG;rw [kM,Bool.and_true,I8]
theorem PR {xs:List Int} {m:Int} (h:CG xs m=true):(xs.length:Int)=m∧iv (fs xs)=xs:=by
 unfold CG at h
 simp only [Bool.and_eq_true,decide_eq_true_eq] at h
 exact⟨h.1,Xq h.2⟩
def nt (ms:List Int):List Nat:=ms.map Int.toNat
theorem j_ (ms:List Int):(nt ms).length=ms.length:=by simp [nt]
theorem LB {ms:List Int} {m:Int} (h:D9 ms m=true) {i:Nat} (hi:i < ms.length):0≤ms[i]?.getD 0∧ms[i]?.getD 0 < m∧(0 < i→ms[i - 1]?.getD 0 < ms[i]?.getD 0):=by
 have:=(List.all_eq_true.1 h) i (by simpa using hi)
 simp only [gI,decide_eq_true_eq] at this
 exact this
theorem lQ {ms:List Int} {m:Int} (h:D9 ms m=true):ni (nt ms)=ms:=by
 apply List.ext_getElem
 ·simp [ni,nt]
 ·intro i h1 h2
  have:=(LB h h2).1
  rw [List.getElem?_eq_getElem h2] at this
  simp [ni,nt] at this ⊢
  omega
theorem dz (ms:List Int) (h:∀i,i < ms.length→0 < i→ms[i - 1]?.getD 0 < ms[i]?.getD 0):∀j i,i < j→j < ms.length→ms[i]?.getD 0 < ms[j]?.getD 0
 |0,i,h1,_=>by omega
 |j+1,i,h1,h2=>by
  have h3:=h (j+1) h2 (by omega)
  rw [show j+1 - 1=j by omega] at h3
  by_cases hij:i=j
  ·subst hij;exact h3
  ·have:=dz ms h j i (by omega) (by omega)
   omega
theorem kI {ms:List Int} {L:Nat} (h:D9 ms (L:Int)=true):XJ L (nt ms):=by
 have ha:=dz ms fun i hi h0=>(LB h hi).2.2 h0
 refine⟨List.pairwise_iff_getElem.2 fun i j hi hj hij=>?_,fun j hj=>?_⟩
 ·rw [j_] at hi hj
  have h1:=ha j i hij hj
  have h2:=(LB h hi).1
  rw [List.getElem?_eq_getElem hi,List.getElem?_eq_getElem hj] at h1
  rw [List.getElem?_eq_getElem hi] at h2
  simp [nt] at h1 h2 ⊢
  omega
 ·simp only [nt,List.mem_map] at hj
  obtain⟨x,hx,rfl⟩:=hj
  obtain⟨i,hi,rfl⟩:=List.getElem_of_mem hx
  have h2:=LB h hi
  rw [List.getElem?_eq_getElem hi] at h2
  simp at h2
  omega
theorem bw {L:Nat} {mk:List Nat} (h:XJ L mk):mk.length≤L:=by
 have:=Pt mk (List.range L) (D4 h.asc) fun j hj=>by simpa using h.lt j hj
 simpa using this
def nX (L P:Int) (xs:List Int):Int:=if DP L P=true then if CG xs (L - P)=true then 0 else 51 else 50
def nW (L P:Int) (xs:List Int):List Int:=if DP L P=true then if CG xs (L - P)=true then iv (GD P.toNat (fs xs)) else [] else []
noncomputable def nB (L P:Int) (ws ms:List Int):Option (List F):=MA L.toNat P.toNat (fs ws) (nt ms)
def oE:Option (List F)→Int
 |some _=>0
 |none=>52
def oL:Option (List F)→List F
 |some r=>r
 |none=>[]
theorem f5 (r:List F):oE (some r)=0:=rfl
theorem f6:oE none=52:=rfl
theorem fz (r:List F):oL (some r)=r:=rfl
theorem f4:oL none=[]:=rfl
noncomputable def nv (L P:Int) (ws ms:List Int):Int :=
 if DP L P=true then if CG ws L=true then if D9 ms L=true then oE (nB L P ws ms) else 1 else 51 else 50
noncomputable def nq (L P:Int) (ws ms:List Int):List Int :=
 if DP L P=true then if CG ws L=true then if D9 ms L=true then iv (oL (nB L P ws ms)) else [] else [] else []
end Go.Pw
end
section
open Go Go.Pw Go.Proofs
namespace Go.Pw
set_option linter.unusedSimpArgs false
set_option linter.unusedVariables false
set_option maxRecDepth 100000
set_option maxHeartbeats 3200000
theorem WU (w:List F):(iv w).isEmpty=w.isEmpty:=by cases w<;>rfl
theorem fq {w:List F} (h:0 < w.length):w.isEmpty=false:=by cases w<;>simp_all
theorem Px {w:List F} (h:0 < w.length):(iv w).isEmpty=false:=by rw [WU];exact fq h
attribute [local congr] Bh A_ A' Ap Bi Av Ax Aw Ao Ah Ab AZ Ar Ac As BI BM BK BL BJ BN BF Af Au Ag BD BQ Ae BG BH BE BB BC A9 BA Aq Ad
attribute [local irreducible] IntKind.wrap A5 Option.getD and or
end Go.Pw
end
section
open Go Go.Pw Go.Proofs
namespace Go.Pw
set_option linter.unusedSimpArgs false
set_option linter.unusedVariables false
set_option maxRecDepth 100000
set_option maxHeartbeats 3200000
def Ct (L P Q:Int):Bool:=DP L P && decide (1≤Q∧Q≤8)
theorem TS {L P Q:Int} (h:Ct L P Q=true):DP L P=true∧1≤Q∧Q≤8:=by simpa [Ct] using h
def jB (L P Q:Int) (xs:List Int) (m:Int):Int:=if Ct L P Q=true then if CG xs (Q * m)=true then 0 else 51 else 50
def mI (L P Q:Int) (e:Int):D:=if e=0 then .agg [.int .i64 L,.int .i64 P,.int .i64 Q] else .agg [.int .i64 0,.int .i64 0,.int .i64 0]
theorem Xg (L P Q:Int):mI L P Q 0=.agg [.int .i64 L,.int .i64 P,.int .i64 Q]:=rfl
theorem WA (L P Q:Int):mI L P Q 51=.agg [.int .i64 0,.int .i64 0,.int .i64 0]:=rfl
theorem Pp (L P Q:Int):mI L P Q 50=.agg [.int .i64 0,.int .i64 0,.int .i64 0]:=rfl
theorem VE:Bl E0.P C_=true:=by kernel_rfl
theorem R0:Bl E0.P Cv=true:=by kernel_rfl
theorem S':Bl E0.P EI=true:=by kernel_rfl
theorem YG:CG [] 0=true:=rfl
attribute [local congr] Bh A_ A' Ap Bi Av Ax Aw Ao Ah Ab AZ Ar Ac As BI BM BK BL BJ BN BF Af Au Ag BD BQ Ae BG BH BE BB BC A9 BA Aq Ad
attribute [local irreducible] IntKind.wrap A5 Option.getD and or
theorem Je (L P:Int):CF E0 C_ [.agg [.int .i64 L,.int .i64 P]] (.int .i64 L):=by
 refine AO Kh Am (by simp) fun hwf=>?_
 rw [AW];unfold GW
 (try (simp -implicitDefEqProofs only [go_sem]));repeat' first|(with_reducible first|exact True.intro|refine And.intro ?_ ?_|intro _)|(((with_reducible refine AS ?_ ?_)<;>intro _)<;>try (simp -implicitDefEqProofs only [go_sem]))|simp (disch:=omega) only [AC,AH,AP,AJ,AD,AQ,AI,AA]
theorem Ft (L P:Int) (h:-1000≤L∧L≤1000∧-1000≤P∧P≤1000):CF E0 Cv [.agg [.int .i64 L,.int .i64 P]] (.int .i64 (L - P)):=by
 refine AO Jw Am (by simp) fun hwf=>?_
 rw [AW];unfold F9
 have hw:IntKind.i64.wrap (L - P)=L - P:=AC _ (by omega)
 (try (simp -implicitDefEqProofs only [go_sem,hw]));repeat' first|(with_reducible first|exact True.intro|refine And.intro ?_ ?_|intro _)|(((with_reducible refine AS ?_ ?_)<;>intro _)<;>try (simp -implicitDefEqProofs only [go_sem,hw]))|simp (disch:=omega) only [AC,AH,AP,AJ,AD,AQ,AI,AA]
theorem LP (L P:Int):CF E0 EI [.agg [.int .i64 L,.int .i64 P]] (.int .i64 0):=by
 refine AO LL Am (by simp) fun hwf=>?_
 rw [AW];unfold Gx
 (try (simp -implicitDefEqProofs only [go_sem]));repeat' first|(with_reducible first|exact True.intro|refine And.intro ?_ ?_|intro _)|(((with_reducible refine AS ?_ ?_)<;>intro _)<;>try (simp -implicitDefEqProofs only [go_sem]))|simp (disch:=omega) only [AC,AH,AP,AJ,AD,AQ,AI,AA]
theorem Dh (L P Q:Int) (nl:Bool) (xs:List Int) (f:FuncId) (m:Int) (hb:Bl E0.P f=true) (hm:0≤m∧m≤1000) (h:DP L P=true→CF E0 f [.agg [.int .i64 L,.int .i64 P]] (.int .i64 m)) :
  CF E0 Ky [.agg [.int .i64 L,.int .i64 P,.int .i64 Q],.list nl (Ai xs),.fn f []] (.tup [mI L P Q (jB L P Q xs m),.int .i64 (jB L P Q xs m)]):=by
 have c1:=Hk L P
 refine AO N7 Am (by simp) fun hwf=>?_
 rw [AW];unfold JX jB Ct
 cases hc:DP L P with
 |false =>
  rw [hc] at c1
  simp only [Bool.false_eq_true,if_false,Bool.false_and] at c1 ⊢
  rw [Pp]
  (try (simp -implicitDefEqProofs only [go_sem]));repeat' first|(with_reducible first|exact True.intro|refine And.intro ?_ ?_|intro _)|(((with_reducible refine isCall ?_);first|refine AF (c1) rfl ?_ ?_|refine AE (c1) rfl ?_|refine AB (c1) rfl ?_ ?_|refine AG (c1) rfl rfl ?_)<;>try (simp -implicitDefEqProofs only [go_sem]))|(((with_reducible refine AS ?_ ?_)<;>intro _)<;>try (simp -implicitDefEqProofs only [go_sem]))|simp (disch:=omega) only [AC,AH,AP,AJ,AD,AQ,AI,AA]
  all_goals first|rfl|(simp;done)|skip
 |true =>
  rw [hc] at c1
  simp only [if_true,Bool.true_and] at c1 ⊢
  by_cases hD:1≤Q∧Q≤8
  ·have h1:¬Q < 1:=by omega
   have h2:¬8 < Q:=by omega
   have hDm:0≤Q * m∧Q * m≤8000:=by
    constructor
    ·exact Int.mul_nonneg (by omega) (by omega)
    ·exact Int.le_trans (Int.mul_le_mul_of_nonneg_left hm.2 (by omega)) (by omega)
   have hw:IntKind.i64.wrap (Q * m)=Q * m:=AC _ (by omega)
   rw [decide_eq_true hD]
   simp only [if_true]
   have c2:=O1 nl xs (Q * m)
   have c3:=h hc
   cases hs:CG xs (Q * m) with
   |false =>
    rw [hs] at c2
    simp only [Bool.false_eq_true,if_false]
    rw [WA]
    (try (simp -implicitDefEqProofs only [go_sem,h1,h2,hw,hb]));repeat' first|(with_reducible first|exact True.intro|refine And.intro ?_ ?_|intro _)|(((with_reducible refine isCall ?_);first|refine AF (c1) rfl ?_ ?_|refine AE (c1) rfl ?_|refine AB (c1) rfl ?_ ?_|refine AG (c1) rfl rfl ?_|refine AF (c2) rfl ?_ ?_|refine AE (c2) rfl ?_|refine AB (c2) rfl ?_ ?_|refine AG (c2) rfl rfl ?_|refine AF (c3) rfl ?_ ?_|refine AE (c3) rfl ?_|refine AB (c3) rfl ?_ ?_|refine AG (c3) rfl rfl ?_)<;>try (simp -implicitDefEqProofs only [go_sem,h1,h2,hw,hb]))|(((with_reducible refine AS ?_ ?_)<;>intro _)<;>try (simp -implicitDefEqProofs only [go_sem,h1,h2,hw,hb]))|simp (disch:=omega) only [AC,AH,AP,AJ,AD,AQ,AI,AA]
    all_goals first|rfl|(simp;done)|skip
   |true =>
    rw [hs] at c2
    simp only [if_true]
    rw [Xg]
    (try (simp -implicitDefEqProofs only [go_sem,h1,h2,hw,hb]));repeat' first|(with_reducible first|exact True.intro|refine And.intro ?_ ?_|intro _)|(((with_reducible refine isCall ?_);first|refine AF (c1) rfl ?_ ?_|refine AE (c1) rfl ?_|refine AB (c1) rfl ?_ ?_|refine AG (c1) rfl rfl ?_|refine AF (c2) rfl ?_ ?_|refine AE (c2) rfl ?_|refine AB (c2) rfl ?_ ?_|refine AG (c2) rfl rfl ?_|refine AF (c3) rfl ?_ ?_|refine AE (c3) rfl ?_|refine AB (c3) rfl ?_ ?_|refine AG (c3) rfl rfl ?_)<;>try (simp -implicitDefEqProofs only [go_sem,h1,h2,hw,hb]))|(((with_reducible refine AS ?_ ?_)<;>intro _)<;>try (simp -implicitDefEqProofs only [go_sem,h1,h2,hw,hb]))|simp (disch:=omega) only [AC,AH,AP,AJ,AD,AQ,AI,AA]
    all_goals first|rfl|(simp;done)|skip
  ·rw [decide_eq_false hD]
   simp only [Bool.false_eq_true,if_false]
   rw [Pp]
   by_cases h1:Q < 1
   ·(try (simp -implicitDefEqProofs only [go_sem,h1]));repeat' first|(with_reducible first|exact True.intro|refine And.intro ?_ ?_|intro _)|(((with_reducible refine isCall ?_);first|refine AF (c1) rfl ?_ ?_|refine AE (c1) rfl ?_|refine AB (c1) rfl ?_ ?_|refine AG (c1) rfl rfl ?_)<;>try (simp -implicitDefEqProofs only [go_sem,h1]))|(((with_reducible refine AS ?_ ?_)<;>intro _)<;>try (simp -implicitDefEqProofs only [go_sem,h1]))|simp (disch:=omega) only [AC,AH,AP,AJ,AD,AQ,AI,AA]
    all_goals first|rfl|(simp;done)|skip
   ·have h2:8 < Q:=by omega
    (try (simp -implicitDefEqProofs only [go_sem,h1,h2]));repeat' first|(with_reducible first|exact True.intro|refine And.intro ?_ ?_|intro _)|(((with_reducible refine isCall ?_);first|refine AF (c1) rfl ?_ ?_|refine AE (c1) rfl ?_|refine AB (c1) rfl ?_ ?_|refine AG (c1) rfl rfl ?_)<;>try (simp -implicitDefEqProofs only [go_sem,h1,h2]))|(((with_reducible refine AS ?_ ?_)<;>intro _)<;>try (simp -implicitDefEqProofs only [go_sem,h1,h2]))|simp (disch:=omega) only [AC,AH,AP,AJ,AD,AQ,AI,AA]
    all_goals first|rfl|(simp;done)|skip
theorem NL (L P Q:Int):CF E0 Jo [.agg [.int .i64 L,.int .i64 P,.int .i64 Q]] (.tup [.int .i64 (if Ct L P Q=true then Q * (P / 2) else 0),.int .i64 (if Ct L P Q=true then Q * P else 0),.int .i64 (if Ct L P Q=true then 0 else 50)]):=by
 have c1:=Dh L P Q true [] EI 0 S' (by omega) fun _=>LP L P
 refine AO NB Am (by simp) fun hwf=>?_
 rw [AW];unfold IP
 unfold jB at c1
 cases hw:Ct L P Q with
 |false =>
  rw [hw] at c1
  simp only [Bool.false_eq_true,if_false] at c1 ⊢
  rw [Pp] at c1
  (try (simp -implicitDefEqProofs only [go_sem]));repeat' first|(with_reducible first|exact True.intro|refine And.intro ?_ ?_|intro _)|(((with_reducible refine isCall ?_);first|refine AF (c1) rfl ?_ ?_|refine AE (c1) rfl ?_|refine AB (c1) rfl ?_ ?_|refine AG (c1) rfl rfl ?_)<;>try (simp -implicitDefEqProofs only [go_sem]))|(((with_reducible refine AS ?_ ?_)<;>intro _)<;>try (simp -implicitDefEqProofs only [go_sem]))|simp (disch:=omega) only [AC,AH,AP,AJ,AD,AQ,AI,AA]
  all_goals first|rfl|(simp;done)|skip
 |true =>
  obtain⟨hc,hD⟩:=TS hw
  have hb:=GF hc
  rw [hw,show CG [] (Q * 0)=true by rw [Int.mul_zero];exact YG] at c1
  simp only [if_true] at c1 ⊢
  rw [Xg] at c1
  have hd:P.tdiv 2=P / 2:=Int.tdiv_eq_ediv_of_nonneg (by omega)
  have w1:IntKind.i64.wrap (P / 2)=P / 2:=AC _ (by omega)
  have b1:0≤Q * (P / 2)∧Q * (P / 2)≤8 * 8:=⟨Int.mul_nonneg (by omega) (by omega),Int.mul_le_mul hD.2 (by omega) (by omega) (by omega)⟩
  have b2:0≤Q * P∧Q * P≤8 * 8:=⟨Int.mul_nonneg (by omega) (by omega),Int.mul_le_mul hD.2 (by omega) (by omega) (by omega)⟩
  have w2:IntKind.i64.wrap (Q * (P / 2))=Q * (P / 2):=AC _ (by omega)
  have w3:IntKind.i64.wrap (Q * P)=Q * P:=AC _ (by omega)
  (try (simp -implicitDefEqProofs only [go_sem,hd,w1,w2,w3]));repeat' first|(with_reducible first|exact True.intro|refine And.intro ?_ ?_|intro _)|(((with_reducible refine isCall ?_);first|refine AF (c1) rfl ?_ ?_|refine AE (c1) rfl ?_|refine AB (c1) rfl ?_ ?_|refine AG (c1) rfl rfl ?_)<;>try (simp -implicitDefEqProofs only [go_sem,hd,w1,w2,w3]))|(((with_reducible refine AS ?_ ?_)<;>intro _)<;>try (simp -implicitDefEqProofs only [go_sem,hd,w1,w2,w3]))|simp (disch:=omega) only [AC,AH,AP,AJ,AD,AQ,AI,AA]
  all_goals first|rfl|(simp;done)|skip
end Go.Pw
end
section
open Go Go.Pw Go.Proofs
namespace Go.Pw
set_option linter.unusedSimpArgs false
set_option linter.unusedVariables false
set_option maxRecDepth 100000
set_option maxHeartbeats 3200000
def nY (L P:Nat) (w:List F):Bool:=(List.range P).all fun i=>decide (FG w (Q6 L i)=0)
def nL (L P:Int):Bool:=DP L P && (decide (L≤10) && decide (P≤6))
def nQ (L P:Int) (d a m:List Int):Bool:=decide (m.length≤30) && (CG d (L - P) && (CG a L && D9 m L))
def np (w a:List F):List F:=List.zipWith fa w a
def n9 (a b m:List Int) (n:Nat):List Nat:=(List.range n).filter fun i=>decide (a[i]?.getD 0≠b[i]?.getD 0) && !gc m i
attribute [local congr] Bh A_ A' Ap Bi Av Ax Aw Ao Ah Ab AZ Ar Ac As BI BM BK BL BJ BN BF Af Au Ag BD BQ Ae BG BH BE BB BC A9 BA Aq Ad
attribute [local irreducible] IntKind.wrap A5 Option.getD and or
end Go.Pw
end
section
open Go Go.Pw Go.Proofs
namespace Go.Pw
set_option linter.unusedSimpArgs false
set_option linter.unusedVariables false
set_option maxRecDepth 100000
set_option maxHeartbeats 3200000
def mP (l:List Nat):D:=.list l.isEmpty (Ai (ni l))
def nk (ls:List (List Nat)):List D:=ls.map mP
attribute [local congr] Bh A_ A' Ap Bi Av Ax Aw Ao Ah Ab AZ Ar Ac As BI BM BK BL BJ BN BF Af Au Ag BD BQ Ae BG BH BE BB BC A9 BA Aq Ad
attribute [local irreducible] IntKind.wrap A5 Option.getD and or
end Go.Pw
end
section
open Go Go.Pw Go.Proofs
namespace Go.Pw
set_option linter.unusedSimpArgs false
set_option linter.unusedVariables false
set_option maxRecDepth 100000
set_option maxHeartbeats 3200000
theorem get_mem {l:List Nat} {i:Nat} (h:i < l.length):l[i]?.getD 0∈l:=by rw [Xi _ _ h];exact List.getElem_mem h
def ng (w:List F) (at_:List Nat):List F:=EA w at_ (List.replicate at_.length 0)
end Go.Pw
end
section
namespace Go.Pw
set_option linter.unusedSimpArgs false
set_option linter.unusedVariables false
end Go.Pw
end
section
open Go Go.Pw Go.Proofs
namespace Go.Pw
set_option linter.unusedSimpArgs false
set_option linter.unusedVariables false
set_option maxRecDepth 100000
set_option maxHeartbeats 3200000
attribute [local congr] Bh A_ A' Ap Bi Av Ax Aw Ao Ah Ab AZ Ar Ac As BI BM BK BL BJ BN BF Af Au Ag BD BQ Ae BG BH BE BB BC A9 BA Aq Ad
attribute [local irreducible] IntKind.wrap A5 Option.getD and or
end Go.Pw
end
section
open Go Go.Pw Go.Proofs
namespace Go.Pw
set_option linter.unusedSimpArgs false
set_option linter.unusedVariables false
set_option maxRecDepth 100000
set_option maxHeartbeats 3200000
def nu (o:Option (List F)):D:=match o with
 |some r=>.tup [.list false (Ai (iv r)),.bool true]
 |none=>.tup [.list true [],.bool false]
attribute [local congr] Bh A_ A' Ap Bi Av Ax Aw Ao Ah Ab AZ Ar Ac As BI BM BK BL BJ BN BF Af Au Ag BD BQ Ae BG BH BE BB BC A9 BA Aq Ad
attribute [local irreducible] IntKind.wrap A5 Option.getD and or
end Go.Pw
end
section
open Go Go.Pw Go.Proofs
namespace Go.Pw
set_option linter.unusedSimpArgs false
set_option linter.unusedVariables false
set_option maxRecDepth 100000
set_option maxHeartbeats 3200000
attribute [local congr] Bh A_ A' Ap Bi Av Ax Aw Ao Ah Ab AZ Ar Ac As BI BM BK BL BJ BN BF Af Au Ag BD BQ Ae BG BH BE BB BC A9 BA Aq Ad
attribute [local irreducible] IntKind.wrap A5 Option.getD and or
def nx (L P:Int) (ws ms:List Int):Int:=if DP L P=true then if CG ws L=true then if D9 ms L=true then 0 else 1 else 51 else 50
end Go.Pw
end
section
open Go Go.Pw Go.Proofs
namespace Go.Pw
set_option linter.unusedSimpArgs false
set_option linter.unusedVariables false
set_option maxRecDepth 100000
set_option maxHeartbeats 3200000
attribute [local congr] Bh A_ A' Ap Bi Av Ax Aw Ao Ah Ab AZ Ar Ac As BI BM BK BL BJ BN BF Af Au Ag BD BQ Ae BG BH BE BB BC A9 BA Aq Ad
attribute [local irreducible] IntKind.wrap A5 Option.getD and or
end Go.Pw
end
