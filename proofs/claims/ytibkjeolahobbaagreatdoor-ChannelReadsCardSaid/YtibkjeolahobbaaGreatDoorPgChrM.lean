/- A part of the proof. -/
import Derived.Test.YtibkjeolahobbaaGreatDoorPgChrJ
import Derived.Test.YtibkjeolahobbaaGreatDoorPgChrD
set_option linter.all false
open Go Go.Pw Go.Proofs
namespace Go.Pw
set_option maxRecDepth 100000
set_option maxHeartbeats 3200000
section
def decR (o:Option (List F)):D:=match o with
 |some r=>.tup [.list false (us r),.bool true]
 |none=>.tup [.list true [],.bool false]
theorem Ue (v:List F):decR (some v)=.tup [.list false (us v),.bool true]:=rfl
theorem Uf:decR none=.tup [.list true [],.bool false]:=rfl
theorem T1:B5 E0.P C_=true:=by kernel_rfl
theorem LZ {β:Type}{f:Nat->Option β}{e:Nat}{r:β}(h:∀i,i<e->f i=none) (he:f e=some r):∀N,e<N->(List.range N).findSome? f=some r
 |0,hN=>by omega
 |N+1,hN=>by
  rw[List.range_succ,List.findSome?_append]
  by_cases h2:e<N
  ·rw[LZ h he N h2];rfl
  ·have:e=N:=by omega
   subst this
   have hn:(List.range e).findSome? f=none:=by
    rw[List.findSome?_eq_none_iff];exact fun i hi=>h i (by simpa using hi)
   rw[hn]
   simp[he]
noncomputable def V7 (L P:Nat) (w:List F) (mk:List Nat) (e:Nat):Option (List F):=(Bq L mk e 0).findSome? (hit L P w mk)
theorem bL {L P:Nat}{w r:List F}{mk:List Nat}{e:Nat}(h:∀i,i<e->V7 L P w mk i=none) (he:V7 L P w mk e=some r) (hb:2*e+mk.length<=P):G9 L P w mk=some r:=by
 unfold G9
 rw[if_pos (by omega)]
 exact LZ h he _ (by omega)
theorem X7 {L P:Nat}{w:List F}{mk:List Nat}{e:Nat}(h:∀i,i<e->V7 L P w mk i=none) (hb:¬2*e+mk.length<=P):G9 L P w mk=none:=by
 unfold G9
 split
 ·rw[List.findSome?_eq_none_iff]
  intro i hi
  simp at hi
  exact h i (by omega)
 ·rfl
theorem ji {L P:Nat}{w:List F}{mk:List Nat}(n2:Bool) (hL:L<=15) (hL1:1<=L) (hP:1<=P) (hP2:P<=15) (hw:w.length=L) (hm:Yd L mk) :
  qp (hit L P w mk) (fun l=>Us L mk 0 l/\2*l.length+mk.length<=P) C_ [.d (.ptr [.list n2 (Ab (ni mk))]),.d (.ptr [.int .i64 L,.int .i64 P]),.d (.ptr [.list false (us (GD L P w))]),.d (.ptr [.list false (us w)]),.ptr 900004 0 0,.ptr 901004 0 0] :=
 ⟨T1,rfl,fun V os h1 h2=>by simp[AV.nrm,AV.nrm.nrmL,h1,h2],rfl,⟨rfl,rfl,rfl,rfl,rfl,rfl,trivial⟩,fun nl l b o fnd hA _ =>
  V3 L P nl n2 false b fnd o w mk l hL hL1 hP hP2 hw (RO hm hA.1) (by have:=hA.2;simp;omega) rfl⟩
attribute [local congr] Bm A' BA Au Bn Az A1 A0 Ar Al Af Aa Aw Ag Ax BM BQ BO BP BN BR BG Aj Ay Ak BE BX Ai BK BL BF BH BJ BI BC BD A_ Bp BB Av Ah
attribute [local irreducible] IntKind.wrap A3 Option.getD and or
theorem Ns (L P:Nat) (n1 n2:Bool) (w:List F) (mk:List Nat) (hL:L<=15) (hL1:1<=L) (hP:1<=P) (hP2:P<=15) (hw:w.length=L) (hm:Yd L mk) (hml:mk.length<=100) (hn1:n1=false) :
  CA E0 GO [QM L P,.list n1 (us w),.list n2 (Ab (ni mk))] (decR (G9 L P w mk)):=by
 subst hn1
 have c1:=QJ L P false w hL hL1 hP hP2 hw
 have hY:=ji (P:=P) n2 hL hL1 hP hP2 hw hm
 refine AL JZ An (by simp) fun hwf=>?_
 rw[AR];unfold Ft
 rw[Bc] at c1 ⊢
 (try (simp -implicitDefEqProofs only[go_sem]));repeat' first|(with_reducible first|exact tI|refine aI ?_ ?_|intro _)|((first|with_reducible refine AK ?_ ?_<;>intro _|(with_reducible refine isCall ?_);first|refine AE c1 ?_)<;>try (simp -implicitDefEqProofs only[go_sem]))|simp (disch:=omega) only[Ae]|((with_reducible refine Bf ?_);refine⟨(_,_,_,_),rfl,?_,?_⟩)
 all_goals first|omega|(simp<;>omega)|skip
 refine AX (α:=Nat×Bool×(List F)×Bool) (l0:=?l1) (m0:=?m1) (fun x=>[(9,.d (.int .i64 (x.1:Int)))]) (fun x=>[(6,.cells [.d (.list x.2.1 (us x.2.2.1))]),(7,.cells [.d (.bool x.2.2.2)])]) (fun x=>x.1<=100/\((x.2.2.2=false/\x.2.1=true/\x.2.2.1=[]/\∀i,i<x.1->V7 L P w mk i=none)\/(x.2.2.2=true/\x.2.1=false/\G9 L P w mk=some x.2.2.1))) (fun x=>(if x.2.2.2 then 0 else 101-x.1)) (0,true,[],false) ?h01 ?he1 ?he21 ?hI1 ?step1
 case h01=>(simp -implicitDefEqProofs only[go_sem];rfl)
 case he1=>rfl
 case he21=>rfl
 case' step1=>(rintro⟨e,b,o,fnd⟩ hI;try dsimp only at hI)
 case' hI1=>try dsimp only
 ·exact⟨by omega,.inl ⟨rfl,rfl,rfl,fun i hi=>absurd hi (by omega)⟩⟩
 ·obtain⟨h1,h2⟩:=hI
  have hw2:IntKind.i64.wrap (2*(e:Int))=2*(e:Int):=AZ _ (by omega)
  have hw3:IntKind.i64.wrap (2*(e:Int)+(mk.length:Int))=2*(e:Int)+(mk.length:Int):=AZ _ (by omega)
  have hw4:IntKind.i64.wrap ((e:Int)+1)=((e+1:Nat):Int):=by rw[AZ _ (by omega)];omega
  rcases h2 with⟨rfl,rfl,rfl,h3⟩|⟨rfl,rfl,h3⟩
  ·by_cases hb:2*e+mk.length<=P
   ·have hb':2*(e:Int)+(mk.length:Int)<=(P:Int):=by omega
    have c2:=Qq L P n2 mk hL e 0 hY (fun l hl=>⟨(HV L mk e 0 l hl).2,by rw[(HV L mk e 0 l hl).1];exact hb⟩) (by omega) (by omega) true [] false
    rw[show (((0:Nat):Int))=0 from rfl] at c2
    rw[Bc] at c2
    obtain⟨R,hR⟩:∃R,V7 L P w mk e=R:=⟨_,rfl⟩
    rw[show (Bq L mk e 0).findSome? (hit L P w mk)=R from hR] at c2
    cases R with
    |none =>
     rw[Ju,Option.isNone_none] at c2
     unfold vv at c2
     have hn:∀i,i<e+1->V7 L P w mk i=none:=fun i hi=>by
      rcases Nat.lt_succ_iff_lt_or_eq.1 hi with hi|rfl
      ·exact h3 i hi
      ·exact hR
     (try (simp -implicitDefEqProofs only[go_sem,hw2,hw3,hb',hw4]));repeat' first|(with_reducible first|exact tI|refine aI ?_ ?_|intro _)|((first|with_reducible refine AK ?_ ?_<;>intro _|(with_reducible refine isCall ?_);first|(refine FA ([((900004,0),(6,0)),((901004,0),(7,0))]) ([((900004,0),(6,0)),((901004,0),(7,0))]) (c2) (by repeat' first|exact True.intro|exact rfl|refine And.intro ?_ ?_) (by simp[Handed,Dv.get,Am.ren,AV.ren,AV.ren.renL,AN.get,Be,CH,D8,AN.reach,AV.sites,AV.sites.sitesL,AN.osites]) (by simp[Ca,E',Cc,Dv.get,D8,EF,CU]) (by rfl) (by simp only[D9,Dv.get,Am.ren,AV.ren,AV.ren.renL,and_self,and_true,true_and,if_true,reduceIte];rfl) ?_))<;>try (simp -implicitDefEqProofs only[go_sem,hw2,hw3,hb',hw4]))|simp (disch:=omega) only[Ae]|((with_reducible refine Bf ?_);refine⟨(_,_,_,_),rfl,?_,?_⟩)
     all_goals first|omega|(simp<;>omega)|skip
     all_goals first|exact .inl ⟨trivial,trivial,trivial,hn⟩|skip
    |some r =>
     have hfin:=bL h3 hR hb
     rw[Jt,Option.isNone_some] at c2
     unfold vv at c2
     (try (simp -implicitDefEqProofs only[go_sem,hw2,hw3,hb',hw4]));repeat' first|(with_reducible first|exact tI|refine aI ?_ ?_|intro _)|((first|with_reducible refine AK ?_ ?_<;>intro _|(with_reducible refine isCall ?_);first|(refine FA ([((900004,0),(6,0)),((901004,0),(7,0))]) ([((900004,0),(6,0)),((901004,0),(7,0))]) (c2) (by repeat' first|exact True.intro|exact rfl|refine And.intro ?_ ?_) (by simp[Handed,Dv.get,Am.ren,AV.ren,AV.ren.renL,AN.get,Be,CH,D8,AN.reach,AV.sites,AV.sites.sitesL,AN.osites]) (by simp[Ca,E',Cc,Dv.get,D8,EF,CU]) (by rfl) (by simp only[D9,Dv.get,Am.ren,AV.ren,AV.ren.renL,and_self,and_true,true_and,if_true,reduceIte];rfl) ?_))<;>try (simp -implicitDefEqProofs only[go_sem,hw2,hw3,hb',hw4]))|simp (disch:=omega) only[Ae]|((with_reducible refine Bf ?_);refine⟨(_,_,_,_),rfl,?_,?_⟩)
     all_goals first|omega|(simp<;>omega)|skip
     all_goals first|exact .inr ⟨trivial,trivial,hfin⟩|skip
   ·have hb':¬2*(e:Int)+(mk.length:Int)<=(P:Int):=by omega
    rw[X7 h3 hb,Uf]
    (try (simp -implicitDefEqProofs only[go_sem,hw2,hw3,hb',hw4]));repeat' first|(with_reducible first|exact tI|refine aI ?_ ?_|intro _)|((first|with_reducible refine AK ?_ ?_<;>intro _)<;>try (simp -implicitDefEqProofs only[go_sem,hw2,hw3,hb',hw4]))|simp (disch:=omega) only[Ae]|((with_reducible refine Bf ?_);refine⟨(_,_,_,_),rfl,?_,?_⟩)
    all_goals first|omega|(simp<;>omega)|skip
    all_goals first|rfl|skip
  ·rw[h3,Ue]
   (try (simp -implicitDefEqProofs only[go_sem,hw2,hw3,hw4]));repeat' first|(with_reducible first|exact tI|refine aI ?_ ?_|intro _)|((first|with_reducible refine AK ?_ ?_<;>intro _)<;>try (simp -implicitDefEqProofs only[go_sem,hw2,hw3,hw4]))|simp (disch:=omega) only[Ae]|((with_reducible refine Bf ?_);refine⟨(_,_,_,_),rfl,?_,?_⟩)
   all_goals first|omega|(simp<;>omega)|skip
   all_goals first|rfl|skip
end
theorem jI (n i:Nat):Re (n+1) i=gp (i*n)::Re n i:=by
 unfold Re
 rw[List.range_succ_eq_map,List.map_cons,List.map_map]
 congr 1
 apply List.map_congr_left
 intro j hj
 show WN (n+1) i (j+1)=WN n i j
 unfold WN
 rw[show n+1-1-(j+1)=n-1-j by omega]
def Nd (i:Nat) (w:List F):F:=FS w (Re w.length i)
theorem ib (i:Nat):Nd i []=0:=rfl
theorem RY (i:Nat) (y:F) (ys:List F):Nd i (y::ys)=fa (fm y (gp (i*ys.length))) (Nd i ys):=by
 show FS (y::ys) (Re (ys.length+1) i)=_
 rw[jI];rfl
theorem pd (i:Nat) (l:List F) (o:Nat) (y:F) (h:o<l.length):Nd i (l.set o y)=fa (Nd i l) (fm (fa (l[o]?.getD 0) y) (gp (i*(l.length-1-o)))):=by
 unfold Nd
 rw[List.length_set,Vv y l _ o h (by rw[MV];omega),Rd _ _ _ h];rfl
def DF:List F->Nat->F->List F->List F
 |l,o,b,[]=>l
 |l,o,b,y::ys=>DF (l.set o (fa (l[o]?.getD 0) (fm b y))) (o+1) b ys
theorem Jh:∀(g l:List F) (o:Nat) (b:F),(DF l o b g).length=l.length
 |[],l,o,b=>rfl
 |y::ys,l,o,b=>by show (DF _ (o+1) b ys).length=_;rw[Jh ys];simp
theorem TP (y:F):∀(g l:List F) (o:Nat) (b:F),DF l o b (g++[y])=(DF l o b g).set (o+g.length) (fa ((DF l o b g)[o+g.length]?.getD 0) (fm b y))
 |[],l,o,b=>rfl
 |z::zs,l,o,b=>by
  show DF _ (o+1) b (zs++[y])=_
  rw[TP y zs]
  show _=(DF (l.set o (fa (l[o]?.getD 0) (fm b z))) (o+1) b zs).set (o+(zs.length+1)) (fa ((DF (l.set o (fa (l[o]?.getD 0) (fm b z))) (o+1) b zs)[o+(zs.length+1)]?.getD 0) (fm b y))
  rw[show o+1+zs.length=o+(zs.length+1) by omega]
theorem TQ (j:Nat):∀(g l:List F) (o:Nat) (b:F),j<o->(DF l o b g)[j]?.getD 0=l[j]?.getD 0
 |[],l,o,b,_=>rfl
 |y::ys,l,o,b,h=>by
  show (DF _ (o+1) b ys)[j]?.getD 0=_
  rw[TQ j ys _ (o+1) b (by omega),List.getElem?_set_ne (by omega)]
theorem Sg (i:Nat):∀(g l:List F) (o:Nat) (b:F),o+g.length<=l.length->Nd i (DF l o b g)=fa (Nd i l) (fm (fm b (Nd i g)) (gp (i*(l.length-o-g.length))))
 |[],l,o,b,h=>by show Nd i l=_;rw[ib,Dj,Cj,C8]
 |y::ys,l,o,b,h=>by
  simp only[List.length_cons] at h
  show Nd i (DF _ (o+1) b ys)=_
  rw[Sg i ys _ (o+1) b (by rw[List.length_set];omega),pd i l o _ (by omega),RY,List.length_set,List.length_cons]
  rw[←EJ (l[o]?.getD 0),Fy,IA,M7,EJ]
  congr 1
  have e1:l.length-1-o=ys.length+(l.length-o-(ys.length+1)):=by omega
  have e2:l.length-(o+1)-ys.length=l.length-o-(ys.length+1):=by omega
  rw[e1,e2,Nat.mul_add,Vd,DV (fa _ _),M7,DV (gp (i*(l.length-o-(ys.length+1)))),DV (gp (i*(l.length-o-(ys.length+1))))]
  simp only[Fx]
theorem Se (i:Nat):∀a:List F,Nd i (a++[0])=fm (Nd i a) (gp i)
 |[]=>by
  show Nd i [0]=_
  rw[RY,Cj,ib,Cj,C8]
 |y::ys=>by
  show Nd i (y::(ys++[0]))=_
  rw[RY,RY,Se i ys,List.length_append,List.length_singleton,Nat.mul_add,Nat.mul_one,Vd,DV (fa _ _),M7,DV (gp i) (Nd i ys),DV (gp i) (fm y _),Fx]
theorem mA (i:Nat) (a:List F) (h:Nd i a=0):∀n,Nd i (a++List.replicate n 0)=0
 |0=>by simpa using h
 |n+1=>by rw[List.replicate_succ',←List.append_assoc,Se,mA i a h n,Cj]
def JW:Nat->List F
 |0=>[1]
 |i+1=>DF (JW i++[0]) 1 (gp i) (JW i)
theorem Lf:∀i,(JW i).length=i+1
 |0=>rfl
 |i+1=>by show (DF (JW i++[0]) 1 (gp i) (JW i)).length=_;rw[Jh];simp[Lf i]
theorem iy:∀i,(JW i)[0]?.getD 0=1
 |0=>rfl
 |i+1=>by
  show (DF (JW i++[0]) 1 (gp i) (JW i))[0]?.getD 0=1
  rw[TQ 0 _ _ 1 _ (by omega),List.getElem?_append_left (by rw[Lf];omega),iy i]
theorem ii (r:Nat):∀i,r<i->Nd r (JW i)=0
 |0,h=>by omega
 |i+1,h=>by
  show Nd r (DF (JW i++[0]) 1 (gp i) (JW i))=0
  rw[Sg r _ _ _ _ (by simp;omega),Se,List.length_append,Lf]
  rw[show i+1+([(0:F)]).length-1-(i+1)=0 by simp,Nat.mul_zero,Va,J6,DV (gp i)]
  by_cases hr:r<i
  ·rw[ii r i hr,Cj,Cj,C8]
  ·have:r=i:=by omega
   subst this
   rw[Fy]
def Gd (g d:List F) (P:Nat):Nat->List F
 |0=>d++List.replicate P 0
 |i+1=>DF (Gd g d P i) i ((Gd g d P i)[i]?.getD 0) g
theorem HW (g d:List F) (P:Nat):∀i,(Gd g d P i).length=d.length+P
 |0=>by simp[Gd]
 |i+1=>by show (DF _ _ _ _).length=_;rw[Jh,HW g d P i]
theorem ah (g d:List F) (P:Nat) (hg:g[0]?.getD 0=1):∀i,i<=d.length->∀j,j<i->(Gd g d P i)[j]?.getD 0=0
 |0,_,j,hj=>by omega
 |i+1,hi,j,hj=>by
  show (DF (Gd g d P i) i ((Gd g d P i)[i]?.getD 0) g)[j]?.getD 0=0
  cases g with
  |nil=>exact absurd hg (by decide)
  |cons y ys =>
   have hy:y=1:=by simpa using hg
   subst hy
   show (DF ((Gd (1::ys) d P i).set i _) (i+1) _ ys)[j]?.getD 0=0
   rw[TQ j _ _ _ _ (by omega)]
   by_cases h:j=i
   ·subst h
    rw[J6,Fy,List.getElem?_set_self (by rw[HW];omega)];rfl
   ·rw[List.getElem?_set_ne (fun e=>h e.symm)]
    exact ah (1::ys) d P rfl i (by omega) j (by omega)
theorem bJ (r:Nat) (g d:List F) (P:Nat) (hg:Nd r g=0) (hl:g.length=P+1):∀i,i<=d.length->Nd r (Gd g d P i)=Nd r (d++List.replicate P 0)
 |0,_=>rfl
 |i+1,hi=>by
  show Nd r (DF _ _ _ _)=_
  rw[Sg r _ _ _ _ (by rw[HW];omega),hg,Dj,Cj,C8]
  exact bJ r g d P hg hl i (by omega)
def Fl (P:Nat) (d:List F):List F:=d++(Gd (JW P) d P d.length).drop d.length
theorem Gp (P:Nat) (d:List F):(Fl P d).length=d.length+P:=by
 unfold Fl;rw[List.length_append,List.length_drop,HW];omega
theorem ip (P:Nat) (d:List F) (j:Nat) (h:j<d.length):(Fl P d)[j]?.getD 0=d[j]?.getD 0:=by
 unfold Fl;rw[List.getElem?_append_left h]
theorem pn (L P:Nat) (w:List F) (hw:w.length=L):nZ L P w↔∀i,i<P->Nd i w=0:=by
 subst hw
 constructor
 ·intro h i hi
  have:=h i hi
  rwa [show EY (GD w.length P w) i=FS w (Re w.length i) from I8 _ _ _ _ hi] at this
 ·intro h i hi
  rw[show EY (GD w.length P w) i=FS w (Re w.length i) from I8 _ _ _ _ hi]
  exact h i hi
theorem Xz (P:Nat) (d:List F):nZ (d.length+P) P (Fl P d):=by
 rw[pn _ _ _ (Gp P d)]
 intro i hi
 obtain⟨R,hR⟩:∃R,Gd (JW P) d P d.length=R:=⟨_,rfl⟩
 have hl:R.length=d.length+P:=by rw[←hR];exact HW _ _ _ _
 have h0:∀j,j<d.length->R[j]?.getD 0=0:=by rw[←hR];exact ah _ _ _ (iy P) _ (Nat.le_refl _)
 have he:Nd i R=Nd i (d++List.replicate P 0):=by rw[←hR];exact bJ i _ _ _ (ii i P hi) (Lf P) _ (Nat.le_refl _)
 have hlen:(d++List.replicate P (0:F)).length=R.length:=by simp[hl]
 have hE:Fl P d=Du (d++List.replicate P 0) R 1:=by
  apply Xo
  ·rw[Gp,Hz _ _ _ hlen];simp
  ·intro j hj
   rw[Gp] at hj
   show (Fl P d)[j]?.getD 0=(Du (d++List.replicate P 0) R 1)[j]?.getD 0
   rw[show (Du (d++List.replicate P 0) R 1)[j]?.getD 0=fa ((d++List.replicate P (0:F))[j]?.getD 0) (fm (R[j]?.getD 0) 1) from Lr _ _ _ _ hlen]
   unfold Fl
   rw[hR,J6]
   by_cases h:j<d.length
   ·rw[List.getElem?_append_left h,List.getElem?_append_left h,h0 j h,C8]
   ·rw[List.getElem?_append_right (by omega),List.getElem?_append_right (by omega),List.getElem?_drop,List.getElem?_replicate,if_pos (by omega),show d.length+(j-d.length)=j by omega]
    exact(IA _).symm
 rw[hE]
 unfold Nd
 have h2:(Du (d++List.replicate P 0) R 1).length=(d++List.replicate P (0:F)).length:=by rw[Hz _ _ _ hlen]
 rw[h2,Oi _ _ _ _ hlen]
 have h3:Nd i (d++List.replicate P (0:F))=FS (d++List.replicate P (0:F)) (Re (d++List.replicate P (0:F)).length i):=rfl
 have h4:Nd i R=FS R (Re (d++List.replicate P (0:F)).length i):=by unfold Nd;rw[hlen]
 rw[←h3,←h4,he,VP,Fy]
section
theorem TN (l g:List F) (o k:Nat) (b:F) (h:k<g.length):(DF l o b (g.take k)).set (o+k) (fa ((DF l o b (g.take k))[o+k]?.getD 0) (fm b (g[k]?.getD 0)))=DF l o b (g.take (k+1)):=by
 rw[←Bb g 0 k h,TP]
 rw[show (g.take k).length=k by simp;omega]
theorem YY (l g:List F) (k:Nat) (b:F) (h:k<g.length):(DF l 1 b (g.take k)).set (k+1) (fa ((DF l 1 b (g.take k))[k+1]?.getD 0) (fm (g[k]?.getD 0) b))=DF l 1 b (g.take (k+1)):=by
 rw[←TN l g 1 k b h,DV b,Nat.add_comm 1 k]
attribute [local congr] Bm A' BA Au Bn Az A1 A0 Ar Al Af Aa Aw Ag Ax BM BQ BO BP BN BR BG Aj Ay Ak BE BX Ai BK BL BF BH BJ BI BC BD A_ Bp BB Av Ah
attribute [local irreducible] IntKind.wrap A3 Option.getD and or
theorem Nr (L P:Nat) (n1:Bool) (d:List F) (hL:L<=15) (hP:1<=P) (hd:d.length+P=L) (hd1:1<=d.length) (hn1:n1=false) :
  CA E0 GN [QM L P,.list n1 (us d)] (.list false (us (Fl P d))):=by
 subst hn1
 have c0:=I4 false d (by omega) (by omega) rfl
 refine AL JY An (by simp) fun hwf=>?_
 rw[AR];unfold Fs
 rw[Bc]
 (try (simp -implicitDefEqProofs only[go_sem]));repeat' first|(with_reducible first|exact tI|refine aI ?_ ?_|intro _)|((first|with_reducible refine AK ?_ ?_<;>intro _)<;>try (simp -implicitDefEqProofs only[go_sem]))|simp (disch:=omega) only[Ae]|((with_reducible refine Ad ?_);refine⟨_,rfl,?_,?_⟩)
 all_goals first|omega|(simp<;>omega)|skip
 rw[show ([D.int .u8 1]:List D)=us (JW 0) from rfl]
 refine AX (α:=Nat) (l0:=?l1) (m0:=?m1) (fun x=>[(19,.d (.int .i64 (x:Int))),(5,.d (.list false (us (JW x))))]) (fun x=>[]) (fun x=>x<=P) (fun x=>P-x) 0 ?h01 ?he1 ?he21 ?hI1 ?step1
 case h01=>(simp -implicitDefEqProofs only[go_sem];rfl)
 case he1=>rfl
 case he21=>rfl
 case' step1=>(rintro i hI;try dsimp only at hI)
 case' hI1=>try dsimp only
 ·exact Nat.zero_le _
 ·have hgl:=Lf i
  by_cases h:i<P
  ·have h':(i:Int)<(P:Int):=by omega
   have hwi:IntKind.i64.wrap ((i:Int)+1)=((i+1:Nat):Int):=by rw[AZ _ (by omega)];omega
   have hG:JW (i+1)=DF (JW i++[0]) 1 (gp i) (JW i):=rfl
   obtain⟨G,hGe⟩:∃G,JW i=G:=⟨_,rfl⟩
   rw[hGe] at hgl hG ⊢
   have c1:=I4 false G (by omega) (by omega) rfl
   have c2:=Ed i (by omega)
   (try (simp -implicitDefEqProofs only[go_sem,h',Rm]));repeat' first|(with_reducible first|exact tI|refine aI ?_ ?_|intro _)|((first|with_reducible refine AK ?_ ?_<;>intro _|(with_reducible refine isCall ?_);first|(refine FA ([]) ([((7,1),(23,1))]) (c1) (by repeat' first|exact True.intro|exact rfl|refine And.intro ?_ ?_) (by simp[Handed,Dv.get,Am.ren,AV.ren,AV.ren.renL,AN.get,Be,CH,D8,AN.reach,AV.sites,AV.sites.sitesL,AN.osites]) (by simp[Ca,E',Cc,Dv.get,D8,EF,CU]) (by rfl) (by simp only[D9,Dv.get,Am.ren,AV.ren,AV.ren.renL,and_self,and_true,true_and,if_true,reduceIte];rfl) ?_))<;>try (simp -implicitDefEqProofs only[go_sem,h',Rm]))|simp (disch:=omega) only[Ae]|((with_reducible refine Ad ?_);refine⟨_,rfl,?_,?_⟩)
   all_goals first|omega|(simp<;>omega)|skip
   refine AX (α:=Nat) (l0:=?l2) (m0:=?m2) (fun x=>[(28,.d (.int .i64 (x:Int)))]) (fun x=>[(23,.row 135 1 false (us (DF (G++[0]) 1 (gp i) (G.take x))))]) (fun x=>x<=G.length) (fun x=>G.length-x) 0 ?h02 ?he2 ?he22 ?hI2 ?step2
   case h02=>(simp -implicitDefEqProofs only[go_sem];rfl)
   case he2=>rfl
   case he22=>rfl
   case' step2=>(rintro k hI2;try dsimp only at hI2)
   case' hI2=>try dsimp only
   ·exact Nat.zero_le _
   ·have hA:=Jh (G.take k) (G++[0]) 1 (gp i)
    rw[List.length_append,List.length_singleton] at hA
    by_cases hk:k<G.length
    ·have hk':(k:Int)<(G.length:Int):=by omega
     have hwk:IntKind.i64.wrap ((k:Int)+1)=((k+1:Nat):Int):=by rw[AZ _ (by omega)];omega
     have c3:=Dl (G[k]?.getD 0) (gp i)
     have hst:=YY (G++[0]) G k (gp i) hk
     (try (simp -implicitDefEqProofs only[go_sem,hk',hwk,hA,hst]));repeat' first|(with_reducible first|exact tI|refine aI ?_ ?_|intro _)|((first|with_reducible refine AK ?_ ?_<;>intro _|(with_reducible refine isCall ?_);first|refine AE c2 ?_|refine AE c3 ?_)<;>try (simp -implicitDefEqProofs only[go_sem,hk',hwk,hA,hst]))|simp (disch:=omega) only[Ae]|((with_reducible refine Ad ?_);refine⟨_,rfl,?_,?_⟩)
     all_goals first|omega|(simp<;>omega)|skip
     all_goals first|rfl|(simp at *;done)|(simp at *;omega)|skip
    ·have hk':¬(k:Int)<(G.length:Int):=by omega
     have hke:G.take k=G:=List.take_of_length_le (by omega)
     rw[hke,←hG]
     (try (simp -implicitDefEqProofs only[go_sem,hk',hwi]));repeat' first|(with_reducible first|exact tI|refine aI ?_ ?_|intro _)|((first|with_reducible refine AK ?_ ?_<;>intro _)<;>try (simp -implicitDefEqProofs only[go_sem,hk',hwi]))|simp (disch:=omega) only[Ae]|((with_reducible refine Ad ?_);refine⟨_,rfl,?_,?_⟩)
     all_goals first|omega|(simp<;>omega)|skip
     all_goals first|rfl|omega|skip
  ·have h':¬(i:Int)<(P:Int):=by omega
   have hie:i=P:=by omega
   subst hie
   obtain⟨G,hGe⟩:∃G,JW i=G:=⟨_,rfl⟩
   rw[hGe] at hgl ⊢
   (try (simp -implicitDefEqProofs only[go_sem,h',Uz,Ym]));repeat' first|(with_reducible first|exact tI|refine aI ?_ ?_|intro _)|((first|with_reducible refine AK ?_ ?_<;>intro _|(with_reducible refine isCall ?_);first|(refine FA ([]) ([((7,1),(48,1))]) (c0) (by repeat' first|exact True.intro|exact rfl|refine And.intro ?_ ?_) (by simp[Handed,Dv.get,Am.ren,AV.ren,AV.ren.renL,AN.get,Be,CH,D8,AN.reach,AV.sites,AV.sites.sitesL,AN.osites]) (by simp[Ca,E',Cc,Dv.get,D8,EF,CU]) (by rfl) (by simp only[D9,Dv.get,Am.ren,AV.ren,AV.ren.renL,and_self,and_true,true_and,if_true,reduceIte];rfl) ?_))<;>try (simp -implicitDefEqProofs only[go_sem,h',Uz,Ym]))|simp (disch:=omega) only[Ae]|((with_reducible refine Ad ?_);refine⟨_,rfl,?_,?_⟩)
   all_goals first|omega|(simp<;>omega)|skip
   rw[show us (d++List.replicate i 0)=us (Gd G d i 0) from rfl]
   refine AX (α:=Nat) (l0:=?l3) (m0:=?m3) (fun x=>[(55,.d (.int .i64 (x:Int)))]) (fun x=>[(48,.row 135 1 false (us (Gd G d i x)))]) (fun x=>x<=d.length) (fun x=>d.length-x) 0 ?h03 ?he3 ?he23 ?hI3 ?step3
   case h03=>(simp -implicitDefEqProofs only[go_sem];rfl)
   case he3=>rfl
   case he23=>rfl
   case' step3=>(rintro m hI3;try dsimp only at hI3)
   case' hI3=>try dsimp only
   ·exact Nat.zero_le _
   ·have hrl:=HW G d i m
    have hrs:Gd G d i (m+1)=DF (Gd G d i m) m ((Gd G d i m)[m]?.getD 0) G:=rfl
    obtain⟨R,hR⟩:∃R,Gd G d i m=R:=⟨_,rfl⟩
    rw[hR] at hrl hrs ⊢
    by_cases hm:m<d.length
    ·have hm':(m:Int)<(d.length:Int):=by omega
     have hwm:IntKind.i64.wrap ((m:Int)+1)=((m+1:Nat):Int):=by rw[AZ _ (by omega)];omega
     have hmR:m<R.length:=by omega
     obtain⟨B,hB⟩:∃B,R[m]?.getD 0=B:=⟨_,rfl⟩
     rw[hB] at hrs
     (try (simp -implicitDefEqProofs only[go_sem,hm',hmR,hB]));repeat' first|(with_reducible first|exact tI|refine aI ?_ ?_|intro _)|((first|with_reducible refine AK ?_ ?_<;>intro _)<;>try (simp -implicitDefEqProofs only[go_sem,hm',hmR,hB]))|simp (disch:=omega) only[Ae]|((with_reducible refine Ad ?_);refine⟨_,rfl,?_,?_⟩)
     all_goals first|omega|(simp<;>omega)|skip
     rw[show us R=us (DF R m B (G.take 0)) from rfl]
     refine AX (α:=Nat) (l0:=?l4) (m0:=?m4) (fun x=>[(64,.d (.int .i64 (x:Int)))]) (fun x=>[(48,.row 135 1 false (us (DF R m B (G.take x))))]) (fun x=>x<=G.length) (fun x=>G.length-x) 0 ?h04 ?he4 ?he24 ?hI4 ?step4
     case h04=>(simp -implicitDefEqProofs only[go_sem];rfl)
     case he4=>rfl
     case he24=>rfl
     case' step4=>(rintro k hI4;try dsimp only at hI4)
     case' hI4=>try dsimp only
     ·exact Nat.zero_le _
     ·have hA:=Jh (G.take k) R m B
      by_cases hk:k<G.length
      ·have hk':(k:Int)<(G.length:Int):=by omega
       have hwk:IntKind.i64.wrap ((k:Int)+1)=((k+1:Nat):Int):=by rw[AZ _ (by omega)];omega
       have hwmk:IntKind.i64.wrap ((m:Int)+(k:Int))=((m+k:Nat):Int):=by rw[AZ _ (by omega)];omega
       have hmk:m+k<R.length:=by omega
       have c3:=Dl B (G[k]?.getD 0)
       have hst:=TN R G m k B hk
       (try (simp -implicitDefEqProofs only[go_sem,hk',hwk,hwmk,hA,hmk,hst]));repeat' first|(with_reducible first|exact tI|refine aI ?_ ?_|intro _)|((first|with_reducible refine AK ?_ ?_<;>intro _|(with_reducible refine isCall ?_);first|refine AE c3 ?_)<;>try (simp -implicitDefEqProofs only[go_sem,hk',hwk,hwmk,hA,hmk,hst]))|simp (disch:=omega) only[Ae]|((with_reducible refine Ad ?_);refine⟨_,rfl,?_,?_⟩)
       all_goals first|omega|(simp<;>omega)|skip
       all_goals first|rfl|(simp at *;done)|(simp at *;omega)|skip
      ·have hk':¬(k:Int)<(G.length:Int):=by omega
       have hke:G.take k=G:=List.take_of_length_le (by omega)
       rw[hke,←hrs]
       (try (simp -implicitDefEqProofs only[go_sem,hk',hwm]));repeat' first|(with_reducible first|exact tI|refine aI ?_ ?_|intro _)|((first|with_reducible refine AK ?_ ?_<;>intro _)<;>try (simp -implicitDefEqProofs only[go_sem,hk',hwm]))|simp (disch:=omega) only[Ae]|((with_reducible refine Ad ?_);refine⟨_,rfl,?_,?_⟩)
       all_goals first|omega|(simp<;>omega)|skip
       all_goals first|rfl|omega|skip
    ·have hm':¬(m:Int)<(d.length:Int):=by omega
     have hme:m=d.length:=by omega
     have c4:=TU false false d (R.drop d.length) (by omega) (by simp;omega)
     have hres:d++R.drop d.length=Fl i d:=by rw[←hR,hme,←hGe];rfl
     have hemp:(Fl i d).isEmpty=false:=by
      have h5:=Gp i d
      cases hE:Fl i d with
      |nil=>rw[hE] at h5;simp at h5;omega
      |cons=>rfl
     have hdr:List.take (d.length+i-d.length) (R.drop d.length)=R.drop d.length:=List.take_of_length_le (by simp;omega)
     rw[hres,hemp] at c4
     (try (simp -implicitDefEqProofs only[go_sem,hm',hrl,hdr]));repeat' first|(with_reducible first|exact tI|refine aI ?_ ?_|intro _)|((first|with_reducible refine AK ?_ ?_<;>intro _|(with_reducible refine isCall ?_);first|refine AE c4 ?_)<;>try (simp -implicitDefEqProofs only[go_sem,hm',hrl,hdr]))|simp (disch:=omega) only[Ae]|((with_reducible refine Ad ?_);refine⟨_,rfl,?_,?_⟩)
     all_goals first|omega|(simp<;>omega)|skip
     all_goals first|rfl|(simp at *;done)|(simp at *;omega)|skip
end
section
theorem Lp {L P:Int}(h:EM L P=true):2<=L/\L<=15/\1<=P/\P<=8/\P<L:=by simpa[EM] using h
theorem eF {L P:Int}(h:EM L P=true):∃l p:Nat,L=(l:Int)/\P=(p:Int)/\2<=l/\l<=15/\1<=p/\p<=8/\p<l:=by
 have:=Lp h
 exact⟨L.toNat,P.toNat,by omega,by omega,by omega,by omega,by omega,by omega,by omega⟩
def r7 (L P n:Int):Int:=if EM L P=true then if 0<=n/\n<=L then 0 else 1 else 50
def r8 (L P n:Int):Bool:=EM L P && (decide (0<=n/\n<=L) && decide (P<n+P/2))
def mw (L:Nat):Nat->Nat×Nat
 |0=>(0,1)
 |e+1=>((mw L e).1+(mw L e).2,(mw L e).2*(L-e)*15/(e+1))
def ri (L P:Nat):Nat:=(mw L (P/2+1)).1
def rh (L P:Nat):Nat:=Nat.gcd (ri L P) (2^(4*P))
def sN (L P:Int):Int:=if EM L P=true then ((ri L.toNat P.toNat/rh L.toNat P.toNat:Nat):Int) else 0
def sM (L P:Int):Int:=if EM L P=true then ((2^(4*P.toNat)/rh L.toNat P.toNat:Nat):Int) else 0
theorem Rq (a b:Nat):Int.tdiv (a:Int) (b:Int)=((a/b:Nat):Int):=by
 rw[Int.tdiv_eq_ediv_of_nonneg (by omega)];rfl
theorem WZ (a b:Nat):Int.tmod (a:Int) (b:Int)=((a%b:Nat):Int):=by
 rw[Int.tmod_eq_emod_of_nonneg (by omega)];rfl
attribute [local congr] Bm A' BA Au Bn Az A1 A0 Ar Al Af Aa Aw Ag Ax BM BQ BO BP BN BR BG Aj Ay Ak BE BX Ai BK BL BF BH BJ BI BC BD A_ Bp BB Av Ah
attribute [local irreducible] IntKind.wrap A3 Option.getD and or
end
def fs (xs:List Int):List F:=xs.map fun x=>Fin.ofNat 16 x.toNat
theorem Vf (xs:List Int):(fs xs).length=xs.length:=by simp[fs]
theorem Xb:∀{xs:List Int},xs.all Kx=true->iv (fs xs)=xs
 |[],_=>rfl
 |x::xs,h=>by
  simp only[List.all_cons,Bool.and_eq_true] at h
  have hx:0<=x/\x<=15:=by simpa[Kx] using h.1
  show ((Fin.ofNat 16 x.toNat).val:Int)::iv (fs xs)=x::xs
  rw[Xb h.2]
  congr 1
  show ((x.toNat%16:Nat):Int)=x
  omega
theorem re (w:List F):fs (iv w)=w:=by
 apply pL.1
 apply Xb
 rw[List.all_eq_true]
 intro x hx
 simp[iv] at hx
 obtain⟨a,_,rfl⟩:=hx
 have:=a.isLt
 simp[Kx];omega
theorem pN (w:List F):(iv w).all Kx=true:=by
 rw[List.all_eq_true]
 intro x hx
 simp[iv] at hx
 obtain⟨a,_,rfl⟩:=hx
 have:=a.isLt
 simp[Kx];omega
theorem Wa (w:List F) (m:Int):CP (iv w) m=decide ((w.length:Int)=m):=by
 unfold CP;rw[pN,Bool.and_true,G6]
theorem K6 {xs:List Int}{m:Int}(h:CP xs m=true):(xs.length:Int)=m/\iv (fs xs)=xs:=by
 unfold CP at h
 simp only[Bool.and_eq_true,decide_eq_true_eq] at h
 exact⟨h.1,Xb h.2⟩
def nt (ms:List Int):List Nat:=ms.map Int.toNat
theorem o7 (ms:List Int):(nt ms).length=ms.length:=by simp[nt]
theorem MP {ms:List Int}{m:Int}(h:Da ms m=true) {i:Nat}(hi:i<ms.length):0<=ms[i]?.getD 0/\ms[i]?.getD 0<m/\(0<i->ms[i-1]?.getD 0<ms[i]?.getD 0):=by
 have:=(List.all_eq_true.1 h) i (by simpa using hi)
 simp only[cy,decide_eq_true_eq] at this
 exact this
theorem nG {ms:List Int}{m:Int}(h:Da ms m=true):ni (nt ms)=ms:=by
 apply List.ext_getElem
 ·simp[ni,nt]
 ·intro i h1 h2
  have:=(MP h h2).1
  rw[List.getElem?_eq_getElem h2] at this
  simp[ni,nt] at this ⊢
  omega
theorem jR (ms:List Int) (h:∀i,i<ms.length->0<i->ms[i-1]?.getD 0<ms[i]?.getD 0):∀j i,i<j->j<ms.length->ms[i]?.getD 0<ms[j]?.getD 0
 |0,i,h1,_=>by omega
 |j+1,i,h1,h2=>by
  have h3:=h (j+1) h2 (by omega)
  rw[show j+1-1=j by omega] at h3
  by_cases hij:i=j
  ·subst hij;exact h3
  ·have:=jR ms h j i (by omega) (by omega)
   omega
theorem gJ {ms:List Int}{L:Nat}(h:Da ms (L:Int)=true):Yd L (nt ms):=by
 have ha:=jR ms fun i hi h0=>(MP h hi).2.2 h0
 refine⟨List.pairwise_iff_getElem.2 fun i j hi hj hij=>?_,fun j hj=>?_⟩
 ·rw[o7] at hi hj
  have h1:=ha j i hij hj
  have h2:=(MP h hi).1
  rw[List.getElem?_eq_getElem hi,List.getElem?_eq_getElem hj] at h1
  rw[List.getElem?_eq_getElem hi] at h2
  simp[nt] at h1 h2 ⊢
  omega
 ·simp only[nt,List.mem_map] at hj
  obtain⟨x,hx,rfl⟩:=hj
  obtain⟨i,hi,rfl⟩:=List.getElem_of_mem hx
  have h2:=MP h hi
  rw[List.getElem?_eq_getElem hi] at h2
  simp at h2
  omega
theorem VW {L:Nat}{mk:List Nat}(h:Yd L mk):mk.length<=L:=by
 have:=ST mk (List.range L) (GX h.asc) fun j hj=>by simpa using h.lt j hj
 simpa using this
def sA (L P:Int) (xs:List Int):Int:=if EM L P=true then if CP xs (L-P)=true then 0 else 51 else 50
def r_ (L P:Int) (xs:List Int):List Int:=if EM L P=true then if CP xs (L-P)=true then iv (Fl P.toNat (fs xs)) else [] else []
noncomputable def rg (L P:Int) (ws ms:List Int):Option (List F):=G9 L.toNat P.toNat (fs ws) (nt ms)
def oE:Option (List F)->Int
 |some _=>0
 |none=>52
def oL:Option (List F)->List F
 |some r=>r
 |none=>[]
theorem ao (r:List F):oE (some r)=0:=rfl
theorem ap:oE none=52:=rfl
theorem am (r:List F):oL (some r)=r:=rfl
theorem an:oL none=[]:=rfl
noncomputable def sK (L P:Int) (ws ms:List Int):Int :=
 if EM L P=true then if CP ws L=true then if Da ms L=true then oE (rg L P ws ms) else 1 else 51 else 50
noncomputable def sJ (L P:Int) (ws ms:List Int):List Int :=
 if EM L P=true then if CP ws L=true then if Da ms L=true then iv (oL (rg L P ws ms)) else [] else [] else []
section
theorem ZW (w:List F):(iv w).isEmpty=w.isEmpty:=by cases w<;>rfl
theorem kg {w:List F}(h:0<w.length):w.isEmpty=false:=by cases w<;>simp_all
theorem J4 {w:List F}(h:0<w.length):(iv w).isEmpty=false:=by rw[ZW];exact kg h
attribute [local congr] Bm A' BA Au Bn Az A1 A0 Ar Al Af Aa Aw Ag Ax BM BQ BO BP BN BR BG Aj Ay Ak BE BX Ai BK BL BF BH BJ BI BC BD A_ Bp BB Av Ah
attribute [local irreducible] IntKind.wrap A3 Option.getD and or
end
section
def C2 (L P Q:Int):Bool:=EM L P && decide (1<=Q/\Q<=8)
theorem WQ {L P Q:Int}(h:C2 L P Q=true):EM L P=true/\1<=Q/\Q<=8:=by simpa[C2] using h
def nF (L P Q:Int) (xs:List Int) (m:Int):Int:=if C2 L P Q=true then if CP xs (Q*m)=true then 0 else 51 else 50
def qv (L P Q:Int) (e:Int):D:=if e=0 then .agg [.int .i64 L,.int .i64 P,.int .i64 Q] else .agg [.int .i64 0,.int .i64 0,.int .i64 0]
theorem al (L P Q:Int):qv L P Q 0=.agg [.int .i64 L,.int .i64 P,.int .i64 Q]:=rfl
theorem ZA (L P Q:Int):qv L P Q 51=.agg [.int .i64 0,.int .i64 0,.int .i64 0]:=rfl
theorem SP (L P Q:Int):qv L P Q 50=.agg [.int .i64 0,.int .i64 0,.int .i64 0]:=rfl
theorem YJ:B5 E0.P DT=true:=by kernel_rfl
theorem Ul:B5 E0.P DG=true:=by kernel_rfl
theorem V_:B5 E0.P Ef=true:=by kernel_rfl
theorem bf:CP [] 0=true:=rfl
attribute [local congr] Bm A' BA Au Bn Az A1 A0 Ar Al Af Aa Aw Ag Ax BM BQ BO BP BN BR BG Aj Ay Ak BE BX Ai BK BL BF BH BJ BI BC BD A_ Bp BB Av Ah
attribute [local irreducible] IntKind.wrap A3 Option.getD and or
theorem Kg (L P:Int):CA E0 DT [.agg [.int .i64 L,.int .i64 P]] (.int .i64 L):=by
 refine AL Lk An (by simp) fun hwf=>?_
 rw[AR];unfold HF
 (try (simp -implicitDefEqProofs only[go_sem]));repeat' first|(with_reducible first|exact tI|refine aI ?_ ?_|intro _)|((first|with_reducible refine AK ?_ ?_<;>intro _)<;>try (simp -implicitDefEqProofs only[go_sem]))|simp (disch:=omega) only[Ae]
theorem GU (L P:Int) (h:-1000<=L/\L<=1000/\-1000<=P/\P<=1000):CA E0 DG [.agg [.int .i64 L,.int .i64 P]] (.int .i64 (L-P)):=by
 refine AL Kz An (by simp) fun hwf=>?_
 rw[AR];unfold Gg
 have hw:IntKind.i64.wrap (L-P)=L-P:=AZ _ (by omega)
 (try (simp -implicitDefEqProofs only[go_sem,hw]));repeat' first|(with_reducible first|exact tI|refine aI ?_ ?_|intro _)|((first|with_reducible refine AK ?_ ?_<;>intro _)<;>try (simp -implicitDefEqProofs only[go_sem,hw]))|simp (disch:=omega) only[Ae]
theorem Mk (L P:Int):CA E0 Ef [.agg [.int .i64 L,.int .i64 P]] (.int .i64 0):=by
 refine AL Mg An (by simp) fun hwf=>?_
 rw[AR];unfold Hj
 (try (simp -implicitDefEqProofs only[go_sem]));repeat' first|(with_reducible first|exact tI|refine aI ?_ ?_|intro _)|((first|with_reducible refine AK ?_ ?_<;>intro _)<;>try (simp -implicitDefEqProofs only[go_sem]))|simp (disch:=omega) only[Ae]
theorem D5 (L P Q:Int) (nl:Bool) (xs:List Int) (f:FuncId) (m:Int) (hb:B5 E0.P f=true) (hm:0<=m/\m<=1000) (h:EM L P=true->CA E0 f [.agg [.int .i64 L,.int .i64 P]] (.int .i64 m)) :
  CA E0 L9 [.agg [.int .i64 L,.int .i64 P,.int .i64 Q],.list nl (Ab xs),.fn f []] (.tup [qv L P Q (nF L P Q xs m),.int .i64 (nF L P Q xs m)]):=by
 have c1:=O8 L P
 refine AL QD An (by simp) fun hwf=>?_
 rw[AR];unfold KY nF C2
 cases hc:EM L P with
 |false =>
  rw[hc] at c1
  simp only[Bool.false_eq_true,if_false,Bool.false_and] at c1 ⊢
  rw[SP]
  (try (simp -implicitDefEqProofs only[go_sem]));repeat' first|(with_reducible first|exact tI|refine aI ?_ ?_|intro _)|((first|with_reducible refine AK ?_ ?_<;>intro _|(with_reducible refine isCall ?_);first|refine AE c1 ?_)<;>try (simp -implicitDefEqProofs only[go_sem]))|simp (disch:=omega) only[Ae]
  all_goals first|rfl|(simp;done)|skip
 |true =>
  rw[hc] at c1
  simp only[if_true,Bool.true_and] at c1 ⊢
  by_cases hD:1<=Q/\Q<=8
  ·have h1:¬Q<1:=by omega
   have h2:¬8<Q:=by omega
   have hDm:0<=Q*m/\Q*m<=8000:=by
    constructor
    ·exact Int.mul_nonneg (by omega) (by omega)
    ·exact Int.le_trans (Int.mul_le_mul_of_nonneg_left hm.2 (by omega)) (by omega)
   have hw:IntKind.i64.wrap (Q*m)=Q*m:=AZ _ (by omega)
   rw[decide_eq_true hD]
   simp only[if_true]
   have c2:=RI nl xs (Q*m)
   have c3:=h hc
   cases hs:CP xs (Q*m) with
   |false =>
    rw[hs] at c2
    simp only[Bool.false_eq_true,if_false]
    rw[ZA]
    (try (simp -implicitDefEqProofs only[go_sem,h1,h2,hw,hb]));repeat' first|(with_reducible first|exact tI|refine aI ?_ ?_|intro _)|((first|with_reducible refine AK ?_ ?_<;>intro _|(with_reducible refine isCall ?_);first|refine AE c1 ?_|refine AE c2 ?_|refine AE c3 ?_)<;>try (simp -implicitDefEqProofs only[go_sem,h1,h2,hw,hb]))|simp (disch:=omega) only[Ae]
    all_goals first|rfl|(simp;done)|skip
   |true =>
    rw[hs] at c2
    simp only[if_true]
    rw[al]
    (try (simp -implicitDefEqProofs only[go_sem,h1,h2,hw,hb]));repeat' first|(with_reducible first|exact tI|refine aI ?_ ?_|intro _)|((first|with_reducible refine AK ?_ ?_<;>intro _|(with_reducible refine isCall ?_);first|refine AE c1 ?_|refine AE c2 ?_|refine AE c3 ?_)<;>try (simp -implicitDefEqProofs only[go_sem,h1,h2,hw,hb]))|simp (disch:=omega) only[Ae]
    all_goals first|rfl|(simp;done)|skip
  ·rw[decide_eq_false hD]
   simp only[Bool.false_eq_true,if_false]
   rw[SP]
   by_cases h1:Q<1
   ·(try (simp -implicitDefEqProofs only[go_sem,h1]));repeat' first|(with_reducible first|exact tI|refine aI ?_ ?_|intro _)|((first|with_reducible refine AK ?_ ?_<;>intro _|(with_reducible refine isCall ?_);first|refine AE c1 ?_)<;>try (simp -implicitDefEqProofs only[go_sem,h1]))|simp (disch:=omega) only[Ae]
    all_goals first|rfl|(simp;done)|skip
   ·have h2:8<Q:=by omega
    (try (simp -implicitDefEqProofs only[go_sem,h1,h2]));repeat' first|(with_reducible first|exact tI|refine aI ?_ ?_|intro _)|((first|with_reducible refine AK ?_ ?_<;>intro _|(with_reducible refine isCall ?_);first|refine AE c1 ?_)<;>try (simp -implicitDefEqProofs only[go_sem,h1,h2]))|simp (disch:=omega) only[Ae]
    all_goals first|rfl|(simp;done)|skip
theorem O9 (L P Q:Int):CA E0 Kr [.agg [.int .i64 L,.int .i64 P,.int .i64 Q]] (.tup [.int .i64 (if C2 L P Q=true then Q*(P/2) else 0),.int .i64 (if C2 L P Q=true then Q*P else 0),.int .i64 (if C2 L P Q=true then 0 else 50)]):=by
 have c1:=D5 L P Q true [] Ef 0 V_ (by omega) fun _=>Mk L P
 refine AL Ox An (by simp) fun hwf=>?_
 rw[AR];unfold JL
 unfold nF at c1
 cases hw:C2 L P Q with
 |false =>
  rw[hw] at c1
  simp only[Bool.false_eq_true,if_false] at c1 ⊢
  rw[SP] at c1
  (try (simp -implicitDefEqProofs only[go_sem]));repeat' first|(with_reducible first|exact tI|refine aI ?_ ?_|intro _)|((first|with_reducible refine AK ?_ ?_<;>intro _|(with_reducible refine isCall ?_);first|refine AE c1 ?_)<;>try (simp -implicitDefEqProofs only[go_sem]))|simp (disch:=omega) only[Ae]
  all_goals first|rfl|(simp;done)|skip
 |true =>
  obtain⟨hc,hD⟩:=WQ hw
  have hb:=Lp hc
  rw[hw,show CP [] (Q*0)=true by rw[Int.mul_zero];exact bf] at c1
  simp only[if_true] at c1 ⊢
  rw[al] at c1
  have hd:P.tdiv 2=P/2:=Int.tdiv_eq_ediv_of_nonneg (by omega)
  have w1:IntKind.i64.wrap (P/2)=P/2:=AZ _ (by omega)
  have b1:0<=Q*(P/2)/\Q*(P/2)<=8*8:=⟨Int.mul_nonneg (by omega) (by omega),Int.mul_le_mul hD.2 (by omega) (by omega) (by omega)⟩
  have b2:0<=Q*P/\Q*P<=8*8:=⟨Int.mul_nonneg (by omega) (by omega),Int.mul_le_mul hD.2 (by omega) (by omega) (by omega)⟩
  have w2:IntKind.i64.wrap (Q*(P/2))=Q*(P/2):=AZ _ (by omega)
  have w3:IntKind.i64.wrap (Q*P)=Q*P:=AZ _ (by omega)
  (try (simp -implicitDefEqProofs only[go_sem,hd,w1,w2,w3]));repeat' first|(with_reducible first|exact tI|refine aI ?_ ?_|intro _)|((first|with_reducible refine AK ?_ ?_<;>intro _|(with_reducible refine isCall ?_);first|refine AE c1 ?_)<;>try (simp -implicitDefEqProofs only[go_sem,hd,w1,w2,w3]))|simp (disch:=omega) only[Ae]
  all_goals first|rfl|(simp;done)|skip
end
section
def sB (L P:Nat) (w:List F):Bool:=(List.range P).all fun i=>decide (FS w (Re L i)=0)
def ru (L P:Int):Bool:=EM L P && (decide (L<=10) && decide (P<=6))
def rz (L P:Int) (d a m:List Int):Bool:=decide (m.length<=30) && (CP d (L-P) && (CP a L && Da m L))
def sI (w a:List F):List F:=List.zipWith fa w a
def sO (a b m:List Int) (n:Nat):List Nat:=(List.range n).filter fun i=>decide (a[i]?.getD 0≠b[i]?.getD 0) && !gi m i
attribute [local congr] Bm A' BA Au Bn Az A1 A0 Ar Al Af Aa Aw Ag Ax BM BQ BO BP BN BR BG Aj Ay Ak BE BX Ai BK BL BF BH BJ BI BC BD A_ BB Av Ah
attribute [local irreducible] IntKind.wrap A3 Option.getD and or
end
end Go.Pw
