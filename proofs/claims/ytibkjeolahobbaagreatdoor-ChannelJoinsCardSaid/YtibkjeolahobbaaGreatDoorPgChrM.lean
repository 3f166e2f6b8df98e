/- A part of the proof. -/
import Derived.Test.YtibkjeolahobbaaGreatDoorPgChrJ
import Derived.Test.YtibkjeolahobbaaGreatDoorPgChrA
set_option linter.all false
open Go Go.Pw Go.Proofs
namespace Go.Pw
set_option maxRecDepth 100000
set_option maxHeartbeats 3200000
section
def decR (o:Option (List F)):D:=match o with
 |some r=>.tup [.list false (us r),.bool true]
 |none=>.tup [.list true [],.bool false]
theorem TR (v:List F):decR (some v)=.tup [.list false (us v),.bool true]:=rfl
theorem TS:decR none=.tup [.list true [],.bool false]:=rfl
theorem Sw:BL E0.P CO=true:=by kernel_rfl
theorem Kh {β:Type}{f:Nat->Option β}{e:Nat}{r:β}(h:∀i,i<e->f i=none) (he:f e=some r):∀N,e<N->(List.range N).findSome? f=some r
 |0,hN=>by omega
 |N+1,hN=>by
  rw[List.range_succ,List.findSome?_append]
  by_cases h2:e<N
  ·rw[Kh h he N h2];rfl
  ·have:e=N:=by omega
   subst this
   have hn:(List.range e).findSome? f=none:=by
    rw[List.findSome?_eq_none_iff];exact fun i hi=>h i (by simpa using hi)
   rw[hn]
   simp[he]
noncomputable def Ux (L P:Nat) (w:List F) (mk:List Nat) (e:Nat):Option (List F):=(BC L mk e 0).findSome? (hit L P w mk)
theorem Z5 {L P:Nat}{w r:List F}{mk:List Nat}{e:Nat}(h:∀i,i<e->Ux L P w mk i=none) (he:Ux L P w mk e=some r) (hb:2*e+mk.length<=P):GK L P w mk=some r:=by
 unfold GK
 rw[if_pos (by omega)]
 exact Kh h he _ (by omega)
theorem Wu {L P:Nat}{w:List F}{mk:List Nat}{e:Nat}(h:∀i,i<e->Ux L P w mk i=none) (hb:¬2*e+mk.length<=P):GK L P w mk=none:=by
 unfold GK
 split
 ·rw[List.findSome?_eq_none_iff]
  intro i hi
  simp at hi
  exact h i (by omega)
 ·rfl
theorem jQ {L P:Nat}{w:List F}{mk:List Nat}(n2:Bool) (hL:L<=15) (hL1:1<=L) (hP:1<=P) (hP2:P<=15) (hw:w.length=L) (hm:XV L mk) :
  rS (hit L P w mk) (fun l=>Th L mk 0 l/\2*l.length+mk.length<=P) CO [.d (.ptr [.list n2 (Aa (ni mk))]),.d (.ptr [.int .i64 L,.int .i64 P]),.d (.ptr [.list false (us (Fg L P w))]),.d (.ptr [.list false (us w)]),.ptr 900004 0 0,.ptr 901004 0 0] :=
 ⟨Sw,rfl,fun V os h1 h2=>by simp[AV.nrm,AV.nrm.nrmL,h1,h2],rfl,⟨rfl,rfl,rfl,rfl,rfl,rfl,trivial⟩,fun nl l b o fnd hA _ =>
  Us L P nl n2 false b fnd o w mk l hL hL1 hP hP2 hw (QH hm hA.1) (by have:=hA.2;simp;omega) rfl⟩
attribute [local irreducible] IntKind.wrap Ai Option.getD and or
theorem Ms (L P:Nat) (n1 n2:Bool) (w:List F) (mk:List Nat) (hL:L<=15) (hL1:1<=L) (hP:1<=P) (hP2:P<=15) (hw:w.length=L) (hm:XV L mk) (hml:mk.length<=100) (hn1:n1=false) :
  BR E0 Fb [QC L P,.list n1 (us w),.list n2 (Aa (ni mk))] (decR (GK L P w mk)):=by
 subst hn1
 have c1:=O_ L P false w hL hL1 hP hP2 hw
 have hY:=jQ (P:=P) n2 hL hL1 hP hP2 hw hm
 refine AM Ih Af (by simp) fun hwf=>?_
 rw[AQ];unfold E7
 rw[A4] at c1 ⊢
 (try (simp -implicitDefEqProofs only[go_sem]));repeat' first|(with_reducible first|exact tI|refine aI ?_ ?_|intro _)|((first|with_reducible refine AJ ?_ ?_<;>intro _|(with_reducible refine isCall ?_);first|refine AE c1 ?_)<;>try (simp -implicitDefEqProofs only[go_sem]))|simp (disch:=omega) only[Ad]|((with_reducible refine Ca ?_);refine⟨(_,_,_,_),rfl,?_,?_⟩)
 all_goals first|omega|(simp<;>omega)|skip
 refine AU (α:=Nat×Bool×(List F)×Bool) (l0:=?l1) (m0:=?m1) (fun x=>[(9,.d (.int .i64 (x.1:Int)))]) (fun x=>[(6,.cells [.d (.list x.2.1 (us x.2.2.1))]),(7,.cells [.d (.bool x.2.2.2)])]) (fun x=>x.1<=100/\((x.2.2.2=false/\x.2.1=true/\x.2.2.1=[]/\∀i,i<x.1->Ux L P w mk i=none)\/(x.2.2.2=true/\x.2.1=false/\GK L P w mk=some x.2.2.1))) (fun x=>(if x.2.2.2 then 0 else 101-x.1)) (0,true,[],false) ?h01 ?he1 ?he21 ?hI1 ?step1
 case h01=>(simp -implicitDefEqProofs only[go_sem];rfl)
 case he1=>rfl
 case he21=>rfl
 case' step1=>(rintro⟨e,b,o,fnd⟩ hI;try dsimp only at hI)
 case' hI1=>try dsimp only
 ·exact⟨by omega,.inl ⟨rfl,rfl,rfl,fun i hi=>absurd hi (by omega)⟩⟩
 ·obtain⟨h1,h2⟩:=hI
  have hw2:IntKind.i64.wrap (2*(e:Int))=2*(e:Int):=AZ _ (by omega)
  have hw3:IntKind.i64.wrap (2*(e:Int)+(mk.length:Int))=2*(e:Int)+(mk.length:Int):=AZ _ (by omega)
  have hw4:IntKind.i64.wrap ((e:Int)+1)=((e+1:Nat):Int):=by rw[AZ _ (by omega)];omega
  rcases h2 with⟨rfl,rfl,rfl,h3⟩|⟨rfl,rfl,h3⟩
  ·by_cases hb:2*e+mk.length<=P
   ·have hb':2*(e:Int)+(mk.length:Int)<=(P:Int):=by omega
    have c2:=Pi L P n2 mk hL e 0 hY (fun l hl=>⟨(Gg L mk e 0 l hl).2,by rw[(Gg L mk e 0 l hl).1];exact hb⟩) (by omega) (by omega) true [] false
    rw[show (((0:Nat):Int))=0 from rfl] at c2
    rw[A4] at c2
    obtain⟨R,hR⟩:∃R,Ux L P w mk e=R:=⟨_,rfl⟩
    rw[show (BC L mk e 0).findSome? (hit L P w mk)=R from hR] at c2
    cases R with
    |none =>
     rw[I9,Option.isNone_none] at c2
     unfold vv at c2
     have hn:∀i,i<e+1->Ux L P w mk i=none:=fun i hi=>by
      rcases Nat.lt_succ_iff_lt_or_eq.1 hi with hi|rfl
      ·exact h3 i hi
      ·exact hR
     (try (simp -implicitDefEqProofs only[go_sem,hw2,hw3,hb',hw4]));repeat' first|(with_reducible first|exact tI|refine aI ?_ ?_|intro _)|((first|with_reducible refine AJ ?_ ?_<;>intro _|(with_reducible refine isCall ?_);first|(refine EM ([((900004,0),(6,0)),((901004,0),(7,0))]) ([((900004,0),(6,0)),((901004,0),(7,0))]) (c2) ?_))<;>try (simp -implicitDefEqProofs only[go_sem,hw2,hw3,hb',hw4]))|simp (disch:=omega) only[Ad]|((with_reducible apply A8);exact rfl)
     all_goals first|omega|(simp<;>omega)|skip
     all_goals first|exact .inl ⟨trivial,trivial,trivial,hn⟩|skip
    |some r =>
     have hfin:=Z5 h3 hR hb
     rw[I8,Option.isNone_some] at c2
     unfold vv at c2
     (try (simp -implicitDefEqProofs only[go_sem,hw2,hw3,hb',hw4]));repeat' first|(with_reducible first|exact tI|refine aI ?_ ?_|intro _)|((first|with_reducible refine AJ ?_ ?_<;>intro _|(with_reducible refine isCall ?_);first|(refine EM ([((900004,0),(6,0)),((901004,0),(7,0))]) ([((900004,0),(6,0)),((901004,0),(7,0))]) (c2) ?_))<;>try (simp -implicitDefEqProofs only[go_sem,hw2,hw3,hb',hw4]))|simp (disch:=omega) only[Ad]|((with_reducible apply A8);exact rfl)
     all_goals first|omega|(simp<;>omega)|skip
     all_goals first|exact .inr ⟨trivial,trivial,hfin⟩|skip
   ·have hb':¬2*(e:Int)+(mk.length:Int)<=(P:Int):=by omega
    rw[Wu h3 hb,TS]
    (try (simp -implicitDefEqProofs only[go_sem,hw2,hw3,hb',hw4]));repeat' first|(with_reducible first|exact tI|refine aI ?_ ?_|intro _|refine AJ ?_ ?_<;>intro _<;>try simp -implicitDefEqProofs only[go_sem,hw2,hw3,hb',hw4])|simp (disch:=omega) only[Ad]|((with_reducible apply A8);exact rfl)
    all_goals first|omega|(simp<;>omega)|skip
    all_goals first|rfl|skip
  ·rw[h3,TR]
   (try (simp -implicitDefEqProofs only[go_sem,hw2,hw3,hw4]));repeat' first|(with_reducible first|exact tI|refine aI ?_ ?_|intro _|refine AJ ?_ ?_<;>intro _<;>try simp -implicitDefEqProofs only[go_sem,hw2,hw3,hw4])|simp (disch:=omega) only[Ad]|((with_reducible apply A8);exact rfl)
   all_goals first|omega|(simp<;>omega)|skip
   all_goals first|rfl|skip
end
theorem iX (n i:Nat):QV (n+1) i=gp (i*n)::QV n i:=by
 unfold QV
 rw[List.range_succ_eq_map,List.map_cons,List.map_map]
 congr 1
 apply List.map_congr_left
 intro j hj
 show VC (n+1) i (j+1)=VC n i j
 unfold VC
 rw[show n+1-1-(j+1)=n-1-j by omega]
def Me (i:Nat) (w:List F):F:=Eb w (QV w.length i)
theorem gy (i:Nat):Me i []=0:=rfl
theorem QP (i:Nat) (y:F) (ys:List F):Me i (y::ys)=fa (fm y (gp (i*ys.length))) (Me i ys):=by
 show Eb (y::ys) (QV (ys.length+1) i)=_
 rw[iX];rfl
theorem p7 (i:Nat) (l:List F) (o:Nat) (y:F) (h:o<l.length):Me i (l.set o y)=fa (Me i l) (fm (fa (l[o]?.getD 0) y) (gp (i*(l.length-1-o)))):=by
 unfold Me
 rw[List.length_set,Un y l _ o h (by rw[La];omega),QU _ _ _ h];rfl
def CS:List F->Nat->F->List F->List F
 |l,o,b,[]=>l
 |l,o,b,y::ys=>CS (l.set o (fa (l[o]?.getD 0) (fm b y))) (o+1) b ys
theorem Iu:∀(g l:List F) (o:Nat) (b:F),(CS l o b g).length=l.length
 |[],l,o,b=>rfl
 |y::ys,l,o,b=>by show (CS _ (o+1) b ys).length=_;rw[Iu ys];simp
theorem SO (y:F):∀(g l:List F) (o:Nat) (b:F),CS l o b (g++[y])=(CS l o b g).set (o+g.length) (fa ((CS l o b g)[o+g.length]?.getD 0) (fm b y))
 |[],l,o,b=>rfl
 |z::zs,l,o,b=>by
  show CS _ (o+1) b (zs++[y])=_
  rw[SO y zs]
  show _=(CS (l.set o (fa (l[o]?.getD 0) (fm b z))) (o+1) b zs).set (o+(zs.length+1)) (fa ((CS (l.set o (fa (l[o]?.getD 0) (fm b z))) (o+1) b zs)[o+(zs.length+1)]?.getD 0) (fm b y))
  rw[show o+1+zs.length=o+(zs.length+1) by omega]
theorem SP (j:Nat):∀(g l:List F) (o:Nat) (b:F),j<o->(CS l o b g)[j]?.getD 0=l[j]?.getD 0
 |[],l,o,b,_=>rfl
 |y::ys,l,o,b,h=>by
  show (CS _ (o+1) b ys)[j]?.getD 0=_
  rw[SP j ys _ (o+1) b (by omega),List.getElem?_set_ne (by omega)]
theorem Ri (i:Nat):∀(g l:List F) (o:Nat) (b:F),o+g.length<=l.length->Me i (CS l o b g)=fa (Me i l) (fm (fm b (Me i g)) (gp (i*(l.length-o-g.length))))
 |[],l,o,b,h=>by show Me i l=_;rw[gy,C0,B2,CM]
 |y::ys,l,o,b,h=>by
  simp only[List.length_cons] at h
  show Me i (CS _ (o+1) b ys)=_
  rw[Ri i ys _ (o+1) b (by rw[List.length_set];omega),p7 i l o _ (by omega),QP,List.length_set,List.length_cons]
  rw[←DV (l[o]?.getD 0),FA,HQ,L8,DV]
  congr 1
  have e1:l.length-1-o=ys.length+(l.length-o-(ys.length+1)):=by omega
  have e2:l.length-(o+1)-ys.length=l.length-o-(ys.length+1):=by omega
  rw[e1,e2,Nat.mul_add,UU,Ck (fa _ _),L8,Ck (gp (i*(l.length-o-(ys.length+1)))),Ck (gp (i*(l.length-o-(ys.length+1))))]
  simp only[E']
theorem Rf (i:Nat):∀a:List F,Me i (a++[0])=fm (Me i a) (gp i)
 |[]=>by
  show Me i [0]=_
  rw[QP,B2,gy,B2,CM]
 |y::ys=>by
  show Me i (y::(ys++[0]))=_
  rw[QP,QP,Rf i ys,List.length_append,List.length_singleton,Nat.mul_add,Nat.mul_one,UU,Ck (fa _ _),L8,Ck (gp i) (Me i ys),Ck (gp i) (fm y _),E']
theorem lc (i:Nat) (a:List F) (h:Me i a=0):∀n,Me i (a++List.replicate n 0)=0
 |0=>by simpa using h
 |n+1=>by rw[List.replicate_succ',←List.append_assoc,Rf,lc i a h n,B2]
def Ic:Nat->List F
 |0=>[1]
 |i+1=>CS (Ic i++[0]) 1 (gp i) (Ic i)
theorem Km:∀i,(Ic i).length=i+1
 |0=>rfl
 |i+1=>by show (CS (Ic i++[0]) 1 (gp i) (Ic i)).length=_;rw[Iu];simp[Km i]
theorem iJ:∀i,(Ic i)[0]?.getD 0=1
 |0=>rfl
 |i+1=>by
  show (CS (Ic i++[0]) 1 (gp i) (Ic i))[0]?.getD 0=1
  rw[SP 0 _ _ 1 _ (by omega),List.getElem?_append_left (by rw[Km];omega),iJ i]
theorem g8 (r:Nat):∀i,r<i->Me r (Ic i)=0
 |0,h=>by omega
 |i+1,h=>by
  show Me r (CS (Ic i++[0]) 1 (gp i) (Ic i))=0
  rw[Ri r _ _ _ _ (by simp;omega),Rf,List.length_append,Km]
  rw[show i+1+([(0:F)]).length-1-(i+1)=0 by simp,Nat.mul_zero,UR,JF,Ck (gp i)]
  by_cases hr:r<i
  ·rw[g8 r i hr,B2,B2,CM]
  ·have:r=i:=by omega
   subst this
   rw[FA]
def Fv (g d:List F) (P:Nat):Nat->List F
 |0=>d++List.replicate P 0
 |i+1=>CS (Fv g d P i) i ((Fv g d P i)[i]?.getD 0) g
theorem Gh (g d:List F) (P:Nat):∀i,(Fv g d P i).length=d.length+P
 |0=>by simp[Fv]
 |i+1=>by show (CS _ _ _ _).length=_;rw[Iu,Gh g d P i]
theorem Zc (g d:List F) (P:Nat) (hg:g[0]?.getD 0=1):∀i,i<=d.length->∀j,j<i->(Fv g d P i)[j]?.getD 0=0
 |0,_,j,hj=>by omega
 |i+1,hi,j,hj=>by
  show (CS (Fv g d P i) i ((Fv g d P i)[i]?.getD 0) g)[j]?.getD 0=0
  cases g with
  |nil=>exact absurd hg (by decide)
  |cons y ys =>
   have hy:y=1:=by simpa using hg
   subst hy
   show (CS ((Fv (1::ys) d P i).set i _) (i+1) _ ys)[j]?.getD 0=0
   rw[SP j _ _ _ _ (by omega)]
   by_cases h:j=i
   ·subst h
    rw[JF,FA,List.getElem?_set_self (by rw[Gh];omega)];rfl
   ·rw[List.getElem?_set_ne (fun e=>h e.symm)]
    exact Zc (1::ys) d P rfl i (by omega) j (by omega)
theorem Z3 (r:Nat) (g d:List F) (P:Nat) (hg:Me r g=0) (hl:g.length=P+1):∀i,i<=d.length->Me r (Fv g d P i)=Me r (d++List.replicate P 0)
 |0,_=>rfl
 |i+1,hi=>by
  show Me r (CS _ _ _ _)=_
  rw[Ri r _ _ _ _ (by rw[Gh];omega),hg,C0,B2,CM]
  exact Z3 r g d P hg hl i (by omega)
def Hp (P:Nat) (d:List F):List F:=d++(Fv (Ic P) d P d.length).drop d.length
theorem Ia (P:Nat) (d:List F):(Hp P d).length=d.length+P:=by
 unfold Hp;rw[List.length_append,List.length_drop,Gh];omega
theorem qF (L P:Nat) (w:List F) (hw:w.length=L):nk L P w↔∀i,i<P->Me i w=0:=by
 subst hw
 constructor
 ·intro h i hi
  have:=h i hi
  rwa [show Di (Fg w.length P w) i=Eb w (QV w.length i) from H_ _ _ _ _ hi] at this
 ·intro h i hi
  rw[show Di (Fg w.length P w) i=Eb w (QV w.length i) from H_ _ _ _ _ hi]
  exact h i hi
theorem iC (P:Nat) (d:List F):nk (d.length+P) P (Hp P d):=by
 rw[qF _ _ _ (Ia P d)]
 intro i hi
 obtain⟨R,hR⟩:∃R,Fv (Ic P) d P d.length=R:=⟨_,rfl⟩
 have hl:R.length=d.length+P:=by rw[←hR];exact Gh _ _ _ _
 have h0:∀j,j<d.length->R[j]?.getD 0=0:=by rw[←hR];exact Zc _ _ _ (iJ P) _ (Nat.le_refl _)
 have he:Me i R=Me i (d++List.replicate P 0):=by rw[←hR];exact Z3 i _ _ _ (g8 i P hi) (Km P) _ (Nat.le_refl _)
 have hlen:(d++List.replicate P (0:F)).length=R.length:=by simp[hl]
 have hE:Hp P d=C7 (d++List.replicate P 0) R 1:=by
  apply Wb
  ·rw[Ia,HA _ _ _ hlen];simp
  ·intro j hj
   rw[Ia] at hj
   show (Hp P d)[j]?.getD 0=(C7 (d++List.replicate P 0) R 1)[j]?.getD 0
   rw[show (C7 (d++List.replicate P 0) R 1)[j]?.getD 0=fa ((d++List.replicate P (0:F))[j]?.getD 0) (fm (R[j]?.getD 0) 1) from K0 _ _ _ _ hlen]
   unfold Hp
   rw[hR,JF]
   by_cases h:j<d.length
   ·rw[List.getElem?_append_left h,List.getElem?_append_left h,h0 j h,CM]
   ·rw[List.getElem?_append_right (by omega),List.getElem?_append_right (by omega),List.getElem?_drop,List.getElem?_replicate,if_pos (by omega),show d.length+(j-d.length)=j by omega]
    exact(HQ _).symm
 rw[hE]
 unfold Me
 have h2:(C7 (d++List.replicate P 0) R 1).length=(d++List.replicate P (0:F)).length:=by rw[HA _ _ _ hlen]
 rw[h2,Ng _ _ _ _ hlen]
 have h3:Me i (d++List.replicate P (0:F))=Eb (d++List.replicate P (0:F)) (QV (d++List.replicate P (0:F)).length i):=rfl
 have h4:Me i R=Eb R (QV (d++List.replicate P (0:F)).length i):=by unfold Me;rw[hlen]
 rw[←h3,←h4,he,UF,FA]
section
theorem SN (l g:List F) (o k:Nat) (b:F) (h:k<g.length):(CS l o b (g.take k)).set (o+k) (fa ((CS l o b (g.take k))[o+k]?.getD 0) (fm b (g[k]?.getD 0)))=CS l o b (g.take (k+1)):=by
 rw[←Az g 0 k h,SO]
 rw[show (g.take k).length=k by simp;omega]
theorem XQ (l g:List F) (k:Nat) (b:F) (h:k<g.length):(CS l 1 b (g.take k)).set (k+1) (fa ((CS l 1 b (g.take k))[k+1]?.getD 0) (fm (g[k]?.getD 0) b))=CS l 1 b (g.take (k+1)):=by
 rw[←SN l g 1 k b h,Ck b,Nat.add_comm 1 k]
attribute [local irreducible] IntKind.wrap Ai Option.getD and or
theorem Mr (L P:Nat) (n1:Bool) (d:List F) (hL:L<=15) (hP:1<=P) (hd:d.length+P=L) (hd1:1<=d.length) (hn1:n1=false) :
  BR E0 Fa [QC L P,.list n1 (us d)] (.list false (us (Hp P d))):=by
 subst hn1
 have c0:=H7 false d (by omega) (by omega) rfl
 refine AM Ig Af (by simp) fun hwf=>?_
 rw[AQ];unfold E6
 rw[A4]
 (try (simp -implicitDefEqProofs only[go_sem]));repeat' first|(with_reducible first|exact tI|refine aI ?_ ?_|intro _|refine AJ ?_ ?_<;>intro _<;>try simp -implicitDefEqProofs only[go_sem])|simp (disch:=omega) only[Ad]|((with_reducible apply Ab);exact rfl)
 all_goals first|omega|(simp<;>omega)|skip
 rw[show ([D.int .u8 1]:List D)=us (Ic 0) from rfl]
 refine AU (α:=Nat) (l0:=?l1) (m0:=?m1) (fun x=>[(19,.d (.int .i64 (x:Int))),(5,.d (.list false (us (Ic x))))]) (fun x=>[]) (fun x=>x<=P) (fun x=>P-x) 0 ?h01 ?he1 ?he21 ?hI1 ?step1
 case h01=>(simp -implicitDefEqProofs only[go_sem];rfl)
 case he1=>rfl
 case he21=>rfl
 case' step1=>(rintro i hI;try dsimp only at hI)
 case' hI1=>try dsimp only
 ·exact Nat.zero_le _
 ·have hgl:=Km i
  by_cases h:i<P
  ·have h':(i:Int)<(P:Int):=by omega
   have hwi:IntKind.i64.wrap ((i:Int)+1)=((i+1:Nat):Int):=by rw[AZ _ (by omega)];omega
   have hG:Ic (i+1)=CS (Ic i++[0]) 1 (gp i) (Ic i):=rfl
   obtain⟨G,hGe⟩:∃G,Ic i=G:=⟨_,rfl⟩
   rw[hGe] at hgl hG ⊢
   have c1:=H7 false G (by omega) (by omega) rfl
   have c2:=Dn i (by omega)
   (try (simp -implicitDefEqProofs only[go_sem,h',Qi]));repeat' first|(with_reducible first|exact tI|refine aI ?_ ?_|intro _)|((first|with_reducible refine AJ ?_ ?_<;>intro _|(with_reducible refine isCall ?_);first|(refine EM ([]) ([((7,1),(23,1))]) (c1) ?_))<;>try (simp -implicitDefEqProofs only[go_sem,h',Qi]))|simp (disch:=omega) only[Ad]|((with_reducible apply Ab);exact rfl)
   all_goals first|omega|(simp<;>omega)|skip
   refine AU (α:=Nat) (l0:=?l2) (m0:=?m2) (fun x=>[(28,.d (.int .i64 (x:Int)))]) (fun x=>[(23,.row 135 1 false (us (CS (G++[0]) 1 (gp i) (G.take x))))]) (fun x=>x<=G.length) (fun x=>G.length-x) 0 ?h02 ?he2 ?he22 ?hI2 ?step2
   case h02=>(simp -implicitDefEqProofs only[go_sem];rfl)
   case he2=>rfl
   case he22=>rfl
   case' step2=>(rintro k hI2;try dsimp only at hI2)
   case' hI2=>try dsimp only
   ·exact Nat.zero_le _
   ·have hA:=Iu (G.take k) (G++[0]) 1 (gp i)
    rw[List.length_append,List.length_singleton] at hA
    by_cases hk:k<G.length
    ·have hk':(k:Int)<(G.length:Int):=by omega
     have hwk:IntKind.i64.wrap ((k:Int)+1)=((k+1:Nat):Int):=by rw[AZ _ (by omega)];omega
     have c3:=C2 (G[k]?.getD 0) (gp i)
     have hst:=XQ (G++[0]) G k (gp i) hk
     (try (simp -implicitDefEqProofs only[go_sem,hk',hwk,hA,hst]));repeat' first|(with_reducible first|exact tI|refine aI ?_ ?_|intro _)|((first|with_reducible refine AJ ?_ ?_<;>intro _|(with_reducible refine isCall ?_);first|refine AE c2 ?_|refine AE c3 ?_)<;>try (simp -implicitDefEqProofs only[go_sem,hk',hwk,hA,hst]))|simp (disch:=omega) only[Ad]|((with_reducible apply Ab);exact rfl)
     all_goals first|omega|(simp<;>omega)|skip
     all_goals first|rfl|(simp at *;done)|(simp at *;omega)|skip
    ·have hk':¬(k:Int)<(G.length:Int):=by omega
     have hke:G.take k=G:=List.take_of_length_le (by omega)
     rw[hke,←hG]
     (try (simp -implicitDefEqProofs only[go_sem,hk',hwi]));repeat' first|(with_reducible first|exact tI|refine aI ?_ ?_|intro _|refine AJ ?_ ?_<;>intro _<;>try simp -implicitDefEqProofs only[go_sem,hk',hwi])|simp (disch:=omega) only[Ad]|((with_reducible apply Ab);exact rfl)
     all_goals first|omega|(simp<;>omega)|skip
     all_goals first|rfl|omega|skip
  ·have h':¬(i:Int)<(P:Int):=by omega
   have hie:i=P:=by omega
   subst hie
   obtain⟨G,hGe⟩:∃G,Ic i=G:=⟨_,rfl⟩
   rw[hGe] at hgl ⊢
   (try (simp -implicitDefEqProofs only[go_sem,h',Tq,Xh]));repeat' first|(with_reducible first|exact tI|refine aI ?_ ?_|intro _)|((first|with_reducible refine AJ ?_ ?_<;>intro _|(with_reducible refine isCall ?_);first|(refine EM ([]) ([((7,1),(48,1))]) (c0) ?_))<;>try (simp -implicitDefEqProofs only[go_sem,h',Tq,Xh]))|simp (disch:=omega) only[Ad]|((with_reducible apply Ab);exact rfl)
   all_goals first|omega|(simp<;>omega)|skip
   rw[show us (d++List.replicate i 0)=us (Fv G d i 0) from rfl]
   refine AU (α:=Nat) (l0:=?l3) (m0:=?m3) (fun x=>[(55,.d (.int .i64 (x:Int)))]) (fun x=>[(48,.row 135 1 false (us (Fv G d i x)))]) (fun x=>x<=d.length) (fun x=>d.length-x) 0 ?h03 ?he3 ?he23 ?hI3 ?step3
   case h03=>(simp -implicitDefEqProofs only[go_sem];rfl)
   case he3=>rfl
   case he23=>rfl
   case' step3=>(rintro m hI3;try dsimp only at hI3)
   case' hI3=>try dsimp only
   ·exact Nat.zero_le _
   ·have hrl:=Gh G d i m
    have hrs:Fv G d i (m+1)=CS (Fv G d i m) m ((Fv G d i m)[m]?.getD 0) G:=rfl
    obtain⟨R,hR⟩:∃R,Fv G d i m=R:=⟨_,rfl⟩
    rw[hR] at hrl hrs ⊢
    by_cases hm:m<d.length
    ·have hm':(m:Int)<(d.length:Int):=by omega
     have hwm:IntKind.i64.wrap ((m:Int)+1)=((m+1:Nat):Int):=by rw[AZ _ (by omega)];omega
     have hmR:m<R.length:=by omega
     obtain⟨B,hB⟩:∃B,R[m]?.getD 0=B:=⟨_,rfl⟩
     rw[hB] at hrs
     (try (simp -implicitDefEqProofs only[go_sem,hm',hmR,hB]));repeat' first|(with_reducible first|exact tI|refine aI ?_ ?_|intro _|refine AJ ?_ ?_<;>intro _<;>try simp -implicitDefEqProofs only[go_sem,hm',hmR,hB])|simp (disch:=omega) only[Ad]|((with_reducible apply Ab);exact rfl)
     all_goals first|omega|(simp<;>omega)|skip
     rw[show us R=us (CS R m B (G.take 0)) from rfl]
     refine AU (α:=Nat) (l0:=?l4) (m0:=?m4) (fun x=>[(64,.d (.int .i64 (x:Int)))]) (fun x=>[(48,.row 135 1 false (us (CS R m B (G.take x))))]) (fun x=>x<=G.length) (fun x=>G.length-x) 0 ?h04 ?he4 ?he24 ?hI4 ?step4
     case h04=>(simp -implicitDefEqProofs only[go_sem];rfl)
     case he4=>rfl
     case he24=>rfl
     case' step4=>(rintro k hI4;try dsimp only at hI4)
     case' hI4=>try dsimp only
     ·exact Nat.zero_le _
     ·have hA:=Iu (G.take k) R m B
      by_cases hk:k<G.length
      ·have hk':(k:Int)<(G.length:Int):=by omega
       have hwk:IntKind.i64.wrap ((k:Int)+1)=((k+1:Nat):Int):=by rw[AZ _ (by omega)];omega
       have hwmk:IntKind.i64.wrap ((m:Int)+(k:Int))=((m+k:Nat):Int):=by rw[AZ _ (by omega)];omega
       have hmk:m+k<R.length:=by omega
       have c3:=C2 B (G[k]?.getD 0)
       have hst:=SN R G m k B hk
       (try (simp -implicitDefEqProofs only[go_sem,hk',hwk,hwmk,hA,hmk,hst]));repeat' first|(with_reducible first|exact tI|refine aI ?_ ?_|intro _)|((first|with_reducible refine AJ ?_ ?_<;>intro _|(with_reducible refine isCall ?_);first|refine AE c3 ?_)<;>try (simp -implicitDefEqProofs only[go_sem,hk',hwk,hwmk,hA,hmk,hst]))|simp (disch:=omega) only[Ad]|((with_reducible apply Ab);exact rfl)
       all_goals first|omega|(simp<;>omega)|skip
       all_goals first|rfl|(simp at *;done)|(simp at *;omega)|skip
      ·have hk':¬(k:Int)<(G.length:Int):=by omega
       have hke:G.take k=G:=List.take_of_length_le (by omega)
       rw[hke,←hrs]
       (try (simp -implicitDefEqProofs only[go_sem,hk',hwm]));repeat' first|(with_reducible first|exact tI|refine aI ?_ ?_|intro _|refine AJ ?_ ?_<;>intro _<;>try simp -implicitDefEqProofs only[go_sem,hk',hwm])|simp (disch:=omega) only[Ad]|((with_reducible apply Ab);exact rfl)
       all_goals first|omega|(simp<;>omega)|skip
       all_goals first|rfl|omega|skip
    ·have hm':¬(m:Int)<(d.length:Int):=by omega
     have hme:m=d.length:=by omega
     have c4:=SU false false d (R.drop d.length) (by omega) (by simp;omega)
     have hres:d++R.drop d.length=Hp i d:=by rw[←hR,hme,←hGe];rfl
     have hemp:(Hp i d).isEmpty=false:=by
      have h5:=Ia i d
      cases hE:Hp i d with
      |nil=>rw[hE] at h5;simp at h5;omega
      |cons=>rfl
     have hdr:List.take (d.length+i-d.length) (R.drop d.length)=R.drop d.length:=List.take_of_length_le (by simp;omega)
     rw[hres,hemp] at c4
     (try (simp -implicitDefEqProofs only[go_sem,hm',hrl,hdr]));repeat' first|(with_reducible first|exact tI|refine aI ?_ ?_|intro _)|((first|with_reducible refine AJ ?_ ?_<;>intro _|(with_reducible refine isCall ?_);first|refine AE c4 ?_)<;>try (simp -implicitDefEqProofs only[go_sem,hm',hrl,hdr]))|simp (disch:=omega) only[Ad]|((with_reducible apply Ab);exact rfl)
     all_goals first|omega|(simp<;>omega)|skip
     all_goals first|rfl|(simp at *;done)|(simp at *;omega)|skip
end
section
theorem Kx {L P:Int}(h:DY L P=true):2<=L/\L<=15/\1<=P/\P<=8/\P<L:=by simpa[DY] using h
theorem dB {L P:Int}(h:DY L P=true):∃l p:Nat,L=(l:Int)/\P=(p:Int)/\2<=l/\l<=15/\1<=p/\p<=8/\p<l:=by
 have:=Kx h
 exact⟨L.toNat,P.toNat,by omega,by omega,by omega,by omega,by omega,by omega,by omega⟩
def sr (L P n:Int):Int:=if DY L P=true then if 0<=n/\n<=L then 0 else 1 else 50
def ss (L P n:Int):Bool:=DY L P && (decide (0<=n/\n<=L) && decide (P<n+P/2))
def nC (L:Nat):Nat->Nat×Nat
 |0=>(0,1)
 |e+1=>((nC L e).1+(nC L e).2,(nC L e).2*(L-e)*15/(e+1))
def sV (L P:Nat):Nat:=(nC L (P/2+1)).1
def sU (L P:Nat):Nat:=Nat.gcd (sV L P) (2^(4*P))
def tG (L P:Int):Int:=if DY L P=true then ((sV L.toNat P.toNat/sU L.toNat P.toNat:Nat):Int) else 0
def tF (L P:Int):Int:=if DY L P=true then ((2^(4*P.toNat)/sU L.toNat P.toNat:Nat):Int) else 0
theorem Qn (a b:Nat):Int.tdiv (a:Int) (b:Int)=((a/b:Nat):Int):=by
 rw[Int.tdiv_eq_ediv_of_nonneg (by omega)];rfl
theorem VQ (a b:Nat):Int.tmod (a:Int) (b:Int)=((a%b:Nat):Int):=by
 rw[Int.tmod_eq_emod_of_nonneg (by omega)];rfl
attribute [local irreducible] IntKind.wrap Ai Option.getD and or
end
def fs (xs:List Int):List F:=xs.map fun x=>Fin.ofNat 16 x.toNat
theorem UW (xs:List Int):(fs xs).length=xs.length:=by simp[fs]
theorem WO:∀{xs:List Int},xs.all J3=true->iv (fs xs)=xs
 |[],_=>rfl
 |x::xs,h=>by
  simp only[List.all_cons,Bool.and_eq_true] at h
  have hx:0<=x/\x<=15:=by simpa[J3] using h.1
  show ((Fin.ofNat 16 x.toNat).val:Int)::iv (fs xs)=x::xs
  rw[WO h.2]
  congr 1
  show ((x.toNat%16:Nat):Int)=x
  omega
theorem sR (w:List F):fs (iv w)=w:=by
 apply pg.1
 apply WO
 rw[List.all_eq_true]
 intro x hx
 simp[iv] at hx
 obtain⟨a,_,rfl⟩:=hx
 have:=a.isLt
 simp[J3];omega
theorem ph (w:List F):(iv w).all J3=true:=by
 rw[List.all_eq_true]
 intro x hx
 simp[iv] at hx
 obtain⟨a,_,rfl⟩:=hx
 have:=a.isLt
 simp[J3];omega
theorem VR (w:List F) (m:Int):Bl (iv w) m=decide ((w.length:Int)=m):=by
 unfold Bl;rw[ph,Bool.and_true,Gx]
theorem NC {xs:List Int}{m:Int}(h:Bl xs m=true):(xs.length:Int)=m/\iv (fs xs)=xs:=by
 unfold Bl at h
 simp only[Bool.and_eq_true,decide_eq_true_eq] at h
 exact⟨h.1,WO h.2⟩
def nt (ms:List Int):List Nat:=ms.map Int.toNat
theorem pN (ms:List Int):(nt ms).length=ms.length:=by simp[nt]
theorem LU {ms:List Int}{m:Int}(h:Cq ms m=true) {i:Nat}(hi:i<ms.length):0<=ms[i]?.getD 0/\ms[i]?.getD 0<m/\(0<i->ms[i-1]?.getD 0<ms[i]?.getD 0):=by
 have:=(List.all_eq_true.1 h) i (by simpa using hi)
 simp only[bU,decide_eq_true_eq] at this
 exact this
theorem nN {ms:List Int}{m:Int}(h:Cq ms m=true):ni (nt ms)=ms:=by
 apply List.ext_getElem
 ·simp[ni,nt]
 ·intro i h1 h2
  have:=(LU h h2).1
  rw[List.getElem?_eq_getElem h2] at this
  simp[ni,nt] at this ⊢
  omega
theorem i4 (ms:List Int) (h:∀i,i<ms.length->0<i->ms[i-1]?.getD 0<ms[i]?.getD 0):∀j i,i<j->j<ms.length->ms[i]?.getD 0<ms[j]?.getD 0
 |0,i,h1,_=>by omega
 |j+1,i,h1,h2=>by
  have h3:=h (j+1) h2 (by omega)
  rw[show j+1-1=j by omega] at h3
  by_cases hij:i=j
  ·subst hij;exact h3
  ·have:=i4 ms h j i (by omega) (by omega)
   omega
theorem fT {ms:List Int}{L:Nat}(h:Cq ms (L:Int)=true):XV L (nt ms):=by
 have ha:=i4 ms fun i hi h0=>(LU h hi).2.2 h0
 refine⟨List.pairwise_iff_getElem.2 fun i j hi hj hij=>?_,fun j hj=>?_⟩
 ·rw[pN] at hi hj
  have h1:=ha j i hij hj
  have h2:=(LU h hi).1
  rw[List.getElem?_eq_getElem hi,List.getElem?_eq_getElem hj] at h1
  rw[List.getElem?_eq_getElem hi] at h2
  simp[nt] at h1 h2 ⊢
  omega
 ·simp only[nt,List.mem_map] at hj
  obtain⟨x,hx,rfl⟩:=hj
  obtain⟨i,hi,rfl⟩:=List.getElem_of_mem hx
  have h2:=LU h hi
  rw[List.getElem?_eq_getElem hi] at h2
  simp at h2
  omega
theorem UL {L:Nat}{mk:List Nat}(h:XV L mk):mk.length<=L:=by
 have:=RS mk (List.range L) (Fo h.asc) fun j hj=>by simpa using h.lt j hj
 simpa using this
def sw (L P:Int) (xs:List Int):Int:=if DY L P=true then if Bl xs (L-P)=true then 0 else 51 else 50
def sv (L P:Int) (xs:List Int):List Int:=if DY L P=true then if Bl xs (L-P)=true then iv (Hp P.toNat (fs xs)) else [] else []
noncomputable def sT (L P:Int) (ws ms:List Int):Option (List F):=GK L.toNat P.toNat (fs ws) (nt ms)
def oE:Option (List F)->Int
 |some _=>0
 |none=>52
def oL:Option (List F)->List F
 |some r=>r
 |none=>[]
theorem Zk (r:List F):oE (some r)=0:=rfl
theorem Zl:oE none=52:=rfl
theorem Zi (r:List F):oL (some r)=r:=rfl
theorem Zj:oL none=[]:=rfl
noncomputable def tD (L P:Int) (ws ms:List Int):Int :=
 if DY L P=true then if Bl ws L=true then if Cq ms L=true then oE (sT L P ws ms) else 1 else 51 else 50
noncomputable def tC (L P:Int) (ws ms:List Int):List Int :=
 if DY L P=true then if Bl ws L=true then if Cq ms L=true then iv (oL (sT L P ws ms)) else [] else [] else []
section
theorem YO (w:List F):(iv w).isEmpty=w.isEmpty:=by cases w<;>rfl
theorem kS {w:List F}(h:0<w.length):w.isEmpty=false:=by cases w<;>simp_all
theorem Mc {w:List F}(h:0<w.length):(iv w).isEmpty=false:=by rw[YO];exact kS h
attribute [local irreducible] IntKind.wrap Ai Option.getD and or
end
section
def CL (L P Q:Int):Bool:=DY L P && decide (1<=Q/\Q<=8)
theorem VG {L P Q:Int}(h:CL L P Q=true):DY L P=true/\1<=Q/\Q<=8:=by simpa[CL] using h
def nM (L P Q:Int) (xs:List Int) (m:Int):Int:=if CL L P Q=true then if Bl xs (Q*m)=true then 0 else 51 else 50
def rf (L P Q:Int) (e:Int):D:=if e=0 then .agg [.int .i64 L,.int .i64 P,.int .i64 Q] else .agg [.int .i64 0,.int .i64 0,.int .i64 0]
theorem Zh (L P Q:Int):rf L P Q 0=.agg [.int .i64 L,.int .i64 P,.int .i64 Q]:=rfl
theorem X6 (L P Q:Int):rf L P Q 51=.agg [.int .i64 0,.int .i64 0,.int .i64 0]:=rfl
theorem RP (L P Q:Int):rf L P Q 50=.agg [.int .i64 0,.int .i64 0,.int .i64 0]:=rfl
theorem XA:BL E0.P Ci=true:=by kernel_rfl
theorem TZ:BL E0.P CT=true:=by kernel_rfl
theorem U0:BL E0.P Dq=true:=by kernel_rfl
theorem aO:Bl [] 0=true:=rfl
attribute [local irreducible] IntKind.wrap Ai Option.getD and or
theorem Jn (L P:Int):BR E0 Ci [.agg [.int .i64 L,.int .i64 P]] (.int .i64 L):=by
 refine AM Kr Af (by simp) fun hwf=>?_
 rw[AQ];unfold GR
 (try (simp -implicitDefEqProofs only[go_sem]));repeat' first|(with_reducible first|exact tI|refine aI ?_ ?_|intro _|refine AJ ?_ ?_<;>intro _<;>try simp -implicitDefEqProofs only[go_sem])|simp (disch:=omega) only[Ad]
theorem Fk (L P:Int) (h:-1000<=L/\L<=1000/\-1000<=P/\P<=1000):BR E0 CT [.agg [.int .i64 L,.int .i64 P]] (.int .i64 (L-P)):=by
 refine AM J6 Af (by simp) fun hwf=>?_
 rw[AQ];unfold Fy
 have hw:IntKind.i64.wrap (L-P)=L-P:=AZ _ (by omega)
 (try (simp -implicitDefEqProofs only[go_sem,hw]));repeat' first|(with_reducible first|exact tI|refine aI ?_ ?_|intro _|refine AJ ?_ ?_<;>intro _<;>try simp -implicitDefEqProofs only[go_sem,hw])|simp (disch:=omega) only[Ad]
theorem Lp (L P:Int):BR E0 Dq [.agg [.int .i64 L,.int .i64 P]] (.int .i64 0):=by
 refine AM Ll Af (by simp) fun hwf=>?_
 rw[AQ];unfold Gt
 (try (simp -implicitDefEqProofs only[go_sem]));repeat' first|(with_reducible first|exact tI|refine aI ?_ ?_|intro _|refine AJ ?_ ?_<;>intro _<;>try simp -implicitDefEqProofs only[go_sem])|simp (disch:=omega) only[Ad]
theorem DH (L P Q:Int) (nl:Bool) (xs:List Int) (f:FuncId) (m:Int) (hb:BL E0.P f=true) (hm:0<=m/\m<=1000) (h:DY L P=true->BR E0 f [.agg [.int .i64 L,.int .i64 P]] (.int .i64 m)) :
  BR E0 LC [.agg [.int .i64 L,.int .i64 P,.int .i64 Q],.list nl (Aa xs),.fn f []] (.tup [rf L P Q (nM L P Q xs m),.int .i64 (nM L P Q xs m)]):=by
 have c1:=Nz L P
 refine AM O3 Af (by simp) fun hwf=>?_
 rw[AQ];unfold Jh nM CL
 cases hc:DY L P with
 |false =>
  rw[hc] at c1
  simp only[Bool.false_eq_true,if_false,Bool.false_and] at c1 ⊢
  rw[RP]
  (try (simp -implicitDefEqProofs only[go_sem]));repeat' first|(with_reducible first|exact tI|refine aI ?_ ?_|intro _)|((first|with_reducible refine AJ ?_ ?_<;>intro _|(with_reducible refine isCall ?_);first|refine AE c1 ?_)<;>try (simp -implicitDefEqProofs only[go_sem]))|simp (disch:=omega) only[Ad]
  all_goals first|rfl|(simp;done)|skip
 |true =>
  rw[hc] at c1
  simp only[if_true,Bool.true_and] at c1 ⊢
  by_cases hD:1<=Q/\Q<=8
  ·have h1:¬Q<1:=by omega
   have h2:¬8<Q:=by omega
   have hDm:0<=Q*m/\Q*m<=8000:=by
    constructor
    ·exact Int.mul_nonneg (by omega) (by omega)
    ·exact Int.le_trans (Int.mul_le_mul_of_nonneg_left hm.2 (by omega)) (by omega)
   have hw:IntKind.i64.wrap (Q*m)=Q*m:=AZ _ (by omega)
   rw[decide_eq_true hD]
   simp only[if_true]
   have c2:=QA nl xs (Q*m)
   have c3:=h hc
   cases hs:Bl xs (Q*m) with
   |false =>
    rw[hs] at c2
    simp only[Bool.false_eq_true,if_false]
    rw[X6]
    (try (simp -implicitDefEqProofs only[go_sem,h1,h2,hw,hb]));repeat' first|(with_reducible first|exact tI|refine aI ?_ ?_|intro _)|((first|with_reducible refine AJ ?_ ?_<;>intro _|(with_reducible refine isCall ?_);first|refine AE c1 ?_|refine AE c2 ?_|refine AE c3 ?_)<;>try (simp -implicitDefEqProofs only[go_sem,h1,h2,hw,hb]))|simp (disch:=omega) only[Ad]
    all_goals first|rfl|(simp;done)|skip
   |true =>
    rw[hs] at c2
    simp only[if_true]
    rw[Zh]
    (try (simp -implicitDefEqProofs only[go_sem,h1,h2,hw,hb]));repeat' first|(with_reducible first|exact tI|refine aI ?_ ?_|intro _)|((first|with_reducible refine AJ ?_ ?_<;>intro _|(with_reducible refine isCall ?_);first|refine AE c1 ?_|refine AE c2 ?_|refine AE c3 ?_)<;>try (simp -implicitDefEqProofs only[go_sem,h1,h2,hw,hb]))|simp (disch:=omega) only[Ad]
    all_goals first|rfl|(simp;done)|skip
  ·rw[decide_eq_false hD]
   simp only[Bool.false_eq_true,if_false]
   rw[RP]
   by_cases h1:Q<1
   ·(try (simp -implicitDefEqProofs only[go_sem,h1]));repeat' first|(with_reducible first|exact tI|refine aI ?_ ?_|intro _)|((first|with_reducible refine AJ ?_ ?_<;>intro _|(with_reducible refine isCall ?_);first|refine AE c1 ?_)<;>try (simp -implicitDefEqProofs only[go_sem,h1]))|simp (disch:=omega) only[Ad]
    all_goals first|rfl|(simp;done)|skip
   ·have h2:8<Q:=by omega
    (try (simp -implicitDefEqProofs only[go_sem,h1,h2]));repeat' first|(with_reducible first|exact tI|refine aI ?_ ?_|intro _)|((first|with_reducible refine AJ ?_ ?_<;>intro _|(with_reducible refine isCall ?_);first|refine AE c1 ?_)<;>try (simp -implicitDefEqProofs only[go_sem,h1,h2]))|simp (disch:=omega) only[Ad]
    all_goals first|rfl|(simp;done)|skip
theorem N0 (L P Q:Int):BR E0 Jy [.agg [.int .i64 L,.int .i64 P,.int .i64 Q]] (.tup [.int .i64 (if CL L P Q=true then Q*(P/2) else 0),.int .i64 (if CL L P Q=true then Q*P else 0),.int .i64 (if CL L P Q=true then 0 else 50)]):=by
 have c1:=DH L P Q true [] Dq 0 U0 (by omega) fun _=>Lp L P
 refine AM Nq Af (by simp) fun hwf=>?_
 rw[AQ];unfold IR
 unfold nM at c1
 cases hw:CL L P Q with
 |false =>
  rw[hw] at c1
  simp only[Bool.false_eq_true,if_false] at c1 ⊢
  rw[RP] at c1
  (try (simp -implicitDefEqProofs only[go_sem]));repeat' first|(with_reducible first|exact tI|refine aI ?_ ?_|intro _)|((first|with_reducible refine AJ ?_ ?_<;>intro _|(with_reducible refine isCall ?_);first|refine AE c1 ?_)<;>try (simp -implicitDefEqProofs only[go_sem]))|simp (disch:=omega) only[Ad]
  all_goals first|rfl|(simp;done)|skip
 |true =>
  obtain⟨hc,hD⟩:=VG hw
  have hb:=Kx hc
  rw[hw,show Bl [] (Q*0)=true by rw[Int.mul_zero];exact aO] at c1
  simp only[if_true] at c1 ⊢
  rw[Zh] at c1
  have hd:P.tdiv 2=P/2:=Int.tdiv_eq_ediv_of_nonneg (by omega)
  have w1:IntKind.i64.wrap (P/2)=P/2:=AZ _ (by omega)
  have b1:0<=Q*(P/2)/\Q*(P/2)<=8*8:=⟨Int.mul_nonneg (by omega) (by omega),Int.mul_le_mul hD.2 (by omega) (by omega) (by omega)⟩
  have b2:0<=Q*P/\Q*P<=8*8:=⟨Int.mul_nonneg (by omega) (by omega),Int.mul_le_mul hD.2 (by omega) (by omega) (by omega)⟩
  have w2:IntKind.i64.wrap (Q*(P/2))=Q*(P/2):=AZ _ (by omega)
  have w3:IntKind.i64.wrap (Q*P)=Q*P:=AZ _ (by omega)
  (try (simp -implicitDefEqProofs only[go_sem,hd,w1,w2,w3]));repeat' first|(with_reducible first|exact tI|refine aI ?_ ?_|intro _)|((first|with_reducible refine AJ ?_ ?_<;>intro _|(with_reducible refine isCall ?_);first|refine AE c1 ?_)<;>try (simp -implicitDefEqProofs only[go_sem,hd,w1,w2,w3]))|simp (disch:=omega) only[Ad]
  all_goals first|rfl|(simp;done)|skip
end
section
def sx (L P:Nat) (w:List F):Bool:=(List.range P).all fun i=>decide (Eb w (QV L i)=0)
def sf (L P:Int):Bool:=DY L P && (decide (L<=10) && decide (P<=6))
def sj (L P:Int) (d a m:List Int):Bool:=decide (m.length<=30) && (Bl d (L-P) && (Bl a L && Cq m L))
def tB (w a:List F):List F:=List.zipWith fa w a
def tH (a b m:List Int) (n:Nat):List Nat:=(List.range n).filter fun i=>decide (a[i]?.getD 0≠b[i]?.getD 0) && !f9 m i
attribute [local irreducible] IntKind.wrap Ai Option.getD and or
end
end Go.Pw
