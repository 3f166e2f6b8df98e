/- A part of the proof. -/
import Derived.Test.YtibkjeolahobbaaGreatDoorPgChrDec
import Derived.Test.YtibkjeolahobbaaGreatDoorPgChrA
set_option linter.all false
section
open Go Go.Pw Go.Proofs
namespace Go.Pw
set_option maxRecDepth 100000
set_option maxHeartbeats 3200000
theorem SA (l g:List F) (o k:Nat) (b:F) (h:k<g.length):(C8 l o b (g.take k)).set (o+k) (fa ((C8 l o b (g.take k))[o+k]?.getD 0) (fm b (g[k]?.getD 0)))=C8 l o b (g.take (k+1)):=by
 rw[←Bz g 0 k h,SB]
 rw[show (g.take k).length=k by simp;omega]
theorem XC (l g:List F) (k:Nat) (b:F) (h:k<g.length):(C8 l 1 b (g.take k)).set (k+1) (fa ((C8 l 1 b (g.take k))[k+1]?.getD 0) (fm (g[k]?.getD 0) b))=C8 l 1 b (g.take (k+1)):=by
 rw[←SA l g 1 k b h,Dt b,Nat.add_comm 1 k]
attribute [local congr] Bl A_ A' Ar Bm Ay A0 Az Aq Ak Ae Aa Av Af Aw BL BP BN BO BM BQ BF Ai Ax Aj BD BX Ah BJ BK BE BG BI BH BB BC A9 Bn BA Au Ag
attribute [local irreducible] IntKind.wrap A4 Option.getD and or
theorem M8 (L P:Nat) (n1:Bool) (d:List F) (hL:L<=15) (hP:1<=P) (hd:d.length+P=L) (hd1:1<=d.length) (hn1:n1=false) :
  CE E0 GJ [Ui L P,.list n1 (us d)] (.list false (us (Gh P d))):=by
 subst hn1
 have c0:=Ir false d (by omega) (by omega) rfl
 refine AP JI Ap (by simp) fun hwf=>?_
 rw[AW];unfold Fo
 rw[B6]
 (try (simp -implicitDefEqProofs only[go_sem]));repeat' first|(with_reducible first|exact tI|refine aI ?_ ?_|intro _)|((first|with_reducible refine AO ?_ ?_<;>intro _)<;>try (simp -implicitDefEqProofs only[go_sem]))|simp (disch:=omega) only[Al]|((with_reducible refine A1 ?_);refine⟨_,rfl,?_,?_⟩)
 all_goals first|omega|(simp;done)|(simp;omega)|skip
 rw[show ([D.int .u8 1]:List D)=us (JG 0) from rfl]
 refine AY (α:=Nat) (l0:=?l1) (m0:=?m1) (fun x=>[(19,.d (.int .i64 (x:Int))),(5,.d (.list false (us (JG x))))]) (fun x=>[]) (fun x=>x<=P) (fun x=>P-x) 0 ?h01 ?he1 ?he21 ?hI1 ?step1
 case h01=>(simp -implicitDefEqProofs only[go_sem];rfl)
 case he1=>rfl
 case he21=>rfl
 case' step1=>(rintro i hI;try dsimp only at hI)
 case' hI1=>try dsimp only
 ·exact Nat.zero_le _
 ·have hgl:=LJ i
  by_cases h:i<P
  ·have h':(i:Int)<(P:Int):=by omega
   have hwi:IntKind.i64.wrap ((i:Int)+1)=((i+1:Nat):Int):=by rw[AZ _ (by omega)];omega
   have hG:JG (i+1)=C8 (JG i++[0]) 1 (gp i) (JG i):=rfl
   obtain⟨G,hGe⟩:∃G,JG i=G:=⟨_,rfl⟩
   rw[hGe] at hgl hG ⊢
   have c1:=Ir false G (by omega) (by omega) rfl
   have c2:=Ed i (by omega)
   (try (simp -implicitDefEqProofs only[go_sem,h',Qj]));repeat' first|(with_reducible first|exact tI|refine aI ?_ ?_|intro _)|((first|with_reducible refine AO ?_ ?_<;>intro _|(with_reducible refine isCall ?_);first|(refine FA ([]) ([((7,1),(23,1))]) (c1) (by repeat' first|exact True.intro|exact rfl|refine And.intro ?_ ?_) (by simp[Handed,Dm.get,Ad.ren,AV.ren,AV.ren.renL,AN.get,Bb,CI,D8,AN.reach,AV.sites,AV.sites.sitesL,AN.osites]) (by simp[CQ,E_,CV,Dm.get,D8,EY,CL]) (by rfl) (by simp only[D9,Dm.get,Ad.ren,AV.ren,AV.ren.renL,and_self,and_true,true_and,if_true,reduceIte];rfl) ?_))<;>try (simp -implicitDefEqProofs only[go_sem,h',Qj]))|simp (disch:=omega) only[Al]|((with_reducible refine A1 ?_);refine⟨_,rfl,?_,?_⟩)
   all_goals first|omega|(simp;done)|(simp;omega)|skip
   refine AY (α:=Nat) (l0:=?l2) (m0:=?m2) (fun x=>[(28,.d (.int .i64 (x:Int)))]) (fun x=>[(23,.row 135 1 false (us (C8 (G++[0]) 1 (gp i) (G.take x))))]) (fun x=>x<=G.length) (fun x=>G.length-x) 0 ?h02 ?he2 ?he22 ?hI2 ?step2
   case h02=>(simp -implicitDefEqProofs only[go_sem];rfl)
   case he2=>rfl
   case he22=>rfl
   case' step2=>(rintro k hI2;try dsimp only at hI2)
   case' hI2=>try dsimp only
   ·exact Nat.zero_le _
   ·have hA:=JQ (G.take k) (G++[0]) 1 (gp i)
    rw[List.length_append,List.length_singleton] at hA
    by_cases hk:k<G.length
    ·have hk':(k:Int)<(G.length:Int):=by omega
     have hwk:IntKind.i64.wrap ((k:Int)+1)=((k+1:Nat):Int):=by rw[AZ _ (by omega)];omega
     have c3:=Dd (G[k]?.getD 0) (gp i)
     have hst:=XC (G++[0]) G k (gp i) hk
     (try (simp -implicitDefEqProofs only[go_sem,hk',hwk,hA,hst]));repeat' first|(with_reducible first|exact tI|refine aI ?_ ?_|intro _)|((first|with_reducible refine AO ?_ ?_<;>intro _|(with_reducible refine isCall ?_);first|refine AE c2 ?_|refine AE c3 ?_)<;>try (simp -implicitDefEqProofs only[go_sem,hk',hwk,hA,hst]))|simp (disch:=omega) only[Al]|((with_reducible refine A1 ?_);refine⟨_,rfl,?_,?_⟩)
     all_goals first|omega|(simp;done)|(simp;omega)|skip
     all_goals first|rfl|(simp at *;done)|(simp at *;omega)|skip
    ·have hk':¬(k:Int)<(G.length:Int):=by omega
     have hke:G.take k=G:=List.take_of_length_le (by omega)
     rw[hke,←hG]
     (try (simp -implicitDefEqProofs only[go_sem,hk',hwi]));repeat' first|(with_reducible first|exact tI|refine aI ?_ ?_|intro _)|((first|with_reducible refine AO ?_ ?_<;>intro _)<;>try (simp -implicitDefEqProofs only[go_sem,hk',hwi]))|simp (disch:=omega) only[Al]|((with_reducible refine A1 ?_);refine⟨_,rfl,?_,?_⟩)
     all_goals first|omega|(simp;done)|(simp;omega)|skip
     all_goals first|rfl|omega|skip
  ·have h':¬(i:Int)<(P:Int):=by omega
   have hie:i=P:=by omega
   subst hie
   obtain⟨G,hGe⟩:∃G,JG i=G:=⟨_,rfl⟩
   rw[hGe] at hgl ⊢
   (try (simp -implicitDefEqProofs only[go_sem,h',Tf,XR]));repeat' first|(with_reducible first|exact tI|refine aI ?_ ?_|intro _)|((first|with_reducible refine AO ?_ ?_<;>intro _|(with_reducible refine isCall ?_);first|(refine FA ([]) ([((7,1),(48,1))]) (c0) (by repeat' first|exact True.intro|exact rfl|refine And.intro ?_ ?_) (by simp[Handed,Dm.get,Ad.ren,AV.ren,AV.ren.renL,AN.get,Bb,CI,D8,AN.reach,AV.sites,AV.sites.sitesL,AN.osites]) (by simp[CQ,E_,CV,Dm.get,D8,EY,CL]) (by rfl) (by simp only[D9,Dm.get,Ad.ren,AV.ren,AV.ren.renL,and_self,and_true,true_and,if_true,reduceIte];rfl) ?_))<;>try (simp -implicitDefEqProofs only[go_sem,h',Tf,XR]))|simp (disch:=omega) only[Al]|((with_reducible refine A1 ?_);refine⟨_,rfl,?_,?_⟩)
   all_goals first|omega|(simp;done)|(simp;omega)|skip
   rw[show us (d++List.replicate i 0)=us (GX G d i 0) from rfl]
   refine AY (α:=Nat) (l0:=?l3) (m0:=?m3) (fun x=>[(55,.d (.int .i64 (x:Int)))]) (fun x=>[(48,.row 135 1 false (us (GX G d i x)))]) (fun x=>x<=d.length) (fun x=>d.length-x) 0 ?h03 ?he3 ?he23 ?hI3 ?step3
   case h03=>(simp -implicitDefEqProofs only[go_sem];rfl)
   case he3=>rfl
   case he23=>rfl
   case' step3=>(rintro m hI3;try dsimp only at hI3)
   case' hI3=>try dsimp only
   ·exact Nat.zero_le _
   ·have hrl:=HG G d i m
    have hrs:GX G d i (m+1)=C8 (GX G d i m) m ((GX G d i m)[m]?.getD 0) G:=rfl
    obtain⟨R,hR⟩:∃R,GX G d i m=R:=⟨_,rfl⟩
    rw[hR] at hrl hrs ⊢
    by_cases hm:m<d.length
    ·have hm':(m:Int)<(d.length:Int):=by omega
     have hwm:IntKind.i64.wrap ((m:Int)+1)=((m+1:Nat):Int):=by rw[AZ _ (by omega)];omega
     have hmR:m<R.length:=by omega
     obtain⟨B,hB⟩:∃B,R[m]?.getD 0=B:=⟨_,rfl⟩
     rw[hB] at hrs
     (try (simp -implicitDefEqProofs only[go_sem,hm',hmR,hB]));repeat' first|(with_reducible first|exact tI|refine aI ?_ ?_|intro _)|((first|with_reducible refine AO ?_ ?_<;>intro _)<;>try (simp -implicitDefEqProofs only[go_sem,hm',hmR,hB]))|simp (disch:=omega) only[Al]|((with_reducible refine A1 ?_);refine⟨_,rfl,?_,?_⟩)
     all_goals first|omega|(simp;done)|(simp;omega)|skip
     rw[show us R=us (C8 R m B (G.take 0)) from rfl]
     refine AY (α:=Nat) (l0:=?l4) (m0:=?m4) (fun x=>[(64,.d (.int .i64 (x:Int)))]) (fun x=>[(48,.row 135 1 false (us (C8 R m B (G.take x))))]) (fun x=>x<=G.length) (fun x=>G.length-x) 0 ?h04 ?he4 ?he24 ?hI4 ?step4
     case h04=>(simp -implicitDefEqProofs only[go_sem];rfl)
     case he4=>rfl
     case he24=>rfl
     case' step4=>(rintro k hI4;try dsimp only at hI4)
     case' hI4=>try dsimp only
     ·exact Nat.zero_le _
     ·have hA:=JQ (G.take k) R m B
      by_cases hk:k<G.length
      ·have hk':(k:Int)<(G.length:Int):=by omega
       have hwk:IntKind.i64.wrap ((k:Int)+1)=((k+1:Nat):Int):=by rw[AZ _ (by omega)];omega
       have hwmk:IntKind.i64.wrap ((m:Int)+(k:Int))=((m+k:Nat):Int):=by rw[AZ _ (by omega)];omega
       have hmk:m+k<R.length:=by omega
       have c3:=Dd B (G[k]?.getD 0)
       have hst:=SA R G m k B hk
       (try (simp -implicitDefEqProofs only[go_sem,hk',hwk,hwmk,hA,hmk,hst]));repeat' first|(with_reducible first|exact tI|refine aI ?_ ?_|intro _)|((first|with_reducible refine AO ?_ ?_<;>intro _|(with_reducible refine isCall ?_);first|refine AE c3 ?_)<;>try (simp -implicitDefEqProofs only[go_sem,hk',hwk,hwmk,hA,hmk,hst]))|simp (disch:=omega) only[Al]|((with_reducible refine A1 ?_);refine⟨_,rfl,?_,?_⟩)
       all_goals first|omega|(simp;done)|(simp;omega)|skip
       all_goals first|rfl|(simp at *;done)|(simp at *;omega)|skip
      ·have hk':¬(k:Int)<(G.length:Int):=by omega
       have hke:G.take k=G:=List.take_of_length_le (by omega)
       rw[hke,←hrs]
       (try (simp -implicitDefEqProofs only[go_sem,hk',hwm]));repeat' first|(with_reducible first|exact tI|refine aI ?_ ?_|intro _)|((first|with_reducible refine AO ?_ ?_<;>intro _)<;>try (simp -implicitDefEqProofs only[go_sem,hk',hwm]))|simp (disch:=omega) only[Al]|((with_reducible refine A1 ?_);refine⟨_,rfl,?_,?_⟩)
       all_goals first|omega|(simp;done)|(simp;omega)|skip
       all_goals first|rfl|omega|skip
    ·have hm':¬(m:Int)<(d.length:Int):=by omega
     have hme:m=d.length:=by omega
     have c4:=SF false false d (R.drop d.length) (by omega) (by simp;omega)
     have hres:d++R.drop d.length=Gh i d:=by rw[←hR,hme,←hGe];rfl
     have hemp:(Gh i d).isEmpty=false:=by
      have h5:=HX i d
      cases hE:Gh i d with
      |nil=>rw[hE] at h5;simp at h5;omega
      |cons=>rfl
     have hdr:List.take (d.length+i-d.length) (R.drop d.length)=R.drop d.length:=List.take_of_length_le (by simp;omega)
     rw[hres,hemp] at c4
     (try (simp -implicitDefEqProofs only[go_sem,hm',hrl,hdr]));repeat' first|(with_reducible first|exact tI|refine aI ?_ ?_|intro _)|((first|with_reducible refine AO ?_ ?_<;>intro _|(with_reducible refine isCall ?_);first|refine AE c4 ?_)<;>try (simp -implicitDefEqProofs only[go_sem,hm',hrl,hdr]))|simp (disch:=omega) only[Al]|((with_reducible refine A1 ?_);refine⟨_,rfl,?_,?_⟩)
     all_goals first|omega|(simp;done)|(simp;omega)|skip
     all_goals first|rfl|(simp at *;done)|(simp at *;omega)|skip
end Go.Pw
end
section
open Go Go.Pw Go.Proofs
namespace Go.Pw
set_option maxRecDepth 100000
set_option maxHeartbeats 3200000
theorem Gl {L P:Int}(h:De L P=true):2<=L/\L<=15/\1<=P/\P<=8/\P<L:=by simpa[De] using h
theorem cJ {L P:Int}(h:De L P=true):∃l p:Nat,L=(l:Int)/\P=(p:Int)/\2<=l/\l<=15/\1<=p/\p<=8/\p<l:=by
 have:=Gl h
 exact⟨L.toNat,P.toNat,by omega,by omega,by omega,by omega,by omega,by omega,by omega⟩
def kd (L P n:Int):Int:=if De L P=true then if 0<=n/\n<=L then 0 else 1 else 50
def bS (L P n:Int):Bool:=De L P && (decide (0<=n/\n<=L) && decide (P<n+P/2))
def lW (L:Nat):Nat->Nat×Nat
 |0=>(0,1)
 |e+1=>((lW L e).1+(lW L e).2,(lW L e).2*(L-e)*15/(e+1))
def qW (L P:Nat):Nat:=(lW L (P/2+1)).1
def qV (L P:Nat):Nat:=Nat.gcd (qW L P) (2^(4*P))
def q6 (L P:Int):Int:=if De L P=true then ((qW L.toNat P.toNat/qV L.toNat P.toNat:Nat):Int) else 0
def q5 (L P:Int):Int:=if De L P=true then ((2^(4*P.toNat)/qV L.toNat P.toNat:Nat):Int) else 0
theorem dL (a b:Nat):Int.tdiv (a:Int) (b:Int)=((a/b:Nat):Int):=by
 rw[Int.tdiv_eq_ediv_of_nonneg (by omega)];rfl
theorem dJ (a b:Nat):Int.tmod (a:Int) (b:Int)=((a%b:Nat):Int):=by
 rw[Int.tmod_eq_emod_of_nonneg (by omega)];rfl
attribute [local congr] Bl A_ A' Ar Bm Ay A0 Az Aq Ak Ae Aa Av Af Aw BL BP BN BO BM BQ BF Ai Ax Aj BD BX Ah BJ BK BE BG BI BH BB BC A9 Bn BA Au Ag
attribute [local irreducible] IntKind.wrap A4 Option.getD and or
theorem Hf (L P n:Int):CE E0 JW [.agg [.int .i64 L,.int .i64 P],.int .i64 n] (.tup [.bool (bS L P n),.int .i64 (kd L P n)]):=by
 have c1:=IJ L P
 refine AP M0 Ap (by simp) fun hwf=>?_
 simp only[Du,DA,C_,Cy,EB,EA,Fk,D_,Bi,Bu,Bv,DC,CA,List.length_map,B7,true_and,and_true] at hwf
 rw[AW];unfold H8 bS kd
 cases hc:De L P with
 |false =>
  rw[hc] at c1
  simp only[Bool.false_eq_true,if_false] at c1
  (try (simp -implicitDefEqProofs only[go_sem,hc]));repeat' first|(with_reducible first|exact tI|refine aI ?_ ?_|intro _)|((first|with_reducible refine AO ?_ ?_<;>intro _|(with_reducible refine isCall ?_);first|refine AE c1 ?_)<;>try (simp -implicitDefEqProofs only[go_sem,hc]))|simp (disch:=omega) only[Al]
  all_goals first|rfl|(simp;done)|skip
 |true =>
  have hb:=Gl hc
  have hd:P.tdiv 2=P/2:=Int.tdiv_eq_ediv_of_nonneg (by omega)
  have hw:IntKind.i64.wrap (P/2)=P/2:=AZ _ (by omega)
  rw[hc] at c1
  simp only[if_true] at c1
  by_cases hn:0<=n/\n<=L
  ·have hn1:¬n<0:=by omega
   have hn2:¬L<n:=by omega
   have hw2:IntKind.i64.wrap (n+P/2)=n+P/2:=AZ _ (by omega)
   (try (simp -implicitDefEqProofs only[go_sem,hc,hd,hw,hw2,hn1,hn2]));repeat' first|(with_reducible first|exact tI|refine aI ?_ ?_|intro _)|((first|with_reducible refine AO ?_ ?_<;>intro _|(with_reducible refine isCall ?_);first|refine AE c1 ?_)<;>try (simp -implicitDefEqProofs only[go_sem,hc,hd,hw,hw2,hn1,hn2]))|simp (disch:=omega) only[Al]
   all_goals first|omega|(simp[*];done)|skip
  ·by_cases hn1:n<0
   ·have hn3:¬0<=n:=by omega
    (try (simp -implicitDefEqProofs only[go_sem,hc,hn1]));repeat' first|(with_reducible first|exact tI|refine aI ?_ ?_|intro _)|((first|with_reducible refine AO ?_ ?_<;>intro _|(with_reducible refine isCall ?_);first|refine AE c1 ?_)<;>try (simp -implicitDefEqProofs only[go_sem,hc,hn1]))|simp (disch:=omega) only[Al]
    all_goals first|rfl|(simp[hn3];done)|(simp[hn3];omega)|skip
   ·have hn2:L<n:=by omega
    have hn3:¬n<=L:=by omega
    (try (simp -implicitDefEqProofs only[go_sem,hc,hn1,hn2]));repeat' first|(with_reducible first|exact tI|refine aI ?_ ?_|intro _)|((first|with_reducible refine AO ?_ ?_<;>intro _|(with_reducible refine isCall ?_);first|refine AE c1 ?_)<;>try (simp -implicitDefEqProofs only[go_sem,hc,hn1,hn2]))|simp (disch:=omega) only[Al]
    all_goals first|rfl|(simp[hn3];done)|(simp[hn3];omega)|skip
end Go.Pw
end
section
namespace Go.Pw
def fs (xs:List Int):List F:=xs.map fun x=>Fin.ofNat 16 x.toNat
theorem UL (xs:List Int):(fs xs).length=xs.length:=by simp[fs]
theorem ZY:∀{xs:List Int},xs.all Km=true->iv (fs xs)=xs
 |[],_=>rfl
 |x::xs,h=>by
  simp only[List.all_cons,Bool.and_eq_true] at h
  have hx:0<=x/\x<=15:=by simpa[Km] using h.1
  show ((Fin.ofNat 16 x.toNat).val:Int)::iv (fs xs)=x::xs
  rw[ZY h.2]
  congr 1
  show ((x.toNat%16:Nat):Int)=x
  omega
theorem qS (w:List F):fs (iv w)=w:=by
 apply nZ.1
 apply ZY
 rw[List.all_eq_true]
 intro x hx
 simp[iv] at hx
 obtain⟨a,_,rfl⟩:=hx
 have:=a.isLt
 simp[Km];omega
theorem nc (w:List F):(iv w).all Km=true:=by
 rw[List.all_eq_true]
 intro x hx
 simp[iv] at hx
 obtain⟨a,_,rfl⟩:=hx
 have:=a.isLt
 simp[Km];omega
theorem dM (w:List F) (m:Int):CS (iv w) m=decide ((w.length:Int)=m):=by
 unfold CS;rw[nc,Bool.and_true,Jl]
theorem Qo {xs:List Int}{m:Int}(h:CS xs m=true):(xs.length:Int)=m/\iv (fs xs)=xs:=by
 unfold CS at h
 simp only[Bool.and_eq_true,decide_eq_true_eq] at h
 exact⟨h.1,ZY h.2⟩
def nt (ms:List Int):List Nat:=ms.map Int.toNat
theorem nH (ms:List Int):(nt ms).length=ms.length:=by simp[nt]
theorem Ls {ms:List Int}{m:Int}(h:EW ms m=true) {i:Nat}(hi:i<ms.length):0<=ms[i]?.getD 0/\ms[i]?.getD 0<m/\(0<i->ms[i-1]?.getD 0<ms[i]?.getD 0):=by
 have:=(List.all_eq_true.1 h) i (by simpa using hi)
 simp only[jx,decide_eq_true_eq] at this
 exact this
theorem pA {ms:List Int}{m:Int}(h:EW ms m=true):ni (nt ms)=ms:=by
 apply List.ext_getElem
 ·simp[ni,nt]
 ·intro i h1 h2
  have:=(Ls h h2).1
  rw[List.getElem?_eq_getElem h2] at this
  simp[ni,nt] at this ⊢
  omega
theorem gk (ms:List Int) (h:∀i,i<ms.length->0<i->ms[i-1]?.getD 0<ms[i]?.getD 0):∀j i,i<j->j<ms.length->ms[i]?.getD 0<ms[j]?.getD 0
 |0,i,h1,_=>by omega
 |j+1,i,h1,h2=>by
  have h3:=h (j+1) h2 (by omega)
  rw[show j+1-1=j by omega] at h3
  by_cases hij:i=j
  ·subst hij;exact h3
  ·have:=gk ms h j i (by omega) (by omega)
   omega
theorem nS {ms:List Int}{L:Nat}(h:EW ms (L:Int)=true):Y2 L (nt ms):=by
 have ha:=gk ms fun i hi h0=>(Ls h hi).2.2 h0
 refine⟨List.pairwise_iff_getElem.2 fun i j hi hj hij=>?_,fun j hj=>?_⟩
 ·rw[nH] at hi hj
  have h1:=ha j i hij hj
  have h2:=(Ls h hi).1
  rw[List.getElem?_eq_getElem hi,List.getElem?_eq_getElem hj] at h1
  rw[List.getElem?_eq_getElem hi] at h2
  simp[nt] at h1 h2 ⊢
  omega
 ·simp only[nt,List.mem_map] at hj
  obtain⟨x,hx,rfl⟩:=hj
  obtain⟨i,hi,rfl⟩:=List.getElem_of_mem hx
  have h2:=Ls h hi
  rw[List.getElem?_eq_getElem hi] at h2
  simp at h2
  omega
theorem ej {L:Nat}{mk:List Nat}(h:Y2 L mk):mk.length<=L:=by
 have:=RE mk (List.range L) (EU h.asc) fun j hj=>by simpa using h.lt j hj
 simpa using this
def qn (L P:Int) (xs:List Int):Int:=if De L P=true then if CS xs (L-P)=true then 0 else 51 else 50
def qm (L P:Int) (xs:List Int):List Int:=if De L P=true then if CS xs (L-P)=true then iv (Gh P.toNat (fs xs)) else [] else []
noncomputable def qU (L P:Int) (ws ms:List Int):Option (List F):=M5 L.toNat P.toNat (fs ws) (nt ms)
def oE:Option (List F)->Int
 |some _=>0
 |none=>52
def oL:Option (List F)->List F
 |some r=>r
 |none=>[]
theorem ji (r:List F):oE (some r)=0:=rfl
theorem jj:oE none=52:=rfl
theorem jg (r:List F):oL (some r)=r:=rfl
theorem jh:oL none=[]:=rfl
noncomputable def qy (L P:Int) (ws ms:List Int):Int :=
 if De L P=true then if CS ws L=true then if EW ms L=true then oE (qU L P ws ms) else 1 else 51 else 50
noncomputable def qw (L P:Int) (ws ms:List Int):List Int :=
 if De L P=true then if CS ws L=true then if EW ms L=true then iv (oL (qU L P ws ms)) else [] else [] else []
end Go.Pw
end
section
open Go Go.Pw Go.Proofs
namespace Go.Pw
set_option maxRecDepth 100000
set_option maxHeartbeats 3200000
theorem X_ (w:List F):(iv w).isEmpty=w.isEmpty:=by cases w<;>rfl
theorem jX {w:List F}(h:0<w.length):w.isEmpty=false:=by cases w<;>simp_all
theorem RH {w:List F}(h:0<w.length):(iv w).isEmpty=false:=by rw[X_];exact jX h
attribute [local congr] Bl A_ A' Ar Bm Ay A0 Az Aq Ak Ae Aa Av Af Aw BL BP BN BO BM BQ BF Ai Ax Aj BD BX Ah BJ BK BE BG BI BH BB BC A9 Bn BA Au Ag
attribute [local irreducible] IntKind.wrap A4 Option.getD and or
end Go.Pw
end
section
open Go Go.Pw Go.Proofs
namespace Go.Pw
set_option maxRecDepth 100000
set_option maxHeartbeats 3200000
def Cz (L P Q:Int):Bool:=De L P && decide (1<=Q/\Q<=8)
theorem U3 {L P Q:Int}(h:Cz L P Q=true):De L P=true/\1<=Q/\Q<=8:=by simpa[Cz] using h
def lz (L P Q:Int) (xs:List Int) (m:Int):Int:=if Cz L P Q=true then if CS xs (Q*m)=true then 0 else 51 else 50
def pp (L P Q:Int) (e:Int):D:=if e=0 then .agg [.int .i64 L,.int .i64 P,.int .i64 Q] else .agg [.int .i64 0,.int .i64 0,.int .i64 0]
theorem ZN (L P Q:Int):pp L P Q 0=.agg [.int .i64 L,.int .i64 P,.int .i64 Q]:=rfl
theorem Xr (L P Q:Int):pp L P Q 51=.agg [.int .i64 0,.int .i64 0,.int .i64 0]:=rfl
theorem RA (L P Q:Int):pp L P Q 50=.agg [.int .i64 0,.int .i64 0,.int .i64 0]:=rfl
theorem Ww:B0 E0.P DR=true:=by kernel_rfl
theorem TR:B0 E0.P C9=true:=by kernel_rfl
theorem Ul:B0 E0.P Ef=true:=by kernel_rfl
theorem Z5:CS [] 0=true:=rfl
attribute [local congr] Bl A_ A' Ar Bm Ay A0 Az Aq Ak Ae Aa Av Af Aw BL BP BN BO BM BQ BF Ai Ax Aj BD BX Ah BJ BK BE BG BI BH BB BC A9 Bn BA Au Ag
attribute [local irreducible] IntKind.wrap A4 Option.getD and or
theorem KE (L P:Int):CE E0 DR [.agg [.int .i64 L,.int .i64 P]] (.int .i64 L):=by
 refine AP LN Ap (by simp) fun hwf=>?_
 rw[AW];unfold G4
 (try (simp -implicitDefEqProofs only[go_sem]));repeat' first|(with_reducible first|exact tI|refine aI ?_ ?_|intro _)|((first|with_reducible refine AO ?_ ?_<;>intro _)<;>try (simp -implicitDefEqProofs only[go_sem]))|simp (disch:=omega) only[Al]
theorem GO (L P:Int) (h:-1000<=L/\L<=1000/\-1000<=P/\P<=1000):CE E0 C9 [.agg [.int .i64 L,.int .i64 P]] (.int .i64 (L-P)):=by
 refine AP Ka Ap (by simp) fun hwf=>?_
 rw[AW];unfold Ga
 have hw:IntKind.i64.wrap (L-P)=L-P:=AZ _ (by omega)
 (try (simp -implicitDefEqProofs only[go_sem,hw]));repeat' first|(with_reducible first|exact tI|refine aI ?_ ?_|intro _)|((first|with_reducible refine AO ?_ ?_<;>intro _)<;>try (simp -implicitDefEqProofs only[go_sem,hw]))|simp (disch:=omega) only[Al]
theorem MB (L P:Int):CE E0 Ef [.agg [.int .i64 L,.int .i64 P]] (.int .i64 0):=by
 refine AP L8 Ap (by simp) fun hwf=>?_
 rw[AW];unfold HQ
 (try (simp -implicitDefEqProofs only[go_sem]));repeat' first|(with_reducible first|exact tI|refine aI ?_ ?_|intro _)|((first|with_reducible refine AO ?_ ?_<;>intro _)<;>try (simp -implicitDefEqProofs only[go_sem]))|simp (disch:=omega) only[Al]
theorem D4 (L P Q:Int) (nl:Bool) (xs:List Int) (f:FuncId) (m:Int) (hb:B0 E0.P f=true) (hm:0<=m/\m<=1000) (h:De L P=true->CE E0 f [.agg [.int .i64 L,.int .i64 P]] (.int .i64 m)) :
  CE E0 Lf [.agg [.int .i64 L,.int .i64 P,.int .i64 Q],.list nl (Am xs),.fn f []] (.tup [pp L P Q (lz L P Q xs m),.int .i64 (lz L P Q xs m)]):=by
 have c1:=IJ L P
 refine AP PL Ap (by simp) fun hwf=>?_
 rw[AW];unfold J8 lz Cz
 cases hc:De L P with
 |false =>
  rw[hc] at c1
  simp only[Bool.false_eq_true,if_false,Bool.false_and] at c1 ⊢
  rw[RA]
  (try (simp -implicitDefEqProofs only[go_sem]));repeat' first|(with_reducible first|exact tI|refine aI ?_ ?_|intro _)|((first|with_reducible refine AO ?_ ?_<;>intro _|(with_reducible refine isCall ?_);first|refine AE c1 ?_)<;>try (simp -implicitDefEqProofs only[go_sem]))|simp (disch:=omega) only[Al]
  all_goals first|rfl|(simp;done)|skip
 |true =>
  rw[hc] at c1
  simp only[if_true,Bool.true_and] at c1 ⊢
  by_cases hD:1<=Q/\Q<=8
  ·have h1:¬Q<1:=by omega
   have h2:¬8<Q:=by omega
   have hDm:0<=Q*m/\Q*m<=8000:=by
    constructor
    ·exact Int.mul_nonneg (by omega) (by omega)
    ·exact Int.le_trans (Int.mul_le_mul_of_nonneg_left hm.2 (by omega)) (by omega)
   have hw:IntKind.i64.wrap (Q*m)=Q*m:=AZ _ (by omega)
   rw[decide_eq_true hD]
   simp only[if_true]
   have c2:=QK nl xs (Q*m)
   have c3:=h hc
   cases hs:CS xs (Q*m) with
   |false =>
    rw[hs] at c2
    simp only[Bool.false_eq_true,if_false]
    rw[Xr]
    (try (simp -implicitDefEqProofs only[go_sem,h1,h2,hw,hb]));repeat' first|(with_reducible first|exact tI|refine aI ?_ ?_|intro _)|((first|with_reducible refine AO ?_ ?_<;>intro _|(with_reducible refine isCall ?_);first|refine AE c1 ?_|refine AE c2 ?_|refine AE c3 ?_)<;>try (simp -implicitDefEqProofs only[go_sem,h1,h2,hw,hb]))|simp (disch:=omega) only[Al]
    all_goals first|rfl|(simp;done)|skip
   |true =>
    rw[hs] at c2
    simp only[if_true]
    rw[ZN]
    (try (simp -implicitDefEqProofs only[go_sem,h1,h2,hw,hb]));repeat' first|(with_reducible first|exact tI|refine aI ?_ ?_|intro _)|((first|with_reducible refine AO ?_ ?_<;>intro _|(with_reducible refine isCall ?_);first|refine AE c1 ?_|refine AE c2 ?_|refine AE c3 ?_)<;>try (simp -implicitDefEqProofs only[go_sem,h1,h2,hw,hb]))|simp (disch:=omega) only[Al]
    all_goals first|rfl|(simp;done)|skip
  ·rw[decide_eq_false hD]
   simp only[Bool.false_eq_true,if_false]
   rw[RA]
   by_cases h1:Q<1
   ·(try (simp -implicitDefEqProofs only[go_sem,h1]));repeat' first|(with_reducible first|exact tI|refine aI ?_ ?_|intro _)|((first|with_reducible refine AO ?_ ?_<;>intro _|(with_reducible refine isCall ?_);first|refine AE c1 ?_)<;>try (simp -implicitDefEqProofs only[go_sem,h1]))|simp (disch:=omega) only[Al]
    all_goals first|rfl|(simp;done)|skip
   ·have h2:8<Q:=by omega
    (try (simp -implicitDefEqProofs only[go_sem,h1,h2]));repeat' first|(with_reducible first|exact tI|refine aI ?_ ?_|intro _)|((first|with_reducible refine AO ?_ ?_<;>intro _|(with_reducible refine isCall ?_);first|refine AE c1 ?_)<;>try (simp -implicitDefEqProofs only[go_sem,h1,h2]))|simp (disch:=omega) only[Al]
    all_goals first|rfl|(simp;done)|skip
theorem OM (L P Q:Int):CE E0 KQ [.agg [.int .i64 L,.int .i64 P,.int .i64 Q]] (.tup [.int .i64 (if Cz L P Q=true then Q*(P/2) else 0),.int .i64 (if Cz L P Q=true then Q*P else 0),.int .i64 (if Cz L P Q=true then 0 else 50)]):=by
 have c1:=D4 L P Q true [] Ef 0 Ul (by omega) fun _=>MB L P
 refine AP OA Ap (by simp) fun hwf=>?_
 rw[AW];unfold I9
 unfold lz at c1
 cases hw:Cz L P Q with
 |false =>
  rw[hw] at c1
  simp only[Bool.false_eq_true,if_false] at c1 ⊢
  rw[RA] at c1
  (try (simp -implicitDefEqProofs only[go_sem]));repeat' first|(with_reducible first|exact tI|refine aI ?_ ?_|intro _)|((first|with_reducible refine AO ?_ ?_<;>intro _|(with_reducible refine isCall ?_);first|refine AE c1 ?_)<;>try (simp -implicitDefEqProofs only[go_sem]))|simp (disch:=omega) only[Al]
  all_goals first|rfl|(simp;done)|skip
 |true =>
  obtain⟨hc,hD⟩:=U3 hw
  have hb:=Gl hc
  rw[hw,show CS [] (Q*0)=true by rw[Int.mul_zero];exact Z5] at c1
  simp only[if_true] at c1 ⊢
  rw[ZN] at c1
  have hd:P.tdiv 2=P/2:=Int.tdiv_eq_ediv_of_nonneg (by omega)
  have w1:IntKind.i64.wrap (P/2)=P/2:=AZ _ (by omega)
  have b1:0<=Q*(P/2)/\Q*(P/2)<=8*8:=⟨Int.mul_nonneg (by omega) (by omega),Int.mul_le_mul hD.2 (by omega) (by omega) (by omega)⟩
  have b2:0<=Q*P/\Q*P<=8*8:=⟨Int.mul_nonneg (by omega) (by omega),Int.mul_le_mul hD.2 (by omega) (by omega) (by omega)⟩
  have w2:IntKind.i64.wrap (Q*(P/2))=Q*(P/2):=AZ _ (by omega)
  have w3:IntKind.i64.wrap (Q*P)=Q*P:=AZ _ (by omega)
  (try (simp -implicitDefEqProofs only[go_sem,hd,w1,w2,w3]));repeat' first|(with_reducible first|exact tI|refine aI ?_ ?_|intro _)|((first|with_reducible refine AO ?_ ?_<;>intro _|(with_reducible refine isCall ?_);first|refine AE c1 ?_)<;>try (simp -implicitDefEqProofs only[go_sem,hd,w1,w2,w3]))|simp (disch:=omega) only[Al]
  all_goals first|rfl|(simp;done)|skip
end Go.Pw
end
section
open Go Go.Pw Go.Proofs
namespace Go.Pw
set_option maxRecDepth 100000
set_option maxHeartbeats 3200000
def qo (L P:Nat) (w:List F):Bool:=(List.range P).all fun i=>decide (Fh w (Sc L i)=0)
def qb (L P:Int):Bool:=De L P && (decide (L<=10) && decide (P<=6))
def qf (L P:Int) (d a m:List Int):Bool:=decide (m.length<=30) && (CS d (L-P) && (CS a L && EW m L))
def qv (w a:List F):List F:=List.zipWith fa w a
def q7 (a b m:List Int) (n:Nat):List Nat:=(List.range n).filter fun i=>decide (a[i]?.getD 0≠b[i]?.getD 0) && !kN m i
attribute [local congr] Bl A_ A' Ar Bm Ay A0 Az Aq Ak Ae Aa Av Af Aw BL BP BN BO BM BQ BF Ai Ax Aj BD BX Ah BJ BK BE BG BI BH BB BC A9 BA Au Ag
attribute [local irreducible] IntKind.wrap A4 Option.getD and or
end Go.Pw
end
section
open Go Go.Pw Go.Proofs
namespace Go.Pw
set_option maxRecDepth 100000
set_option maxHeartbeats 3200000
def p5 (l:List Nat):D:=.list l.isEmpty (Am (ni l))
def qu (ls:List (List Nat)):List D:=ls.map p5
attribute [local congr] Bl A_ A' Ar Bm Ay A0 Az Aq Ak Ae Aa Av Af Aw BL BP BN BO BM BQ BF Ai Ax Aj BD BX Ah BJ BK BE BG BI BH BB BC A9 Bn BA Au Ag
attribute [local irreducible] IntKind.wrap A4 Option.getD and or
end Go.Pw
end
section
open Go Go.Pw Go.Proofs
namespace Go.Pw
set_option maxRecDepth 100000
set_option maxHeartbeats 3200000
theorem get_mem {l:List Nat}{i:Nat}(h:i<l.length):l[i]?.getD 0∈l:=by rw[ZQ _ _ h];exact List.getElem_mem h
def qs (w:List F) (at_:List Nat):List F:=EZ w at_ (List.replicate at_.length 0)
end Go.Pw
end
section
namespace Go.Pw
end Go.Pw
end
section
open Go Go.Pw Go.Proofs
namespace Go.Pw
set_option maxRecDepth 100000
set_option maxHeartbeats 3200000
attribute [local congr] Bl A_ A' Ar Bm Ay A0 Az Aq Ak Ae Aa Av Af Aw BL BP BN BO BM BQ BF Ai Ax Aj BD BX Ah BJ BK BE BG BI BH BB BC A9 Bn BA Au Ag
attribute [local irreducible] IntKind.wrap A4 Option.getD and or
end Go.Pw
end
section
open Go Go.Pw Go.Proofs
namespace Go.Pw
set_option maxRecDepth 100000
set_option maxHeartbeats 3200000
def qx (o:Option (List F)):D:=match o with
 |some r=>.tup [.list false (Am (iv r)),.bool true]
 |none=>.tup [.list true [],.bool false]
attribute [local congr] Bl A_ A' Ar Bm Ay A0 Az Aq Ak Ae Aa Av Af Aw BL BP BN BO BM BQ BF Ai Ax Aj BD BX Ah BJ BK BE BG BI BH BB BC A9 Bn BA Au Ag
attribute [local irreducible] IntKind.wrap A4 Option.getD and or
end Go.Pw
end
section
open Go Go.Pw Go.Proofs
namespace Go.Pw
set_option maxRecDepth 100000
set_option maxHeartbeats 3200000
attribute [local congr] Bl A_ A' Ar Bm Ay A0 Az Aq Ak Ae Aa Av Af Aw BL BP BN BO BM BQ BF Ai Ax Aj BD BX Ah BJ BK BE BG BI BH BB BC A9 Bn BA Au Ag
attribute [local irreducible] IntKind.wrap A4 Option.getD and or
def qz (L P:Int) (ws ms:List Int):Int:=if De L P=true then if CS ws L=true then if EW ms L=true then 0 else 1 else 51 else 50
end Go.Pw
end
section
open Go Go.Pw Go.Proofs
namespace Go.Pw
set_option maxRecDepth 100000
set_option maxHeartbeats 3200000
attribute [local congr] Bl A_ A' Ar Bm Ay A0 Az Aq Ak Ae Aa Av Af Aw BL BP BN BO BM BQ BF Ai Ax Aj BD BX Ah BJ BK BE BG BI BH BB BC A9 Bn BA Au Ag
attribute [local irreducible] IntKind.wrap A4 Option.getD and or
end Go.Pw
end
section
namespace Go.Pw
theorem Uc {q k j:Nat}(h:k<q):(j*q+k)/q=j:=by
 rw[Nat.mul_comm,Nat.mul_add_div (by omega),Nat.div_eq_of_lt h,Nat.add_zero]
theorem RY {q k j:Nat}(h:k<q):(j*q+k)%q=k:=by
 rw[Nat.mul_comm,Nat.mul_add_mod,Nat.mod_eq_of_lt h]
theorem RZ {q k j m:Nat}(h:k<q) (hj:j<m):j*q+k<m*q:=by
 have:=Nat.mul_le_mul_right q (show j+1<=m by omega)
 rw[Nat.add_mul,Nat.one_mul] at this
 omega
theorem Zh (q i:Nat):i/q*q+i%q=i:=Nat.div_add_mod' i q
def CU (m q k:Nat) (b:List F):List F:=(List.range m).map fun j=>b[j*q+k]?.getD 0
theorem Ca (m q k:Nat) (b:List F):(CU m q k b).length=m:=by simp[CU]
theorem O9 {m q k:Nat}{b:List F}(j:Nat) (h:j<m):(CU m q k b)[j]?.getD 0=b[j*q+k]?.getD 0:=by simp[CU,h]
def H0 (m q:Nat) (W:Nat->List F):List F:=(List.range (m*q)).map fun i=>(W (i%q))[i/q]?.getD 0
theorem Hk (m q:Nat) (W:Nat->List F):(H0 m q W).length=m*q:=by simp[H0]
theorem OW {m q:Nat}{W:Nat->List F}(i:Nat) (h:i<m*q):(H0 m q W)[i]?.getD 0=(W (i%q))[i/q]?.getD 0:=by simp[H0,h]
theorem Rz {m q:Nat}(hq:0<q) {W V:Nat->List F}(h:∀k,k<q->W k=V k):H0 m q W=H0 m q V:=by
 unfold H0
 apply List.map_congr_left
 intro i hi
 rw[h _ (Nat.mod_lt _ hq)]
theorem Wy {m q:Nat}(hq:0<q) {b:List F}(hb:b.length=m*q):H0 m q (fun k=>CU m q k b)=b:=by
 apply gB
 ·rw[Hk,hb]
 ·intro i hi
  rw[Hk] at hi
  show (H0 m q fun k=>CU m q k b)[i]?.getD 0=b[i]?.getD 0
  rw[OW i hi,O9 _ (Nat.div_lt_of_lt_mul (by rw[Nat.mul_comm];exact hi)),Zh]
def Pn (q k:Nat) (ms:List Nat):List Nat:=(ms.filter fun i=>i%q == k).map (·/q)
theorem UF {m q k:Nat}(hq:0<q) {ms:List Nat}(h:Y2 (m*q) ms):Y2 m (Pn q k ms):=by
 refine⟨?_,fun j hj=>?_⟩
 ·unfold Pn
  rw[List.pairwise_map]
  refine List.Pairwise.imp_of_mem (fun {a b} ha hb hab=>?_) (h.asc.filter _)
  simp only[List.mem_filter,beq_iff_eq] at ha hb
  have e1:=Zh q a
  have e2:=Zh q b
  rcases Nat.lt_or_ge (a/q) (b/q) with h1|h1
  ·exact h1
  ·have:=Nat.mul_le_mul_right q h1
   omega
 ·simp only[Pn,List.mem_map,List.mem_filter,beq_iff_eq] at hj
  obtain⟨i,⟨hi,_⟩,rfl⟩:=hj
  exact Nat.div_lt_of_lt_mul (by rw[Nat.mul_comm];exact h.lt i hi)
theorem ju {q k j:Nat}(hk:k<q) {ms:List Nat}:j∈Pn q k ms↔j*q+k∈ms:=by
 simp only[Pn,List.mem_map,List.mem_filter,beq_iff_eq]
 constructor
 ·rintro⟨i,⟨h1,h2⟩,rfl⟩
  have:=Zh q i
  rw[h2] at this
  rwa [this]
 ·intro h
  exact⟨j*q+k,⟨h,RY hk⟩,Uc hk⟩
theorem V6 (q k x:Nat) (ms:List Nat):Pn q k (ms++[x])=if x%q=k then Pn q k ms++[x/q] else Pn q k ms:=by
 unfold Pn
 rw[List.filter_append,List.map_append]
 by_cases h:x%q=k
 ·rw[if_pos h];simp[h]
 ·rw[if_neg h];simp[h]
def Sr (L P q:Nat) (d:List F):List F:=H0 L q fun k=>Gh P (CU (L-P) q k d)
theorem Tm (L P q:Nat) (d:List F):(Sr L P q d).length=L*q:=Hk ..
noncomputable def Za (L P q:Nat) (b:List F) (ms:List Nat) (k:Nat):Option (List F):=M5 L P (CU L q k b) (Pn q k ms)
noncomputable def co (L P q:Nat) (b:List F) (ms:List Nat) (k:Nat):List F:=match Za L P q b ms k with
 |some r=>r.take (L-P)
 |none=>[]
theorem Nt {L P q:Nat}{b:List F}{ms:List Nat}{k:Nat}{r:List F}(h:Za L P q b ms k=some r):co L P q b ms k=r.take (L-P):=by
 unfold co;rw[h]
noncomputable def YJ (L P q:Nat) (b:List F) (ms:List Nat):Option (List F):=if ∀k,k<q->(Za L P q b ms k).isSome=true then some (H0 (L-P) q (co L P q b ms)) else none
theorem YI {L P q:Nat}{b:List F}{ms:List Nat}(h:∀k,k<q->(Za L P q b ms k).isSome=true):YJ L P q b ms=some (H0 (L-P) q (co L P q b ms)):=by unfold YJ;rw[if_pos h]
theorem nu {L P q:Nat}{b:List F}{ms:List Nat}{k:Nat}(hk:k<q) (h:Za L P q b ms k=none):YJ L P q b ms=none:=by
 unfold YJ;rw[if_neg fun h2=>by have:=h2 k hk;rw[h] at this;cases this]
theorem SO {L P q:Nat}(hL:L<=15) (hPL:P<L) (hq:0<q) {d R:List F}{ms:List Nat}(hd:d.length=(L-P)*q) (hR:R.length=L*q) (hm:Y2 (L*q) ms)
  (h:∀k,k<q->2*(Mw L (Gh P (CU (L-P) q k d)) (CU L q k R) (Pn q k ms)).length+(Pn q k ms).length<=P):YJ L P q R ms=some d:=by
 have hO:∀k,k<q->Za L P q R ms k=some (Gh P (CU (L-P) q k d)):=fun k hk=>by
  have hl:=Ca (L-P) q k d
  have hc:=Wa P (CU (L-P) q k d)
  rw[hl,show L-P+P=L by omega] at hc
  exact oO hL (Ca ..) (by rw[HX,hl];omega) (UF hq hm) hc (h k hk)
 rw[YI fun k hk=>by rw[hO k hk];rfl]
 congr 1
 rw[Rz hq (V:=fun k=>CU (L-P) q k d) fun k hk=>by
  rw[Nt (hO k hk)]
  unfold Gh
  rw[List.take_append_of_le_length (by rw[Ca];omega),List.take_of_length_le (by rw[Ca];omega)]]
 exact Wy hq hd
end Go.Pw
end
