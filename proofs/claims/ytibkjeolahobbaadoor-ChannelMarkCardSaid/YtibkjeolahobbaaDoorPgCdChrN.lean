/- A part of the proof. -/
import Derived.Test.YtibkjeolahobbaaDoorPgCdChrDec
import Derived.Test.YtibkjeolahobbaaDoorPgCdChrA
import Derived.Test.YtibkjeolahobbaaDoorCdPC
set_option linter.all false
section
open Go Go.Pw Go.Proofs
namespace Go.Pw
set_option maxRecDepth 100000
set_option maxHeartbeats 3200000
theorem Q9 (l g:List F) (o k:Nat) (b:F) (h:k<g.length):(C2 l o b (g.take k)).set (o+k) (fa ((C2 l o b (g.take k))[o+k]?.getD 0) (fm b (g[k]?.getD 0)))=C2 l o b (g.take (k+1)):=by
 rw[←Bt g 0 k h,Q_]
 rw[show (g.take k).length=k by simp;omega]
theorem V9 (l g:List F) (k:Nat) (b:F) (h:k<g.length):(C2 l 1 b (g.take k)).set (k+1) (fa ((C2 l 1 b (g.take k))[k+1]?.getD 0) (fm (g[k]?.getD 0) b))=C2 l 1 b (g.take (k+1)):=by
 rw[←Q9 l g 1 k b h,Dt b,Nat.add_comm 1 k]
attribute [local congr] Bi A9 A_ Aq Bj Ax Az Ay Ap Aj Ad AY Au Ae Av BH BL BJ BK BI BM BE Ah Aw Ai BC BS Ag BF BG BD BA BB A8 Bl A' Ar Af
attribute [local irreducible] IntKind.wrap A3 Option.getD and or
theorem Ma (L P:Nat) (n1:Bool) (d:List F) (hL:L<=15) (hP:1<=P) (hd:d.length+P=L) (hd1:1<=d.length) (hn1:n1=false) :
  CK E0 F_ [Tk L P,.list n1 (us d)] (.list false (us (GZ P d))):=by
 subst hn1
 have c0:=IV false d (by omega) (by omega) rfl
 refine AM I1 A0 (by simp) fun hwf=>?_
 rw[AU];unfold Fj
 rw[B1]
 (try (simp -implicitDefEqProofs only[go_sem]));repeat' first|(with_reducible first|exact tI|refine aI ?_ ?_|intro _)|((first|with_reducible refine AO ?_ ?_<;>intro _)<;>try (simp -implicitDefEqProofs only[go_sem]))|simp (disch:=omega) only[An]|((with_reducible refine A5 ?_);refine⟨_,rfl,?_,?_⟩)
 all_goals first|omega|(simp;done)|(simp;omega)|skip
 rw[show ([D.int .u8 1]:List D)=us (Iz 0) from rfl]
 refine AZ (α:=Nat) (l0:=?l1) (m0:=?m1) (fun x=>[(19,.d (.int .i64 (x:Int))),(5,.d (.list false (us (Iz x))))]) (fun x=>[]) (fun x=>x<=P) (fun x=>P-x) 0 ?h01 ?he1 ?he21 ?hI1 ?step1
 case h01=>(simp -implicitDefEqProofs only[go_sem];rfl)
 case he1=>rfl
 case he21=>rfl
 case' step1=>(rintro i hI;try dsimp only at hI)
 case' hI1=>try dsimp only
 ·exact Nat.zero_le _
 ·have hgl:=Kz i
  by_cases h:i<P
  ·have h':(i:Int)<(P:Int):=by omega
   have hwi:IntKind.i64.wrap ((i:Int)+1)=((i+1:Nat):Int):=by rw[Ak _ (by omega)];omega
   have hG:Iz (i+1)=C2 (Iz i++[0]) 1 (gp i) (Iz i):=rfl
   obtain⟨G,hGe⟩:∃G,Iz i=G:=⟨_,rfl⟩
   rw[hGe] at hgl hG ⊢
   have c1:=IV false G (by omega) (by omega) rfl
   have c2:=EW i (by omega)
   (try (simp -implicitDefEqProofs only[go_sem,h',Py]));repeat' first|(with_reducible first|exact tI|refine aI ?_ ?_|intro _)|((first|with_reducible refine AO ?_ ?_<;>intro _|(with_reducible refine isCall ?_);first|(refine E7 ([]) ([((7,1),(23,1))]) (c1) (by repeat' first|exact True.intro|exact rfl|refine And.intro ?_ ?_) (by simp[Handed,Dm.get,Aa.ren,AV.ren,AV.ren.renL,AJ.get,BV,B2,Di,AJ.reach,AV.sites,AV.sites.sitesL,AJ.osites]) (by simp[CN,E5,CT,Dm.get,Di,D6,CG]) (by rfl) (by simp only[D4,Dm.get,Aa.ren,AV.ren,AV.ren.renL,and_self,and_true,true_and,if_true,reduceIte];rfl) ?_))<;>try (simp -implicitDefEqProofs only[go_sem,h',Py]))|simp (disch:=omega) only[An]|((with_reducible refine A5 ?_);refine⟨_,rfl,?_,?_⟩)
   all_goals first|omega|(simp;done)|(simp;omega)|skip
   refine AZ (α:=Nat) (l0:=?l2) (m0:=?m2) (fun x=>[(28,.d (.int .i64 (x:Int)))]) (fun x=>[(23,.row 111 1 false (us (C2 (G++[0]) 1 (gp i) (G.take x))))]) (fun x=>x<=G.length) (fun x=>G.length-x) 0 ?h02 ?he2 ?he22 ?hI2 ?step2
   case h02=>(simp -implicitDefEqProofs only[go_sem];rfl)
   case he2=>rfl
   case he22=>rfl
   case' step2=>(rintro k hI2;try dsimp only at hI2)
   case' hI2=>try dsimp only
   ·exact Nat.zero_le _
   ·have hA:=I8 (G.take k) (G++[0]) 1 (gp i)
    rw[List.length_append,List.length_singleton] at hA
    by_cases hk:k<G.length
    ·have hk':(k:Int)<(G.length:Int):=by omega
     have hwk:IntKind.i64.wrap ((k:Int)+1)=((k+1:Nat):Int):=by rw[Ak _ (by omega)];omega
     have c3:=Dc (G[k]?.getD 0) (gp i)
     have hst:=V9 (G++[0]) G k (gp i) hk
     (try (simp -implicitDefEqProofs only[go_sem,hk',hwk,hA,hst]));repeat' first|(with_reducible first|exact tI|refine aI ?_ ?_|intro _)|((first|with_reducible refine AO ?_ ?_<;>intro _|(with_reducible refine isCall ?_);first|refine AE c2 ?_|refine AE c3 ?_)<;>try (simp -implicitDefEqProofs only[go_sem,hk',hwk,hA,hst]))|simp (disch:=omega) only[An]|((with_reducible refine A5 ?_);refine⟨_,rfl,?_,?_⟩)
     all_goals first|omega|(simp;done)|(simp;omega)|skip
     all_goals first|rfl|(simp at *;done)|(simp at *;omega)|skip
    ·have hk':¬(k:Int)<(G.length:Int):=by omega
     have hke:G.take k=G:=List.take_of_length_le (by omega)
     rw[hke,←hG]
     (try (simp -implicitDefEqProofs only[go_sem,hk',hwi]));repeat' first|(with_reducible first|exact tI|refine aI ?_ ?_|intro _)|((first|with_reducible refine AO ?_ ?_<;>intro _)<;>try (simp -implicitDefEqProofs only[go_sem,hk',hwi]))|simp (disch:=omega) only[An]|((with_reducible refine A5 ?_);refine⟨_,rfl,?_,?_⟩)
     all_goals first|omega|(simp;done)|(simp;omega)|skip
     all_goals first|rfl|omega|skip
  ·have h':¬(i:Int)<(P:Int):=by omega
   have hie:i=P:=by omega
   subst hie
   obtain⟨G,hGe⟩:∃G,Iz i=G:=⟨_,rfl⟩
   rw[hGe] at hgl ⊢
   (try (simp -implicitDefEqProofs only[go_sem,h',Sh,WJ]));repeat' first|(with_reducible first|exact tI|refine aI ?_ ?_|intro _)|((first|with_reducible refine AO ?_ ?_<;>intro _|(with_reducible refine isCall ?_);first|(refine E7 ([]) ([((7,1),(48,1))]) (c0) (by repeat' first|exact True.intro|exact rfl|refine And.intro ?_ ?_) (by simp[Handed,Dm.get,Aa.ren,AV.ren,AV.ren.renL,AJ.get,BV,B2,Di,AJ.reach,AV.sites,AV.sites.sitesL,AJ.osites]) (by simp[CN,E5,CT,Dm.get,Di,D6,CG]) (by rfl) (by simp only[D4,Dm.get,Aa.ren,AV.ren,AV.ren.renL,and_self,and_true,true_and,if_true,reduceIte];rfl) ?_))<;>try (simp -implicitDefEqProofs only[go_sem,h',Sh,WJ]))|simp (disch:=omega) only[An]|((with_reducible refine A5 ?_);refine⟨_,rfl,?_,?_⟩)
   all_goals first|omega|(simp;done)|(simp;omega)|skip
   rw[show us (d++List.replicate i 0)=us (GP G d i 0) from rfl]
   refine AZ (α:=Nat) (l0:=?l3) (m0:=?m3) (fun x=>[(55,.d (.int .i64 (x:Int)))]) (fun x=>[(48,.row 111 1 false (us (GP G d i x)))]) (fun x=>x<=d.length) (fun x=>d.length-x) 0 ?h03 ?he3 ?he23 ?hI3 ?step3
   case h03=>(simp -implicitDefEqProofs only[go_sem];rfl)
   case he3=>rfl
   case he23=>rfl
   case' step3=>(rintro m hI3;try dsimp only at hI3)
   case' hI3=>try dsimp only
   ·exact Nat.zero_le _
   ·have hrl:=G7 G d i m
    have hrs:GP G d i (m+1)=C2 (GP G d i m) m ((GP G d i m)[m]?.getD 0) G:=rfl
    obtain⟨R,hR⟩:∃R,GP G d i m=R:=⟨_,rfl⟩
    rw[hR] at hrl hrs ⊢
    by_cases hm:m<d.length
    ·have hm':(m:Int)<(d.length:Int):=by omega
     have hwm:IntKind.i64.wrap ((m:Int)+1)=((m+1:Nat):Int):=by rw[Ak _ (by omega)];omega
     have hmR:m<R.length:=by omega
     obtain⟨B,hB⟩:∃B,R[m]?.getD 0=B:=⟨_,rfl⟩
     rw[hB] at hrs
     (try (simp -implicitDefEqProofs only[go_sem,hm',hmR,hB]));repeat' first|(with_reducible first|exact tI|refine aI ?_ ?_|intro _)|((first|with_reducible refine AO ?_ ?_<;>intro _)<;>try (simp -implicitDefEqProofs only[go_sem,hm',hmR,hB]))|simp (disch:=omega) only[An]|((with_reducible refine A5 ?_);refine⟨_,rfl,?_,?_⟩)
     all_goals first|omega|(simp;done)|(simp;omega)|skip
     rw[show us R=us (C2 R m B (G.take 0)) from rfl]
     refine AZ (α:=Nat) (l0:=?l4) (m0:=?m4) (fun x=>[(64,.d (.int .i64 (x:Int)))]) (fun x=>[(48,.row 111 1 false (us (C2 R m B (G.take x))))]) (fun x=>x<=G.length) (fun x=>G.length-x) 0 ?h04 ?he4 ?he24 ?hI4 ?step4
     case h04=>(simp -implicitDefEqProofs only[go_sem];rfl)
     case he4=>rfl
     case he24=>rfl
     case' step4=>(rintro k hI4;try dsimp only at hI4)
     case' hI4=>try dsimp only
     ·exact Nat.zero_le _
     ·have hA:=I8 (G.take k) R m B
      by_cases hk:k<G.length
      ·have hk':(k:Int)<(G.length:Int):=by omega
       have hwk:IntKind.i64.wrap ((k:Int)+1)=((k+1:Nat):Int):=by rw[Ak _ (by omega)];omega
       have hwmk:IntKind.i64.wrap ((m:Int)+(k:Int))=((m+k:Nat):Int):=by rw[Ak _ (by omega)];omega
       have hmk:m+k<R.length:=by omega
       have c3:=Dc B (G[k]?.getD 0)
       have hst:=Q9 R G m k B hk
       (try (simp -implicitDefEqProofs only[go_sem,hk',hwk,hwmk,hA,hmk,hst]));repeat' first|(with_reducible first|exact tI|refine aI ?_ ?_|intro _)|((first|with_reducible refine AO ?_ ?_<;>intro _|(with_reducible refine isCall ?_);first|refine AE c3 ?_)<;>try (simp -implicitDefEqProofs only[go_sem,hk',hwk,hwmk,hA,hmk,hst]))|simp (disch:=omega) only[An]|((with_reducible refine A5 ?_);refine⟨_,rfl,?_,?_⟩)
       all_goals first|omega|(simp;done)|(simp;omega)|skip
       all_goals first|rfl|(simp at *;done)|(simp at *;omega)|skip
      ·have hk':¬(k:Int)<(G.length:Int):=by omega
       have hke:G.take k=G:=List.take_of_length_le (by omega)
       rw[hke,←hrs]
       (try (simp -implicitDefEqProofs only[go_sem,hk',hwm]));repeat' first|(with_reducible first|exact tI|refine aI ?_ ?_|intro _)|((first|with_reducible refine AO ?_ ?_<;>intro _)<;>try (simp -implicitDefEqProofs only[go_sem,hk',hwm]))|simp (disch:=omega) only[An]|((with_reducible refine A5 ?_);refine⟨_,rfl,?_,?_⟩)
       all_goals first|omega|(simp;done)|(simp;omega)|skip
       all_goals first|rfl|omega|skip
    ·have hm':¬(m:Int)<(d.length:Int):=by omega
     have hme:m=d.length:=by omega
     have c4:=RC false false d (R.drop d.length) (by omega) (by simp;omega)
     have hres:d++R.drop d.length=GZ i d:=by rw[←hR,hme,←hGe];rfl
     have hemp:(GZ i d).isEmpty=false:=by
      have h5:=HK i d
      cases hE:GZ i d with
      |nil=>rw[hE] at h5;simp at h5;omega
      |cons=>rfl
     have hdr:List.take (d.length+i-d.length) (R.drop d.length)=R.drop d.length:=List.take_of_length_le (by simp;omega)
     rw[hres,hemp] at c4
     (try (simp -implicitDefEqProofs only[go_sem,hm',hrl,hdr]));repeat' first|(with_reducible first|exact tI|refine aI ?_ ?_|intro _)|((first|with_reducible refine AO ?_ ?_<;>intro _|(with_reducible refine isCall ?_);first|refine AE c4 ?_)<;>try (simp -implicitDefEqProofs only[go_sem,hm',hrl,hdr]))|simp (disch:=omega) only[An]|((with_reducible refine A5 ?_);refine⟨_,rfl,?_,?_⟩)
     all_goals first|omega|(simp;done)|(simp;omega)|skip
     all_goals first|rfl|(simp at *;done)|(simp at *;omega)|skip
end Go.Pw
end
section
open Go Go.Pw Go.Proofs
namespace Go.Pw
set_option maxRecDepth 100000
set_option maxHeartbeats 3200000
theorem K7 {L P:Int}(h:ED L P=true):2<=L/\L<=15/\1<=P/\P<=8/\P<L:=by simpa[ED] using h
theorem aY {L P:Int}(h:ED L P=true):∃l p:Nat,L=(l:Int)/\P=(p:Int)/\2<=l/\l<=15/\1<=p/\p<=8/\p<l:=by
 have:=K7 h
 exact⟨L.toNat,P.toNat,by omega,by omega,by omega,by omega,by omega,by omega,by omega⟩
def oD (L P n:Int):Int:=if ED L P=true then if 0<=n/\n<=L then 0 else 1 else 50
def oG (L P n:Int):Bool:=ED L P && (decide (0<=n/\n<=L) && decide (P<n+P/2))
def jK (L:Nat):Nat->Nat×Nat
 |0=>(0,1)
 |e+1=>((jK L e).1+(jK L e).2,(jK L e).2*(L-e)*15/(e+1))
def nh (L P:Nat):Nat:=(jK L (P/2+1)).1
def ng (L P:Nat):Nat:=Nat.gcd (nh L P) (2^(4*P))
def oe (L P:Int):Int:=if ED L P=true then ((nh L.toNat P.toNat/ng L.toNat P.toNat:Nat):Int) else 0
def od (L P:Int):Int:=if ED L P=true then ((2^(4*P.toNat)/ng L.toNat P.toNat:Nat):Int) else 0
theorem bL (a b:Nat):Int.tdiv (a:Int) (b:Int)=((a/b:Nat):Int):=by
 rw[Int.tdiv_eq_ediv_of_nonneg (by omega)];rfl
theorem bJ (a b:Nat):Int.tmod (a:Int) (b:Int)=((a%b:Nat):Int):=by
 rw[Int.tmod_eq_emod_of_nonneg (by omega)];rfl
attribute [local congr] Bi A9 A_ Aq Bj Ax Az Ay Ap Aj Ad AY Au Ae Av BH BL BJ BK BI BM BE Ah Aw Ai BC BS Ag BF BG BD BA BB A8 Bl A' Ar Af
attribute [local irreducible] IntKind.wrap A3 Option.getD and or
end Go.Pw
end
section
namespace Go.Pw
def fs (xs:List Int):List F:=xs.map fun x=>Fin.ofNat 16 x.toNat
theorem TN (xs:List Int):(fs xs).length=xs.length:=by simp[fs]
theorem YQ:∀{xs:List Int},xs.all KQ=true->iv (fs xs)=xs
 |[],_=>rfl
 |x::xs,h=>by
  simp only[List.all_cons,Bool.and_eq_true] at h
  have hx:0<=x/\x<=15:=by simpa[KQ] using h.1
  show ((Fin.ofNat 16 x.toNat).val:Int)::iv (fs xs)=x::xs
  rw[YQ h.2]
  congr 1
  show ((x.toNat%16:Nat):Int)=x
  omega
theorem nY (w:List F):fs (iv w)=w:=by
 apply kn.1
 apply YQ
 rw[List.all_eq_true]
 intro x hx
 simp[iv] at hx
 obtain⟨a,_,rfl⟩:=hx
 have:=a.isLt
 simp[KQ];omega
theorem ko (w:List F):(iv w).all KQ=true:=by
 rw[List.all_eq_true]
 intro x hx
 simp[iv] at hx
 obtain⟨a,_,rfl⟩:=hx
 have:=a.isLt
 simp[KQ];omega
theorem bM (w:List F) (m:Int):CR (iv w) m=decide ((w.length:Int)=m):=by
 unfold CR;rw[ko,Bool.and_true,JQ]
theorem P2 {xs:List Int}{m:Int}(h:CR xs m=true):(xs.length:Int)=m/\iv (fs xs)=xs:=by
 unfold CR at h
 simp only[Bool.and_eq_true,decide_eq_true_eq] at h
 exact⟨h.1,YQ h.2⟩
def nt (ms:List Int):List Nat:=ms.map Int.toNat
theorem kW (ms:List Int):(nt ms).length=ms.length:=by simp[nt]
theorem LX {ms:List Int}{m:Int}(h:EO ms m=true) {i:Nat}(hi:i<ms.length):0<=ms[i]?.getD 0/\ms[i]?.getD 0<m/\(0<i->ms[i-1]?.getD 0<ms[i]?.getD 0):=by
 have:=(List.all_eq_true.1 h) i (by simpa using hi)
 simp only[gj,decide_eq_true_eq] at this
 exact this
theorem l_ {ms:List Int}{m:Int}(h:EO ms m=true):ni (nt ms)=ms:=by
 apply List.ext_getElem
 ·simp[ni,nt]
 ·intro i h1 h2
  have:=(LX h h2).1
  rw[List.getElem?_eq_getElem h2] at this
  simp[ni,nt] at this ⊢
  omega
theorem ef (ms:List Int) (h:∀i,i<ms.length->0<i->ms[i-1]?.getD 0<ms[i]?.getD 0):∀j i,i<j->j<ms.length->ms[i]?.getD 0<ms[j]?.getD 0
 |0,i,h1,_=>by omega
 |j+1,i,h1,h2=>by
  have h3:=h (j+1) h2 (by omega)
  rw[show j+1-1=j by omega] at h3
  by_cases hij:i=j
  ·subst hij;exact h3
  ·have:=ef ms h j i (by omega) (by omega)
   omega
theorem kf {ms:List Int}{L:Nat}(h:EO ms (L:Int)=true):Xv L (nt ms):=by
 have ha:=ef ms fun i hi h0=>(LX h hi).2.2 h0
 refine⟨List.pairwise_iff_getElem.2 fun i j hi hj hij=>?_,fun j hj=>?_⟩
 ·rw[kW] at hi hj
  have h1:=ha j i hij hj
  have h2:=(LX h hi).1
  rw[List.getElem?_eq_getElem hi,List.getElem?_eq_getElem hj] at h1
  rw[List.getElem?_eq_getElem hi] at h2
  simp[nt] at h1 h2 ⊢
  omega
 ·simp only[nt,List.mem_map] at hj
  obtain⟨x,hx,rfl⟩:=hj
  obtain⟨i,hi,rfl⟩:=List.getElem_of_mem hx
  have h2:=LX h hi
  rw[List.getElem?_eq_getElem hi] at h2
  simp at h2
  omega
theorem cr {L:Nat}{mk:List Nat}(h:Xv L mk):mk.length<=L:=by
 have:=NA mk (List.range L) (EL h.asc) fun j hj=>by simpa using h.lt j hj
 simpa using this
def oK (L P:Int) (xs:List Int):Int:=if ED L P=true then if CR xs (L-P)=true then 0 else 51 else 50
def oJ (L P:Int) (xs:List Int):List Int:=if ED L P=true then if CR xs (L-P)=true then iv (GZ P.toNat (fs xs)) else [] else []
noncomputable def nc (L P:Int) (ws ms:List Int):Option (List F):=MX L.toNat P.toNat (fs ws) (nt ms)
def oE:Option (List F)->Int
 |some _=>0
 |none=>52
def oL:Option (List F)->List F
 |some r=>r
 |none=>[]
theorem gT (r:List F):oE (some r)=0:=rfl
theorem gU:oE none=52:=rfl
theorem gQ (r:List F):oL (some r)=r:=rfl
theorem gS:oL none=[]:=rfl
noncomputable def oZ (L P:Int) (ws ms:List Int):Int :=
 if ED L P=true then if CR ws L=true then if EO ms L=true then oE (nc L P ws ms) else 1 else 51 else 50
noncomputable def oX (L P:Int) (ws ms:List Int):List Int :=
 if ED L P=true then if CR ws L=true then if EO ms L=true then iv (oL (nc L P ws ms)) else [] else [] else []
end Go.Pw
end
section
open Go Go.Pw Go.Proofs
namespace Go.Pw
set_option maxRecDepth 100000
set_option maxHeartbeats 3200000
theorem W6 (w:List F):(iv w).isEmpty=w.isEmpty:=by cases w<;>rfl
theorem gJ {w:List F}(h:0<w.length):w.isEmpty=false:=by cases w<;>simp_all
theorem QQ {w:List F}(h:0<w.length):(iv w).isEmpty=false:=by rw[W6];exact gJ h
attribute [local congr] Bi A9 A_ Aq Bj Ax Az Ay Ap Aj Ad AY Au Ae Av BH BL BJ BK BI BM BE Ah Aw Ai BC BS Ag BF BG BD BA BB A8 Bl A' Ar Af
attribute [local irreducible] IntKind.wrap A3 Option.getD and or
end Go.Pw
end
section
open Go Go.Pw Go.Proofs
namespace Go.Pw
set_option maxRecDepth 100000
set_option maxHeartbeats 3200000
def Cv (L P Q:Int):Bool:=ED L P && decide (1<=Q/\Q<=8)
theorem T6 {L P Q:Int}(h:Cv L P Q=true):ED L P=true/\1<=Q/\Q<=8:=by simpa[Cv] using h
def jU (L P Q:Int) (xs:List Int) (m:Int):Int:=if Cv L P Q=true then if CR xs (Q*m)=true then 0 else 51 else 50
def ml (L P Q:Int) (e:Int):D:=if e=0 then .agg [.int .i64 L,.int .i64 P,.int .i64 Q] else .agg [.int .i64 0,.int .i64 0,.int .i64 0]
theorem YG (L P Q:Int):ml L P Q 0=.agg [.int .i64 L,.int .i64 P,.int .i64 Q]:=rfl
theorem Wm (L P Q:Int):ml L P Q 51=.agg [.int .i64 0,.int .i64 0,.int .i64 0]:=rfl
theorem QL (L P Q:Int):ml L P Q 50=.agg [.int .i64 0,.int .i64 0,.int .i64 0]:=rfl
theorem Vr:Bu E0.P DH=true:=by kernel_rfl
theorem SU:Bu E0.P C3=true:=by kernel_rfl
theorem Tm:Bu E0.P EY=true:=by kernel_rfl
theorem Yu:CR [] 0=true:=rfl
attribute [local congr] Bi A9 A_ Aq Bj Ax Az Ay Ap Aj Ad AY Au Ae Av BH BL BJ BK BI BM BE Ah Aw Ai BC BS Ag BF BG BD BA BB A8 Bl A' Ar Af
attribute [local irreducible] IntKind.wrap A3 Option.getD and or
theorem Jy (L P:Int):CK E0 DH [.agg [.int .i64 L,.int .i64 P]] (.int .i64 L):=by
 refine AM K2 A0 (by simp) fun hwf=>?_
 rw[AU];unfold Gu
 (try (simp -implicitDefEqProofs only[go_sem]));repeat' first|(with_reducible first|exact tI|refine aI ?_ ?_|intro _)|((first|with_reducible refine AO ?_ ?_<;>intro _)<;>try (simp -implicitDefEqProofs only[go_sem]))|simp (disch:=omega) only[An]
theorem GF (L P:Int) (h:-1000<=L/\L<=1000/\-1000<=P/\P<=1000):CK E0 C3 [.agg [.int .i64 L,.int .i64 P]] (.int .i64 (L-P)):=by
 refine AM KI A0 (by simp) fun hwf=>?_
 rw[AU];unfold GS
 have hw:IntKind.i64.wrap (L-P)=L-P:=Ak _ (by omega)
 (try (simp -implicitDefEqProofs only[go_sem,hw]));repeat' first|(with_reducible first|exact tI|refine aI ?_ ?_|intro _)|((first|with_reducible refine AO ?_ ?_<;>intro _)<;>try (simp -implicitDefEqProofs only[go_sem,hw]))|simp (disch:=omega) only[An]
theorem Ln (L P:Int):CK E0 EY [.agg [.int .i64 L,.int .i64 P]] (.int .i64 0):=by
 refine AM Lj A0 (by simp) fun hwf=>?_
 rw[AU];unfold HE
 (try (simp -implicitDefEqProofs only[go_sem]));repeat' first|(with_reducible first|exact tI|refine aI ?_ ?_|intro _)|((first|with_reducible refine AO ?_ ?_<;>intro _)<;>try (simp -implicitDefEqProofs only[go_sem]))|simp (disch:=omega) only[An]
theorem D0 (L P Q:Int) (nl:Bool) (xs:List Int) (f:FuncId) (m:Int) (hb:Bu E0.P f=true) (hm:0<=m/\m<=1000) (h:ED L P=true->CK E0 f [.agg [.int .i64 L,.int .i64 P]] (.int .i64 m)) :
  CK E0 LI [.agg [.int .i64 L,.int .i64 P,.int .i64 Q],.list nl (Al xs),.fn f []] (.tup [ml L P Q (jU L P Q xs m),.int .i64 (jU L P Q xs m)]):=by
 have c1:=No L P
 refine AM Oe A0 (by simp) fun hwf=>?_
 rw[AU];unfold Jr jU Cv
 cases hc:ED L P with
 |false =>
  rw[hc] at c1
  simp only[Bool.false_eq_true,if_false,Bool.false_and] at c1 ⊢
  rw[QL]
  (try (simp -implicitDefEqProofs only[go_sem]));repeat' first|(with_reducible first|exact tI|refine aI ?_ ?_|intro _)|((first|with_reducible refine AO ?_ ?_<;>intro _|(with_reducible refine isCall ?_);first|refine AE c1 ?_)<;>try (simp -implicitDefEqProofs only[go_sem]))|simp (disch:=omega) only[An]
  all_goals first|rfl|(simp;done)|skip
 |true =>
  rw[hc] at c1
  simp only[if_true,Bool.true_and] at c1 ⊢
  by_cases hD:1<=Q/\Q<=8
  ·have h1:¬Q<1:=by omega
   have h2:¬8<Q:=by omega
   have hDm:0<=Q*m/\Q*m<=8000:=by
    constructor
    ·exact Int.mul_nonneg (by omega) (by omega)
    ·exact Int.le_trans (Int.mul_le_mul_of_nonneg_left hm.2 (by omega)) (by omega)
   have hw:IntKind.i64.wrap (Q*m)=Q*m:=Ak _ (by omega)
   rw[decide_eq_true hD]
   simp only[if_true]
   have c2:=Pc nl xs (Q*m)
   have c3:=h hc
   cases hs:CR xs (Q*m) with
   |false =>
    rw[hs] at c2
    simp only[Bool.false_eq_true,if_false]
    rw[Wm]
    (try (simp -implicitDefEqProofs only[go_sem,h1,h2,hw,hb]));repeat' first|(with_reducible first|exact tI|refine aI ?_ ?_|intro _)|((first|with_reducible refine AO ?_ ?_<;>intro _|(with_reducible refine isCall ?_);first|refine AE c1 ?_|refine AE c2 ?_|refine AE c3 ?_)<;>try (simp -implicitDefEqProofs only[go_sem,h1,h2,hw,hb]))|simp (disch:=omega) only[An]
    all_goals first|rfl|(simp;done)|skip
   |true =>
    rw[hs] at c2
    simp only[if_true]
    rw[YG]
    (try (simp -implicitDefEqProofs only[go_sem,h1,h2,hw,hb]));repeat' first|(with_reducible first|exact tI|refine aI ?_ ?_|intro _)|((first|with_reducible refine AO ?_ ?_<;>intro _|(with_reducible refine isCall ?_);first|refine AE c1 ?_|refine AE c2 ?_|refine AE c3 ?_)<;>try (simp -implicitDefEqProofs only[go_sem,h1,h2,hw,hb]))|simp (disch:=omega) only[An]
    all_goals first|rfl|(simp;done)|skip
  ·rw[decide_eq_false hD]
   simp only[Bool.false_eq_true,if_false]
   rw[QL]
   by_cases h1:Q<1
   ·(try (simp -implicitDefEqProofs only[go_sem,h1]));repeat' first|(with_reducible first|exact tI|refine aI ?_ ?_|intro _)|((first|with_reducible refine AO ?_ ?_<;>intro _|(with_reducible refine isCall ?_);first|refine AE c1 ?_)<;>try (simp -implicitDefEqProofs only[go_sem,h1]))|simp (disch:=omega) only[An]
    all_goals first|rfl|(simp;done)|skip
   ·have h2:8<Q:=by omega
    (try (simp -implicitDefEqProofs only[go_sem,h1,h2]));repeat' first|(with_reducible first|exact tI|refine aI ?_ ?_|intro _)|((first|with_reducible refine AO ?_ ?_<;>intro _|(with_reducible refine isCall ?_);first|refine AE c1 ?_)<;>try (simp -implicitDefEqProofs only[go_sem,h1,h2]))|simp (disch:=omega) only[An]
    all_goals first|rfl|(simp;done)|skip
theorem Np (L P Q:Int):CK E0 J_ [.agg [.int .i64 L,.int .i64 P,.int .i64 Q]] (.tup [.int .i64 (if Cv L P Q=true then Q*(P/2) else 0),.int .i64 (if Cv L P Q=true then Q*P else 0),.int .i64 (if Cv L P Q=true then 0 else 50)]):=by
 have c1:=D0 L P Q true [] EY 0 Tm (by omega) fun _=>Ln L P
 refine AM Nc A0 (by simp) fun hwf=>?_
 rw[AU];unfold Iq
 unfold jU at c1
 cases hw:Cv L P Q with
 |false =>
  rw[hw] at c1
  simp only[Bool.false_eq_true,if_false] at c1 ⊢
  rw[QL] at c1
  (try (simp -implicitDefEqProofs only[go_sem]));repeat' first|(with_reducible first|exact tI|refine aI ?_ ?_|intro _)|((first|with_reducible refine AO ?_ ?_<;>intro _|(with_reducible refine isCall ?_);first|refine AE c1 ?_)<;>try (simp -implicitDefEqProofs only[go_sem]))|simp (disch:=omega) only[An]
  all_goals first|rfl|(simp;done)|skip
 |true =>
  obtain⟨hc,hD⟩:=T6 hw
  have hb:=K7 hc
  rw[hw,show CR [] (Q*0)=true by rw[Int.mul_zero];exact Yu] at c1
  simp only[if_true] at c1 ⊢
  rw[YG] at c1
  have hd:P.tdiv 2=P/2:=Int.tdiv_eq_ediv_of_nonneg (by omega)
  have w1:IntKind.i64.wrap (P/2)=P/2:=Ak _ (by omega)
  have b1:0<=Q*(P/2)/\Q*(P/2)<=8*8:=⟨Int.mul_nonneg (by omega) (by omega),Int.mul_le_mul hD.2 (by omega) (by omega) (by omega)⟩
  have b2:0<=Q*P/\Q*P<=8*8:=⟨Int.mul_nonneg (by omega) (by omega),Int.mul_le_mul hD.2 (by omega) (by omega) (by omega)⟩
  have w2:IntKind.i64.wrap (Q*(P/2))=Q*(P/2):=Ak _ (by omega)
  have w3:IntKind.i64.wrap (Q*P)=Q*P:=Ak _ (by omega)
  (try (simp -implicitDefEqProofs only[go_sem,hd,w1,w2,w3]));repeat' first|(with_reducible first|exact tI|refine aI ?_ ?_|intro _)|((first|with_reducible refine AO ?_ ?_<;>intro _|(with_reducible refine isCall ?_);first|refine AE c1 ?_)<;>try (simp -implicitDefEqProofs only[go_sem,hd,w1,w2,w3]))|simp (disch:=omega) only[An]
  all_goals first|rfl|(simp;done)|skip
end Go.Pw
end
section
open Go Go.Pw Go.Proofs
namespace Go.Pw
set_option maxRecDepth 100000
set_option maxHeartbeats 3200000
def oM (L P:Nat) (w:List F):Bool:=(List.range P).all fun i=>decide (Fd w (Rb L i)=0)
def nv (L P:Int):Bool:=ED L P && (decide (L<=10) && decide (P<=6))
def n9 (L P:Int) (d a m:List Int):Bool:=decide (m.length<=30) && (CR d (L-P) && (CR a L && EO m L))
def oW (w a:List F):List F:=List.zipWith fa w a
def og (a b m:List Int) (n:Nat):List Nat:=(List.range n).filter fun i=>decide (a[i]?.getD 0≠b[i]?.getD 0) && !hZ m i
attribute [local congr] Bi A9 A_ Aq Bj Ax Az Ay Ap Aj Ad AY Au Ae Av BH BL BJ BK BI BM BE Ah Aw Ai BC BS Ag BF BG BD BA BB A8 A' Ar Af
attribute [local irreducible] IntKind.wrap A3 Option.getD and or
end Go.Pw
end
section
open Go Go.Pw Go.Proofs
namespace Go.Pw
set_option maxRecDepth 100000
set_option maxHeartbeats 3200000
def mw (l:List Nat):D:=.list l.isEmpty (Al (ni l))
def oV (ls:List (List Nat)):List D:=ls.map mw
attribute [local congr] Bi A9 A_ Aq Bj Ax Az Ay Ap Aj Ad AY Au Ae Av BH BL BJ BK BI BM BE Ah Aw Ai BC BS Ag BF BG BD BA BB A8 Bl A' Ar Af
attribute [local irreducible] IntKind.wrap A3 Option.getD and or
end Go.Pw
end
section
open Go Go.Pw Go.Proofs
namespace Go.Pw
set_option maxRecDepth 100000
set_option maxHeartbeats 3200000
theorem get_mem {l:List Nat}{i:Nat}(h:i<l.length):l[i]?.getD 0∈l:=by rw[YI _ _ h];exact List.getElem_mem h
def oT (w:List F) (at_:List Nat):List F:=ER w at_ (List.replicate at_.length 0)
end Go.Pw
end
section
namespace Go.Pw
end Go.Pw
end
section
open Go Go.Pw Go.Proofs
namespace Go.Pw
set_option maxRecDepth 100000
set_option maxHeartbeats 3200000
attribute [local congr] Bi A9 A_ Aq Bj Ax Az Ay Ap Aj Ad AY Au Ae Av BH BL BJ BK BI BM BE Ah Aw Ai BC BS Ag BF BG BD BA BB A8 Bl A' Ar Af
attribute [local irreducible] IntKind.wrap A3 Option.getD and or
end Go.Pw
end
section
open Go Go.Pw Go.Proofs
namespace Go.Pw
set_option maxRecDepth 100000
set_option maxHeartbeats 3200000
def oY (o:Option (List F)):D:=match o with
 |some r=>.tup [.list false (Al (iv r)),.bool true]
 |none=>.tup [.list true [],.bool false]
attribute [local congr] Bi A9 A_ Aq Bj Ax Az Ay Ap Aj Ad AY Au Ae Av BH BL BJ BK BI BM BE Ah Aw Ai BC BS Ag BF BG BD BA BB A8 Bl A' Ar Af
attribute [local irreducible] IntKind.wrap A3 Option.getD and or
end Go.Pw
end
section
open Go Go.Pw Go.Proofs
namespace Go.Pw
set_option maxRecDepth 100000
set_option maxHeartbeats 3200000
attribute [local congr] Bi A9 A_ Aq Bj Ax Az Ay Ap Aj Ad AY Au Ae Av BH BL BJ BK BI BM BE Ah Aw Ai BC BS Ag BF BG BD BA BB A8 Bl A' Ar Af
attribute [local irreducible] IntKind.wrap A3 Option.getD and or
def oa (L P:Int) (ws ms:List Int):Int:=if ED L P=true then if CR ws L=true then if EO ms L=true then 0 else 1 else 51 else 50
end Go.Pw
end
section
open Go Go.Pw Go.Proofs
namespace Go.Pw
set_option maxRecDepth 100000
set_option maxHeartbeats 3200000
attribute [local congr] Bi A9 A_ Aq Bj Ax Az Ay Ap Aj Ad AY Au Ae Av BH BL BJ BK BI BM BE Ah Aw Ai BC BS Ag BF BG BD BA BB A8 Bl A' Ar Af
attribute [local irreducible] IntKind.wrap A3 Option.getD and or
end Go.Pw
end
section
namespace Go.Pw
theorem Td {q k j:Nat}(h:k<q):(j*q+k)/q=j:=by
 rw[Nat.mul_comm,Nat.mul_add_div (by omega),Nat.div_eq_of_lt h,Nat.add_zero]
theorem Qd {q k j:Nat}(h:k<q):(j*q+k)%q=k:=by
 rw[Nat.mul_comm,Nat.mul_add_mod,Nat.mod_eq_of_lt h]
theorem PE {q k j m:Nat}(h:k<q) (hj:j<m):j*q+k<m*q:=by
 have:=Nat.mul_le_mul_right q (show j+1<=m by omega)
 rw[Nat.add_mul,Nat.one_mul] at this
 omega
theorem Vh (q i:Nat):i/q*q+i%q=i:=Nat.div_add_mod' i q
def CS (m q k:Nat) (b:List F):List F:=(List.range m).map fun j=>b[j*q+k]?.getD 0
theorem CZ (m q k:Nat) (b:List F):(CS m q k b).length=m:=by simp[CS]
theorem OP {m q k:Nat}{b:List F}(j:Nat) (h:j<m):(CS m q k b)[j]?.getD 0=b[j*q+k]?.getD 0:=by simp[CS,h]
def Hn (m q:Nat) (W:Nat->List F):List F:=(List.range (m*q)).map fun i=>(W (i%q))[i/q]?.getD 0
theorem HY (m q:Nat) (W:Nat->List F):(Hn m q W).length=m*q:=by simp[Hn]
theorem Nx {m q:Nat}{W:Nat->List F}(i:Nat) (h:i<m*q):(Hn m q W)[i]?.getD 0=(W (i%q))[i/q]?.getD 0:=by simp[Hn,h]
theorem Qw {m q:Nat}(hq:0<q) {W V:Nat->List F}(h:∀k,k<q->W k=V k):Hn m q W=Hn m q V:=by
 unfold Hn
 apply List.map_congr_left
 intro i hi
 rw[h _ (Nat.mod_lt _ hq)]
theorem Vt {m q:Nat}(hq:0<q) {b:List F}(hb:b.length=m*q):Hn m q (fun k=>CS m q k b)=b:=by
 apply d_
 ·rw[HY,hb]
 ·intro i hi
  rw[HY] at hi
  show (Hn m q fun k=>CS m q k b)[i]?.getD 0=b[i]?.getD 0
  rw[Nx i hi,OP _ (Nat.div_lt_of_lt_mul (by rw[Nat.mul_comm];exact hi)),Vh]
def O9 (q k:Nat) (ms:List Nat):List Nat:=(ms.filter fun i=>i%q == k).map (·/q)
theorem TH {m q k:Nat}(hq:0<q) {ms:List Nat}(h:Xv (m*q) ms):Xv m (O9 q k ms):=by
 refine⟨?_,fun j hj=>?_⟩
 ·unfold O9
  rw[List.pairwise_map]
  refine List.Pairwise.imp_of_mem (fun {a b} ha hb hab=>?_) (h.asc.filter _)
  simp only[List.mem_filter,beq_iff_eq] at ha hb
  have e1:=Vh q a
  have e2:=Vh q b
  rcases Nat.lt_or_ge (a/q) (b/q) with h1|h1
  ·exact h1
  ·have:=Nat.mul_le_mul_right q h1
   omega
 ·simp only[O9,List.mem_map,List.mem_filter,beq_iff_eq] at hj
  obtain⟨i,⟨hi,_⟩,rfl⟩:=hj
  exact Nat.div_lt_of_lt_mul (by rw[Nat.mul_comm];exact h.lt i hi)
theorem gf {q k j:Nat}(hk:k<q) {ms:List Nat}:j∈O9 q k ms↔j*q+k∈ms:=by
 simp only[O9,List.mem_map,List.mem_filter,beq_iff_eq]
 constructor
 ·rintro⟨i,⟨h1,h2⟩,rfl⟩
  have:=Vh q i
  rw[h2] at this
  rwa [this]
 ·intro h
  exact⟨j*q+k,⟨h,Qd hk⟩,Td hk⟩
theorem U_ (q k x:Nat) (ms:List Nat):O9 q k (ms++[x])=if x%q=k then O9 q k ms++[x/q] else O9 q k ms:=by
 unfold O9
 rw[List.filter_append,List.map_append]
 by_cases h:x%q=k
 ·rw[if_pos h];simp[h]
 ·rw[if_neg h];simp[h]
def Rs (L P q:Nat) (d:List F):List F:=Hn L q fun k=>GZ P (CS (L-P) q k d)
theorem Sr (L P q:Nat) (d:List F):(Rs L P q d).length=L*q:=HY ..
noncomputable def YS (L P q:Nat) (b:List F) (ms:List Nat) (k:Nat):Option (List F):=MX L P (CS L q k b) (O9 q k ms)
noncomputable def au (L P q:Nat) (b:List F) (ms:List Nat) (k:Nat):List F:=match YS L P q b ms k with
 |some r=>r.take (L-P)
 |none=>[]
theorem NJ {L P q:Nat}{b:List F}{ms:List Nat}{k:Nat}{r:List F}(h:YS L P q b ms k=some r):au L P q b ms k=r.take (L-P):=by
 unfold au;rw[h]
noncomputable def XF (L P q:Nat) (b:List F) (ms:List Nat):Option (List F):=if ∀k,k<q->(YS L P q b ms k).isSome=true then some (Hn (L-P) q (au L P q b ms)) else none
theorem XE {L P q:Nat}{b:List F}{ms:List Nat}(h:∀k,k<q->(YS L P q b ms k).isSome=true):XF L P q b ms=some (Hn (L-P) q (au L P q b ms)):=by unfold XF;rw[if_pos h]
theorem kz {L P q:Nat}{b:List F}{ms:List Nat}{k:Nat}(hk:k<q) (h:YS L P q b ms k=none):XF L P q b ms=none:=by
 unfold XF;rw[if_neg fun h2=>by have:=h2 k hk;rw[h] at this;cases this]
theorem af {q k a n t:Nat}(hk:k<q) (hn:n<=q*t) {l:List Nat}(hnd:l.Nodup) (h:∀j,j∈l->a<=j*q+k/\j*q+k<a+n):l.length<=t:=by
 have h0:∃j0,a<=j0*q+k/\∀j,a<=j*q+k->j0<=j:=by
  have hs:=Nat.mod_lt (a+q-1-k) (show 0<q by omega)
  have he:=Vh q (a+q-1-k)
  refine⟨(a+q-1-k)/q,by omega,fun j hj=>?_⟩
  rcases Nat.lt_or_ge j ((a+q-1-k)/q) with h1|h1
  ·have:=Nat.mul_le_mul_right q (show j+1<=(a+q-1-k)/q by omega)
   rw[Nat.add_mul,Nat.one_mul] at this
   omega
  ·exact h1
 obtain⟨j0,h1,h2⟩:=h0
 have:=NA l (List.range' j0 t) hnd fun j hj=>by
  obtain⟨h3,h4⟩:=h j hj
  have h5:=h2 j h3
  simp only[List.mem_range'_1]
  refine⟨h5,?_⟩
  rcases Nat.lt_or_ge j (j0+t) with h6|h6
  ·exact h6
  ·have h7:=Nat.mul_le_mul_right q h6
   rw[Nat.add_mul,Nat.mul_comm t q] at h7
   omega
 simpa using this
theorem RK {L P q:Nat}(hL:L<=15) (hPL:P<L) (hq:0<q) {d R:List F}{ms:List Nat}(hd:d.length=(L-P)*q) (hR:R.length=L*q) (hm:Xv (L*q) ms)
  (h:∀k,k<q->2*(MR L (GZ P (CS (L-P) q k d)) (CS L q k R) (O9 q k ms)).length+(O9 q k ms).length<=P):XF L P q R ms=some d:=by
 have hO:∀k,k<q->YS L P q R ms k=some (GZ P (CS (L-P) q k d)):=fun k hk=>by
  have hl:=CZ (L-P) q k d
  have hc:=Vb P (CS (L-P) q k d)
  rw[hl,show L-P+P=L by omega] at hc
  exact lM hL (CZ ..) (by rw[HK,hl];omega) (TH hq hm) hc (h k hk)
 rw[XE fun k hk=>by rw[hO k hk];rfl]
 congr 1
 rw[Qw hq (V:=fun k=>CS (L-P) q k d) fun k hk=>by
  rw[NJ (hO k hk)]
  unfold GZ
  rw[List.take_append_of_le_length (by rw[CZ];omega),List.take_of_length_le (by rw[CZ];omega)]]
 exact Vt hq hd
end Go.Pw
end
section
open Go Go.Pw Go.Proofs
namespace Go.Pw
set_option maxRecDepth 100000
def HD:PC :=
 .seq (.reg [] (
  AD 3 .box 0::AK 6 .mov [.k (.d (.list true []))]::AP 7 0::[]) [1,2,3])
 (.seq (.reg [] (
  AD 18 (.load true 3) 3::AA 19 1::AK 20 (.call 35) [.t 18,.t 19,.k (.fn 87 [])]::AA 17 20::BR 21 0 17::BR 22 1 17::AK 8 (.zero [.int .i64 0,.int .i64 0,.int .i64 0]) []::CJ (.store 3) [.t 8,.t 21]::AA 9 22::[]) [1,2,8,9])
 (.seq (.seq (.reg [] (
  AA 23 9::AW 24 (.bin .neq) 23 0::[]) [1,2,8,9,24])
 (.cond (.t 24)
  (.seq (.reg [] (
   AA 25 9::AK 6 .mov [.k (.d (.list true []))]::AA 7 25::[]) [6,7])
  (.ret))
  (.skip)))
 (.seq (.seq (.reg [] (
  AA 26 2::AA 27 1::AD 28 (.len false) 27::AB 29 (.call 88) 26 28::AD 30 (.un .not) 29::[]) [1,2,8,30])
 (.cond (.t 30)
  (.seq (.reg [] (
   AK 6 .mov [.k (.d (.list true []))]::AP 7 1::[]) [6,7])
  (.ret))
  (.skip)))
 (.seq (.reg [] (
  AK 10 .mov [.k (.d (.list true []))]::[]) [1,2,8,10])
 (.seq (.seq (.reg [] (
  AR 31 2 8::AG 32 1 31::AP 33 0::[]) [1,2,8,10,32,33])
 (.block 0
  (.loop [.own 10 76 83 1] [1,2,8,10,32,33] [8,20,76,10020,900001,900002,901001,901002]
   (.seq (.reg [] (
    AB 34 (.bin .lss) 33 32::[]) [1,2,8,10,32,33,34])
   (.seq (.cond (.t 34)
    (.skip)
    (.exit 0))
   (.seq (.block 1
    (.seq (.reg [] (
     AA 35 33::AA 11 35::[]) [1,2,8,10,11,32,33])
    (.seq (.reg [] (
     AK 12 .mov [.k (.d (.list true []))]::[]) [1,2,8,10,11,12,32,33])
    (.seq (.seq (.reg [] (
     AA 36 2::AD 37 (.len false) 36::AP 38 0::[]) [1,2,8,10,11,12,32,33,36,37,38])
    (.block 2
     (.loop [.own 10 76 83 1,.own 12 54 3 1] [1,2,8,10,11,12,32,33,36,37,38] [8,20,54,76,10020,900001,900002,901001,901002]
      (.seq (.reg [] (
       AB 39 (.bin .lss) 38 37::[]) [1,2,8,10,11,12,32,33,36,37,38,39])
      (.seq (.cond (.t 39)
       (.skip)
       (.exit 2))
      (.seq (.block 3
       (.seq (.reg [] (
        AB 40 (.iaddrS 1) 36 38::AG 41 1 40::AA 14 41::[]) [1,2,8,10,11,12,14,32,33,36,37,38])
       (.seq (.reg [] (
        AA 42 14::AR 43 2 8::AG 44 1 43::AB 45 (.bin .rem) 42 44::AA 46 11::AB 47 (.bin .eql) 45 46::[]) [1,2,8,10,11,12,14,32,33,36,37,38,47])
       (.cond (.t 47)
        (.reg [] (
         AA 48 12::AA 49 14::AR 50 2 8::AG 51 1 50::AB 52 (.bin .quo) 49 51::AD 53 (.mkrow 1 (.int .i64 0) 1 [0]) 52::AB 54 (.app 3 1 none true) 48 53::AA 12 54::[]) [1,2,8,10,11,12,32,33,36,37,38])
        (.skip)))))
      (.reg [] (
       AW 55 (.bin .add) 38 1::AA 38 55::[]) [1,2,8,10,11,12,32,33,36,37,38])))))))
    (.seq (.draw [.freeze 12] (
     (AR 57 0 8,[])::(AD 58 (.load true 2) 57,[])::(AD 59 (.load true 3) 8,[])::(AA 60 1,[])::(AA 61 11,[])::(AK 62 (.call 38) [.t 59,.t 60,.t 61],[1])::(AA 63 12,[])::(AK 64 (.call 89) [.t 58,.t 62,.t 63],[])::(AA 56 64,[])::(BR 65 0 56,[])::(BR 66 1 56,[])::(AA 15 65,[])::(AA 16 66,[])::[]) [1,2,8,10,15,16,32,33])
    (.seq (.seq (.reg [] (
     AA 67 16::AD 68 (.un .not) 67::[]) [1,2,8,10,15,32,33,68])
    (.cond (.t 68)
     (.seq (.reg [] (
      AK 6 .mov [.k (.d (.list true []))]::AP 7 52::[]) [6,7])
     (.ret))
     (.skip)))
    (.reg [] (
     AA 69 10::AA 70 15::AR 71 0 8::AD 72 (.load true 2) 71::AD 73 (.call 36) 72::AB 74 (.slice 1 false true false) 70 73::AD 75 (.mkrow 1 (.list true []) 1 [0]) 74::AB 76 (.app 83 1 none true) 69 75::AA 10 76::[]) [1,2,8,10,32,33])))))))
   (.reg [] (
    AW 77 (.bin .add) 33 1::AA 33 77::[]) [1,2,8,10,32,33])))))))
 (.seq (.reg [.freeze 10] (
  AD 78 (.load true 3) 8::AA 79 10::AB 80 (.call 39) 78 79::AA 6 80::AP 7 0::[]) [6,7])
 (.ret)))))))
theorem Li:Ct E0 JA HD [.t 6,.t 7] 81:=AL (fl:=[]) (by kernel_rfl)
end Go.Pw
end
