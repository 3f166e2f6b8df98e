/- A part of the proof. -/
import Derived.Test.YtibkjeolahobbaaGreatDoorPgChrDec
import Derived.Test.YtibkjeolahobbaaGreatDoorPgChrA
set_option linter.all false
open Go Go.Pw Go.Proofs
namespace Go.Pw
set_option maxRecDepth 100000
set_option maxHeartbeats 3200000
section
theorem RD (l g:List F) (o k:Nat) (b:F) (h:k<g.length):(Cy l o b (g.take k)).set (o+k) (fa ((Cy l o b (g.take k))[o+k]?.getD 0) (fm b (g[k]?.getD 0)))=Cy l o b (g.take (k+1)):=by
 rw[←Br g 0 k h,RE]
 rw[show (g.take k).length=k by simp;omega]
theorem Vy (l g:List F) (k:Nat) (b:F) (h:k<g.length):(Cy l 1 b (g.take k)).set (k+1) (fa ((Cy l 1 b (g.take k))[k+1]?.getD 0) (fm (g[k]?.getD 0) b))=Cy l 1 b (g.take (k+1)):=by
 rw[←RD l g 1 k b h,Dk b,Nat.add_comm 1 k]
attribute [local congr] Bh A7 A8 Au Bi Az A1 A0 Ar Ai Ab AZ Aw Ad Ax BF BJ BH BI BG BK BC Ag Ay Ah BA BS Af BD BE BB A_ A' A6 Bj A9 Av Ae
attribute [local irreducible] IntKind.wrap A5 Option.getD and or
theorem Mc (L P:Nat) (n1:Bool) (d:List F) (hL:L<=15) (hP:1<=P) (hd:d.length+P=L) (hd1:1<=d.length) (hn1:n1=false) :
  CI E0 F7 [Td L P,.list n1 (us d)] (.list false (us (IB P d))):=by
 subst hn1
 have c0:=IV false d (by omega) (by omega) rfl
 refine AK Iz Aq (by simp) fun hwf=>?_
 rw[AW];unfold Fa
 rw[B0]
 (try (simp -implicitDefEqProofs only[go_sem]));repeat' first|(with_reducible first|exact tI|refine aI ?_ ?_|intro _)|((first|with_reducible refine AM ?_ ?_<;>intro _)<;>try (simp -implicitDefEqProofs only[go_sem]))|simp (disch:=omega) only[An]|((with_reducible refine Ao ?_);refine⟨_,rfl,?_,?_⟩)
 all_goals first|omega|(simp;done)|(simp;omega)|skip
 rw[show ([D.int .u8 1]:List D)=us (Ix 0) from rfl]
 refine AY (α:=Nat) (l0:=?l1) (m0:=?m1) (fun x=>[(19,.d (.int .i64 (x:Int))),(5,.d (.list false (us (Ix x))))]) (fun x=>[]) (fun x=>x<=P) (fun x=>P-x) 0 ?h01 ?he1 ?he21 ?hI1 ?step1
 case h01=>(simp -implicitDefEqProofs only[go_sem];rfl)
 case he1=>rfl
 case he21=>rfl
 case' step1=>(rintro i hI;try dsimp only at hI)
 case' hI1=>try dsimp only
 ·exact Nat.zero_le _
 ·have hgl:=Kz i
  by_cases h:i<P
  ·have h':(i:Int)<(P:Int):=by omega
   have hwi:IntKind.i64.wrap ((i:Int)+1)=((i+1:Nat):Int):=by rw[Ak _ (by omega)];omega
   have hG:Ix (i+1)=Cy (Ix i++[0]) 1 (gp i) (Ix i):=rfl
   obtain⟨G,hGe⟩:∃G,Ix i=G:=⟨_,rfl⟩
   rw[hGe] at hgl hG ⊢
   have c1:=IV false G (by omega) (by omega) rfl
   have c2:=ES i (by omega)
   (try (simp -implicitDefEqProofs only[go_sem,h',P0]));repeat' first|(with_reducible first|exact tI|refine aI ?_ ?_|intro _)|((first|with_reducible refine AM ?_ ?_<;>intro _|(with_reducible refine isCall ?_);first|(refine Ex ([]) ([((7,1),(23,1))]) (c1) (by repeat' first|exact True.intro|exact rfl|refine And.intro ?_ ?_) (by simp[Handed,Df.get,Aa.ren,AV.ren,AV.ren.renL,AJ.get,BW,B6,Dv,AJ.reach,AV.sites,AV.sites.sitesL,AJ.osites]) (by simp[CL,Eu,CO,Df.get,Dv,EL,CF]) (by rfl) (by simp only[Dw,Df.get,Aa.ren,AV.ren,AV.ren.renL,and_self,and_true,true_and,if_true,reduceIte];rfl) ?_))<;>try (simp -implicitDefEqProofs only[go_sem,h',P0]))|simp (disch:=omega) only[An]|((with_reducible refine Ao ?_);refine⟨_,rfl,?_,?_⟩)
   all_goals first|omega|(simp;done)|(simp;omega)|skip
   refine AY (α:=Nat) (l0:=?l2) (m0:=?m2) (fun x=>[(28,.d (.int .i64 (x:Int)))]) (fun x=>[(23,.row 135 1 false (us (Cy (G++[0]) 1 (gp i) (G.take x))))]) (fun x=>x<=G.length) (fun x=>G.length-x) 0 ?h02 ?he2 ?he22 ?hI2 ?step2
   case h02=>(simp -implicitDefEqProofs only[go_sem];rfl)
   case he2=>rfl
   case he22=>rfl
   case' step2=>(rintro k hI2;try dsimp only at hI2)
   case' hI2=>try dsimp only
   ·exact Nat.zero_le _
   ·have hA:=I6 (G.take k) (G++[0]) 1 (gp i)
    rw[List.length_append,List.length_singleton] at hA
    by_cases hk:k<G.length
    ·have hk':(k:Int)<(G.length:Int):=by omega
     have hwk:IntKind.i64.wrap ((k:Int)+1)=((k+1:Nat):Int):=by rw[Ak _ (by omega)];omega
     have c3:=DZ (G[k]?.getD 0) (gp i)
     have hst:=Vy (G++[0]) G k (gp i) hk
     (try (simp -implicitDefEqProofs only[go_sem,hk',hwk,hA,hst]));repeat' first|(with_reducible first|exact tI|refine aI ?_ ?_|intro _)|((first|with_reducible refine AM ?_ ?_<;>intro _|(with_reducible refine isCall ?_);first|refine AE c2 ?_|refine AE c3 ?_)<;>try (simp -implicitDefEqProofs only[go_sem,hk',hwk,hA,hst]))|simp (disch:=omega) only[An]|((with_reducible refine Ao ?_);refine⟨_,rfl,?_,?_⟩)
     all_goals first|omega|(simp;done)|(simp;omega)|skip
     all_goals first|rfl|(simp at *;done)|(simp at *;omega)|skip
    ·have hk':¬(k:Int)<(G.length:Int):=by omega
     have hke:G.take k=G:=List.take_of_length_le (by omega)
     rw[hke,←hG]
     (try (simp -implicitDefEqProofs only[go_sem,hk',hwi]));repeat' first|(with_reducible first|exact tI|refine aI ?_ ?_|intro _)|((first|with_reducible refine AM ?_ ?_<;>intro _)<;>try (simp -implicitDefEqProofs only[go_sem,hk',hwi]))|simp (disch:=omega) only[An]|((with_reducible refine Ao ?_);refine⟨_,rfl,?_,?_⟩)
     all_goals first|omega|(simp;done)|(simp;omega)|skip
     all_goals first|rfl|omega|skip
  ·have h':¬(i:Int)<(P:Int):=by omega
   have hie:i=P:=by omega
   subst hie
   obtain⟨G,hGe⟩:∃G,Ix i=G:=⟨_,rfl⟩
   rw[hGe] at hgl ⊢
   (try (simp -implicitDefEqProofs only[go_sem,h',Sk,WB]));repeat' first|(with_reducible first|exact tI|refine aI ?_ ?_|intro _)|((first|with_reducible refine AM ?_ ?_<;>intro _|(with_reducible refine isCall ?_);first|(refine Ex ([]) ([((7,1),(48,1))]) (c0) (by repeat' first|exact True.intro|exact rfl|refine And.intro ?_ ?_) (by simp[Handed,Df.get,Aa.ren,AV.ren,AV.ren.renL,AJ.get,BW,B6,Dv,AJ.reach,AV.sites,AV.sites.sitesL,AJ.osites]) (by simp[CL,Eu,CO,Df.get,Dv,EL,CF]) (by rfl) (by simp only[Dw,Df.get,Aa.ren,AV.ren,AV.ren.renL,and_self,and_true,true_and,if_true,reduceIte];rfl) ?_))<;>try (simp -implicitDefEqProofs only[go_sem,h',Sk,WB]))|simp (disch:=omega) only[An]|((with_reducible refine Ao ?_);refine⟨_,rfl,?_,?_⟩)
   all_goals first|omega|(simp;done)|(simp;omega)|skip
   rw[show us (d++List.replicate i 0)=us (GM G d i 0) from rfl]
   refine AY (α:=Nat) (l0:=?l3) (m0:=?m3) (fun x=>[(55,.d (.int .i64 (x:Int)))]) (fun x=>[(48,.row 135 1 false (us (GM G d i x)))]) (fun x=>x<=d.length) (fun x=>d.length-x) 0 ?h03 ?he3 ?he23 ?hI3 ?step3
   case h03=>(simp -implicitDefEqProofs only[go_sem];rfl)
   case he3=>rfl
   case he23=>rfl
   case' step3=>(rintro m hI3;try dsimp only at hI3)
   case' hI3=>try dsimp only
   ·exact Nat.zero_le _
   ·have hrl:=G8 G d i m
    have hrs:GM G d i (m+1)=Cy (GM G d i m) m ((GM G d i m)[m]?.getD 0) G:=rfl
    obtain⟨R,hR⟩:∃R,GM G d i m=R:=⟨_,rfl⟩
    rw[hR] at hrl hrs ⊢
    by_cases hm:m<d.length
    ·have hm':(m:Int)<(d.length:Int):=by omega
     have hwm:IntKind.i64.wrap ((m:Int)+1)=((m+1:Nat):Int):=by rw[Ak _ (by omega)];omega
     have hmR:m<R.length:=by omega
     obtain⟨B,hB⟩:∃B,R[m]?.getD 0=B:=⟨_,rfl⟩
     rw[hB] at hrs
     (try (simp -implicitDefEqProofs only[go_sem,hm',hmR,hB]));repeat' first|(with_reducible first|exact tI|refine aI ?_ ?_|intro _)|((first|with_reducible refine AM ?_ ?_<;>intro _)<;>try (simp -implicitDefEqProofs only[go_sem,hm',hmR,hB]))|simp (disch:=omega) only[An]|((with_reducible refine Ao ?_);refine⟨_,rfl,?_,?_⟩)
     all_goals first|omega|(simp;done)|(simp;omega)|skip
     rw[show us R=us (Cy R m B (G.take 0)) from rfl]
     refine AY (α:=Nat) (l0:=?l4) (m0:=?m4) (fun x=>[(64,.d (.int .i64 (x:Int)))]) (fun x=>[(48,.row 135 1 false (us (Cy R m B (G.take x))))]) (fun x=>x<=G.length) (fun x=>G.length-x) 0 ?h04 ?he4 ?he24 ?hI4 ?step4
     case h04=>(simp -implicitDefEqProofs only[go_sem];rfl)
     case he4=>rfl
     case he24=>rfl
     case' step4=>(rintro k hI4;try dsimp only at hI4)
     case' hI4=>try dsimp only
     ·exact Nat.zero_le _
     ·have hA:=I6 (G.take k) R m B
      by_cases hk:k<G.length
      ·have hk':(k:Int)<(G.length:Int):=by omega
       have hwk:IntKind.i64.wrap ((k:Int)+1)=((k+1:Nat):Int):=by rw[Ak _ (by omega)];omega
       have hwmk:IntKind.i64.wrap ((m:Int)+(k:Int))=((m+k:Nat):Int):=by rw[Ak _ (by omega)];omega
       have hmk:m+k<R.length:=by omega
       have c3:=DZ B (G[k]?.getD 0)
       have hst:=RD R G m k B hk
       (try (simp -implicitDefEqProofs only[go_sem,hk',hwk,hwmk,hA,hmk,hst]));repeat' first|(with_reducible first|exact tI|refine aI ?_ ?_|intro _)|((first|with_reducible refine AM ?_ ?_<;>intro _|(with_reducible refine isCall ?_);first|refine AE c3 ?_)<;>try (simp -implicitDefEqProofs only[go_sem,hk',hwk,hwmk,hA,hmk,hst]))|simp (disch:=omega) only[An]|((with_reducible refine Ao ?_);refine⟨_,rfl,?_,?_⟩)
       all_goals first|omega|(simp;done)|(simp;omega)|skip
       all_goals first|rfl|(simp at *;done)|(simp at *;omega)|skip
      ·have hk':¬(k:Int)<(G.length:Int):=by omega
       have hke:G.take k=G:=List.take_of_length_le (by omega)
       rw[hke,←hrs]
       (try (simp -implicitDefEqProofs only[go_sem,hk',hwm]));repeat' first|(with_reducible first|exact tI|refine aI ?_ ?_|intro _)|((first|with_reducible refine AM ?_ ?_<;>intro _)<;>try (simp -implicitDefEqProofs only[go_sem,hk',hwm]))|simp (disch:=omega) only[An]|((with_reducible refine Ao ?_);refine⟨_,rfl,?_,?_⟩)
       all_goals first|omega|(simp;done)|(simp;omega)|skip
       all_goals first|rfl|omega|skip
    ·have hm':¬(m:Int)<(d.length:Int):=by omega
     have hme:m=d.length:=by omega
     have c4:=RH false false d (R.drop d.length) (by omega) (by simp;omega)
     have hres:d++R.drop d.length=IB i d:=by rw[←hR,hme,←hGe];rfl
     have hemp:(IB i d).isEmpty=false:=by
      have h5:=Iw i d
      cases hE:IB i d with
      |nil=>rw[hE] at h5;simp at h5;omega
      |cons=>rfl
     have hdr:List.take (d.length+i-d.length) (R.drop d.length)=R.drop d.length:=List.take_of_length_le (by simp;omega)
     rw[hres,hemp] at c4
     (try (simp -implicitDefEqProofs only[go_sem,hm',hrl,hdr]));repeat' first|(with_reducible first|exact tI|refine aI ?_ ?_|intro _)|((first|with_reducible refine AM ?_ ?_<;>intro _|(with_reducible refine isCall ?_);first|refine AE c4 ?_)<;>try (simp -implicitDefEqProofs only[go_sem,hm',hrl,hdr]))|simp (disch:=omega) only[An]|((with_reducible refine Ao ?_);refine⟨_,rfl,?_,?_⟩)
     all_goals first|omega|(simp;done)|(simp;omega)|skip
     all_goals first|rfl|(simp at *;done)|(simp at *;omega)|skip
end
section
theorem K7 {L P:Int}(h:D7 L P=true):2<=L/\L<=15/\1<=P/\P<=8/\P<L:=by simpa[D7] using h
theorem aP {L P:Int}(h:D7 L P=true):∃l p:Nat,L=(l:Int)/\P=(p:Int)/\2<=l/\l<=15/\1<=p/\p<=8/\p<l:=by
 have:=K7 h
 exact⟨L.toNat,P.toNat,by omega,by omega,by omega,by omega,by omega,by omega,by omega⟩
def ot (L P n:Int):Int:=if D7 L P=true then if 0<=n/\n<=L then 0 else 1 else 50
def ou (L P n:Int):Bool:=D7 L P && (decide (0<=n/\n<=L) && decide (P<n+P/2))
def jY (L:Nat):Nat->Nat×Nat
 |0=>(0,1)
 |e+1=>((jY L e).1+(jY L e).2,(jY L e).2*(L-e)*15/(e+1))
def oT (L P:Nat):Nat:=(jY L (P/2+1)).1
def oS (L P:Nat):Nat:=Nat.gcd (oT L P) (2^(4*P))
def pI (L P:Int):Int:=if D7 L P=true then ((oT L.toNat P.toNat/oS L.toNat P.toNat:Nat):Int) else 0
def pH (L P:Int):Int:=if D7 L P=true then ((2^(4*P.toNat)/oS L.toNat P.toNat:Nat):Int) else 0
theorem bI (a b:Nat):Int.tdiv (a:Int) (b:Int)=((a/b:Nat):Int):=by
 rw[Int.tdiv_eq_ediv_of_nonneg (by omega)];rfl
theorem bG (a b:Nat):Int.tmod (a:Int) (b:Int)=((a%b:Nat):Int):=by
 rw[Int.tmod_eq_emod_of_nonneg (by omega)];rfl
attribute [local congr] Bh A7 A8 Au Bi Az A1 A0 Ar Ai Ab AZ Aw Ad Ax BF BJ BH BI BG BK BC Ag Ay Ah BA BS Af BD BE BB A_ A' A6 Bj A9 Av Ae
attribute [local irreducible] IntKind.wrap A5 Option.getD and or
end
def fs (xs:List Int):List F:=xs.map fun x=>Fin.ofNat 16 x.toNat
theorem W7 (xs:List Int):(fs xs).length=xs.length:=by simp[fs]
theorem YN:∀{xs:List Int},xs.all KM=true->iv (fs xs)=xs
 |[],_=>rfl
 |x::xs,h=>by
  simp only[List.all_cons,Bool.and_eq_true] at h
  have hx:0<=x/\x<=15:=by simpa[KM] using h.1
  show ((Fin.ofNat 16 x.toNat).val:Int)::iv (fs xs)=x::xs
  rw[YN h.2]
  congr 1
  show ((x.toNat%16:Nat):Int)=x
  omega
theorem oM (w:List F):fs (iv w)=w:=by
 apply lE.1
 apply YN
 rw[List.all_eq_true]
 intro x hx
 simp[iv] at hx
 obtain⟨a,_,rfl⟩:=hx
 have:=a.isLt
 simp[KM];omega
theorem lF (w:List F):(iv w).all KM=true:=by
 rw[List.all_eq_true]
 intro x hx
 simp[iv] at hx
 obtain⟨a,_,rfl⟩:=hx
 have:=a.isLt
 simp[KM];omega
theorem bJ (w:List F) (m:Int):CN (iv w) m=decide ((w.length:Int)=m):=by
 unfold CN;rw[lF,Bool.and_true,Kp]
theorem P4 {xs:List Int}{m:Int}(h:CN xs m=true):(xs.length:Int)=m/\iv (fs xs)=xs:=by
 unfold CN at h
 simp only[Bool.and_eq_true,decide_eq_true_eq] at h
 exact⟨h.1,YN h.2⟩
def nt (ms:List Int):List Nat:=ms.map Int.toNat
theorem km (ms:List Int):(nt ms).length=ms.length:=by simp[nt]
theorem LX {ms:List Int}{m:Int}(h:EJ ms m=true) {i:Nat}(hi:i<ms.length):0<=ms[i]?.getD 0/\ms[i]?.getD 0<m/\(0<i->ms[i-1]?.getD 0<ms[i]?.getD 0):=by
 have:=(List.all_eq_true.1 h) i (by simpa using hi)
 simp only[g6,decide_eq_true_eq] at this
 exact this
theorem mS {ms:List Int}{m:Int}(h:EJ ms m=true):ni (nt ms)=ms:=by
 apply List.ext_getElem
 ·simp[ni,nt]
 ·intro i h1 h2
  have:=(LX h h2).1
  rw[List.getElem?_eq_getElem h2] at this
  simp[ni,nt] at this ⊢
  omega
theorem eu (ms:List Int) (h:∀i,i<ms.length->0<i->ms[i-1]?.getD 0<ms[i]?.getD 0):∀j i,i<j->j<ms.length->ms[i]?.getD 0<ms[j]?.getD 0
 |0,i,h1,_=>by omega
 |j+1,i,h1,h2=>by
  have h3:=h (j+1) h2 (by omega)
  rw[show j+1-1=j by omega] at h3
  by_cases hij:i=j
  ·subst hij;exact h3
  ·have:=eu ms h j i (by omega) (by omega)
   omega
theorem ky {ms:List Int}{L:Nat}(h:EJ ms (L:Int)=true):ak L (nt ms):=by
 have ha:=eu ms fun i hi h0=>(LX h hi).2.2 h0
 refine⟨List.pairwise_iff_getElem.2 fun i j hi hj hij=>?_,fun j hj=>?_⟩
 ·rw[km] at hi hj
  have h1:=ha j i hij hj
  have h2:=(LX h hi).1
  rw[List.getElem?_eq_getElem hi,List.getElem?_eq_getElem hj] at h1
  rw[List.getElem?_eq_getElem hi] at h2
  simp[nt] at h1 h2 ⊢
  omega
 ·simp only[nt,List.mem_map] at hj
  obtain⟨x,hx,rfl⟩:=hj
  obtain⟨i,hi,rfl⟩:=List.getElem_of_mem hx
  have h2:=LX h hi
  rw[List.getElem?_eq_getElem hi] at h2
  simp at h2
  omega
theorem dA {L:Nat}{mk:List Nat}(h:ak L mk):mk.length<=L:=by
 have:=QT mk (List.range L) (GE h.asc) fun j hj=>by simpa using h.lt j hj
 simpa using this
def o0 (L P:Int) (xs:List Int):Int:=if D7 L P=true then if CN xs (L-P)=true then 0 else 51 else 50
def oz (L P:Int) (xs:List Int):List Int:=if D7 L P=true then if CN xs (L-P)=true then iv (IB P.toNat (fs xs)) else [] else []
noncomputable def oP (L P:Int) (ws ms:List Int):Option (List F):=Nf L.toNat P.toNat (fs ws) (nt ms)
def oE:Option (List F)->Int
 |some _=>0
 |none=>52
def oL:Option (List F)->List F
 |some r=>r
 |none=>[]
theorem gl (r:List F):oE (some r)=0:=rfl
theorem gm:oE none=52:=rfl
theorem gj (r:List F):oL (some r)=r:=rfl
theorem gk:oL none=[]:=rfl
noncomputable def pE (L P:Int) (ws ms:List Int):Int :=
 if D7 L P=true then if CN ws L=true then if EJ ms L=true then oE (oP L P ws ms) else 1 else 51 else 50
noncomputable def pC (L P:Int) (ws ms:List Int):List Int :=
 if D7 L P=true then if CN ws L=true then if EJ ms L=true then iv (oL (oP L P ws ms)) else [] else [] else []
section
theorem Ww (w:List F):(iv w).isEmpty=w.isEmpty:=by cases w<;>rfl
theorem gb {w:List F}(h:0<w.length):w.isEmpty=false:=by cases w<;>simp_all
theorem QV {w:List F}(h:0<w.length):(iv w).isEmpty=false:=by rw[Ww];exact gb h
attribute [local congr] Bh A7 A8 Au Bi Az A1 A0 Ar Ai Ab AZ Aw Ad Ax BF BJ BH BI BG BK BC Ag Ay Ah BA BS Af BD BE BB A_ A' A6 Bj A9 Av Ae
attribute [local irreducible] IntKind.wrap A5 Option.getD and or
end
section
def Cx (L P Q:Int):Bool:=D7 L P && decide (1<=Q/\Q<=8)
theorem Tz {L P Q:Int}(h:Cx L P Q=true):D7 L P=true/\1<=Q/\Q<=8:=by simpa[Cx] using h
def jh (L P Q:Int) (xs:List Int) (m:Int):Int:=if Cx L P Q=true then if CN xs (Q*m)=true then 0 else 51 else 50
def nK (L P Q:Int) (e:Int):D:=if e=0 then .agg [.int .i64 L,.int .i64 P,.int .i64 Q] else .agg [.int .i64 0,.int .i64 0,.int .i64 0]
theorem YA (L P Q:Int):nK L P Q 0=.agg [.int .i64 L,.int .i64 P,.int .i64 Q]:=rfl
theorem Wc (L P Q:Int):nK L P Q 51=.agg [.int .i64 0,.int .i64 0,.int .i64 0]:=rfl
theorem QP (L P Q:Int):nK L P Q 50=.agg [.int .i64 0,.int .i64 0,.int .i64 0]:=rfl
theorem Vi:Bp E0.P DI=true:=by kernel_rfl
theorem SW:Bp E0.P Cz=true:=by kernel_rfl
theorem Tg:Bp E0.P EU=true:=by kernel_rfl
theorem Yk:CN [] 0=true:=rfl
attribute [local congr] Bh A7 A8 Au Bi Az A1 A0 Ar Ai Ab AZ Aw Ad Ax BF BJ BH BI BG BK BC Ag Ay Ah BA BS Af BD BE BB A_ A' A6 Bj A9 Av Ae
attribute [local irreducible] IntKind.wrap A5 Option.getD and or
theorem Jx (L P:Int):CI E0 DI [.agg [.int .i64 L,.int .i64 P]] (.int .i64 L):=by
 refine AK K2 Aq (by simp) fun hwf=>?_
 rw[AW];unfold Gr
 (try (simp -implicitDefEqProofs only[go_sem]));repeat' first|(with_reducible first|exact tI|refine aI ?_ ?_|intro _)|((first|with_reducible refine AM ?_ ?_<;>intro _)<;>try (simp -implicitDefEqProofs only[go_sem]))|simp (disch:=omega) only[An]
theorem GB (L P:Int) (h:-1000<=L/\L<=1000/\-1000<=P/\P<=1000):CI E0 Cz [.agg [.int .i64 L,.int .i64 P]] (.int .i64 (L-P)):=by
 refine AK KD Aq (by simp) fun hwf=>?_
 rw[AW];unfold GO
 have hw:IntKind.i64.wrap (L-P)=L-P:=Ak _ (by omega)
 (try (simp -implicitDefEqProofs only[go_sem,hw]));repeat' first|(with_reducible first|exact tI|refine aI ?_ ?_|intro _)|((first|with_reducible refine AM ?_ ?_<;>intro _)<;>try (simp -implicitDefEqProofs only[go_sem,hw]))|simp (disch:=omega) only[An]
theorem Lm (L P:Int):CI E0 EU [.agg [.int .i64 L,.int .i64 P]] (.int .i64 0):=by
 refine AK Li Aq (by simp) fun hwf=>?_
 rw[AW];unfold HF
 (try (simp -implicitDefEqProofs only[go_sem]));repeat' first|(with_reducible first|exact tI|refine aI ?_ ?_|intro _)|((first|with_reducible refine AM ?_ ?_<;>intro _)<;>try (simp -implicitDefEqProofs only[go_sem]))|simp (disch:=omega) only[An]
theorem Dr (L P Q:Int) (nl:Bool) (xs:List Int) (f:FuncId) (m:Int) (hb:Bp E0.P f=true) (hm:0<=m/\m<=1000) (h:D7 L P=true->CI E0 f [.agg [.int .i64 L,.int .i64 P]] (.int .i64 m)) :
  CI E0 LI [.agg [.int .i64 L,.int .i64 P,.int .i64 Q],.list nl (Aj xs),.fn f []] (.tup [nK L P Q (jh L P Q xs m),.int .i64 (jh L P Q xs m)]):=by
 have c1:=Nj L P
 refine AK OZ Aq (by simp) fun hwf=>?_
 rw[AW];unfold Jq jh Cx
 cases hc:D7 L P with
 |false =>
  rw[hc] at c1
  simp only[Bool.false_eq_true,if_false,Bool.false_and] at c1 ⊢
  rw[QP]
  (try (simp -implicitDefEqProofs only[go_sem]));repeat' first|(with_reducible first|exact tI|refine aI ?_ ?_|intro _)|((first|with_reducible refine AM ?_ ?_<;>intro _|(with_reducible refine isCall ?_);first|refine AE c1 ?_)<;>try (simp -implicitDefEqProofs only[go_sem]))|simp (disch:=omega) only[An]
  all_goals first|rfl|(simp;done)|skip
 |true =>
  rw[hc] at c1
  simp only[if_true,Bool.true_and] at c1 ⊢
  by_cases hD:1<=Q/\Q<=8
  ·have h1:¬Q<1:=by omega
   have h2:¬8<Q:=by omega
   have hDm:0<=Q*m/\Q*m<=8000:=by
    constructor
    ·exact Int.mul_nonneg (by omega) (by omega)
    ·exact Int.le_trans (Int.mul_le_mul_of_nonneg_left hm.2 (by omega)) (by omega)
   have hw:IntKind.i64.wrap (Q*m)=Q*m:=Ak _ (by omega)
   rw[decide_eq_true hD]
   simp only[if_true]
   have c2:=Pa nl xs (Q*m)
   have c3:=h hc
   cases hs:CN xs (Q*m) with
   |false =>
    rw[hs] at c2
    simp only[Bool.false_eq_true,if_false]
    rw[Wc]
    (try (simp -implicitDefEqProofs only[go_sem,h1,h2,hw,hb]));repeat' first|(with_reducible first|exact tI|refine aI ?_ ?_|intro _)|((first|with_reducible refine AM ?_ ?_<;>intro _|(with_reducible refine isCall ?_);first|refine AE c1 ?_|refine AE c2 ?_|refine AE c3 ?_)<;>try (simp -implicitDefEqProofs only[go_sem,h1,h2,hw,hb]))|simp (disch:=omega) only[An]
    all_goals first|rfl|(simp;done)|skip
   |true =>
    rw[hs] at c2
    simp only[if_true]
    rw[YA]
    (try (simp -implicitDefEqProofs only[go_sem,h1,h2,hw,hb]));repeat' first|(with_reducible first|exact tI|refine aI ?_ ?_|intro _)|((first|with_reducible refine AM ?_ ?_<;>intro _|(with_reducible refine isCall ?_);first|refine AE c1 ?_|refine AE c2 ?_|refine AE c3 ?_)<;>try (simp -implicitDefEqProofs only[go_sem,h1,h2,hw,hb]))|simp (disch:=omega) only[An]
    all_goals first|rfl|(simp;done)|skip
  ·rw[decide_eq_false hD]
   simp only[Bool.false_eq_true,if_false]
   rw[QP]
   by_cases h1:Q<1
   ·(try (simp -implicitDefEqProofs only[go_sem,h1]));repeat' first|(with_reducible first|exact tI|refine aI ?_ ?_|intro _)|((first|with_reducible refine AM ?_ ?_<;>intro _|(with_reducible refine isCall ?_);first|refine AE c1 ?_)<;>try (simp -implicitDefEqProofs only[go_sem,h1]))|simp (disch:=omega) only[An]
    all_goals first|rfl|(simp;done)|skip
   ·have h2:8<Q:=by omega
    (try (simp -implicitDefEqProofs only[go_sem,h1,h2]));repeat' first|(with_reducible first|exact tI|refine aI ?_ ?_|intro _)|((first|with_reducible refine AM ?_ ?_<;>intro _|(with_reducible refine isCall ?_);first|refine AE c1 ?_)<;>try (simp -implicitDefEqProofs only[go_sem,h1,h2]))|simp (disch:=omega) only[An]
    all_goals first|rfl|(simp;done)|skip
theorem Nk (L P Q:Int):CI E0 J8 [.agg [.int .i64 L,.int .i64 P,.int .i64 Q]] (.tup [.int .i64 (if Cx L P Q=true then Q*(P/2) else 0),.int .i64 (if Cx L P Q=true then Q*P else 0),.int .i64 (if Cx L P Q=true then 0 else 50)]):=by
 have c1:=Dr L P Q true [] EU 0 Tg (by omega) fun _=>Lm L P
 refine AK NX Aq (by simp) fun hwf=>?_
 rw[AW];unfold Ip
 unfold jh at c1
 cases hw:Cx L P Q with
 |false =>
  rw[hw] at c1
  simp only[Bool.false_eq_true,if_false] at c1 ⊢
  rw[QP] at c1
  (try (simp -implicitDefEqProofs only[go_sem]));repeat' first|(with_reducible first|exact tI|refine aI ?_ ?_|intro _)|((first|with_reducible refine AM ?_ ?_<;>intro _|(with_reducible refine isCall ?_);first|refine AE c1 ?_)<;>try (simp -implicitDefEqProofs only[go_sem]))|simp (disch:=omega) only[An]
  all_goals first|rfl|(simp;done)|skip
 |true =>
  obtain⟨hc,hD⟩:=Tz hw
  have hb:=K7 hc
  rw[hw,show CN [] (Q*0)=true by rw[Int.mul_zero];exact Yk] at c1
  simp only[if_true] at c1 ⊢
  rw[YA] at c1
  have hd:P.tdiv 2=P/2:=Int.tdiv_eq_ediv_of_nonneg (by omega)
  have w1:IntKind.i64.wrap (P/2)=P/2:=Ak _ (by omega)
  have b1:0<=Q*(P/2)/\Q*(P/2)<=8*8:=⟨Int.mul_nonneg (by omega) (by omega),Int.mul_le_mul hD.2 (by omega) (by omega) (by omega)⟩
  have b2:0<=Q*P/\Q*P<=8*8:=⟨Int.mul_nonneg (by omega) (by omega),Int.mul_le_mul hD.2 (by omega) (by omega) (by omega)⟩
  have w2:IntKind.i64.wrap (Q*(P/2))=Q*(P/2):=Ak _ (by omega)
  have w3:IntKind.i64.wrap (Q*P)=Q*P:=Ak _ (by omega)
  (try (simp -implicitDefEqProofs only[go_sem,hd,w1,w2,w3]));repeat' first|(with_reducible first|exact tI|refine aI ?_ ?_|intro _)|((first|with_reducible refine AM ?_ ?_<;>intro _|(with_reducible refine isCall ?_);first|refine AE c1 ?_)<;>try (simp -implicitDefEqProofs only[go_sem,hd,w1,w2,w3]))|simp (disch:=omega) only[An]
  all_goals first|rfl|(simp;done)|skip
end
section
def o4 (L P:Nat) (w:List F):Bool:=(List.range P).all fun i=>decide (FT w (Ri L i)=0)
def oc (L P:Int):Bool:=D7 L P && (decide (L<=10) && decide (P<=6))
def oi (L P:Int) (d a m:List Int):Bool:=decide (m.length<=30) && (CN d (L-P) && (CN a L && EJ m L))
def pB (w a:List F):List F:=List.zipWith fa w a
def pJ (a b m:List Int) (n:Nat):List Nat:=(List.range n).filter fun i=>decide (a[i]?.getD 0≠b[i]?.getD 0) && !iR m i
attribute [local congr] Bh A7 A8 Au Bi Az A1 A0 Ar Ai Ab AZ Aw Ad Ax BF BJ BH BI BG BK BC Ag Ay Ah BA BS Af BD BE BB A_ A' A6 A9 Av Ae
attribute [local irreducible] IntKind.wrap A5 Option.getD and or
end
section
def nS (l:List Nat):D:=.list l.isEmpty (Aj (ni l))
def pA (ls:List (List Nat)):List D:=ls.map nS
attribute [local congr] Bh A7 A8 Au Bi Az A1 A0 Ar Ai Ab AZ Aw Ad Ax BF BJ BH BI BG BK BC Ag Ay Ah BA BS Af BD BE BB A_ A' A6 Bj A9 Av Ae
attribute [local irreducible] IntKind.wrap A5 Option.getD and or
end
theorem get_mem {l:List Nat}{i:Nat}(h:i<l.length):l[i]?.getD 0∈l:=by rw[YC _ _ h];exact List.getElem_mem h
def o9 (w:List F) (at_:List Nat):List F:=EN w at_ (List.replicate at_.length 0)
section
attribute [local congr] Bh A7 A8 Au Bi Az A1 A0 Ar Ai Ab AZ Aw Ad Ax BF BJ BH BI BG BK BC Ag Ay Ah BA BS Af BD BE BB A_ A' A6 Bj A9 Av Ae
attribute [local irreducible] IntKind.wrap A5 Option.getD and or
end
section
def pD (o:Option (List F)):D:=match o with
 |some r=>.tup [.list false (Aj (iv r)),.bool true]
 |none=>.tup [.list true [],.bool false]
attribute [local congr] Bh A7 A8 Au Bi Az A1 A0 Ar Ai Ab AZ Aw Ad Ax BF BJ BH BI BG BK BC Ag Ay Ah BA BS Af BD BE BB A_ A' A6 Bj A9 Av Ae
attribute [local irreducible] IntKind.wrap A5 Option.getD and or
end
section
attribute [local congr] Bh A7 A8 Au Bi Az A1 A0 Ar Ai Ab AZ Aw Ad Ax BF BJ BH BI BG BK BC Ag Ay Ah BA BS Af BD BE BB A_ A' A6 Bj A9 Av Ae
attribute [local irreducible] IntKind.wrap A5 Option.getD and or
def pF (L P:Int) (ws ms:List Int):Int:=if D7 L P=true then if CN ws L=true then if EJ ms L=true then 0 else 1 else 51 else 50
end
section
attribute [local congr] Bh A7 A8 Au Bi Az A1 A0 Ar Ai Ab AZ Aw Ad Ax BF BJ BH BI BG BK BC Ag Ay Ah BA BS Af BD BE BB A_ A' A6 Bj A9 Av Ae
attribute [local irreducible] IntKind.wrap A5 Option.getD and or
end
theorem XZ {q k j:Nat}(h:k<q):(j*q+k)/q=j:=by
 rw[Nat.mul_comm,Nat.mul_add_div (by omega),Nat.div_eq_of_lt h,Nat.add_zero]
theorem TV {q k j:Nat}(h:k<q):(j*q+k)%q=k:=by
 rw[Nat.mul_comm,Nat.mul_add_mod,Nat.mod_eq_of_lt h]
theorem SO {q k j m:Nat}(h:k<q) (hj:j<m):j*q+k<m*q:=by
 have:=Nat.mul_le_mul_right q (show j+1<=m by omega)
 rw[Nat.add_mul,Nat.one_mul] at this
 omega
theorem YT (q i:Nat):i/q*q+i%q=i:=Nat.div_add_mod' i q
def C7 (m q k:Nat) (b:List F):List F:=(List.range m).map fun j=>b[j*q+k]?.getD 0
theorem DR (m q k:Nat) (b:List F):(C7 m q k b).length=m:=by simp[C7]
theorem OJ {m q k:Nat}{b:List F}(j:Nat) (h:j<m):(C7 m q k b)[j]?.getD 0=b[j*q+k]?.getD 0:=by simp[C7,h]
def Hm (m q:Nat) (W:Nat->List F):List F:=(List.range (m*q)).map fun i=>(W (i%q))[i/q]?.getD 0
theorem HW (m q:Nat) (W:Nat->List F):(Hm m q W).length=m*q:=by simp[Hm]
theorem Q3 {m q:Nat}{W:Nat->List F}(i:Nat) (h:i<m*q):(Hm m q W)[i]?.getD 0=(W (i%q))[i/q]?.getD 0:=by simp[Hm,h]
theorem Xj {m q:Nat}(hq:0<q) {W V:Nat->List F}(h:∀k,k<q->W k=V k):Hm m q W=Hm m q V:=by
 unfold Hm
 apply List.map_congr_left
 intro i hi
 rw[h _ (Nat.mod_lt _ hq)]
theorem eo {m q:Nat}(hq:0<q) {b:List F}(hb:b.length=m*q):Hm m q (fun k=>C7 m q k b)=b:=by
 apply eH
 ·rw[HW,hb]
 ·intro i hi
  rw[HW] at hi
  show (Hm m q fun k=>C7 m q k b)[i]?.getD 0=b[i]?.getD 0
  rw[Q3 i hi,OJ _ (Nat.div_lt_of_lt_mul (by rw[Nat.mul_comm];exact hi)),YT]
def Pk (q k:Nat) (ms:List Nat):List Nat:=(ms.filter fun i=>i%q == k).map (·/q)
theorem YH {m q k:Nat}(hq:0<q) {ms:List Nat}(h:ak (m*q) ms):ak m (Pk q k ms):=by
 refine⟨?_,fun j hj=>?_⟩
 ·unfold Pk
  rw[List.pairwise_map]
  refine List.Pairwise.imp_of_mem (fun {a b} ha hb hab=>?_) (h.asc.filter _)
  simp only[List.mem_filter,beq_iff_eq] at ha hb
  have e1:=YT q a
  have e2:=YT q b
  rcases Nat.lt_or_ge (a/q) (b/q) with h1|h1
  ·exact h1
  ·have:=Nat.mul_le_mul_right q h1
   omega
 ·simp only[Pk,List.mem_map,List.mem_filter,beq_iff_eq] at hj
  obtain⟨i,⟨hi,_⟩,rfl⟩:=hj
  exact Nat.div_lt_of_lt_mul (by rw[Nat.mul_comm];exact h.lt i hi)
theorem gy {q k j:Nat}(hk:k<q) {ms:List Nat}:j∈Pk q k ms↔j*q+k∈ms:=by
 simp only[Pk,List.mem_map,List.mem_filter,beq_iff_eq]
 constructor
 ·rintro⟨i,⟨h1,h2⟩,rfl⟩
  have:=YT q i
  rw[h2] at this
  rwa [this]
 ·intro h
  exact⟨j*q+k,⟨h,TV hk⟩,XZ hk⟩
theorem U1 (q k x:Nat) (ms:List Nat):Pk q k (ms++[x])=if x%q=k then Pk q k ms++[x/q] else Pk q k ms:=by
 unfold Pk
 rw[List.filter_append,List.map_append]
 by_cases h:x%q=k
 ·rw[if_pos h];simp[h]
 ·rw[if_neg h];simp[h]
def Yq (L P q:Nat) (d:List F):List F:=Hm L q fun k=>IB P (C7 (L-P) q k d)
theorem Xy (L P q:Nat) (d:List F):(Yq L P q d).length=L*q:=HW ..
noncomputable def dq (L P q:Nat) (b:List F) (ms:List Nat) (k:Nat):Option (List F):=Nf L P (C7 L q k b) (Pk q k ms)
noncomputable def ah (L P q:Nat) (b:List F) (ms:List Nat) (k:Nat):List F:=match dq L P q b ms k with
 |some r=>r.take (L-P)
 |none=>[]
theorem QZ {L P q:Nat}{b:List F}{ms:List Nat}{k:Nat}{r:List F}(h:dq L P q b ms k=some r):ah L P q b ms k=r.take (L-P):=by
 unfold ah;rw[h]
noncomputable def dp (L P q:Nat) (b:List F) (ms:List Nat):Option (List F):=if ∀k,k<q->(dq L P q b ms k).isSome=true then some (Hm (L-P) q (ah L P q b ms)) else none
theorem dn {L P q:Nat}{b:List F}{ms:List Nat}(h:∀k,k<q->(dq L P q b ms k).isSome=true):dp L P q b ms=some (Hm (L-P) q (ah L P q b ms)):=by unfold dp;rw[if_pos h]
theorem lN {L P q:Nat}{b:List F}{ms:List Nat}{k:Nat}(hk:k<q) (h:dq L P q b ms k=none):dp L P q b ms=none:=by
 unfold dp;rw[if_neg fun h2=>by have:=h2 k hk;rw[h] at this;cases this]
theorem RQ {L P q:Nat}(hL:L<=15) (hPL:P<L) (hq:0<q) {d R:List F}{ms:List Nat}(hd:d.length=(L-P)*q) (hR:R.length=L*q) (hm:ak (L*q) ms)
  (h:∀k,k<q->2*(Re L (IB P (C7 (L-P) q k d)) (C7 L q k R) (Pk q k ms)).length+(Pk q k ms).length<=P):dp L P q R ms=some d:=by
 have hO:∀k,k<q->dq L P q R ms k=some (IB P (C7 (L-P) q k d)):=fun k hk=>by
  have hl:=DR (L-P) q k d
  have hc:=eU P (C7 (L-P) q k d)
  rw[hl,show L-P+P=L by omega] at hc
  exact lf hL (DR ..) (by rw[Iw,hl];omega) (YH hq hm) hc (h k hk)
 rw[dn fun k hk=>by rw[hO k hk];rfl]
 congr 1
 rw[Xj hq (V:=fun k=>C7 (L-P) q k d) fun k hk=>by
  rw[QZ (hO k hk)]
  unfold IB
  rw[List.take_append_of_le_length (by rw[DR];omega),List.take_of_length_le (by rw[DR];omega)]]
 exact eo hq hd
end Go.Pw
