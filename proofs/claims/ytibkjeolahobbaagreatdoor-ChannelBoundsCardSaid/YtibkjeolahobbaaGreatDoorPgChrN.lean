/- A part of the proof. -/
import Derived.Test.YtibkjeolahobbaaGreatDoorPgChrDec
import Derived.Test.YtibkjeolahobbaaGreatDoorPgChrA
set_option linter.all false
open Go Go.Pw Go.Proofs
namespace Go.Pw
set_option maxRecDepth 100000
set_option maxHeartbeats 3200000
section
theorem Rz (l g:List F) (o k:Nat) (b:F) (h:k<g.length):(C4 l o b (g.take k)).set (o+k) (fa ((C4 l o b (g.take k))[o+k]?.getD 0) (fm b (g[k]?.getD 0)))=C4 l o b (g.take (k+1)):=by
 rw[←Bx g 0 k h,R0]
 rw[show (g.take k).length=k by simp;omega]
theorem Wv (l g:List F) (k:Nat) (b:F) (h:k<g.length):(C4 l 1 b (g.take k)).set (k+1) (fa ((C4 l 1 b (g.take k))[k+1]?.getD 0) (fm (g[k]?.getD 0) b))=C4 l 1 b (g.take (k+1)):=by
 rw[←Rz l g 1 k b h,Dt b,Nat.add_comm 1 k]
attribute [local congr] Bf A9 A_ Aq Bg Ax Az Ay Ap Aj Ad AZ Au Ae Av BK BO BM BN BL BP BE Ah Aw Ai BC BW Ag BI BJ BD BF BH BG BA BB A8 Bj A' Ar Af
attribute [local irreducible] IntKind.wrap A4 Option.getD and or
theorem Ms (L P:Nat) (n1:Bool) (d:List F) (hL:L<=15) (hP:1<=P) (hd:d.length+P=L) (hd1:1<=d.length) (hn1:n1=false) :
  B' E0 GG [UT L P,.list n1 (us d)] (.list false (us (IQ P d))):=by
 subst hn1
 have c0:=Ig false d (by omega) (by omega) rfl
 refine AO JA An (by simp) fun hwf=>?_
 rw[AW];unfold Fo
 rw[B3]
 (try (simp -implicitDefEqProofs only[go_sem]));repeat' first|(with_reducible first|exact tI|refine aI ?_ ?_|intro _)|((first|with_reducible refine AN ?_ ?_<;>intro _)<;>try (simp -implicitDefEqProofs only[go_sem]))|simp (disch:=omega) only[Al]|((with_reducible refine Ao ?_);refine⟨_,rfl,?_,?_⟩)
 all_goals first|omega|(simp;done)|(simp;omega)|skip
 rw[show ([D.int .u8 1]:List D)=us (I9 0) from rfl]
 refine AY (α:=Nat) (l0:=?l1) (m0:=?m1) (fun x=>[(19,.d (.int .i64 (x:Int))),(5,.d (.list false (us (I9 x))))]) (fun x=>[]) (fun x=>x<=P) (fun x=>P-x) 0 ?h01 ?he1 ?he21 ?hI1 ?step1
 case h01=>(simp -implicitDefEqProofs only[go_sem];rfl)
 case he1=>rfl
 case he21=>rfl
 case' step1=>(rintro i hI;try dsimp only at hI)
 case' hI1=>try dsimp only
 ·exact Nat.zero_le _
 ·have hgl:=K_ i
  by_cases h:i<P
  ·have h':(i:Int)<(P:Int):=by omega
   have hwi:IntKind.i64.wrap ((i:Int)+1)=((i+1:Nat):Int):=by rw[Aa _ (by omega)];omega
   have hG:I9 (i+1)=C4 (I9 i++[0]) 1 (gp i) (I9 i):=rfl
   obtain⟨G,hGe⟩:∃G,I9 i=G:=⟨_,rfl⟩
   rw[hGe] at hgl hG ⊢
   have c1:=Ig false G (by omega) (by omega) rfl
   have c2:=Ea i (by omega)
   (try (simp -implicitDefEqProofs only[go_sem,h',Qc]));repeat' first|(with_reducible first|exact tI|refine aI ?_ ?_|intro _)|((first|with_reducible refine AN ?_ ?_<;>intro _|(with_reducible refine isCall ?_);first|(refine E' ([]) ([((7,1),(23,1))]) (c1) (by repeat' first|exact True.intro|exact rfl|refine And.intro ?_ ?_) (by simp[Handed,Dl.get,Ak.ren,AV.ren,AV.ren.renL,AM.get,Bb,CF,D5,AM.reach,AV.sites,AV.sites.sitesL,AM.osites]) (by simp[CP,E_,CS,Dl.get,D5,EW,CJ]) (by rfl) (by simp only[D6,Dl.get,Ak.ren,AV.ren,AV.ren.renL,and_self,and_true,true_and,if_true,reduceIte];rfl) ?_))<;>try (simp -implicitDefEqProofs only[go_sem,h',Qc]))|simp (disch:=omega) only[Al]|((with_reducible refine Ao ?_);refine⟨_,rfl,?_,?_⟩)
   all_goals first|omega|(simp;done)|(simp;omega)|skip
   refine AY (α:=Nat) (l0:=?l2) (m0:=?m2) (fun x=>[(28,.d (.int .i64 (x:Int)))]) (fun x=>[(23,.row 135 1 false (us (C4 (G++[0]) 1 (gp i) (G.take x))))]) (fun x=>x<=G.length) (fun x=>G.length-x) 0 ?h02 ?he2 ?he22 ?hI2 ?step2
   case h02=>(simp -implicitDefEqProofs only[go_sem];rfl)
   case he2=>rfl
   case he22=>rfl
   case' step2=>(rintro k hI2;try dsimp only at hI2)
   case' hI2=>try dsimp only
   ·exact Nat.zero_le _
   ·have hA:=JH (G.take k) (G++[0]) 1 (gp i)
    rw[List.length_append,List.length_singleton] at hA
    by_cases hk:k<G.length
    ·have hk':(k:Int)<(G.length:Int):=by omega
     have hwk:IntKind.i64.wrap ((k:Int)+1)=((k+1:Nat):Int):=by rw[Aa _ (by omega)];omega
     have c3:=Dd (G[k]?.getD 0) (gp i)
     have hst:=Wv (G++[0]) G k (gp i) hk
     (try (simp -implicitDefEqProofs only[go_sem,hk',hwk,hA,hst]));repeat' first|(with_reducible first|exact tI|refine aI ?_ ?_|intro _)|((first|with_reducible refine AN ?_ ?_<;>intro _|(with_reducible refine isCall ?_);first|refine AE c2 ?_|refine AE c3 ?_)<;>try (simp -implicitDefEqProofs only[go_sem,hk',hwk,hA,hst]))|simp (disch:=omega) only[Al]|((with_reducible refine Ao ?_);refine⟨_,rfl,?_,?_⟩)
     all_goals first|omega|(simp;done)|(simp;omega)|skip
     all_goals first|rfl|(simp at *;done)|(simp at *;omega)|skip
    ·have hk':¬(k:Int)<(G.length:Int):=by omega
     have hke:G.take k=G:=List.take_of_length_le (by omega)
     rw[hke,←hG]
     (try (simp -implicitDefEqProofs only[go_sem,hk',hwi]));repeat' first|(with_reducible first|exact tI|refine aI ?_ ?_|intro _)|((first|with_reducible refine AN ?_ ?_<;>intro _)<;>try (simp -implicitDefEqProofs only[go_sem,hk',hwi]))|simp (disch:=omega) only[Al]|((with_reducible refine Ao ?_);refine⟨_,rfl,?_,?_⟩)
     all_goals first|omega|(simp;done)|(simp;omega)|skip
     all_goals first|rfl|omega|skip
  ·have h':¬(i:Int)<(P:Int):=by omega
   have hie:i=P:=by omega
   subst hie
   obtain⟨G,hGe⟩:∃G,I9 i=G:=⟨_,rfl⟩
   rw[hGe] at hgl ⊢
   (try (simp -implicitDefEqProofs only[go_sem,h',TS,W9]));repeat' first|(with_reducible first|exact tI|refine aI ?_ ?_|intro _)|((first|with_reducible refine AN ?_ ?_<;>intro _|(with_reducible refine isCall ?_);first|(refine E' ([]) ([((7,1),(48,1))]) (c0) (by repeat' first|exact True.intro|exact rfl|refine And.intro ?_ ?_) (by simp[Handed,Dl.get,Ak.ren,AV.ren,AV.ren.renL,AM.get,Bb,CF,D5,AM.reach,AV.sites,AV.sites.sitesL,AM.osites]) (by simp[CP,E_,CS,Dl.get,D5,EW,CJ]) (by rfl) (by simp only[D6,Dl.get,Ak.ren,AV.ren,AV.ren.renL,and_self,and_true,true_and,if_true,reduceIte];rfl) ?_))<;>try (simp -implicitDefEqProofs only[go_sem,h',TS,W9]))|simp (disch:=omega) only[Al]|((with_reducible refine Ao ?_);refine⟨_,rfl,?_,?_⟩)
   all_goals first|omega|(simp;done)|(simp;omega)|skip
   rw[show us (d++List.replicate i 0)=us (GW G d i 0) from rfl]
   refine AY (α:=Nat) (l0:=?l3) (m0:=?m3) (fun x=>[(55,.d (.int .i64 (x:Int)))]) (fun x=>[(48,.row 135 1 false (us (GW G d i x)))]) (fun x=>x<=d.length) (fun x=>d.length-x) 0 ?h03 ?he3 ?he23 ?hI3 ?step3
   case h03=>(simp -implicitDefEqProofs only[go_sem];rfl)
   case he3=>rfl
   case he23=>rfl
   case' step3=>(rintro m hI3;try dsimp only at hI3)
   case' hI3=>try dsimp only
   ·exact Nat.zero_le _
   ·have hrl:=HG G d i m
    have hrs:GW G d i (m+1)=C4 (GW G d i m) m ((GW G d i m)[m]?.getD 0) G:=rfl
    obtain⟨R,hR⟩:∃R,GW G d i m=R:=⟨_,rfl⟩
    rw[hR] at hrl hrs ⊢
    by_cases hm:m<d.length
    ·have hm':(m:Int)<(d.length:Int):=by omega
     have hwm:IntKind.i64.wrap ((m:Int)+1)=((m+1:Nat):Int):=by rw[Aa _ (by omega)];omega
     have hmR:m<R.length:=by omega
     obtain⟨B,hB⟩:∃B,R[m]?.getD 0=B:=⟨_,rfl⟩
     rw[hB] at hrs
     (try (simp -implicitDefEqProofs only[go_sem,hm',hmR,hB]));repeat' first|(with_reducible first|exact tI|refine aI ?_ ?_|intro _)|((first|with_reducible refine AN ?_ ?_<;>intro _)<;>try (simp -implicitDefEqProofs only[go_sem,hm',hmR,hB]))|simp (disch:=omega) only[Al]|((with_reducible refine Ao ?_);refine⟨_,rfl,?_,?_⟩)
     all_goals first|omega|(simp;done)|(simp;omega)|skip
     rw[show us R=us (C4 R m B (G.take 0)) from rfl]
     refine AY (α:=Nat) (l0:=?l4) (m0:=?m4) (fun x=>[(64,.d (.int .i64 (x:Int)))]) (fun x=>[(48,.row 135 1 false (us (C4 R m B (G.take x))))]) (fun x=>x<=G.length) (fun x=>G.length-x) 0 ?h04 ?he4 ?he24 ?hI4 ?step4
     case h04=>(simp -implicitDefEqProofs only[go_sem];rfl)
     case he4=>rfl
     case he24=>rfl
     case' step4=>(rintro k hI4;try dsimp only at hI4)
     case' hI4=>try dsimp only
     ·exact Nat.zero_le _
     ·have hA:=JH (G.take k) R m B
      by_cases hk:k<G.length
      ·have hk':(k:Int)<(G.length:Int):=by omega
       have hwk:IntKind.i64.wrap ((k:Int)+1)=((k+1:Nat):Int):=by rw[Aa _ (by omega)];omega
       have hwmk:IntKind.i64.wrap ((m:Int)+(k:Int))=((m+k:Nat):Int):=by rw[Aa _ (by omega)];omega
       have hmk:m+k<R.length:=by omega
       have c3:=Dd B (G[k]?.getD 0)
       have hst:=Rz R G m k B hk
       (try (simp -implicitDefEqProofs only[go_sem,hk',hwk,hwmk,hA,hmk,hst]));repeat' first|(with_reducible first|exact tI|refine aI ?_ ?_|intro _)|((first|with_reducible refine AN ?_ ?_<;>intro _|(with_reducible refine isCall ?_);first|refine AE c3 ?_)<;>try (simp -implicitDefEqProofs only[go_sem,hk',hwk,hwmk,hA,hmk,hst]))|simp (disch:=omega) only[Al]|((with_reducible refine Ao ?_);refine⟨_,rfl,?_,?_⟩)
       all_goals first|omega|(simp;done)|(simp;omega)|skip
       all_goals first|rfl|(simp at *;done)|(simp at *;omega)|skip
      ·have hk':¬(k:Int)<(G.length:Int):=by omega
       have hke:G.take k=G:=List.take_of_length_le (by omega)
       rw[hke,←hrs]
       (try (simp -implicitDefEqProofs only[go_sem,hk',hwm]));repeat' first|(with_reducible first|exact tI|refine aI ?_ ?_|intro _)|((first|with_reducible refine AN ?_ ?_<;>intro _)<;>try (simp -implicitDefEqProofs only[go_sem,hk',hwm]))|simp (disch:=omega) only[Al]|((with_reducible refine Ao ?_);refine⟨_,rfl,?_,?_⟩)
       all_goals first|omega|(simp;done)|(simp;omega)|skip
       all_goals first|rfl|omega|skip
    ·have hm':¬(m:Int)<(d.length:Int):=by omega
     have hme:m=d.length:=by omega
     have c4:=R4 false false d (R.drop d.length) (by omega) (by simp;omega)
     have hres:d++R.drop d.length=IQ i d:=by rw[←hR,hme,←hGe];rfl
     have hemp:(IQ i d).isEmpty=false:=by
      have h5:=I7 i d
      cases hE:IQ i d with
      |nil=>rw[hE] at h5;simp at h5;omega
      |cons=>rfl
     have hdr:List.take (d.length+i-d.length) (R.drop d.length)=R.drop d.length:=List.take_of_length_le (by simp;omega)
     rw[hres,hemp] at c4
     (try (simp -implicitDefEqProofs only[go_sem,hm',hrl,hdr]));repeat' first|(with_reducible first|exact tI|refine aI ?_ ?_|intro _)|((first|with_reducible refine AN ?_ ?_<;>intro _|(with_reducible refine isCall ?_);first|refine AE c4 ?_)<;>try (simp -implicitDefEqProofs only[go_sem,hm',hrl,hdr]))|simp (disch:=omega) only[Al]|((with_reducible refine Ao ?_);refine⟨_,rfl,?_,?_⟩)
     all_goals first|omega|(simp;done)|(simp;omega)|skip
     all_goals first|rfl|(simp at *;done)|(simp at *;omega)|skip
end
section
theorem LH {L P:Int}(h:EK L P=true):2<=L/\L<=15/\1<=P/\P<=8/\P<L:=by simpa[EK] using h
theorem bn {L P:Int}(h:EK L P=true):∃l p:Nat,L=(l:Int)/\P=(p:Int)/\2<=l/\l<=15/\1<=p/\p<=8/\p<l:=by
 have:=LH h
 exact⟨L.toNat,P.toNat,by omega,by omega,by omega,by omega,by omega,by omega,by omega⟩
def qY (L P n:Int):Int:=if EK L P=true then if 0<=n/\n<=L then 0 else 1 else 50
def qZ (L P n:Int):Bool:=EK L P && (decide (0<=n/\n<=L) && decide (P<n+P/2))
def lL (L:Nat):Nat->Nat×Nat
 |0=>(0,1)
 |e+1=>((lL L e).1+(lL L e).2,(lL L e).2*(L-e)*15/(e+1))
def qJ (L P:Nat):Nat:=(lL L (P/2+1)).1
def qI (L P:Nat):Nat:=Nat.gcd (qJ L P) (2^(4*P))
def qs (L P:Int):Int:=if EK L P=true then ((qJ L.toNat P.toNat/qI L.toNat P.toNat:Nat):Int) else 0
def qr (L P:Int):Int:=if EK L P=true then ((2^(4*P.toNat)/qI L.toNat P.toNat:Nat):Int) else 0
theorem cw (a b:Nat):Int.tdiv (a:Int) (b:Int)=((a/b:Nat):Int):=by
 rw[Int.tdiv_eq_ediv_of_nonneg (by omega)];rfl
theorem cu (a b:Nat):Int.tmod (a:Int) (b:Int)=((a%b:Nat):Int):=by
 rw[Int.tmod_eq_emod_of_nonneg (by omega)];rfl
attribute [local congr] Bf A9 A_ Aq Bg Ax Az Ay Ap Aj Ad AZ Au Ae Av BK BO BM BN BL BP BE Ah Aw Ai BC BW Ag BI BJ BD BF BH BG BA BB A8 Bj A' Ar Af
attribute [local irreducible] IntKind.wrap A4 Option.getD and or
end
def fs (xs:List Int):List F:=xs.map fun x=>Fin.ofNat 16 x.toNat
theorem X2 (xs:List Int):(fs xs).length=xs.length:=by simp[fs]
theorem ZM:∀{xs:List Int},xs.all KY=true->iv (fs xs)=xs
 |[],_=>rfl
 |x::xs,h=>by
  simp only[List.all_cons,Bool.and_eq_true] at h
  have hx:0<=x/\x<=15:=by simpa[KY] using h.1
  show ((Fin.ofNat 16 x.toNat).val:Int)::iv (fs xs)=x::xs
  rw[ZM h.2]
  congr 1
  show ((x.toNat%16:Nat):Int)=x
  omega
theorem qF (w:List F):fs (iv w)=w:=by
 apply nM.1
 apply ZM
 rw[List.all_eq_true]
 intro x hx
 simp[iv] at hx
 obtain⟨a,_,rfl⟩:=hx
 have:=a.isLt
 simp[KY];omega
theorem nN (w:List F):(iv w).all KY=true:=by
 rw[List.all_eq_true]
 intro x hx
 simp[iv] at hx
 obtain⟨a,_,rfl⟩:=hx
 have:=a.isLt
 simp[KY];omega
theorem cx (w:List F) (m:Int):CR (iv w) m=decide ((w.length:Int)=m):=by
 unfold CR;rw[nN,Bool.and_true,K1]
theorem Qf {xs:List Int}{m:Int}(h:CR xs m=true):(xs.length:Int)=m/\iv (fs xs)=xs:=by
 unfold CR at h
 simp only[Bool.and_eq_true,decide_eq_true_eq] at h
 exact⟨h.1,ZM h.2⟩
def nt (ms:List Int):List Nat:=ms.map Int.toNat
theorem mw (ms:List Int):(nt ms).length=ms.length:=by simp[nt]
theorem Li {ms:List Int}{m:Int}(h:EU ms m=true) {i:Nat}(hi:i<ms.length):0<=ms[i]?.getD 0/\ms[i]?.getD 0<m/\(0<i->ms[i-1]?.getD 0<ms[i]?.getD 0):=by
 have:=(List.all_eq_true.1 h) i (by simpa using hi)
 simp only[jo,decide_eq_true_eq] at this
 exact this
theorem ol {ms:List Int}{m:Int}(h:EU ms m=true):ni (nt ms)=ms:=by
 apply List.ext_getElem
 ·simp[ni,nt]
 ·intro i h1 h2
  have:=(Li h h2).1
  rw[List.getElem?_eq_getElem h2] at this
  simp[ni,nt] at this ⊢
  omega
theorem gh (ms:List Int) (h:∀i,i<ms.length->0<i->ms[i-1]?.getD 0<ms[i]?.getD 0):∀j i,i<j->j<ms.length->ms[i]?.getD 0<ms[j]?.getD 0
 |0,i,h1,_=>by omega
 |j+1,i,h1,h2=>by
  have h3:=h (j+1) h2 (by omega)
  rw[show j+1-1=j by omega] at h3
  by_cases hij:i=j
  ·subst hij;exact h3
  ·have:=gh ms h j i (by omega) (by omega)
   omega
theorem nD {ms:List Int}{L:Nat}(h:EU ms (L:Int)=true):cH L (nt ms):=by
 have ha:=gh ms fun i hi h0=>(Li h hi).2.2 h0
 refine⟨List.pairwise_iff_getElem.2 fun i j hi hj hij=>?_,fun j hj=>?_⟩
 ·rw[mw] at hi hj
  have h1:=ha j i hij hj
  have h2:=(Li h hi).1
  rw[List.getElem?_eq_getElem hi,List.getElem?_eq_getElem hj] at h1
  rw[List.getElem?_eq_getElem hi] at h2
  simp[nt] at h1 h2 ⊢
  omega
 ·simp only[nt,List.mem_map] at hj
  obtain⟨x,hx,rfl⟩:=hj
  obtain⟨i,hi,rfl⟩:=List.getElem_of_mem hx
  have h2:=Li h hi
  rw[List.getElem?_eq_getElem hi] at h2
  simp at h2
  omega
theorem eY {L:Nat}{mk:List Nat}(h:cH L mk):mk.length<=L:=by
 have:=Q7 mk (List.range L) (GO h.asc) fun j hj=>by simpa using h.lt j hj
 simpa using this
def qc (L P:Int) (xs:List Int):Int:=if EK L P=true then if CR xs (L-P)=true then 0 else 51 else 50
def qb (L P:Int) (xs:List Int):List Int:=if EK L P=true then if CR xs (L-P)=true then iv (IQ P.toNat (fs xs)) else [] else []
noncomputable def qH (L P:Int) (ws ms:List Int):Option (List F):=N1 L.toNat P.toNat (fs ws) (nt ms)
def oE:Option (List F)->Int
 |some _=>0
 |none=>52
def oL:Option (List F)->List F
 |some r=>r
 |none=>[]
theorem ja (r:List F):oE (some r)=0:=rfl
theorem jb:oE none=52:=rfl
theorem jY (r:List F):oL (some r)=r:=rfl
theorem jZ:oL none=[]:=rfl
noncomputable def qp (L P:Int) (ws ms:List Int):Int :=
 if EK L P=true then if CR ws L=true then if EU ms L=true then oE (qH L P ws ms) else 1 else 51 else 50
noncomputable def qn (L P:Int) (ws ms:List Int):List Int :=
 if EK L P=true then if CR ws L=true then if EU ms L=true then iv (oL (qH L P ws ms)) else [] else [] else []
section
theorem Xs (w:List F):(iv w).isEmpty=w.isEmpty:=by cases w<;>rfl
theorem jP {w:List F}(h:0<w.length):w.isEmpty=false:=by cases w<;>simp_all
theorem Q_ {w:List F}(h:0<w.length):(iv w).isEmpty=false:=by rw[Xs];exact jP h
attribute [local congr] Bf A9 A_ Aq Bg Ax Az Ay Ap Aj Ad AZ Au Ae Av BK BO BM BN BL BP BE Ah Aw Ai BC BW Ag BI BJ BD BF BH BG BA BB A8 Bj A' Ar Af
attribute [local irreducible] IntKind.wrap A4 Option.getD and or
end
section
def Cv (L P Q:Int):Bool:=EK L P && decide (1<=Q/\Q<=8)
theorem Ul {L P Q:Int}(h:Cv L P Q=true):EK L P=true/\1<=Q/\Q<=8:=by simpa[Cv] using h
def lV (L P Q:Int) (xs:List Int) (m:Int):Int:=if Cv L P Q=true then if CR xs (Q*m)=true then 0 else 51 else 50
def pV (L P Q:Int) (e:Int):D:=if e=0 then .agg [.int .i64 L,.int .i64 P,.int .i64 Q] else .agg [.int .i64 0,.int .i64 0,.int .i64 0]
theorem Y' (L P Q:Int):pV L P Q 0=.agg [.int .i64 L,.int .i64 P,.int .i64 Q]:=rfl
theorem XX (L P Q:Int):pV L P Q 51=.agg [.int .i64 0,.int .i64 0,.int .i64 0]:=rfl
theorem Q2 (L P Q:Int):pV L P Q 50=.agg [.int .i64 0,.int .i64 0,.int .i64 0]:=rfl
theorem Wg:Bv E0.P DR=true:=by kernel_rfl
theorem TD:Bv E0.P C5=true:=by kernel_rfl
theorem UW:Bv E0.P Ec=true:=by kernel_rfl
theorem Zn:CR [] 0=true:=rfl
attribute [local congr] Bf A9 A_ Aq Bg Ax Az Ay Ap Aj Ad AZ Au Ae Av BK BO BM BN BL BP BE Ah Aw Ai BC BW Ag BI BJ BD BF BH BG BA BB A8 Bj A' Ar Af
attribute [local irreducible] IntKind.wrap A4 Option.getD and or
theorem J7 (L P:Int):B' E0 DR [.agg [.int .i64 L,.int .i64 P]] (.int .i64 L):=by
 refine AO LC An (by simp) fun hwf=>?_
 rw[AW];unfold G2
 (try (simp -implicitDefEqProofs only[go_sem]));repeat' first|(with_reducible first|exact tI|refine aI ?_ ?_|intro _)|((first|with_reducible refine AN ?_ ?_<;>intro _)<;>try (simp -implicitDefEqProofs only[go_sem]))|simp (disch:=omega) only[Al]
theorem GM (L P:Int) (h:-1000<=L/\L<=1000/\-1000<=P/\P<=1000):B' E0 C5 [.agg [.int .i64 L,.int .i64 P]] (.int .i64 (L-P)):=by
 refine AO KO An (by simp) fun hwf=>?_
 rw[AW];unfold GY
 have hw:IntKind.i64.wrap (L-P)=L-P:=Aa _ (by omega)
 (try (simp -implicitDefEqProofs only[go_sem,hw]));repeat' first|(with_reducible first|exact tI|refine aI ?_ ?_|intro _)|((first|with_reducible refine AN ?_ ?_<;>intro _)<;>try (simp -implicitDefEqProofs only[go_sem,hw]))|simp (disch:=omega) only[Al]
theorem Lz (L P:Int):B' E0 Ec [.agg [.int .i64 L,.int .i64 P]] (.int .i64 0):=by
 refine AO Lv An (by simp) fun hwf=>?_
 rw[AW];unfold HP
 (try (simp -implicitDefEqProofs only[go_sem]));repeat' first|(with_reducible first|exact tI|refine aI ?_ ?_|intro _)|((first|with_reducible refine AN ?_ ?_<;>intro _)<;>try (simp -implicitDefEqProofs only[go_sem]))|simp (disch:=omega) only[Al]
theorem D2 (L P Q:Int) (nl:Bool) (xs:List Int) (f:FuncId) (m:Int) (hb:Bv E0.P f=true) (hm:0<=m/\m<=1000) (h:EK L P=true->B' E0 f [.agg [.int .i64 L,.int .i64 P]] (.int .i64 m)) :
  B' E0 LU [.agg [.int .i64 L,.int .i64 P,.int .i64 Q],.list nl (Am xs),.fn f []] (.tup [pV L P Q (lV L P Q xs m),.int .i64 (lV L P Q xs m)]):=by
 have c1:=N5 L P
 refine AO O6 An (by simp) fun hwf=>?_
 rw[AW];unfold Jz lV Cv
 cases hc:EK L P with
 |false =>
  rw[hc] at c1
  simp only[Bool.false_eq_true,if_false,Bool.false_and] at c1 ⊢
  rw[Q2]
  (try (simp -implicitDefEqProofs only[go_sem]));repeat' first|(with_reducible first|exact tI|refine aI ?_ ?_|intro _)|((first|with_reducible refine AN ?_ ?_<;>intro _|(with_reducible refine isCall ?_);first|refine AE c1 ?_)<;>try (simp -implicitDefEqProofs only[go_sem]))|simp (disch:=omega) only[Al]
  all_goals first|rfl|(simp;done)|skip
 |true =>
  rw[hc] at c1
  simp only[if_true,Bool.true_and] at c1 ⊢
  by_cases hD:1<=Q/\Q<=8
  ·have h1:¬Q<1:=by omega
   have h2:¬8<Q:=by omega
   have hDm:0<=Q*m/\Q*m<=8000:=by
    constructor
    ·exact Int.mul_nonneg (by omega) (by omega)
    ·exact Int.le_trans (Int.mul_le_mul_of_nonneg_left hm.2 (by omega)) (by omega)
   have hw:IntKind.i64.wrap (Q*m)=Q*m:=Aa _ (by omega)
   rw[decide_eq_true hD]
   simp only[if_true]
   have c2:=QB nl xs (Q*m)
   have c3:=h hc
   cases hs:CR xs (Q*m) with
   |false =>
    rw[hs] at c2
    simp only[Bool.false_eq_true,if_false]
    rw[XX]
    (try (simp -implicitDefEqProofs only[go_sem,h1,h2,hw,hb]));repeat' first|(with_reducible first|exact tI|refine aI ?_ ?_|intro _)|((first|with_reducible refine AN ?_ ?_<;>intro _|(with_reducible refine isCall ?_);first|refine AE c1 ?_|refine AE c2 ?_|refine AE c3 ?_)<;>try (simp -implicitDefEqProofs only[go_sem,h1,h2,hw,hb]))|simp (disch:=omega) only[Al]
    all_goals first|rfl|(simp;done)|skip
   |true =>
    rw[hs] at c2
    simp only[if_true]
    rw[Y']
    (try (simp -implicitDefEqProofs only[go_sem,h1,h2,hw,hb]));repeat' first|(with_reducible first|exact tI|refine aI ?_ ?_|intro _)|((first|with_reducible refine AN ?_ ?_<;>intro _|(with_reducible refine isCall ?_);first|refine AE c1 ?_|refine AE c2 ?_|refine AE c3 ?_)<;>try (simp -implicitDefEqProofs only[go_sem,h1,h2,hw,hb]))|simp (disch:=omega) only[Al]
    all_goals first|rfl|(simp;done)|skip
  ·rw[decide_eq_false hD]
   simp only[Bool.false_eq_true,if_false]
   rw[Q2]
   by_cases h1:Q<1
   ·(try (simp -implicitDefEqProofs only[go_sem,h1]));repeat' first|(with_reducible first|exact tI|refine aI ?_ ?_|intro _)|((first|with_reducible refine AN ?_ ?_<;>intro _|(with_reducible refine isCall ?_);first|refine AE c1 ?_)<;>try (simp -implicitDefEqProofs only[go_sem,h1]))|simp (disch:=omega) only[Al]
    all_goals first|rfl|(simp;done)|skip
   ·have h2:8<Q:=by omega
    (try (simp -implicitDefEqProofs only[go_sem,h1,h2]));repeat' first|(with_reducible first|exact tI|refine aI ?_ ?_|intro _)|((first|with_reducible refine AN ?_ ?_<;>intro _|(with_reducible refine isCall ?_);first|refine AE c1 ?_)<;>try (simp -implicitDefEqProofs only[go_sem,h1,h2]))|simp (disch:=omega) only[Al]
    all_goals first|rfl|(simp;done)|skip
theorem N6 (L P Q:Int):B' E0 KG [.agg [.int .i64 L,.int .i64 P,.int .i64 Q]] (.tup [.int .i64 (if Cv L P Q=true then Q*(P/2) else 0),.int .i64 (if Cv L P Q=true then Q*P else 0),.int .i64 (if Cv L P Q=true then 0 else 50)]):=by
 have c1:=D2 L P Q true [] Ec 0 UW (by omega) fun _=>Lz L P
 refine AO Nt An (by simp) fun hwf=>?_
 rw[AW];unfold Iz
 unfold lV at c1
 cases hw:Cv L P Q with
 |false =>
  rw[hw] at c1
  simp only[Bool.false_eq_true,if_false] at c1 ⊢
  rw[Q2] at c1
  (try (simp -implicitDefEqProofs only[go_sem]));repeat' first|(with_reducible first|exact tI|refine aI ?_ ?_|intro _)|((first|with_reducible refine AN ?_ ?_<;>intro _|(with_reducible refine isCall ?_);first|refine AE c1 ?_)<;>try (simp -implicitDefEqProofs only[go_sem]))|simp (disch:=omega) only[Al]
  all_goals first|rfl|(simp;done)|skip
 |true =>
  obtain⟨hc,hD⟩:=Ul hw
  have hb:=LH hc
  rw[hw,show CR [] (Q*0)=true by rw[Int.mul_zero];exact Zn] at c1
  simp only[if_true] at c1 ⊢
  rw[Y'] at c1
  have hd:P.tdiv 2=P/2:=Int.tdiv_eq_ediv_of_nonneg (by omega)
  have w1:IntKind.i64.wrap (P/2)=P/2:=Aa _ (by omega)
  have b1:0<=Q*(P/2)/\Q*(P/2)<=8*8:=⟨Int.mul_nonneg (by omega) (by omega),Int.mul_le_mul hD.2 (by omega) (by omega) (by omega)⟩
  have b2:0<=Q*P/\Q*P<=8*8:=⟨Int.mul_nonneg (by omega) (by omega),Int.mul_le_mul hD.2 (by omega) (by omega) (by omega)⟩
  have w2:IntKind.i64.wrap (Q*(P/2))=Q*(P/2):=Aa _ (by omega)
  have w3:IntKind.i64.wrap (Q*P)=Q*P:=Aa _ (by omega)
  (try (simp -implicitDefEqProofs only[go_sem,hd,w1,w2,w3]));repeat' first|(with_reducible first|exact tI|refine aI ?_ ?_|intro _)|((first|with_reducible refine AN ?_ ?_<;>intro _|(with_reducible refine isCall ?_);first|refine AE c1 ?_)<;>try (simp -implicitDefEqProofs only[go_sem,hd,w1,w2,w3]))|simp (disch:=omega) only[Al]
  all_goals first|rfl|(simp;done)|skip
end
section
def qd (L P:Nat) (w:List F):Bool:=(List.range P).all fun i=>decide (Ff w (SS L i)=0)
def qP (L P:Int):Bool:=EK L P && (decide (L<=10) && decide (P<=6))
def qT (L P:Int) (d a m:List Int):Bool:=decide (m.length<=30) && (CR d (L-P) && (CR a L && EU m L))
def qm (w a:List F):List F:=List.zipWith fa w a
def qt (a b m:List Int) (n:Nat):List Nat:=(List.range n).filter fun i=>decide (a[i]?.getD 0≠b[i]?.getD 0) && !kF m i
attribute [local congr] Bf A9 A_ Aq Bg Ax Az Ay Ap Aj Ad AZ Au Ae Av BK BO BM BN BL BP BE Ah Aw Ai BC BW Ag BI BJ BD BF BH BG BA BB A8 A' Ar Af
attribute [local irreducible] IntKind.wrap A4 Option.getD and or
end
section
def pg (l:List Nat):D:=.list l.isEmpty (Am (ni l))
def qk (ls:List (List Nat)):List D:=ls.map pg
attribute [local congr] Bf A9 A_ Aq Bg Ax Az Ay Ap Aj Ad AZ Au Ae Av BK BO BM BN BL BP BE Ah Aw Ai BC BW Ag BI BJ BD BF BH BG BA BB A8 Bj A' Ar Af
attribute [local irreducible] IntKind.wrap A4 Option.getD and or
end
theorem get_mem {l:List Nat}{i:Nat}(h:i<l.length):l[i]?.getD 0∈l:=by rw[ZB _ _ h];exact List.getElem_mem h
def qi (w:List F) (at_:List Nat):List F:=EX w at_ (List.replicate at_.length 0)
section
attribute [local congr] Bf A9 A_ Aq Bg Ax Az Ay Ap Aj Ad AZ Au Ae Av BK BO BM BN BL BP BE Ah Aw Ai BC BW Ag BI BJ BD BF BH BG BA BB A8 Bj A' Ar Af
attribute [local irreducible] IntKind.wrap A4 Option.getD and or
end
section
def qo (o:Option (List F)):D:=match o with
 |some r=>.tup [.list false (Am (iv r)),.bool true]
 |none=>.tup [.list true [],.bool false]
attribute [local congr] Bf A9 A_ Aq Bg Ax Az Ay Ap Aj Ad AZ Au Ae Av BK BO BM BN BL BP BE Ah Aw Ai BC BW Ag BI BJ BD BF BH BG BA BB A8 Bj A' Ar Af
attribute [local irreducible] IntKind.wrap A4 Option.getD and or
end
section
attribute [local congr] Bf A9 A_ Aq Bg Ax Az Ay Ap Aj Ad AZ Au Ae Av BK BO BM BN BL BP BE Ah Aw Ai BC BW Ag BI BJ BD BF BH BG BA BB A8 Bj A' Ar Af
attribute [local irreducible] IntKind.wrap A4 Option.getD and or
def qq (L P:Int) (ws ms:List Int):Int:=if EK L P=true then if CR ws L=true then if EU ms L=true then 0 else 1 else 51 else 50
end
section
attribute [local congr] Bf A9 A_ Aq Bg Ax Az Ay Ap Aj Ad AZ Au Ae Av BK BO BM BN BL BP BE Ah Aw Ai BC BW Ag BI BJ BD BF BH BG BA BB A8 Bj A' Ar Af
attribute [local irreducible] IntKind.wrap A4 Option.getD and or
end
theorem YT {q k j:Nat}(h:k<q):(j*q+k)/q=j:=by
 rw[Nat.mul_comm,Nat.mul_add_div (by omega),Nat.div_eq_of_lt h,Nat.add_zero]
theorem UK {q k j:Nat}(h:k<q):(j*q+k)%q=k:=by
 rw[Nat.mul_comm,Nat.mul_add_mod,Nat.mod_eq_of_lt h]
theorem S7 {q k j m:Nat}(h:k<q) (hj:j<m):j*q+k<m*q:=by
 have:=Nat.mul_le_mul_right q (show j+1<=m by omega)
 rw[Nat.add_mul,Nat.one_mul] at this
 omega
theorem ZU (q i:Nat):i/q*q+i%q=i:=Nat.div_add_mod' i q
def DE (m q k:Nat) (b:List F):List F:=(List.range m).map fun j=>b[j*q+k]?.getD 0
theorem DV (m q k:Nat) (b:List F):(DE m q k b).length=m:=by simp[DE]
theorem Oq {m q k:Nat}{b:List F}(j:Nat) (h:j<m):(DE m q k b)[j]?.getD 0=b[j*q+k]?.getD 0:=by simp[DE,h]
def Hw (m q:Nat) (W:Nat->List F):List F:=(List.range (m*q)).map fun i=>(W (i%q))[i/q]?.getD 0
theorem Hg (m q:Nat) (W:Nat->List F):(Hw m q W).length=m*q:=by simp[Hw]
theorem Rn {m q:Nat}{W:Nat->List F}(i:Nat) (h:i<m*q):(Hw m q W)[i]?.getD 0=(W (i%q))[i/q]?.getD 0:=by simp[Hw,h]
theorem Yh {m q:Nat}(hq:0<q) {W V:Nat->List F}(h:∀k,k<q->W k=V k):Hw m q W=Hw m q V:=by
 unfold Hw
 apply List.map_congr_left
 intro i hi
 rw[h _ (Nat.mod_lt _ hq)]
theorem gb {m q:Nat}(hq:0<q) {b:List F}(hb:b.length=m*q):Hw m q (fun k=>DE m q k b)=b:=by
 apply f5
 ·rw[Hg,hb]
 ·intro i hi
  rw[Hg] at hi
  show (Hw m q fun k=>DE m q k b)[i]?.getD 0=b[i]?.getD 0
  rw[Rn i hi,Oq _ (Nat.div_lt_of_lt_mul (by rw[Nat.mul_comm];exact hi)),ZU]
def QL (q k:Nat) (ms:List Nat):List Nat:=(ms.filter fun i=>i%q == k).map (·/q)
theorem ZG {m q k:Nat}(hq:0<q) {ms:List Nat}(h:cH (m*q) ms):cH m (QL q k ms):=by
 refine⟨?_,fun j hj=>?_⟩
 ·unfold QL
  rw[List.pairwise_map]
  refine List.Pairwise.imp_of_mem (fun {a b} ha hb hab=>?_) (h.asc.filter _)
  simp only[List.mem_filter,beq_iff_eq] at ha hb
  have e1:=ZU q a
  have e2:=ZU q b
  rcases Nat.lt_or_ge (a/q) (b/q) with h1|h1
  ·exact h1
  ·have:=Nat.mul_le_mul_right q h1
   omega
 ·simp only[QL,List.mem_map,List.mem_filter,beq_iff_eq] at hj
  obtain⟨i,⟨hi,_⟩,rfl⟩:=hj
  exact Nat.div_lt_of_lt_mul (by rw[Nat.mul_comm];exact h.lt i hi)
theorem jl {q k j:Nat}(hk:k<q) {ms:List Nat}:j∈QL q k ms↔j*q+k∈ms:=by
 simp only[QL,List.mem_map,List.mem_filter,beq_iff_eq]
 constructor
 ·rintro⟨i,⟨h1,h2⟩,rfl⟩
  have:=ZU q i
  rw[h2] at this
  rwa [this]
 ·intro h
  exact⟨j*q+k,⟨h,UK hk⟩,YT hk⟩
theorem Vk (q k x:Nat) (ms:List Nat):QL q k (ms++[x])=if x%q=k then QL q k ms++[x/q] else QL q k ms:=by
 unfold QL
 rw[List.filter_append,List.map_append]
 by_cases h:x%q=k
 ·rw[if_pos h];simp[h]
 ·rw[if_neg h];simp[h]
def Zt (L P q:Nat) (d:List F):List F:=Hw L q fun k=>IQ P (DE (L-P) q k d)
theorem Yw (L P q:Nat) (d:List F):(Zt L P q d).length=L*q:=Hg ..
noncomputable def fU (L P q:Nat) (b:List F) (ms:List Nat) (k:Nat):Option (List F):=N1 L P (DE L q k b) (QL q k ms)
noncomputable def b_ (L P q:Nat) (b:List F) (ms:List Nat) (k:Nat):List F:=match fU L P q b ms k with
 |some r=>r.take (L-P)
 |none=>[]
theorem RD {L P q:Nat}{b:List F}{ms:List Nat}{k:Nat}{r:List F}(h:fU L P q b ms k=some r):b_ L P q b ms k=r.take (L-P):=by
 unfold b_;rw[h]
noncomputable def fT (L P q:Nat) (b:List F) (ms:List Nat):Option (List F):=if ∀k,k<q->(fU L P q b ms k).isSome=true then some (Hw (L-P) q (b_ L P q b ms)) else none
theorem fS {L P q:Nat}{b:List F}{ms:List Nat}(h:∀k,k<q->(fU L P q b ms k).isSome=true):fT L P q b ms=some (Hw (L-P) q (b_ L P q b ms)):=by unfold fT;rw[if_pos h]
theorem nV {L P q:Nat}{b:List F}{ms:List Nat}{k:Nat}(hk:k<q) (h:fU L P q b ms k=none):fT L P q b ms=none:=by
 unfold fT;rw[if_neg fun h2=>by have:=h2 k hk;rw[h] at this;cases this]
theorem SC {L P q:Nat}(hL:L<=15) (hPL:P<L) (hq:0<q) {d R:List F}{ms:List Nat}(hd:d.length=(L-P)*q) (hR:R.length=L*q) (hm:cH (L*q) ms)
  (h:∀k,k<q->2*(SO L (IQ P (DE (L-P) q k d)) (DE L q k R) (QL q k ms)).length+(QL q k ms).length<=P):fT L P q R ms=some d:=by
 have hO:∀k,k<q->fU L P q R ms k=some (IQ P (DE (L-P) q k d)):=fun k hk=>by
  have hl:=DV (L-P) q k d
  have hc:=gJ P (DE (L-P) q k d)
  rw[hl,show L-P+P=L by omega] at hc
  exact ny hL (DV ..) (by rw[I7,hl];omega) (ZG hq hm) hc (h k hk)
 rw[fS fun k hk=>by rw[hO k hk];rfl]
 congr 1
 rw[Yh hq (V:=fun k=>DE (L-P) q k d) fun k hk=>by
  rw[RD (hO k hk)]
  unfold IQ
  rw[List.take_append_of_le_length (by rw[DV];omega),List.take_of_length_le (by rw[DV];omega)]]
 exact gb hq hd
end Go.Pw
