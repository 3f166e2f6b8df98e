/- A part of the proof. -/
import Derived.Test.YtpcpcjbbdgmohaaDoorPgTwrDec
import Derived.Test.YtpcpcjbbdgmohaaDoorPgTwrA
set_option linter.all false
section
open Go Go.Pw Go.Proofs
namespace Go.Pw
set_option maxRecDepth 100000
set_option maxHeartbeats 3200000
theorem Ol (l g:List F) (o k:Nat) (b:F) (h:k<g.length):(Cr l o b (g.take k)).set (o+k) (fa ((Cr l o b (g.take k))[o+k]?.getD 0) (fm b (g[k]?.getD 0)))=Cr l o b (g.take (k+1)):=by
 rw[←Bi g 0 k h,Om]
 rw[show (g.take k).length=k by simp;omega]
theorem Ss (l g:List F) (k:Nat) (b:F) (h:k<g.length):(Cr l 1 b (g.take k)).set (k+1) (fa ((Cr l 1 b (g.take k))[k+1]?.getD 0) (fm (g[k]?.getD 0) b))=Cr l 1 b (g.take (k+1)):=by
 rw[←Ol l g 1 k b h,Df b,Nat.add_comm 1 k]
attribute [local congr] Bx A9 A_ Au Bz A0 A2 A1 Ar An Ai Ab Av Aj Ax BG BK BI BJ BH BL BD Ay Aw Al Az Am BB BT Ak BE BF BC A' BA B1
attribute [local irreducible] IntKind.wrap BM Option.getD and or
theorem Gh (L P:Nat) (n1:Bool) (d:List F) (hL:L<=15) (hP:1<=P) (hd:d.length+P=L) (hd1:1<=d.length) (hn1:n1=false) :
  DE E0 FZ [Qz L P,.list n1 (us d)] (.list false (us (GN P d))):=by
 subst hn1
 have c0:=HT false d (by omega) (by omega) rfl
 refine AP Ho A5 (by simp) fun hwf=>?_
 rw[AU];unfold FF
 rw[Bj]
 (try (simp -implicitDefEqProofs only[go_sem]));repeat' first|(with_reducible first|exact tI|refine aI ?_ ?_|intro _)|((first|with_reducible refine AN ?_ ?_<;>intro _)<;>try (simp -implicitDefEqProofs only[go_sem]))|simp (disch:=omega) only[Ap]|((with_reducible refine Ae ?_);refine⟨_,rfl,?_,?_⟩)
 all_goals first|omega|(simp<;>omega)|skip
 rw[show ([D.int .u8 1]:List D)=us (Hm 0) from rfl]
 refine AX (α:=Nat) (l0:=?l1) (m0:=?m1) (fun x=>[(19,.d (.int .i64 (x:Int))),(5,.d (.list false (us (Hm x))))]) (fun x=>[]) (fun x=>x<=P) (fun x=>P-x) 0 ?h01 ?he1 ?he21 ?hI1 ?step1
 case h01=>(simp -implicitDefEqProofs only[go_sem];rfl)
 case he1=>rfl
 case he21=>rfl
 case' step1=>(rintro i hI;try dsimp only at hI)
 case' hI1=>try dsimp only
 ·exact Nat.zero_le _
 ·have hgl:=Jc i
  by_cases h:i<P
  ·have h':(i:Int)<(P:Int):=by omega
   have hwi:IntKind.i64.wrap ((i:Int)+1)=((i+1:Nat):Int):=by rw[Af _ (by omega)];omega
   have hG:Hm (i+1)=Cr (Hm i++[0]) 1 (gp i) (Hm i):=rfl
   obtain⟨G,hGe⟩:∃G,Hm i=G:=⟨_,rfl⟩
   rw[hGe] at hgl hG ⊢
   have c1:=HT false G (by omega) (by omega) rfl
   have c2:=ED i (by omega)
   (try (simp -implicitDefEqProofs only[go_sem,h',Nd]));repeat' first|(with_reducible first|exact tI|refine aI ?_ ?_|intro _)|((first|with_reducible refine AN ?_ ?_<;>intro _|(with_reducible refine isCall ?_);first|(refine D_ ([]) ([((7,1),(23,1))]) (c1) (by repeat' first|exact True.intro|exact rfl|refine And.intro ?_ ?_) (by simp[Handed,DG.get,AW.ren,AV.ren,AV.ren.renL,AI.get,Bl,Bu,DR,AI.reach,AV.sites,AV.sites.sitesL,AI.osites]) (by simp[B0,EF,B6,DG.get,DR,Dv,B8]) (by rfl) (by simp only[Db,DG.get,AW.ren,AV.ren,AV.ren.renL,and_self,and_true,true_and,if_true,reduceIte];rfl) ?_))<;>try (simp -implicitDefEqProofs only[go_sem,h',Nd]))|simp (disch:=omega) only[Ap]|((with_reducible refine Ae ?_);refine⟨_,rfl,?_,?_⟩)
   all_goals first|omega|(simp<;>omega)|skip
   refine AX (α:=Nat) (l0:=?l2) (m0:=?m2) (fun x=>[(28,.d (.int .i64 (x:Int)))]) (fun x=>[(23,.row 173 1 false (us (Cr (G++[0]) 1 (gp i) (G.take x))))]) (fun x=>x<=G.length) (fun x=>G.length-x) 0 ?h02 ?he2 ?he22 ?hI2 ?step2
   case h02=>(simp -implicitDefEqProofs only[go_sem];rfl)
   case he2=>rfl
   case he22=>rfl
   case' step2=>(rintro k hI2;try dsimp only at hI2)
   case' hI2=>try dsimp only
   ·exact Nat.zero_le _
   ·have hA:=Hv (G.take k) (G++[0]) 1 (gp i)
    rw[List.length_append,List.length_singleton] at hA
    by_cases hk:k<G.length
    ·have hk':(k:Int)<(G.length:Int):=by omega
     have hwk:IntKind.i64.wrap ((k:Int)+1)=((k+1:Nat):Int):=by rw[Af _ (by omega)];omega
     have c3:=DV (G[k]?.getD 0) (gp i)
     have hst:=Ss (G++[0]) G k (gp i) hk
     (try (simp -implicitDefEqProofs only[go_sem,hk',hwk,hA,hst]));repeat' first|(with_reducible first|exact tI|refine aI ?_ ?_|intro _)|((first|with_reducible refine AN ?_ ?_<;>intro _|(with_reducible refine isCall ?_);first|refine AG c2 ?_|refine AG c3 ?_)<;>try (simp -implicitDefEqProofs only[go_sem,hk',hwk,hA,hst]))|simp (disch:=omega) only[Ap]|((with_reducible refine Ae ?_);refine⟨_,rfl,?_,?_⟩)
     all_goals first|omega|(simp<;>omega)|skip
     all_goals first|rfl|(simp at *;done)|(simp at *;omega)|skip
    ·have hk':¬(k:Int)<(G.length:Int):=by omega
     have hke:G.take k=G:=List.take_of_length_le (by omega)
     rw[hke,←hG]
     (try (simp -implicitDefEqProofs only[go_sem,hk',hwi]));repeat' first|(with_reducible first|exact tI|refine aI ?_ ?_|intro _)|((first|with_reducible refine AN ?_ ?_<;>intro _)<;>try (simp -implicitDefEqProofs only[go_sem,hk',hwi]))|simp (disch:=omega) only[Ap]|((with_reducible refine Ae ?_);refine⟨_,rfl,?_,?_⟩)
     all_goals first|omega|(simp<;>omega)|skip
     all_goals first|rfl|omega|skip
  ·have h':¬(i:Int)<(P:Int):=by omega
   have hie:i=P:=by omega
   subst hie
   obtain⟨G,hGe⟩:∃G,Hm i=G:=⟨_,rfl⟩
   rw[hGe] at hgl ⊢
   (try (simp -implicitDefEqProofs only[go_sem,h',QB,S2]));repeat' first|(with_reducible first|exact tI|refine aI ?_ ?_|intro _)|((first|with_reducible refine AN ?_ ?_<;>intro _|(with_reducible refine isCall ?_);first|(refine D_ ([]) ([((7,1),(48,1))]) (c0) (by repeat' first|exact True.intro|exact rfl|refine And.intro ?_ ?_) (by simp[Handed,DG.get,AW.ren,AV.ren,AV.ren.renL,AI.get,Bl,Bu,DR,AI.reach,AV.sites,AV.sites.sitesL,AI.osites]) (by simp[B0,EF,B6,DG.get,DR,Dv,B8]) (by rfl) (by simp only[Db,DG.get,AW.ren,AV.ren,AV.ren.renL,and_self,and_true,true_and,if_true,reduceIte];rfl) ?_))<;>try (simp -implicitDefEqProofs only[go_sem,h',QB,S2]))|simp (disch:=omega) only[Ap]|((with_reducible refine Ae ?_);refine⟨_,rfl,?_,?_⟩)
   all_goals first|omega|(simp<;>omega)|skip
   rw[show us (d++List.replicate i 0)=us (Fn G d i 0) from rfl]
   refine AX (α:=Nat) (l0:=?l3) (m0:=?m3) (fun x=>[(55,.d (.int .i64 (x:Int)))]) (fun x=>[(48,.row 173 1 false (us (Fn G d i x)))]) (fun x=>x<=d.length) (fun x=>d.length-x) 0 ?h03 ?he3 ?he23 ?hI3 ?step3
   case h03=>(simp -implicitDefEqProofs only[go_sem];rfl)
   case he3=>rfl
   case he23=>rfl
   case' step3=>(rintro m hI3;try dsimp only at hI3)
   case' hI3=>try dsimp only
   ·exact Nat.zero_le _
   ·have hrl:=GQ G d i m
    have hrs:Fn G d i (m+1)=Cr (Fn G d i m) m ((Fn G d i m)[m]?.getD 0) G:=rfl
    obtain⟨R,hR⟩:∃R,Fn G d i m=R:=⟨_,rfl⟩
    rw[hR] at hrl hrs ⊢
    by_cases hm:m<d.length
    ·have hm':(m:Int)<(d.length:Int):=by omega
     have hwm:IntKind.i64.wrap ((m:Int)+1)=((m+1:Nat):Int):=by rw[Af _ (by omega)];omega
     have hmR:m<R.length:=by omega
     obtain⟨B,hB⟩:∃B,R[m]?.getD 0=B:=⟨_,rfl⟩
     rw[hB] at hrs
     (try (simp -implicitDefEqProofs only[go_sem,hm',hmR,hB]));repeat' first|(with_reducible first|exact tI|refine aI ?_ ?_|intro _)|((first|with_reducible refine AN ?_ ?_<;>intro _)<;>try (simp -implicitDefEqProofs only[go_sem,hm',hmR,hB]))|simp (disch:=omega) only[Ap]|((with_reducible refine Ae ?_);refine⟨_,rfl,?_,?_⟩)
     all_goals first|omega|(simp<;>omega)|skip
     rw[show us R=us (Cr R m B (G.take 0)) from rfl]
     refine AX (α:=Nat) (l0:=?l4) (m0:=?m4) (fun x=>[(64,.d (.int .i64 (x:Int)))]) (fun x=>[(48,.row 173 1 false (us (Cr R m B (G.take x))))]) (fun x=>x<=G.length) (fun x=>G.length-x) 0 ?h04 ?he4 ?he24 ?hI4 ?step4
     case h04=>(simp -implicitDefEqProofs only[go_sem];rfl)
     case he4=>rfl
     case he24=>rfl
     case' step4=>(rintro k hI4;try dsimp only at hI4)
     case' hI4=>try dsimp only
     ·exact Nat.zero_le _
     ·have hA:=Hv (G.take k) R m B
      by_cases hk:k<G.length
      ·have hk':(k:Int)<(G.length:Int):=by omega
       have hwk:IntKind.i64.wrap ((k:Int)+1)=((k+1:Nat):Int):=by rw[Af _ (by omega)];omega
       have hwmk:IntKind.i64.wrap ((m:Int)+(k:Int))=((m+k:Nat):Int):=by rw[Af _ (by omega)];omega
       have hmk:m+k<R.length:=by omega
       have c3:=DV B (G[k]?.getD 0)
       have hst:=Ol R G m k B hk
       (try (simp -implicitDefEqProofs only[go_sem,hk',hwk,hwmk,hA,hmk,hst]));repeat' first|(with_reducible first|exact tI|refine aI ?_ ?_|intro _)|((first|with_reducible refine AN ?_ ?_<;>intro _|(with_reducible refine isCall ?_);first|refine AG c3 ?_)<;>try (simp -implicitDefEqProofs only[go_sem,hk',hwk,hwmk,hA,hmk,hst]))|simp (disch:=omega) only[Ap]|((with_reducible refine Ae ?_);refine⟨_,rfl,?_,?_⟩)
       all_goals first|omega|(simp<;>omega)|skip
       all_goals first|rfl|(simp at *;done)|(simp at *;omega)|skip
      ·have hk':¬(k:Int)<(G.length:Int):=by omega
       have hke:G.take k=G:=List.take_of_length_le (by omega)
       rw[hke,←hrs]
       (try (simp -implicitDefEqProofs only[go_sem,hk',hwm]));repeat' first|(with_reducible first|exact tI|refine aI ?_ ?_|intro _)|((first|with_reducible refine AN ?_ ?_<;>intro _)<;>try (simp -implicitDefEqProofs only[go_sem,hk',hwm]))|simp (disch:=omega) only[Ap]|((with_reducible refine Ae ?_);refine⟨_,rfl,?_,?_⟩)
       all_goals first|omega|(simp<;>omega)|skip
       all_goals first|rfl|omega|skip
    ·have hm':¬(m:Int)<(d.length:Int):=by omega
     have hme:m=d.length:=by omega
     have c4:=Ou false false d (R.drop d.length) (by omega) (by simp;omega)
     have hres:d++R.drop d.length=GN i d:=by rw[←hR,hme,←hGe];rfl
     have hemp:(GN i d).isEmpty=false:=by
      have h5:=FL i d
      cases hE:GN i d with
      |nil=>rw[hE] at h5;simp at h5;omega
      |cons=>rfl
     have hdr:List.take (d.length+i-d.length) (R.drop d.length)=R.drop d.length:=List.take_of_length_le (by simp;omega)
     rw[hres,hemp] at c4
     (try (simp -implicitDefEqProofs only[go_sem,hm',hrl,hdr]));repeat' first|(with_reducible first|exact tI|refine aI ?_ ?_|intro _)|((first|with_reducible refine AN ?_ ?_<;>intro _|(with_reducible refine isCall ?_);first|refine AG c4 ?_)<;>try (simp -implicitDefEqProofs only[go_sem,hm',hrl,hdr]))|simp (disch:=omega) only[Ap]|((with_reducible refine Ae ?_);refine⟨_,rfl,?_,?_⟩)
     all_goals first|omega|(simp<;>omega)|skip
     all_goals first|rfl|(simp at *;done)|(simp at *;omega)|skip
end Go.Pw
end
section
open Go Go.Pw Go.Proofs
namespace Go.Pw
set_option maxRecDepth 100000
set_option maxHeartbeats 3200000
theorem Jj {L P:Int}(h:DI L P=true):2<=L/\L<=15/\1<=P/\P<=8/\P<L:=by simpa[DI] using h
theorem P0 {L P:Int}(h:DI L P=true):∃l p:Nat,L=(l:Int)/\P=(p:Int)/\2<=l/\l<=15/\1<=p/\p<=8/\p<l:=by
 have:=Jj h
 exact⟨L.toNat,P.toNat,by omega,by omega,by omega,by omega,by omega,by omega,by omega⟩
def gi (L P n:Int):Int:=if DI L P=true then if 0<=n/\n<=L then 0 else 1 else 50
def gj (L P n:Int):Bool:=DI L P && (decide (0<=n/\n<=L) && decide (P<n+P/2))
def cS (L:Nat):Nat->Nat×Nat
 |0=>(0,1)
 |e+1=>((cS L e).1+(cS L e).2,(cS L e).2*(L-e)*15/(e+1))
def gR (L P:Nat):Nat:=(cS L (P/2+1)).1
def gQ (L P:Nat):Nat:=Nat.gcd (gR L P) (2^(4*P))
def gy (L P:Int):Int:=if DI L P=true then ((gR L.toNat P.toNat/gQ L.toNat P.toNat:Nat):Int) else 0
def gx (L P:Int):Int:=if DI L P=true then ((2^(4*P.toNat)/gQ L.toNat P.toNat:Nat):Int) else 0
theorem XL (a b:Nat):Int.tdiv (a:Int) (b:Int)=((a/b:Nat):Int):=by
 rw[Int.tdiv_eq_ediv_of_nonneg (by omega)];rfl
theorem XJ (a b:Nat):Int.tmod (a:Int) (b:Int)=((a%b:Nat):Int):=by
 rw[Int.tmod_eq_emod_of_nonneg (by omega)];rfl
attribute [local congr] Bx A9 A_ Au Bz A0 A2 A1 Ar An Ai Ab Av Aj Ax BG BK BI BJ BH BL BD Ay Aw Al Az Am BB BT Ak BE BF BC A' BA B1
attribute [local irreducible] IntKind.wrap BM Option.getD and or
end Go.Pw
end
section
namespace Go.Pw
def fs (xs:List Int):List F:=xs.map fun x=>Fin.ofNat 16 x.toNat
theorem Tx (xs:List Int):(fs xs).length=xs.length:=by simp[fs]
theorem Uz:∀{xs:List Int},xs.all JG=true->iv (fs xs)=xs
 |[],_=>rfl
 |x::xs,h=>by
  simp only[List.all_cons,Bool.and_eq_true] at h
  have hx:0<=x/\x<=15:=by simpa[JG] using h.1
  show ((Fin.ofNat 16 x.toNat).val:Int)::iv (fs xs)=x::xs
  rw[Uz h.2]
  congr 1
  show ((x.toNat%16:Nat):Int)=x
  omega
theorem fG (w:List F):fs (iv w)=w:=by
 apply du.1
 apply Uz
 rw[List.all_eq_true]
 intro x hx
 simp[iv] at hx
 obtain⟨a,_,rfl⟩:=hx
 have:=a.isLt
 simp[JG];omega
theorem dw (w:List F):(iv w).all JG=true:=by
 rw[List.all_eq_true]
 intro x hx
 simp[iv] at hx
 obtain⟨a,_,rfl⟩:=hx
 have:=a.isLt
 simp[JG];omega
theorem Nj (w:List F) (m:Int):CX (iv w) m=decide ((w.length:Int)=m):=by
 unfold CX;rw[dw,Bool.and_true,Kt]
theorem HU {xs:List Int}{m:Int}(h:CX xs m=true):(xs.length:Int)=m/\iv (fs xs)=xs:=by
 unfold CX at h
 simp only[Bool.and_eq_true,decide_eq_true_eq] at h
 exact⟨h.1,Uz h.2⟩
def nt (ms:List Int):List Nat:=ms.map Int.toNat
theorem dh (ms:List Int):(nt ms).length=ms.length:=by simp[nt]
theorem J0 {ms:List Int}{m:Int}(h:ER ms m=true) {i:Nat}(hi:i<ms.length):0<=ms[i]?.getD 0/\ms[i]?.getD 0<m/\(0<i->ms[i-1]?.getD 0<ms[i]?.getD 0):=by
 have:=(List.all_eq_true.1 h) i (by simpa using hi)
 simp only[a6,decide_eq_true_eq] at this
 exact this
theorem ey {ms:List Int}{m:Int}(h:ER ms m=true):ni (nt ms)=ms:=by
 apply List.ext_getElem
 ·simp[ni,nt]
 ·intro i h1 h2
  have:=(J0 h h2).1
  rw[List.getElem?_eq_getElem h2] at this
  simp[ni,nt] at this ⊢
  omega
theorem ZY (ms:List Int) (h:∀i,i<ms.length->0<i->ms[i-1]?.getD 0<ms[i]?.getD 0):∀j i,i<j->j<ms.length->ms[i]?.getD 0<ms[j]?.getD 0
 |0,i,h1,_=>by omega
 |j+1,i,h1,h2=>by
  have h3:=h (j+1) h2 (by omega)
  rw[show j+1-1=j by omega] at h3
  by_cases hij:i=j
  ·subst hij;exact h3
  ·have:=ZY ms h j i (by omega) (by omega)
   omega
theorem dl {ms:List Int}{L:Nat}(h:ER ms (L:Int)=true):Zl L (nt ms):=by
 have ha:=ZY ms fun i hi h0=>(J0 h hi).2.2 h0
 refine⟨List.pairwise_iff_getElem.2 fun i j hi hj hij=>?_,fun j hj=>?_⟩
 ·rw[dh] at hi hj
  have h1:=ha j i hij hj
  have h2:=(J0 h hi).1
  rw[List.getElem?_eq_getElem hi,List.getElem?_eq_getElem hj] at h1
  rw[List.getElem?_eq_getElem hi] at h2
  simp[nt] at h1 h2 ⊢
  omega
 ·simp only[nt,List.mem_map] at hj
  obtain⟨x,hx,rfl⟩:=hj
  obtain⟨i,hi,rfl⟩:=List.getElem_of_mem hx
  have h2:=J0 h hi
  rw[List.getElem?_eq_getElem hi] at h2
  simp at h2
  omega
theorem YJ {L:Nat}{mk:List Nat}(h:Zl L mk):mk.length<=L:=by
 have:=N2 mk (List.range L) (Ff h.asc) fun j hj=>by simpa using h.lt j hj
 simpa using this
def eM (L P:Int) (xs:List Int):Int:=if DI L P=true then if CX xs (L-P)=true then 0 else 51 else 50
def Wi (L P:Int) (xs:List Int):List Int:=if DI L P=true then if CX xs (L-P)=true then iv (GN P.toNat (fs xs)) else [] else []
noncomputable def gN (L P:Int) (ws ms:List Int):Option (List F):=Ly L.toNat P.toNat (fs ws) (nt ms)
def oE:Option (List F)->Int
 |some _=>0
 |none=>52
def oL:Option (List F)->List F
 |some r=>r
 |none=>[]
theorem an (r:List F):oE (some r)=0:=rfl
theorem ao:oE none=52:=rfl
theorem al (r:List F):oL (some r)=r:=rfl
theorem am:oL none=[]:=rfl
noncomputable def gv (L P:Int) (ws ms:List Int):Int :=
 if DI L P=true then if CX ws L=true then if ER ms L=true then oE (gN L P ws ms) else 1 else 51 else 50
noncomputable def gt (L P:Int) (ws ms:List Int):List Int :=
 if DI L P=true then if CX ws L=true then if ER ms L=true then iv (oL (gN L P ws ms)) else [] else [] else []
end Go.Pw
end
section
open Go Go.Pw Go.Proofs
namespace Go.Pw
set_option maxRecDepth 100000
set_option maxHeartbeats 3200000
theorem Tn (w:List F):(iv w).isEmpty=w.isEmpty:=by cases w<;>rfl
theorem QS {w:List F}(h:0<w.length):w.isEmpty=false:=by cases w<;>simp_all
theorem Ks {w:List F}(h:0<w.length):(iv w).isEmpty=false:=by rw[Tn];exact QS h
attribute [local congr] Bx A9 A_ Au Bz A0 A2 A1 Ar An Ai Ab Av Aj Ax BG BK BI BJ BH BL BD Ay Aw Al Az Am BB BT Ak BE BF BC A' BA B1
attribute [local irreducible] IntKind.wrap BM Option.getD and or
theorem K5 (L P:Int) (n1:Bool) (xs:List Int):DE E0 H1 [.agg [.int .i64 L,.int .i64 P],.list n1 (A4 xs)] (.tup [.list (Wi L P xs).isEmpty (A4 (Wi L P xs)),.int .i64 (eM L P xs)]):=by
 have c1:=HC L P
 refine AP Ky A5 (by simp) fun hwf=>?_
 simp only[Dt,DM,DL,DC,EK,EJ,Fk,EI,Be,Br,Bs,DD,CC,List.length_map,CK,true_and,and_true] at hwf
 rw[AU];unfold G6 Wi eM
 cases hc:DI L P with
 |false =>
  rw[hc] at c1
  simp only[Bool.false_eq_true,if_false] at c1
  (try (simp -implicitDefEqProofs only[go_sem,hc]));repeat' first|(with_reducible first|exact tI|refine aI ?_ ?_|intro _)|((first|with_reducible refine AN ?_ ?_<;>intro _|(with_reducible refine isCall ?_);first|refine AG c1 ?_)<;>try (simp -implicitDefEqProofs only[go_sem,hc]))|simp (disch:=omega) only[Ap]
  all_goals first|rfl|(simp;done)|skip
 |true =>
  have hb:=Jj hc
  have hw:IntKind.i64.wrap (L-P)=L-P:=Af _ (by omega)
  have c2:=It n1 xs (L-P)
  rw[hc] at c1
  simp only[if_true] at c1 ⊢
  cases hs:CX xs (L-P) with
  |false =>
   rw[hs] at c2
   (try (simp -implicitDefEqProofs only[go_sem,hw]));repeat' first|(with_reducible first|exact tI|refine aI ?_ ?_|intro _)|((first|with_reducible refine AN ?_ ?_<;>intro _|(with_reducible refine isCall ?_);first|refine AG c1 ?_|refine AG c2 ?_)<;>try (simp -implicitDefEqProofs only[go_sem,hw]))|simp (disch:=omega) only[Ap]
   all_goals first|rfl|(simp;done)|skip
  |true =>
   rw[hs] at c2
   obtain⟨hl,hf⟩:=HU hs
   obtain⟨w,hW⟩:∃w,fs xs=w:=⟨_,rfl⟩
   rw[hW] at hf ⊢
   subst hf
   rw[Kt] at hl
   obtain⟨l,p,rfl,rfl,b1,b2,b3,b4,b5⟩:=P0 hc
   have hwl:w.length+p=l:=by omega
   have c3:=RS n1 w (by omega)
   rw[QS (show 0<w.length by omega)] at c3
   have c4:=Gh l p false w b2 b3 hwl (by omega) rfl
   rw[Bj] at c4
   have c5:=R3 false (GN p w) (by rw[FL];omega)
   rw[QS (show 0<(GN p w).length by rw[FL];omega)] at c5
   have he:=Ks (show 0<(GN p w).length by rw[FL];omega)
   rw[Int.toNat_natCast]
   simp only[if_true]
   rw[he]
   (try (simp -implicitDefEqProofs only[go_sem,hw]));repeat' first|(with_reducible first|exact tI|refine aI ?_ ?_|intro _)|((first|with_reducible refine AN ?_ ?_<;>intro _|(with_reducible refine isCall ?_);first|refine AG c1 ?_|refine AG c2 ?_|refine AG c3 ?_|refine AG c4 ?_|refine AG c5 ?_)<;>try (simp -implicitDefEqProofs only[go_sem,hw]))|simp (disch:=omega) only[Ap]
   all_goals first|rfl|(simp;done)|skip
theorem LX:DE E0 Iy [] (.agg [.int .i64 5,.int .i64 2]):=by
 refine AP Ln A5 (by simp) fun hwf=>?_
 rw[AU];unfold Ha
 (try (simp -implicitDefEqProofs only[go_sem]));repeat' first|(with_reducible first|exact tI|refine aI ?_ ?_|intro _)|((first|with_reducible refine AN ?_ ?_<;>intro _)<;>try (simp -implicitDefEqProofs only[go_sem]))|simp (disch:=omega) only[Ap]
 all_goals first|rfl|skip
end Go.Pw
end
section
open Go Go.Pw Go.Proofs
namespace Go.Pw
set_option maxRecDepth 100000
set_option maxHeartbeats 3200000
def GB (L P Q:Int):Bool:=DI L P && decide (1<=Q/\Q<=8)
theorem W6 {L P Q:Int}(h:GB L P Q=true):DI L P=true/\1<=Q/\Q<=8:=by simpa[GB] using h
def df (L P Q:Int) (xs:List Int) (m:Int):Int:=if GB L P Q=true then if CX xs (Q*m)=true then 0 else 51 else 50
def fc (L P Q:Int) (e:Int):D:=if e=0 then .agg [.int .i64 L,.int .i64 P,.int .i64 Q] else .agg [.int .i64 0,.int .i64 0,.int .i64 0]
theorem X7 (L P Q:Int):fc L P Q 0=.agg [.int .i64 L,.int .i64 P,.int .i64 Q]:=rfl
theorem TQ (L P Q:Int):fc L P Q 51=.agg [.int .i64 0,.int .i64 0,.int .i64 0]:=rfl
theorem QU (L P Q:Int):fc L P Q 50=.agg [.int .i64 0,.int .i64 0,.int .i64 0]:=rfl
theorem Se:Bq E0.P DB=true:=by kernel_rfl
theorem P2:Bq E0.P Cv=true:=by kernel_rfl
attribute [local congr] Bx A9 A_ Au Bz A0 A2 A1 Ar An Ai Ab Av Aj Ax BG BK BI BJ BH BL BD Ay Aw Al Az Am BB BT Ak BE BF BC A' BA B1
attribute [local irreducible] IntKind.wrap BM Option.getD and or
theorem Iu (L P:Int):DE E0 DB [.agg [.int .i64 L,.int .i64 P]] (.int .i64 L):=by
 refine AP Jf A5 (by simp) fun hwf=>?_
 rw[AU];unfold GE
 (try (simp -implicitDefEqProofs only[go_sem]));repeat' first|(with_reducible first|exact tI|refine aI ?_ ?_|intro _)|((first|with_reducible refine AN ?_ ?_<;>intro _)<;>try (simp -implicitDefEqProofs only[go_sem]))|simp (disch:=omega) only[Ap]
theorem Fd (L P:Int) (h:-1000<=L/\L<=1000/\-1000<=P/\P<=1000):DE E0 Cv [.agg [.int .i64 L,.int .i64 P]] (.int .i64 (L-P)):=by
 refine AP I_ A5 (by simp) fun hwf=>?_
 rw[AU];unfold Fs
 have hw:IntKind.i64.wrap (L-P)=L-P:=Af _ (by omega)
 (try (simp -implicitDefEqProofs only[go_sem,hw]));repeat' first|(with_reducible first|exact tI|refine aI ?_ ?_|intro _)|((first|with_reducible refine AN ?_ ?_<;>intro _)<;>try (simp -implicitDefEqProofs only[go_sem,hw]))|simp (disch:=omega) only[Ap]
theorem EY (L P Q:Int) (nl:Bool) (xs:List Int) (f:FuncId) (m:Int) (hb:Bq E0.P f=true) (hm:0<=m/\m<=1000) (h:DI L P=true->DE E0 f [.agg [.int .i64 L,.int .i64 P]] (.int .i64 m)) :
  DE E0 Jq [.agg [.int .i64 L,.int .i64 P,.int .i64 Q],.list nl (A4 xs),.fn f []] (.tup [fc L P Q (df L P Q xs m),.int .i64 (df L P Q xs m)]):=by
 have c1:=HC L P
 refine AP MV A5 (by simp) fun hwf=>?_
 rw[AU];unfold Il df GB
 cases hc:DI L P with
 |false =>
  rw[hc] at c1
  simp only[Bool.false_eq_true,if_false,Bool.false_and] at c1 ⊢
  rw[QU]
  (try (simp -implicitDefEqProofs only[go_sem]));repeat' first|(with_reducible first|exact tI|refine aI ?_ ?_|intro _)|((first|with_reducible refine AN ?_ ?_<;>intro _|(with_reducible refine isCall ?_);first|refine AG c1 ?_)<;>try (simp -implicitDefEqProofs only[go_sem]))|simp (disch:=omega) only[Ap]
  all_goals first|rfl|(simp;done)|skip
 |true =>
  rw[hc] at c1
  simp only[if_true,Bool.true_and] at c1 ⊢
  by_cases hD:1<=Q/\Q<=8
  ·have h1:¬Q<1:=by omega
   have h2:¬8<Q:=by omega
   have hDm:0<=Q*m/\Q*m<=8000:=by
    constructor
    ·exact Int.mul_nonneg (by omega) (by omega)
    ·exact Int.le_trans (Int.mul_le_mul_of_nonneg_left hm.2 (by omega)) (by omega)
   have hw:IntKind.i64.wrap (Q*m)=Q*m:=Af _ (by omega)
   rw[decide_eq_true hD]
   simp only[if_true]
   have c2:=It nl xs (Q*m)
   have c3:=h hc
   cases hs:CX xs (Q*m) with
   |false =>
    rw[hs] at c2
    simp only[Bool.false_eq_true,if_false]
    rw[TQ]
    (try (simp -implicitDefEqProofs only[go_sem,h1,h2,hw,hb]));repeat' first|(with_reducible first|exact tI|refine aI ?_ ?_|intro _)|((first|with_reducible refine AN ?_ ?_<;>intro _|(with_reducible refine isCall ?_);first|refine AG c1 ?_|refine AG c2 ?_|refine AG c3 ?_)<;>try (simp -implicitDefEqProofs only[go_sem,h1,h2,hw,hb]))|simp (disch:=omega) only[Ap]
    all_goals first|rfl|(simp;done)|skip
   |true =>
    rw[hs] at c2
    simp only[if_true]
    rw[X7]
    (try (simp -implicitDefEqProofs only[go_sem,h1,h2,hw,hb]));repeat' first|(with_reducible first|exact tI|refine aI ?_ ?_|intro _)|((first|with_reducible refine AN ?_ ?_<;>intro _|(with_reducible refine isCall ?_);first|refine AG c1 ?_|refine AG c2 ?_|refine AG c3 ?_)<;>try (simp -implicitDefEqProofs only[go_sem,h1,h2,hw,hb]))|simp (disch:=omega) only[Ap]
    all_goals first|rfl|(simp;done)|skip
  ·rw[decide_eq_false hD]
   simp only[Bool.false_eq_true,if_false]
   rw[QU]
   by_cases h1:Q<1
   ·(try (simp -implicitDefEqProofs only[go_sem,h1]));repeat' first|(with_reducible first|exact tI|refine aI ?_ ?_|intro _)|((first|with_reducible refine AN ?_ ?_<;>intro _|(with_reducible refine isCall ?_);first|refine AG c1 ?_)<;>try (simp -implicitDefEqProofs only[go_sem,h1]))|simp (disch:=omega) only[Ap]
    all_goals first|rfl|(simp;done)|skip
   ·have h2:8<Q:=by omega
    (try (simp -implicitDefEqProofs only[go_sem,h1,h2]));repeat' first|(with_reducible first|exact tI|refine aI ?_ ?_|intro _)|((first|with_reducible refine AN ?_ ?_<;>intro _|(with_reducible refine isCall ?_);first|refine AG c1 ?_)<;>try (simp -implicitDefEqProofs only[go_sem,h1,h2]))|simp (disch:=omega) only[Ap]
    all_goals first|rfl|(simp;done)|skip
end Go.Pw
end
section
open Go Go.Pw Go.Proofs
namespace Go.Pw
set_option maxRecDepth 100000
set_option maxHeartbeats 3200000
def gk (L P:Nat) (w:List F):Bool:=(List.range P).all fun i=>decide (E' w (PF L i)=0)
def gX (L P:Int):Bool:=DI L P && (decide (L<=10) && decide (P<=6))
def gb (L P:Int) (d a m:List Int):Bool:=decide (m.length<=30) && (CX d (L-P) && (CX a L && ER m L))
def gr (w a:List F):List F:=List.zipWith fa w a
def gz (a b m:List Int) (n:Nat):List Nat:=(List.range n).filter fun i=>decide (a[i]?.getD 0≠b[i]?.getD 0) && !bN m i
attribute [local congr] Bx A9 A_ Au Bz A0 A2 A1 Ar An Ai Ab Av Aj Ax BG BK BI BJ BH BL BD Ay Aw Al Az Am BB BT Ak BE BF BC A' BA
attribute [local irreducible] IntKind.wrap BM Option.getD and or
theorem KO (L P:Int):DE E0 M1 [.agg [.int .i64 L,.int .i64 P]] (.bool (DI L P && (decide (10<L) || decide (6<P)))):=by
 have c1:=Ib L P
 refine AP PB A5 (by simp) fun hwf=>?_
 rw[AU];unfold LO
 cases hc:DI L P with
 |false =>
  rw[hc] at c1
  simp only[Bool.false_eq_true,if_false] at c1
  (try (simp -implicitDefEqProofs only[go_sem]));repeat' first|(with_reducible first|exact True.intro|refine And.intro ?_ ?_|intro _)|(((with_reducible refine isCall ?_);first|refine Mc (c1) rfl ?_ ?_|refine Ew (c1) rfl ?_|refine NX (c1) rfl ?_ ?_|refine Mb (c1) rfl rfl ?_)<;>try (simp -implicitDefEqProofs only[go_sem]))|(((with_reducible refine AN ?_ ?_)<;>intro _)<;>try (simp -implicitDefEqProofs only[go_sem]))|simp (disch:=omega) only[Af,Na,TG,Rn,Nq,VY,Rm,J6]
  all_goals first|rfl|(simp;done)|skip
 |true =>
  rw[hc] at c1
  simp only[if_true] at c1
  by_cases h1:10<L
  ·(try (simp -implicitDefEqProofs only[go_sem,h1]));repeat' first|(with_reducible first|exact True.intro|refine And.intro ?_ ?_|intro _)|(((with_reducible refine isCall ?_);first|refine Mc (c1) rfl ?_ ?_|refine Ew (c1) rfl ?_|refine NX (c1) rfl ?_ ?_|refine Mb (c1) rfl rfl ?_)<;>try (simp -implicitDefEqProofs only[go_sem,h1]))|(((with_reducible refine AN ?_ ?_)<;>intro _)<;>try (simp -implicitDefEqProofs only[go_sem,h1]))|simp (disch:=omega) only[Af,Na,TG,Rn,Nq,VY,Rm,J6]
   all_goals first|rfl|(simp[h1];done)|skip
  ·by_cases h2:6<P
   ·(try (simp -implicitDefEqProofs only[go_sem,h1,h2]));repeat' first|(with_reducible first|exact True.intro|refine And.intro ?_ ?_|intro _)|(((with_reducible refine isCall ?_);first|refine Mc (c1) rfl ?_ ?_|refine Ew (c1) rfl ?_|refine NX (c1) rfl ?_ ?_|refine Mb (c1) rfl rfl ?_)<;>try (simp -implicitDefEqProofs only[go_sem,h1,h2]))|(((with_reducible refine AN ?_ ?_)<;>intro _)<;>try (simp -implicitDefEqProofs only[go_sem,h1,h2]))|simp (disch:=omega) only[Af,Na,TG,Rn,Nq,VY,Rm,J6]
    all_goals first|rfl|(simp[h1,h2];done)|skip
   ·(try (simp -implicitDefEqProofs only[go_sem,h1,h2]));repeat' first|(with_reducible first|exact True.intro|refine And.intro ?_ ?_|intro _)|(((with_reducible refine isCall ?_);first|refine Mc (c1) rfl ?_ ?_|refine Ew (c1) rfl ?_|refine NX (c1) rfl ?_ ?_|refine Mb (c1) rfl rfl ?_)<;>try (simp -implicitDefEqProofs only[go_sem,h1,h2]))|(((with_reducible refine AN ?_ ?_)<;>intro _)<;>try (simp -implicitDefEqProofs only[go_sem,h1,h2]))|simp (disch:=omega) only[Af,Na,TG,Rn,Nq,VY,Rm,J6]
    all_goals first|rfl|(simp[h1,h2];done)|skip
end Go.Pw
end
section
namespace Go.Pw
end Go.Pw
end
section
namespace Go.Pw
theorem UO {q k j:Nat}(h:k<q):(j*q+k)/q=j:=by
 rw[Nat.mul_comm,Nat.mul_add_div (by omega),Nat.div_eq_of_lt h,Nat.add_zero]
theorem Qq {q k j:Nat}(h:k<q):(j*q+k)%q=k:=by
 rw[Nat.mul_comm,Nat.mul_add_mod,Nat.mod_eq_of_lt h]
theorem Pt {q k j m:Nat}(h:k<q) (hj:j<m):j*q+k<m*q:=by
 have:=Nat.mul_le_mul_right q (show j+1<=m by omega)
 rw[Nat.add_mul,Nat.one_mul] at this
 omega
theorem U8 (q i:Nat):i/q*q+i%q=i:=Nat.div_add_mod' i q
def C3 (m q k:Nat) (b:List F):List F:=(List.range m).map fun j=>b[j*q+k]?.getD 0
theorem DJ (m q k:Nat) (b:List F):(C3 m q k b).length=m:=by simp[C3]
theorem ML {m q k:Nat}{b:List F}(j:Nat) (h:j<m):(C3 m q k b)[j]?.getD 0=b[j*q+k]?.getD 0:=by simp[C3,h]
def Gy (m q:Nat) (W:Nat->List F):List F:=(List.range (m*q)).map fun i=>(W (i%q))[i/q]?.getD 0
theorem Gm (m q:Nat) (W:Nat->List F):(Gy m q W).length=m*q:=by simp[Gy]
theorem OZ {m q:Nat}{W:Nat->List F}(i:Nat) (h:i<m*q):(Gy m q W)[i]?.getD 0=(W (i%q))[i/q]?.getD 0:=by simp[Gy,h]
theorem UW {m q:Nat}(hq:0<q) {W V:Nat->List F}(h:∀k,k<q->W k=V k):Gy m q W=Gy m q V:=by
 unfold Gy
 apply List.map_congr_left
 intro i hi
 rw[h _ (Nat.mod_lt _ hq)]
theorem ZT {m q:Nat}(hq:0<q) {b:List F}(hb:b.length=m*q):Gy m q (fun k=>C3 m q k b)=b:=by
 apply Y8
 ·rw[Gm,hb]
 ·intro i hi
  rw[Gm] at hi
  show (Gy m q fun k=>C3 m q k b)[i]?.getD 0=b[i]?.getD 0
  rw[OZ i hi,ML _ (Nat.div_lt_of_lt_mul (by rw[Nat.mul_comm];exact hi)),U8]
def NO (q k:Nat) (ms:List Nat):List Nat:=(ms.filter fun i=>i%q == k).map (·/q)
theorem Uu {m q k:Nat}(hq:0<q) {ms:List Nat}(h:Zl (m*q) ms):Zl m (NO q k ms):=by
 refine⟨?_,fun j hj=>?_⟩
 ·unfold NO
  rw[List.pairwise_map]
  refine List.Pairwise.imp_of_mem (fun {a b} ha hb hab=>?_) (h.asc.filter _)
  simp only[List.mem_filter,beq_iff_eq] at ha hb
  have e1:=U8 q a
  have e2:=U8 q b
  rcases Nat.lt_or_ge (a/q) (b/q) with h1|h1
  ·exact h1
  ·have:=Nat.mul_le_mul_right q h1
   omega
 ·simp only[NO,List.mem_map,List.mem_filter,beq_iff_eq] at hj
  obtain⟨i,⟨hi,_⟩,rfl⟩:=hj
  exact Nat.div_lt_of_lt_mul (by rw[Nat.mul_comm];exact h.lt i hi)
theorem av {q k j:Nat}(hk:k<q) {ms:List Nat}:j∈NO q k ms↔j*q+k∈ms:=by
 simp only[NO,List.mem_map,List.mem_filter,beq_iff_eq]
 constructor
 ·rintro⟨i,⟨h1,h2⟩,rfl⟩
  have:=U8 q i
  rw[h2] at this
  rwa [this]
 ·intro h
  exact⟨j*q+k,⟨h,Qq hk⟩,UO hk⟩
theorem R6 (q k x:Nat) (ms:List Nat):NO q k (ms++[x])=if x%q=k then NO q k ms++[x/q] else NO q k ms:=by
 unfold NO
 rw[List.filter_append,List.map_append]
 by_cases h:x%q=k
 ·rw[if_pos h];simp[h]
 ·rw[if_neg h];simp[h]
def XQ (L P q:Nat) (d:List F):List F:=Gy L q fun k=>GN P (C3 (L-P) q k d)
theorem LE (L P q:Nat) (d:List F):(XQ L P q d).length=L*q:=Gm ..
noncomputable def Yr (L P q:Nat) (b:List F) (ms:List Nat) (k:Nat):Option (List F):=Ly L P (C3 L q k b) (NO q k ms)
noncomputable def Wy (L P q:Nat) (b:List F) (ms:List Nat) (k:Nat):List F:=match Yr L P q b ms k with
 |some r=>r.take (L-P)
 |none=>[]
theorem N7 {L P q:Nat}{b:List F}{ms:List Nat}{k:Nat}{r:List F}(h:Yr L P q b ms k=some r):Wy L P q b ms k=r.take (L-P):=by
 unfold Wy;rw[h]
noncomputable def cY (L P q:Nat) (b:List F) (ms:List Nat):Option (List F):=if ∀k,k<q->(Yr L P q b ms k).isSome=true then some (Gy (L-P) q (Wy L P q b ms)) else none
theorem Yq {L P q:Nat}{b:List F}{ms:List Nat}(h:∀k,k<q->(Yr L P q b ms k).isSome=true):cY L P q b ms=some (Gy (L-P) q (Wy L P q b ms)):=by unfold cY;rw[if_pos h]
theorem d8 {L P q:Nat}{b:List F}{ms:List Nat}{k:Nat}(hk:k<q) (h:Yr L P q b ms k=none):cY L P q b ms=none:=by
 unfold cY;rw[if_neg fun h2=>by have:=h2 k hk;rw[h] at this;cases this]
theorem O2 {L P q:Nat}(hL:L<=15) (hPL:P<L) (hq:0<q) {d R:List F}{ms:List Nat}(hd:d.length=(L-P)*q) (hR:R.length=L*q) (hm:Zl (L*q) ms)
  (h:∀k,k<q->2*(PA L (GN P (C3 (L-P) q k d)) (C3 L q k R) (NO q k ms)).length+(NO q k ms).length<=P):cY L P q R ms=some d:=by
 have hO:∀k,k<q->Yr L P q R ms k=some (GN P (C3 (L-P) q k d)):=fun k hk=>by
  have hl:=DJ (L-P) q k d
  have hc:=ZF P (C3 (L-P) q k d)
  rw[hl,show L-P+P=L by omega] at hc
  exact eP hL (DJ ..) (by rw[FL,hl];omega) (Uu hq hm) hc (h k hk)
 rw[Yq fun k hk=>by rw[hO k hk];rfl]
 congr 1
 rw[UW hq (V:=fun k=>C3 (L-P) q k d) fun k hk=>by
  rw[N7 (hO k hk)]
  unfold GN
  rw[List.take_append_of_le_length (by rw[DJ];omega),List.take_of_length_le (by rw[DJ];omega)]]
 exact ZT hq hd
end Go.Pw
end
