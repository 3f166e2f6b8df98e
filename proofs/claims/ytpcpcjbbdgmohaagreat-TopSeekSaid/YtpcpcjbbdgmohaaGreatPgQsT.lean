/- A part of the proof. -/
import Derived.Test.YtpcpcjbbdgmohaaGreatQuPC
import Derived.Test.YtpcpcjbbdgmohaaGreatPwYa
import Derived.Test.YtpcpcjbbdgmohaaGreatPgQsB
import Derived.Test.YtpcpcjbbdgmohaaGreatQsA
set_option linter.all false
section
open Go Go.Pw Go.Proofs
namespace Go.Pw
set_option maxRecDepth 100000
set_option maxHeartbeats 3200000
def O_ (l:List Int):List (List D):=l.map fun x=>[.int .i64 x]
theorem OO (l:List Int):(O_ l).length=l.length:=by simp[O_]
theorem Sn {l:List Int}{i:Nat}(h:i<l.length):(O_ l)[i]?=some [.int .i64 (l[i]?.getD 0)]:=by simp[O_,h]
theorem bp {l:List Int}{i:Nat}{ds:List D}(h:(O_ l)[i]?=some ds):i<l.length/\ds=[.int .i64 (l[i]?.getD 0)]:=by
 have hl:i<l.length:=by have:=(List.getElem?_eq_some_iff.1 h).1;simpa[O_] using this
 rw[Sn hl] at h;simp at h;exact⟨hl,h.symm⟩
theorem bo:DV.noR=true:=by rfl
theorem JL:BC E0.P A2=true:=by kernel_rfl
theorem KE {E:CU} {rs o els s}:XN E rs o els .ret s=(Ev E s rs (fun _=>True)/\FS els (s.V.ob o)):=rfl
theorem FB {E:CU} {rs o els s}:XN E rs o els .normal s=(Ev E s rs (fun _=>True)/\FS els (s.V.ob o)):=rfl
theorem HV {els g e n st}:FS els (some (g,.hist e n st))=(e=els/\(st=true\/n=els.length)):=rfl
theorem W6 {l:List Int}{n:Nat}(h:n<l.length):l.take n++[l[n]?.getD 0]=l.take (n+1):=by
 rw[List.take_add_one,List.getElem?_eq_getElem h];rfl
def mf (l:List Int):Nat->List (Nat×Nat×Ae)
 |0=>[(5000002,0,.cells [.d (.list true [])])]
 |k+1=>[(11,0,.row 3 1 false (Bs (l.take (k+1)))),(5000002,0,.cells [.own 11 0])]
theorem fI (l:List Int):mf l 0=[(5000002,0,.cells [.d (.list true [])])]:=rfl
theorem Tk (l:List Int) (k:Nat):mf l (k+1)=[(11,0,.row 3 1 false (Bs (l.take (k+1)))),(5000002,0,.cells [.own 11 0])]:=rfl
attribute [local congr] DX B3 B4 Bc DZ Bj Bl Bk Bb BN BF A6 Be BG Bg CD CE CF Cd Ce B9 Bf BL Bi BM B8 Cf BK CB CC B_ B6 B7 B2 DY B5 Bd BI BH BJ Bh CA
attribute [local irreducible] IntKind.wrap CK Option.getD and or
theorem Mx (nl:Bool) (l:List Int):Ca E0 FH [.list nl (Bs l)] (.fn A2 [.ptr [.list nl (Bs l)]]):=by
 refine AW HP Aq (by simp) fun hwf=>?_
 rw[AZ];unfold Ex
 (try (simp -implicitDefEqProofs only[go_sem,JL]));repeat' first|(with_reducible first|exact tI|refine aI ?_ ?_|intro _)|((first|with_reducible refine AU ?_ ?_<;>intro _)<;>try (simp -implicitDefEqProofs only[go_sem,JL]))|simp (disch:=omega) only[Al]
 all_goals first|omega|rfl|exact .inl True.intro|trace_state
theorem U1 (nl:Bool) (l:List Int) (hl:l.length<=1000):Ru E0 A2 [] [.ptr [.list nl (Bs l)]] (O_ l):=by
 refine I4 Gf Aq bo (by simp) fun hwf _=>?_
 rw[Dv];unfold DV
 (try (simp -implicitDefEqProofs only[go_sem]));repeat' first|(with_reducible first|exact tI|refine aI ?_ ?_|intro _)|((first|with_reducible refine AU ?_ ?_<;>intro _)<;>try (simp -implicitDefEqProofs only[go_sem]))|simp (disch:=omega) only[Al]|((with_reducible refine A5 ?_);refine⟨_,rfl,?_,?_⟩)
 all_goals first|omega|(simp<;>omega)|skip
 refine Ao (α:=Nat) (l0:=?l2) (m0:=?m2) (fun x=>[(7,.d (.int .i64 (x:Int)))]) (fun x=>[(900000,.hist (O_ l) x false)]) (fun x=>x<=l.length) (fun x=>l.length-x) 0 ?h02 ?he2 ?he22 ?hI2 ?step2
 case h02=>(simp -implicitDefEqProofs only[go_sem];rfl)
 case he2=>rfl
 case he22=>rfl
 case' step2=>(rintro i hI;try dsimp only at hI)
 case' hI2=>try dsimp only
 ·omega
 ·by_cases hi:i<l.length
  ·have hi':(i:Int)<(l.length:Int):=by omega
   have wi:IntKind.i64.wrap ((i:Int)+1)=((i+1:Nat):Int):=by rw[Ad _ (by omega)];omega
   have hv:=Sn hi
   (try (simp -implicitDefEqProofs only[go_sem,hi',hi,hv,wi,KE,FB,HV]));repeat' first|(with_reducible first|exact tI|refine aI ?_ ?_|intro _)|((first|with_reducible refine AU ?_ ?_<;>intro _)<;>try (simp -implicitDefEqProofs only[go_sem,hi',hi,hv,wi,KE,FB,HV]))|simp (disch:=omega) only[Al]|((with_reducible refine A5 ?_);refine⟨_,rfl,?_,?_⟩)
   all_goals first|omega|rfl|exact .inl True.intro|trace_state
  ·have hi':¬(i:Int)<(l.length:Int):=by omega
   have hie:i=l.length:=by omega
   (try (simp -implicitDefEqProofs only[go_sem,hi',hie,OO,KE,FB,HV]));repeat' first|(with_reducible first|exact tI|refine aI ?_ ?_|intro _)|((first|with_reducible refine AU ?_ ?_<;>intro _)<;>try (simp -implicitDefEqProofs only[go_sem,hi',hie,OO,KE,FB,HV]))|simp (disch:=omega) only[Al]|((with_reducible refine A5 ?_);refine⟨_,rfl,?_,?_⟩)
   all_goals first|omega|rfl|exact .inr True.intro|trace_state
theorem OM (nl:Bool):Ca E0 Da [.list true [],.fn A2 [.ptr [.list nl []]]] (.list true []):=by
 refine AW EB Aq (by simp) fun hwf=>?_
 have c1:Ru E0 A2 [] [.ptr [.list nl []]] []:=U1 nl [] (by simp)
 rw[AZ];unfold DL
 (try (simp -implicitDefEqProofs only[go_sem]));repeat' first|(with_reducible first|exact tI|refine aI ?_ ?_|intro _)|((first|with_reducible refine AU ?_ ?_<;>intro _)<;>try (simp -implicitDefEqProofs only[go_sem]))|simp (disch:=omega) only[Al]|((with_reducible refine d7 ?_);refine⟨_,rfl,?_⟩)
 refine LJ (α:=Bool) (so:=HU) (l0:=?l1) (m0:=?m1) (fun x=>[(5000002,.cells [.d (.list x [])])]) (fun n x=>x=true) (fun e x=>False) true (c1) JL ?h01 ?he1 (by simp[PC.noR]) ?hw1 ?hI1 ?step1 ?hend1 ?hjump1
 case h01=>(simp -implicitDefEqProofs only[go_sem];(try simp only[or_true,true_or,true_and]);first|rfl|(refine⟨.inl ⟨_,rfl,rfl⟩,?_⟩<;>rfl)|exact⟨.inl ⟨⟨_,rfl,rfl⟩,rfl⟩,rfl⟩|exact⟨.inr ⟨rfl,rfl⟩,rfl⟩)
 case he1=>rfl
 case hw1=>simp -implicitDefEqProofs only[go_sem]
 case' hjump1=>(rintro e x hI;try dsimp only at hI)
 case' hend1=>(rintro x hI;try dsimp only at hI)
 case' step1=>(rintro n x ds hds hI;try dsimp only at hI)
 case' hI1=>try dsimp only
 ·cases hds
 ·subst hI
  (try (simp -implicitDefEqProofs only[go_sem]));repeat' first|(with_reducible first|exact tI|refine aI ?_ ?_|intro _)|((first|with_reducible refine AU ?_ ?_<;>intro _)<;>try (simp -implicitDefEqProofs only[go_sem]))|simp (disch:=omega) only[Al]|((with_reducible refine d7 ?_);refine⟨_,rfl,?_⟩)
  all_goals first|omega|rfl|exact .inl True.intro|trace_state
theorem Pu (nl:Bool) (l:List Int) (hl:l.length<=1000) (h1:0<l.length):bg E0 Da [.list true [],.fn A2 [.ptr [.list nl (Bs l)]]] 3 1 false (Bs l):=by
 refine MR EB Aq (by simp) fun hwf=>?_
 rw[AZ];unfold DL
 (try (simp -implicitDefEqProofs only[go_sem]));repeat' first|(with_reducible first|exact tI|refine aI ?_ ?_|intro _)|((first|with_reducible refine AU ?_ ?_<;>intro _)<;>try (simp -implicitDefEqProofs only[go_sem]))|simp (disch:=omega) only[Al]
 all_goals first|omega|(simp<;>omega)|skip
 refine QO (α:=Nat) (fun k=>⟨A7 (mf l k),fun _=>1⟩) (fun n k=>k=n) (fun e x=>False) 0 (sl1:=Dc ?l7) ?h07 (fun _=>rfl) JL (by simp[PC.noR]) (U1 nl l hl) ?hw7 rfl ?step7 ?hend7 (fun e x h=>h.elim)
 case h07 =>
  simp -implicitDefEqProofs only[go_sem]
  simp only[or_true,true_or,true_and]
  rfl
 case hw7=>simp -implicitDefEqProofs only[go_sem,fI]
 case step7 =>
  intro n k ds hds hk
  subst hk
  obtain⟨hn,rfl⟩:=bp hds
  refine⟨rfl,?_⟩
  have hs:=W6 hn
  rcases k with _|k
  ·have hs1:[D.int .i64 (l[0]?.getD 0)]=Bs (l.take 1):=by rw[←hs];rfl
   (try (simp -implicitDefEqProofs only[go_sem,fI]));repeat' first|(with_reducible first|exact tI|refine aI ?_ ?_|intro _)|((first|with_reducible refine AU ?_ ?_<;>intro _)<;>try (simp -implicitDefEqProofs only[go_sem,fI]))|simp (disch:=omega) only[Al]
   all_goals first|omega|exact⟨1,by rw[Tk,←hs1],rfl⟩|trace_state
  ·have hlt:(List.take (k+1) l).length<=1073741823:=by rw[List.length_take];omega
   (try (simp -implicitDefEqProofs only[go_sem,Tk]));repeat' first|(with_reducible first|exact tI|refine aI ?_ ?_|intro _)|((first|with_reducible refine AU ?_ ?_<;>intro _)<;>try (simp -implicitDefEqProofs only[go_sem,Tk]))|simp (disch:=omega) only[Al]
   all_goals first|exact hlt|omega|exact⟨k+2,by rw[Tk,←hs],rfl⟩|trace_state
 case hend7 =>
  intro k hk
  subst hk
  rw[OO]
  obtain⟨m,hm⟩:∃m,l.length=m+1:=⟨l.length-1,by omega⟩
  have ht:l.take (m+1)=l:=by rw[←hm,List.take_length]
  rw[hm]
  (try (simp -implicitDefEqProofs only[go_sem,Tk,ht]));repeat' first|(with_reducible first|exact tI|refine aI ?_ ?_|intro _)|((first|with_reducible refine AU ?_ ?_<;>intro _)<;>try (simp -implicitDefEqProofs only[go_sem,Tk,ht]))|simp (disch:=omega) only[Al]
  all_goals first|omega|rfl|trace_state
theorem SY (x:Int):Ca E0 Jy [.int .i64 x] (.bool false):=by
 refine AW Ns Aq (by simp) fun hwf=>?_
 rw[AZ];unfold IM
 (try (simp -implicitDefEqProofs only[go_sem]));repeat' first|(with_reducible first|exact tI|refine aI ?_ ?_|intro _)|((first|with_reducible refine AU ?_ ?_<;>intro _)<;>try (simp -implicitDefEqProofs only[go_sem]))|simp (disch:=omega) only[Al]
 all_goals first|rfl|trace_state
theorem Uo (x y:Int):Ca E0 K8 [.int .i64 x,.int .i64 y] (.bool (decide (x<y))):=by
 have c1:=SY x
 refine AW Ow Aq (by simp) fun hwf=>?_
 rw[AZ];unfold Jh
 (try (simp -implicitDefEqProofs only[go_sem]));repeat' first|(with_reducible first|exact tI|refine aI ?_ ?_|intro _)|((first|with_reducible refine AU ?_ ?_<;>intro _|(with_reducible refine isCall ?_);first|refine AF c1 ?_)<;>try (simp -implicitDefEqProofs only[go_sem]))|simp (disch:=omega) only[Al]
 all_goals first|rfl|(simp_all;done)|trace_state
theorem Mq (nl:Bool):Ca E0 Ec [.fn A2 [.ptr [.list nl []]]] (.list true []):=by
 have c1:=OM nl
 refine AW FU Aq (by simp) fun hwf=>?_
 rw[AZ];unfold EH
 (try (simp -implicitDefEqProofs only[go_sem]));repeat' first|(with_reducible first|exact tI|refine aI ?_ ?_|intro _)|((first|with_reducible refine AU ?_ ?_<;>intro _|(with_reducible refine isCall ?_);first|refine AF c1 ?_)<;>try (simp -implicitDefEqProofs only[go_sem]))|simp (disch:=omega) only[Al]
 all_goals first|omega|rfl|exact .inl True.intro|trace_state
theorem OL (nl:Bool) (l:List Int) (hl:l.length<=1000) (h1:0<l.length):bg E0 Ec [.fn A2 [.ptr [.list nl (Bs l)]]] 3 1 false (Bs l):=by
 have c1:=Pu nl l hl h1
 refine MR FU Aq (by simp) fun hwf=>?_
 rw[AZ];unfold EH
 (try (simp -implicitDefEqProofs only[go_sem]));repeat' first|(with_reducible first|exact tI|refine aI ?_ ?_|intro _)|((first|with_reducible refine AU ?_ ?_<;>intro _|(with_reducible refine isCall ?_);first|refine Uq (c1) (by simp[DB]) (by first|exact Q2 _|exact LK (fun _=>rfl) _|simp[Ln,D.cells,D.prim]) ?_)<;>try (simp -implicitDefEqProofs only[go_sem]))|simp (disch:=omega) only[Al]
 all_goals first|omega|rfl|exact .inl True.intro|trace_state
theorem Vx (l:List Int) (hl:l.length<=12) :
  OG E0 Cj [(900000,0,.row 3 1 false (Bs l))] [.own 900000 0,.d (.int .i64 0),.d (.int .i64 l.length)] [(900000,0,.row 3 1 false (Bs (LZ l (l.length-1))))] (.tup []):=by
 refine GG DS Aq (by simp) (by simp[US,DW,DB,Ae.isHist]) (by simp[IW,DB]) fun hwf hwo=>?_
 rw[Dv];unfold Cc
 have w1:IntKind.i64.wrap (0+1)=1:=Ad _ (by omega)
 have w0:IntKind.i64.wrap 1=1:=Ad _ (by omega)
 (try (simp -implicitDefEqProofs only[go_sem,w1,w0]));repeat' first|(with_reducible first|exact tI|refine aI ?_ ?_|intro _)|((first|with_reducible refine AU ?_ ?_<;>intro _)<;>try (simp -implicitDefEqProofs only[go_sem,w1,w0]))|simp (disch:=omega) only[Al]|((with_reducible refine A0 ?_);refine⟨(_,_),rfl,?_,?_⟩)
 all_goals first|omega|(simp<;>omega)|skip
 refine Ao (α:=Nat×(List Int)) (l0:=?l3) (m0:=?m3) (fun x=>[(6,.d (.int .i64 (x.1:Int)))]) (fun x=>[(900000,.row 3 1 false (Bs x.2))]) (fun x=>(x.1=1\/x.1<=l.length)/\1<=x.1/\x.2=LZ l (x.1-1)) (fun x=>l.length-x.1) (1,l) ?h03 ?he3 ?he23 ?hI3 ?step3
 case h03=>(simp -implicitDefEqProofs only[go_sem];rfl)
 case he3=>rfl
 case he23=>rfl
 case' step3=>(rintro⟨i,L⟩ hI;try dsimp only at hI)
 case' hI3=>try dsimp only
 ·exact⟨.inl rfl,by omega,rfl⟩
 ·obtain⟨h1,h2,h3⟩:=hI
  have hL:L.length=l.length:=by rw[h3,RI]
  by_cases hi:i<l.length
  ·have hi':(i:Int)<(l.length:Int):=by omega
   have wi:IntKind.i64.wrap ((i:Int)+1)=((i+1:Nat):Int):=by rw[Ad _ (by omega)];omega
   (try (simp -implicitDefEqProofs only[go_sem,hi']));repeat' first|(with_reducible first|exact tI|refine aI ?_ ?_|intro _)|((first|with_reducible refine AU ?_ ?_<;>intro _)<;>try (simp -implicitDefEqProofs only[go_sem,hi']))|simp (disch:=omega) only[Al]|((with_reducible refine A0 ?_);refine⟨(_,_),rfl,?_,?_⟩)
   all_goals first|omega|(simp<;>omega)|skip
   refine Ao (α:=Nat×(List Int)) (l0:=?l4) (m0:=?m4) (fun x=>[(7,.d (.int .i64 (x.1:Int)))]) (fun x=>[(900000,.row 3 1 false (Bs x.2))]) (fun x=>x.1<=i/\x.2.length=l.length/\Lm x.2 x.1=Lm L i) (fun x=>x.1) (i,L) ?h04 ?he4 ?he24 ?hI4 ?step4
   case h04=>(simp -implicitDefEqProofs only[go_sem];rfl)
   case he4=>rfl
   case he24=>rfl
   case' step4=>(rintro⟨j,M⟩ hI2;try dsimp only at hI2)
   case' hI4=>try dsimp only
   ·exact⟨Nat.le_refl _,hL,rfl⟩
   ·obtain⟨j1,j2,j3⟩:=hI2
    have hfin:∀M':List Int,M'=Lm L i->M'=LZ l (i+1-1):=fun M' h=>by
     rw[h,h3];cases i with
     |zero=>omega
     |succ i=>rfl
    rcases j with _|j
    ·have hM:=hfin M (by rw[←j3];rfl)
     (try (simp -implicitDefEqProofs only[go_sem,wi]));repeat' first|(with_reducible first|exact tI|refine aI ?_ ?_|intro _)|((first|with_reducible refine AU ?_ ?_<;>intro _)<;>try (simp -implicitDefEqProofs only[go_sem,wi]))|simp (disch:=omega) only[Al]|((with_reducible refine A0 ?_);refine⟨(_,_),rfl,?_,?_⟩)
     all_goals first|omega|exact hM|trace_state
    ·have wj:IntKind.i64.wrap (((j+1:Nat):Int)-1)=(j:Int):=by rw[Ad _ (by omega)];omega
     have hj1:((j+1:Nat):Int)<(M.length:Int):=by omega
     have hj0:(j:Int)<(M.length:Int):=by omega
     have hj2:j+1<M.length:=by omega
     have hj3:j<M.length:=by omega
     have hpos:0<((j+1:Nat):Int):=by omega
     obtain⟨x,hx⟩:∃x,M[j+1]?.getD 0=x:=⟨_,rfl⟩
     obtain⟨y,hy⟩:∃y,M[j]?.getD 0=y:=⟨_,rfl⟩
     have c1:=Uo x y
     rw[f8,hx,hy] at j3
     by_cases hlt:x<y
     ·rw[decide_eq_true hlt] at c1
      rw[if_pos hlt] at j3
      have hsw:W7 M j=(M.set (j+1) y).set j x:=by unfold W7;rw[hx,hy]
      have hsw2:(M.set j x).set (j+1) y=W7 M j:=by rw[hsw,List.set_comm _ _ (by omega)]
      have hsl:=U7 M j
      rw[hsw] at j3
      have hl1:((M.set (j+1) y).set j x).length=l.length:=by simp[j2]
      have hl2:(j:Int)<((M.set (j+1) y).length:Int):=by simp;omega
      have hl3:j<(M.set (j+1) y).length:=by simp;omega
      (try (simp -implicitDefEqProofs only[go_sem,hj1,hj0,hj2,hj3,hpos,wj,hx,hy]));repeat' first|(with_reducible first|exact tI|refine aI ?_ ?_|intro _)|((first|with_reducible refine AU ?_ ?_<;>intro _|(with_reducible refine isCall ?_);first|refine AF c1 ?_)<;>try (simp -implicitDefEqProofs only[go_sem,hj1,hj0,hj2,hj3,hpos,wj,hx,hy]))|simp (disch:=omega) only[Al]|((with_reducible refine A0 ?_);refine⟨(_,_),rfl,?_,?_⟩)
      all_goals first|omega|exact .inl True.intro|exact hl1|exact hl2|exact hl3|exact j3|trace_state
     ·rw[decide_eq_false hlt] at c1
      rw[if_neg hlt] at j3
      have hM:=hfin M j3
      (try (simp -implicitDefEqProofs only[go_sem,hj1,hj0,hj2,hj3,hpos,wj,hx,hy,wi]));repeat' first|(with_reducible first|exact tI|refine aI ?_ ?_|intro _)|((first|with_reducible refine AU ?_ ?_<;>intro _|(with_reducible refine isCall ?_);first|refine AF c1 ?_)<;>try (simp -implicitDefEqProofs only[go_sem,hj1,hj0,hj2,hj3,hpos,wj,hx,hy,wi]))|simp (disch:=omega) only[Al]|((with_reducible refine A0 ?_);refine⟨(_,_),rfl,?_,?_⟩)
      all_goals first|omega|exact hM|trace_state
  ·have hi':¬(i:Int)<(l.length:Int):=by omega
   have hM:L=LZ l (l.length-1):=by
    rcases h1 with h1|h1
    ·rw[h3,h1]
     rcases hl2:l.length with _|_|n
     ·rfl
     ·rfl
     ·omega
    ·rw[h3,show i=l.length by omega]
   (try (simp -implicitDefEqProofs only[go_sem,hi',hM]));repeat' first|(with_reducible first|exact tI|refine aI ?_ ?_|intro _)|((first|with_reducible refine AU ?_ ?_<;>intro _)<;>try (simp -implicitDefEqProofs only[go_sem,hi',hM]))|simp (disch:=omega) only[Al]|((with_reducible refine A0 ?_);refine⟨(_,_),rfl,?_,?_⟩)
   all_goals first|omega|exact hM|rfl|trace_state
theorem Rj (n:Int) (hn:0<=n/\n<=4):∃k,Ca E0 Fa [.int .u64 n] (.int .i64 k):=by
 have key:∀(n:Int) (b:UInt8) (k:Int),0<=n->n<=4->jA[(IntKind.u8.wrap n).toNat]?=some b->IntKind.i64.wrap (0+IntKind.i64.wrap ((UInt8.toNat b:Nat):Int))=k->Ca E0 Fa [.int .u64 n] (.int .i64 k):=fun n b k h1 h2 h3 h4=>by
  have k1:¬4294967296<=n:=by omega
  have k2:¬65536<=n:=by omega
  have k3:¬256<=n:=by omega
  refine AW Lf Aq (by simp) fun hwf=>?_
  rw[AZ];unfold G8
  (try (simp -implicitDefEqProofs only[go_sem,h3,h4,k1,k2,k3]));repeat' first|(with_reducible first|exact tI|refine aI ?_ ?_|intro _)|((first|with_reducible refine AU ?_ ?_<;>intro _)<;>try (simp -implicitDefEqProofs only[go_sem,h3,h4,k1,k2,k3]))|simp (disch:=omega) only[Al]
  all_goals first|omega|rfl|exact .inl True.intro|trace_state
 have:n=0\/n=1\/n=2\/n=3\/n=4:=by omega
 rcases this with rfl|rfl|rfl|rfl|rfl
 ·exact⟨_,key 0 0 _ (by omega) (by omega) (by kernel_rfl) rfl⟩
 ·exact⟨_,key 1 1 _ (by omega) (by omega) (by kernel_rfl) rfl⟩
 ·exact⟨_,key 2 2 _ (by omega) (by omega) (by kernel_rfl) rfl⟩
 ·exact⟨_,key 3 2 _ (by omega) (by omega) (by kernel_rfl) rfl⟩
 ·exact⟨_,key 4 3 _ (by omega) (by omega) (by kernel_rfl) rfl⟩
theorem N0 (n:Int) (hn:0<=n/\n<=4):∃k,Ca E0 Ju [.int .u64 n] (.int .i64 k):=by
 obtain⟨k,c1⟩:=Rj n hn
 refine⟨k,?_⟩
 refine AW No Aq (by simp) fun hwf=>?_
 rw[AZ];unfold II
 (try (simp -implicitDefEqProofs only[go_sem]));repeat' first|(with_reducible first|exact tI|refine aI ?_ ?_|intro _)|((first|with_reducible refine AU ?_ ?_<;>intro _|(with_reducible refine isCall ?_);first|refine AF c1 ?_)<;>try (simp -implicitDefEqProofs only[go_sem]))|simp (disch:=omega) only[Al]
 all_goals first|omega|rfl|exact .inl True.intro|trace_state
theorem Zw (l:List Int) (hl:l.length<=12) (k:Int) :
  OG E0 DQ [(900000,0,.row 3 1 false (Bs l))] [.own 900000 0,.d (.int .i64 0),.d (.int .i64 l.length),.d (.int .i64 k)] [(900000,0,.row 3 1 false (Bs (LZ l (l.length-1))))] (.tup []):=by
 have c1:=Vx l hl
 have w1:IntKind.i64.wrap ((l.length:Int)-0)=(l.length:Int):=by rw[Ad _ (by omega)];omega
 have k1:(l.length:Int)<=12:=by omega
 refine GG Dz Aq (by simp) (by simp[US,DW,DB,Ae.isHist]) (by simp[IW,DB]) fun hwf hwo=>?_
 rw[Dv];unfold DE
 (try (simp -implicitDefEqProofs only[go_sem]));repeat' first|(with_reducible first|exact tI|refine aI ?_ ?_|intro _)|((first|with_reducible refine AU ?_ ?_<;>intro _)<;>try (simp -implicitDefEqProofs only[go_sem]))|simp (disch:=omega) only[Al]|((with_reducible refine A5 ?_);refine⟨_,rfl,?_,?_⟩)
 all_goals first|omega|(simp<;>omega)|skip
 refine Ao (α:=Int) (l0:=?l5) (m0:=?m5) (fun x=>[(1,.d (.int .i64 x))]) (fun x=>[]) (fun x=>x=0) (fun x=>x.toNat) 0 ?h05 ?he5 ?he25 ?hI5 ?step5
 case h05=>(simp -implicitDefEqProofs only[go_sem];rfl)
 case he5=>rfl
 case he25=>rfl
 case' step5=>(rintro i hI;try dsimp only at hI)
 case' hI5=>try dsimp only
 ·subst hI
  (try (simp -implicitDefEqProofs only[go_sem,w1,k1]));repeat' first|(with_reducible first|exact tI|refine aI ?_ ?_|intro _)|((first|with_reducible refine AU ?_ ?_<;>intro _|(with_reducible refine isCall ?_);first|(refine H6 ([((900000,0),(900000,0))]) ([((900000,0),(900000,0))]) (c1) (by repeat' first|exact True.intro|exact rfl|refine And.intro ?_ ?_) (by simp[D7,EQ.get,Ae.ren,AV.ren,AV.ren.renL,AO.get,A7,CZ,Fd,AO.reach,AV.sites,AV.sites.sitesL,AO.osites]) (by simp[Db,IW,DW,EQ.get,Fd,DB,CN,F0,Eh]) (by rfl) (by simp only[FG,EQ.get,Ae.ren,AV.ren,AV.ren.renL,and_self,and_true,true_and,if_true,reduceIte];rfl) ?_))<;>try (simp -implicitDefEqProofs only[go_sem,w1,k1]))|simp (disch:=omega) only[Al]|((with_reducible refine A5 ?_);refine⟨_,rfl,?_,?_⟩)
  all_goals first|omega|rfl|exact .inl True.intro|trace_state
theorem kz (l:List Int) (hl:l.length<=4) :
  OG E0 EK [(900000,0,.row 3 1 false (Bs l))] [.own 900000 0] [(900000,0,.row 3 1 false (Bs (LZ l (l.length-1))))] (.tup []):=by
 obtain⟨k,c1⟩:=N0 (l.length:Int) (by omega)
 have c2:=Zw l (by omega) k
 have w1:IntKind.u64.wrap (l.length:Int)=(l.length:Int):=bl _ (by omega)
 refine GG FF Aq (by simp) (by simp[US,DW,DB,Ae.isHist]) (by simp[IW,DB]) fun hwf hwo=>?_
 rw[Dv];unfold D2
 (try (simp -implicitDefEqProofs only[go_sem,w1]));repeat' first|(with_reducible first|exact tI|refine aI ?_ ?_|intro _)|((first|with_reducible refine AU ?_ ?_<;>intro _|(with_reducible refine isCall ?_);first|refine AF c1 ?_|(refine H6 ([((900000,0),(900000,0))]) ([((900000,0),(900000,0))]) (c2) (by repeat' first|exact True.intro|exact rfl|refine And.intro ?_ ?_) (by simp[D7,EQ.get,Ae.ren,AV.ren,AV.ren.renL,AO.get,A7,CZ,Fd,AO.reach,AV.sites,AV.sites.sitesL,AO.osites]) (by simp[Db,IW,DW,EQ.get,Fd,DB,CN,F0,Eh]) (by rfl) (by simp only[FG,EQ.get,Ae.ren,AV.ren,AV.ren.renL,and_self,and_true,true_and,if_true,reduceIte];rfl) ?_))<;>try (simp -implicitDefEqProofs only[go_sem,w1]))|simp (disch:=omega) only[Al]
 all_goals first|omega|rfl|exact .inl True.intro|trace_state
theorem be:Ca E0 EK [.list true []] (.tup []):=by
 obtain⟨k,c1⟩:=N0 0 (by omega)
 have w00:IntKind.i64.wrap (0-0)=0:=Ad _ (by omega)
 have w01:IntKind.i64.wrap (0+1)=1:=Ad _ (by omega)
 have wz:IntKind.i64.wrap 0=0:=Ad _ (by omega)
 have w1:IntKind.u64.wrap 0=0:=bl _ (by omega)
 have c2:Ca E0 Cj [.list true [],.int .i64 0,.int .i64 0] (.tup []):=by
  refine AW DS Aq (by simp) fun hwf=>?_
  rw[AZ];unfold Cc
  (try (simp -implicitDefEqProofs only[go_sem,w01]));repeat' first|(with_reducible first|exact tI|refine aI ?_ ?_|intro _)|((first|with_reducible refine AU ?_ ?_<;>intro _)<;>try (simp -implicitDefEqProofs only[go_sem,w01]))|simp (disch:=omega) only[Al]|((with_reducible refine A5 ?_);refine⟨_,rfl,?_,?_⟩)
  all_goals first|omega|(simp<;>omega)|skip
  refine Ao (α:=Int) (l0:=?l6) (m0:=?m6) (fun x=>[(6,.d (.int .i64 x))]) (fun x=>[]) (fun x=>x=1) (fun x=>x.toNat) 1 ?h06 ?he6 ?he26 ?hI6 ?step6
  case h06=>(simp -implicitDefEqProofs only[go_sem];rfl)
  case he6=>rfl
  case he26=>rfl
  case' step6=>(rintro i hI;try dsimp only at hI)
  case' hI6=>try dsimp only
  ·subst hI
   (try (simp -implicitDefEqProofs only[go_sem]));repeat' first|(with_reducible first|exact tI|refine aI ?_ ?_|intro _)|((first|with_reducible refine AU ?_ ?_<;>intro _)<;>try (simp -implicitDefEqProofs only[go_sem]))|simp (disch:=omega) only[Al]|((with_reducible refine A5 ?_);refine⟨_,rfl,?_,?_⟩)
   all_goals first|omega|rfl|exact .inl True.intro|trace_state
 have c3:Ca E0 DQ [.list true [],.int .i64 0,.int .i64 0,.int .i64 k] (.tup []):=by
  refine AW Dz Aq (by simp) fun hwf=>?_
  rw[AZ];unfold DE
  (try (simp -implicitDefEqProofs only[go_sem]));repeat' first|(with_reducible first|exact tI|refine aI ?_ ?_|intro _)|((first|with_reducible refine AU ?_ ?_<;>intro _)<;>try (simp -implicitDefEqProofs only[go_sem]))|simp (disch:=omega) only[Al]|((with_reducible refine A5 ?_);refine⟨_,rfl,?_,?_⟩)
  all_goals first|omega|(simp<;>omega)|skip
  refine Ao (α:=Int) (l0:=?l7) (m0:=?m7) (fun x=>[(1,.d (.int .i64 x))]) (fun x=>[]) (fun x=>x=0) (fun x=>x.toNat) 0 ?h07 ?he7 ?he27 ?hI7 ?step7
  case h07=>(simp -implicitDefEqProofs only[go_sem];rfl)
  case he7=>rfl
  case he27=>rfl
  case' step7=>(rintro i hI;try dsimp only at hI)
  case' hI7=>try dsimp only
  ·subst hI
   (try (simp -implicitDefEqProofs only[go_sem,w00,wz]));repeat' first|(with_reducible first|exact tI|refine aI ?_ ?_|intro _)|((first|with_reducible refine AU ?_ ?_<;>intro _|(with_reducible refine isCall ?_);first|refine AF c2 ?_)<;>try (simp -implicitDefEqProofs only[go_sem,w00,wz]))|simp (disch:=omega) only[Al]|((with_reducible refine A5 ?_);refine⟨_,rfl,?_,?_⟩)
   all_goals first|omega|rfl|exact .inl True.intro|trace_state
 refine AW FF Aq (by simp) fun hwf=>?_
 rw[AZ];unfold D2
 (try (simp -implicitDefEqProofs only[go_sem,w1]));repeat' first|(with_reducible first|exact tI|refine aI ?_ ?_|intro _)|((first|with_reducible refine AU ?_ ?_<;>intro _|(with_reducible refine isCall ?_);first|refine AF c1 ?_|refine AF c3 ?_)<;>try (simp -implicitDefEqProofs only[go_sem,w1]))|simp (disch:=omega) only[Al]|((with_reducible refine A5 ?_);refine⟨_,rfl,?_,?_⟩)
 all_goals first|omega|rfl|exact .inl True.intro|trace_state
theorem Wp (nl:Bool):Ca E0 Ep [.fn A2 [.ptr [.list nl []]]] (.list true []):=by
 have c1:=Mq nl
 have c2:=be
 refine AW Fk Aq (by simp) fun hwf=>?_
 rw[AZ];unfold ET
 (try (simp -implicitDefEqProofs only[go_sem]));repeat' first|(with_reducible first|exact tI|refine aI ?_ ?_|intro _)|((first|with_reducible refine AU ?_ ?_<;>intro _|(with_reducible refine isCall ?_);first|refine AF c1 ?_|refine AF c2 ?_)<;>try (simp -implicitDefEqProofs only[go_sem]))|simp (disch:=omega) only[Al]
 all_goals first|omega|rfl|exact .inl True.intro|trace_state
theorem YY (nl:Bool) (l:List Int) (hl:l.length<=4) (h1:0<l.length):Ca E0 Ep [.fn A2 [.ptr [.list nl (Bs l)]]] (.list false (Bs (LZ l (l.length-1)))):=by
 have c1:=OL nl l (by omega) h1
 have c2:=kz l hl
 refine AW Fk Aq (by simp) fun hwf=>?_
 rw[AZ];unfold ET
 (try (simp -implicitDefEqProofs only[go_sem]));repeat' first|(with_reducible first|exact tI|refine aI ?_ ?_|intro _)|((first|with_reducible refine AU ?_ ?_<;>intro _|(with_reducible refine isCall ?_);first|refine Uq (c1) (by simp[DB]) (by first|exact Q2 _|exact LK (fun _=>rfl) _|simp[Ln,D.cells,D.prim]) ?_|(refine H6 ([((900000,0),(5,0))]) ([((900000,0),(5,0))]) (c2) (by repeat' first|exact True.intro|exact rfl|refine And.intro ?_ ?_) (by simp[D7,EQ.get,Ae.ren,AV.ren,AV.ren.renL,AO.get,A7,CZ,Fd,AO.reach,AV.sites,AV.sites.sitesL,AO.osites]) (by simp[Db,IW,DW,EQ.get,Fd,DB,CN,F0,Eh]) (by rfl) (by simp only[FG,EQ.get,Ae.ren,AV.ren,AV.ren.renL,and_self,and_true,true_and,if_true,reduceIte];rfl) ?_))<;>try (simp -implicitDefEqProofs only[go_sem]))|simp (disch:=omega) only[Al]
 all_goals first|omega|rfl|exact .inl True.intro|trace_state
end Go.Pw
end
section
open Go Go.Pw Go.Proofs
namespace Go.Pw
set_option maxRecDepth 100000
set_option maxHeartbeats 1600000
theorem QW (l:List Zp) (x y:Int):FJ l++[.agg [.int .i64 x,.int .i64 y]]=FJ (l++[(x,y)]):=by simp[FJ,bh]
def RO (q:GQ) (l:List Int) (n:Nat):List Zp:=(List.range n).map fun i=>((q.outN false l l.length)[i]?.getD 0,(q.outN true l l.length)[i]?.getD 0)
theorem WK (q:GQ) (l:List Int) (n:Nat):(RO q l n).length=n:=by simp[RO]
theorem km (q:GQ) (l:List Int) (n:Nat):RO q l n++[((q.outN false l l.length)[n]?.getD 0,(q.outN true l l.length)[n]?.getD 0)]=RO q l (n+1):=by simp[RO,List.range_succ]
attribute [local congr] DX B3 B4 Bc DZ Bj Bl Bk Bb BN BF A6 Be BG Bg CD CE CF Cd Ce B9 Bf BL Bi BM B8 Cf BK CB CC B_ B6 B7 B2 DY B5 Bd BI BH BJ Bh CA
attribute [local irreducible] IntKind.wrap CK Option.getD and or
theorem Qv (q:GQ) (g:q.Good) (h4:q.rq.length<=4) (nl:Bool) (l:List Int) (ho:Hl q.rq.length l=true) (hnl:l=[]->nl=true\/nl=false):Ca E0 OA [Hy q,.list nl (Bs l)] (.tup [Hy q,.int .i64 0]):=by
 refine AW RX Aq (by simp) fun hwf=>?_
 have c1:=JZ q g
 have c2:=Mx nl l
 obtain⟨hl,hl1,hl2⟩:=Ki ho
 have k1:((l.length:Nat):Int)=(q.rq.length:Int):=by omega
 rw[Ai,AN] at c1
 by_cases hz:l.length=0
 ·have:l=[]:=List.eq_nil_of_length_eq_zero hz
  subst this
  have c3:=Wp nl
  have k2:(0:Int)=(q.rq.length:Int):=by simpa using k1
  have k3:(q.rq.length:Int)=0:=k2.symm
  rw[show Bs []=[] from rfl] at c2 ⊢
  rw[AZ];unfold H0
  (try (simp -implicitDefEqProofs only[go_sem,Ai,AN,AL]));repeat' first|(with_reducible first|exact tI|refine aI ?_ ?_|intro _)|((first|with_reducible refine AU ?_ ?_<;>intro _|(with_reducible refine isCall ?_);first|refine AF c1 ?_|refine AF c2 ?_|refine AF c3 ?_)<;>try (simp -implicitDefEqProofs only[go_sem,Ai,AN,AL]))|simp (disch:=omega) only[Al]|((with_reducible refine A5 ?_);refine⟨_,rfl,?_,?_⟩)
  all_goals first|omega|(simp<;>omega)|skip
  refine Ao (α:=Int) (l0:=?l1) (m0:=?m1) (fun x=>[(21,.d (.int .i64 x))]) (fun x=>[]) (fun x=>x=0) (fun x=>x.toNat) 0 ?h01 ?he1 ?he21 ?hI1 ?step1
  case h01=>(simp -implicitDefEqProofs only[go_sem,AN,AL];rfl)
  case he1=>rfl
  case he21=>rfl
  case' step1=>(rintro i hI;try dsimp only at hI)
  case' hI1=>try dsimp only
  ·subst hI
   (try (simp -implicitDefEqProofs only[go_sem,AN,AL,k3]));repeat' first|(with_reducible first|exact tI|refine aI ?_ ?_|intro _)|((first|with_reducible refine AU ?_ ?_<;>intro _)<;>try (simp -implicitDefEqProofs only[go_sem,AN,AL,k3]))|simp (disch:=omega) only[Al]|((with_reducible refine A5 ?_);refine⟨_,rfl,?_,?_⟩)
   all_goals first|omega|rfl|exact .inl True.intro|trace_state
 ·have c3:=YY nl l (by omega) (by omega)
  have hs:=fun i hi=>gv ho h4 i hi
  have hsl:=RI l (l.length-1)
  rw[hl] at hsl
  rw[hl] at c3
  obtain⟨S,hS⟩:∃S,LZ l (q.rq.length-1)=S:=⟨_,rfl⟩
  rw[hS] at c3 hs hsl
  rw[AZ];unfold H0
  (try (simp -implicitDefEqProofs only[go_sem,Ai,AN,AL]));repeat' first|(with_reducible first|exact tI|refine aI ?_ ?_|intro _)|((first|with_reducible refine AU ?_ ?_<;>intro _|(with_reducible refine isCall ?_);first|refine AF c1 ?_|refine AF c2 ?_|refine AF c3 ?_)<;>try (simp -implicitDefEqProofs only[go_sem,Ai,AN,AL]))|simp (disch:=omega) only[Al]|((with_reducible refine A5 ?_);refine⟨_,rfl,?_,?_⟩)
  all_goals first|omega|(simp<;>omega)|skip
  refine Ao (α:=Nat) (l0:=?l2) (m0:=?m2) (fun x=>[(21,.d (.int .i64 (x:Int)))]) (fun x=>[]) (fun x=>x<=q.rq.length) (fun x=>q.rq.length-x) 0 ?h02 ?he2 ?he22 ?hI2 ?step2
  case h02=>(simp -implicitDefEqProofs only[go_sem,AN,AL];rfl)
  case he2=>rfl
  case he22=>rfl
  case' step2=>(rintro i hI2;try dsimp only at hI2)
  case' hI2=>try dsimp only
  ·omega
  ·by_cases hi:i<q.rq.length
   ·have hi':(i:Int)<(S.length:Int):=by omega
    have hi2:i<S.length:=by omega
    have hv:=hs i hi
    have wi:IntKind.i64.wrap ((i:Int)+1)=((i+1:Nat):Int):=by rw[Ad _ (by omega)];omega
    (try (simp -implicitDefEqProofs only[go_sem,AN,AL,hi',hi2,hv,wi]));repeat' first|(with_reducible first|exact tI|refine aI ?_ ?_|intro _)|((first|with_reducible refine AU ?_ ?_<;>intro _)<;>try (simp -implicitDefEqProofs only[go_sem,AN,AL,hi',hi2,hv,wi]))|simp (disch:=omega) only[Al]|((with_reducible refine A5 ?_);refine⟨_,rfl,?_,?_⟩)
    all_goals first|omega|rfl|exact .inl True.intro|trace_state
   ·have hi':¬(i:Int)<(S.length:Int):=by omega
    (try (simp -implicitDefEqProofs only[go_sem,AN,AL,hi',k1]));repeat' first|(with_reducible first|exact tI|refine aI ?_ ?_|intro _)|((first|with_reducible refine AU ?_ ?_<;>intro _)<;>try (simp -implicitDefEqProofs only[go_sem,AN,AL,hi',k1]))|simp (disch:=omega) only[Al]|((with_reducible refine A5 ?_);refine⟨_,rfl,?_,?_⟩)
    all_goals first|omega|rfl|exact .inl True.intro|trace_state
theorem Qz (q:GQ) (g:q.Good) (h4:q.rq.length<=4) (hz:q.d.size<=200) (nl:Bool) (l:List Int) (ho:Hl q.rq.length l=true) :
  Ca E0 OB [Hy q,.list nl (Bs l)] (.tup [.list (decide (q.rq.length=0)) (FJ (RO q l q.rq.length)),.int .i64 0]):=by
 refine AW RZ Aq (by simp) fun hwf=>?_
 obtain⟨hl,hl1,hl2⟩:=Ki ho
 have hlr:∀i,i<l.length->0<=l[i]?.getD 0/\l[i]?.getD 0<q.rq.length:=fun i hi=>hl1 i (by omega)
 have c1:=Qv q g h4 nl l ho (fun _=>by cases nl<;>simp)
 have c2:=G2 q g false Hv fD R_ hz nl l (by omega) hlr
 have c3:=G2 q g true FZ Th KJ hz nl l (by omega) hlr
 have e1:=IQ q false l l.length
 have e2:=IQ q true l l.length
 obtain⟨A,hA⟩:∃A,q.outN false l l.length=A:=⟨_,rfl⟩
 obtain⟨B,hB⟩:∃B,q.outN true l l.length=B:=⟨_,rfl⟩
 have hsn:=km q l
 rw[hA] at c2 e1
 rw[hB] at c3 e2
 simp only[hA,hB] at hsn
 rw[Ai,AN] at c1 c2 c3
 rw[AZ];unfold Lv
 (try (simp -implicitDefEqProofs only[go_sem,Ai,AN]));repeat' first|(with_reducible first|exact tI|refine aI ?_ ?_|intro _)|((first|with_reducible refine AU ?_ ?_<;>intro _|(with_reducible refine isCall ?_);first|refine AF c1 ?_|refine AF c2 ?_|refine AF c3 ?_)<;>try (simp -implicitDefEqProofs only[go_sem,Ai,AN]))|simp (disch:=omega) only[Al]|((with_reducible refine Ba ?_);refine⟨(_,_,_),rfl,?_,?_⟩)
 all_goals first|omega|(simp<;>omega)|skip
 refine Ao (α:=Nat×(List Zp)×Bool) (l0:=?l3) (m0:=?m3) (fun x=>[(29,.d (.int .i64 (x.1:Int)))]) (fun x=>[(43,.row 26 2 x.2.2 (FJ x.2.1))]) (fun x=>x.1<=A.length/\x.2.1=RO q l x.1/\x.2.2=decide (x.1=0)) (fun x=>A.length-x.1) (0,[],true) ?h03 ?he3 ?he23 ?hI3 ?step3
 case h03=>(simp -implicitDefEqProofs only[go_sem];rfl)
 case he3=>rfl
 case he23=>rfl
 case' step3=>(rintro⟨i,out,b⟩ hI;try dsimp only at hI)
 case' hI3=>try dsimp only
 ·exact⟨by omega,rfl,rfl⟩
 ·obtain⟨h1,h2,h3⟩:=hI
  by_cases hi:i<A.length
  ·have hi':(i:Int)<(A.length:Int):=by omega
   have hj':(i:Int)<(B.length:Int):=by omega
   have hj:i<B.length:=by omega
   have wi:IntKind.i64.wrap ((i:Int)+1)=((i+1:Nat):Int):=by rw[Ad _ (by omega)];omega
   have hol:out.length=i:=by rw[h2,WK]
   have hn:out++[(A[i]?.getD 0,B[i]?.getD 0)]=RO q l (i+1):=by rw[h2,hsn]
   have hb:decide (i+1=0)=false:=by simp
   (try (simp -implicitDefEqProofs only[go_sem,hi',hi,hj',hj,wi,AY,Ar,QW]));repeat' first|(with_reducible first|exact tI|refine aI ?_ ?_|intro _)|((first|with_reducible refine AU ?_ ?_<;>intro _)<;>try (simp -implicitDefEqProofs only[go_sem,hi',hi,hj',hj,wi,AY,Ar,QW]))|simp (disch:=omega) only[Al]|((with_reducible refine Ba ?_);refine⟨(_,_,_),rfl,?_,?_⟩)
   all_goals first|omega|rfl|exact .inl True.intro|exact hn|trace_state
  ·have hi':¬(i:Int)<(A.length:Int):=by omega
   have hie:i=q.rq.length:=by omega
   rw[hie] at h2 h3
   (try (simp -implicitDefEqProofs only[go_sem,hi',h2,h3]));repeat' first|(with_reducible first|exact tI|refine aI ?_ ?_|intro _)|((first|with_reducible refine AU ?_ ?_<;>intro _)<;>try (simp -implicitDefEqProofs only[go_sem,hi',h2,h3]))|simp (disch:=omega) only[Al]|((with_reducible refine Ba ?_);refine⟨(_,_,_),rfl,?_,?_⟩)
   all_goals first|omega|rfl|exact .inl True.intro|trace_state
end Go.Pw
end
section
namespace Go.Pw
def H2 (bf:List Int) (n:Nat) (i:Nat):Int:=1+(((bf.take i).filter fun b=>decide ((n:Int)<b)).length:Int)
theorem aL (bf:List Int) (n i:Nat):1<=H2 bf n i/\H2 bf n i<=1+bf.length:=by
 have h1:=List.length_filter_le (fun b=>decide ((n:Int)<b)) (bf.take i)
 have h2:(bf.take i).length<=bf.length:=by rw[List.length_take];omega
 unfold H2;omega
theorem dv {bf:List Int}{i:Nat}(n:Nat) (h:i<bf.length):H2 bf n (i+1)=H2 bf n i+(if (n:Int)<bf[i]?.getD 0 then 1 else 0):=by
 unfold H2
 rw[List.take_add_one,List.getElem?_eq_getElem h,List.filter_append]
 by_cases hc:(n:Int)<bf[i]
 ·simp[hc];omega
 ·simp[hc]
def cX (bf:List Int) (r:Int) (n:Nat):Bool:=!(decide ((n:Int)<r) && !bf.contains (n:Int))
def UZ (q:GQ) (bf:List Int) (r:Int) (n:Nat):Bool:=cX bf r n || !(decide (q.pas<H2 bf n bf.length) || ((q.rq[n]?.getD default).ord || (q.req r).ord))
def RL (q:GQ) (bf:List Int) (r:Int):Bool:=(List.range q.rq.length).all (UZ q bf r)
theorem RK {q:GQ}{bf:List Int}{r:Int}{n:Nat}(hn:n<q.rq.length) (h:UZ q bf r n=false):RL q bf r=false:=by
 unfold RL;rw[List.all_eq_false];exact⟨n,List.mem_range.2 hn,by rw[h];simp⟩
theorem eg {q:GQ}{bf:List Int}{r:Int}(h:∀n,n<q.rq.length->UZ q bf r n=true):RL q bf r=true:=by
 unfold RL;exact List.all_eq_true.2 fun n hn=>h n (List.mem_range.1 hn)
def R' (q:GQ) (ord:List Int) (m:Nat):Bool:=!ord.contains (m:Int) && RL q ord m
def Fb (q:GQ):Nat->List Int->List (List Int)
 |0,ord=>[ord]
 |k+1,ord=>(List.range q.rq.length).flatMap fun m=>if R' q ord m then Fb q k (ord++[(m:Int)]) else []
def Qg (q:GQ) (k:Nat) (ord:List Int) (i:Nat):List (List Int):=(List.range i).flatMap fun m=>if R' q ord m then Fb q k (ord++[(m:Int)]) else []
theorem W8 (q:GQ) (k:Nat) (ord:List Int) (i:Nat):Qg q k ord (i+1)=Qg q k ord i++(if R' q ord i then Fb q k (ord++[(i:Int)]) else []):=by
 unfold Qg;rw[List.range_succ,List.flatMap_append];simp
theorem cM (q:GQ) (k:Nat) (ord:List Int):Fb q (k+1) ord=Qg q k ord q.rq.length:=by rw[Fb];rfl
theorem U9 (q:GQ) (k:Nat) (ord:List Int) (i:Nat):∀j,i<=j->∃t,Qg q k ord j=Qg q k ord i++t
 |0,h=>⟨[],by
    have:i=0:=by omega
    subst this;simp⟩
 |j+1,h=>by
  by_cases hi:i=j+1
  ·subst hi;exact⟨[],by simp⟩
  ·obtain⟨t,ht⟩:=U9 q k ord i j (by omega)
   rw[W8,ht,List.append_assoc];exact⟨_,rfl⟩
def Ky (els:List (List D)) (n:Nat) (f:List Int->List D) (l:List (List Int)):Prop:=∀i x,l[i]?=some x->els[n+i]?=some (f x)
theorem aJ {els n f l t} (h:Ky els n f (l++t)):Ky els n f l:=fun i x hx=>h i x (by rw[List.getElem?_append_left (List.getElem?_eq_some_iff.1 hx).1];exact hx)
theorem Xt {els n f l t} (h:Ky els n f (l++t)):Ky els (n+l.length) f t:=fun i x hx=>by
 have:=h (l.length+i) x (by rw[List.getElem?_append_right (by omega)];rw[Nat.add_sub_cancel_left];exact hx)
 rwa [←Nat.add_assoc] at this
theorem Xu {q:GQ}{k:Nat}{ord:List Int} {els n f} {i:Nat}(h:Ky els n f (Fb q (k+1) ord)) (hi:i<q.rq.length) (hb:R' q ord i=true):Ky els (n+(Qg q k ord i).length) f (Fb q k (ord++[(i:Int)])):=by
 rw[cM] at h
 obtain⟨t,ht⟩:=U9 q k ord (i+1) q.rq.length (by omega)
 rw[ht] at h
 have h2:=aJ h
 rw[W8,if_pos hb] at h2
 exact Xt h2
end Go.Pw
end
