/- A part of the proof. -/
import Derived.Test.YtpcpcjbbdgmohaaDoorTwrF
import Derived.Test.YtpcpcjbbdgmohaaDoorPgCorrectLin
set_option linter.all false
open Go Go.Pw Go.Proofs
namespace Go.Pw
set_option maxRecDepth 100000
set_option maxHeartbeats 3200000
theorem RM {A B:List F}(hl:A.length=B.length) (i:Nat) (h:i<A.length):(A.take i++B.drop i)[i]?.getD 0=B[i]?.getD 0:=by
 rw[List.getElem?_append_right (by simp;omega)]
 simp only[List.length_take,List.getElem?_drop]
 congr 2;omega
theorem RK {A B:List F}(hl:A.length=B.length) (i:Nat) (h:i<A.length):(A.take i++B.drop i).set i (A[i]?.getD 0)=A.take (i+1)++B.drop (i+1):=by
 have h1:(A.take i).length=i:=by simp;omega
 have h2:A.take (i+1)=A.take i++[A[i]]:=by rw[List.take_succ,List.getElem?_eq_getElem h];rfl
 rw[List.set_append_right _ _ (by omega),h1,Nat.sub_self,List.drop_eq_getElem_cons (by omega),List.set_cons_zero,h2,List.getElem?_eq_getElem h,List.append_assoc]
 rfl
theorem RL {A B:List F}(hl:A.length=B.length) (i:Nat) (h:i<=A.length):(A.take i++B.drop i).length=A.length:=by simp;omega
theorem RN {A B:List F}(hl:A.length=B.length):A.take A.length++B.drop A.length=A:=by rw[List.take_length,List.drop_eq_nil_of_le (by omega),List.append_nil]
theorem Zi (r o:List F) (b:F) (i:Nat) (h:r.length=o.length):(Fz r o b)[i]?.getD 0=fa (r[i]?.getD 0) (fm (o[i]?.getD 0) b):=L6 r o b i h
theorem aH {R:List (List F)}{a:Nat}{r:List F}(h:a<R.length):(R.set a r)[a]?.getD []=r:=by simp[h]
theorem dL {R:List (List F)}{a b:Nat}{r:List F}(h:a≠b):(R.set a r)[b]?.getD []=R[b]?.getD []:=by rw[List.getElem?_set_ne h]
theorem aF {R:List (List F)}{a:Nat}{r r':List F}:(R.set a r).set a r'=R.set a r':=List.set_set ..
theorem Xa {R:List (List F)}{a:Nat}(h:a<R.length):R.set a (R[a]?.getD [])=R:=by
 rw[List.getElem?_eq_getElem h];simp
attribute [local congr] Bx A9 A_ Au Bz A0 A2 A1 Ar An Ai Ab Av Aj Ax BG BK BI BJ BH BL BD Ay Aw Al Az Am BB BT Ak BE BF BC A' BA B1
attribute [local irreducible] IntKind.wrap BM Option.getD and or
theorem cQ (e1 e2:Nat) (nl:Bool) (ix:List Nat) (R:List (List F)) (a b:Nat) (s:F) (hab:a≠b) (ha:a<R.length) (hb:b<R.length) (hl:(R[a]?.getD []).length=(R[b]?.getD []).length) (hs:(R[b]?.getD []).length<=1000) :
  HI E0 FQ [(900000,0,.mat e1 e2 nl ix (EB R))] [.mref (.row a) 900000 0,.mref (.row b) 900000 0,.d (.int .u8 (s.val:Int))]
   [(900000,0,.mat e1 e2 nl ix (EB (R.set a (Fz (R[a]?.getD []) (R[b]?.getD []) s))))] (.tup []):=by
 obtain⟨ra,hra⟩:∃ra,R[a]?.getD []=ra:=⟨_,rfl⟩
 obtain⟨rb,hrb⟩:∃rb,R[b]?.getD []=rb:=⟨_,rfl⟩
 rw[hra,hrb] at hl ⊢
 rw[hrb] at hs
 have hA:=L9 ra rb s hl
 have hRR:R.set a ra=R:=by rw[←hra];exact Xa ha
 have hl2:(R.set a ra).length=R.length:=by simp
 suffices hsu:HI E0 FQ [(900000,0,.mat e1 e2 nl ix (EB (R.set a ra)))] [.mref (.row a) 900000 0,.mref (.row b) 900000 0,.d (.int .u8 (s.val:Int))]
   [(900000,0,.mat e1 e2 nl ix (EB (R.set a (Fz ra rb s))))] (.tup []) by rwa [hRR] at hsu
 have hB0:(R.set a ra)[b]?.getD []=rb:=by rw[dL hab];exact hrb
 refine C4 KE A5 (by simp) (by simp[MN,B6,Dv,AW.isHist]) (by simp[EF]) fun hwf hwo=>?_
 rw[D8];unfold GX
 (try (simp -implicitDefEqProofs only[go_sem,hB0,hb,List.length_set]));repeat' first|(with_reducible first|exact tI|refine aI ?_ ?_|intro _)|((first|with_reducible refine AN ?_ ?_<;>intro _)<;>try (simp -implicitDefEqProofs only[go_sem,hB0,hb,List.length_set]))|simp (disch:=omega) only[Ap]|((with_reducible refine AZ ?_);refine⟨(_,_),rfl,?_,?_⟩)
 refine AX (α:=Nat×(List F)) (l0:=?l1) (m0:=?m1) (fun x=>[(10,.d (.int .i64 (x.1:Int)))]) (fun x=>[(900000,.mat e1 e2 nl ix (EB (R.set a x.2)))]) (fun x=>x.1<=rb.length/\x.2=(Fz ra rb s).take x.1++ra.drop x.1) (fun x=>rb.length-x.1) (0,ra) ?h01 ?he1 ?he21 ?hI1 ?step1
 case h01=>(simp -implicitDefEqProofs only[go_sem,List.length_set];rfl)
 case he1=>rfl
 case he21=>rfl
 case' step1=>(rintro⟨i,r⟩ hI;try dsimp only at hI)
 case' hI1=>try dsimp only
 ·exact⟨by omega,by simp⟩
 ·obtain⟨h1,h2⟩:=hI
  have hr:r.length=rb.length:=by rw[h2,RL hA i (by omega)];omega
  by_cases h:i<rb.length
  ·have h':(i:Int)<(rb.length:Int):=by omega
   have hw:IntKind.i64.wrap ((i:Int)+1)=((i+1:Nat):Int):=by rw[Af _ (by omega)];omega
   have c1:=DV (rb[i]?.getD 0) s
   have k1:r[i]?.getD 0=ra[i]?.getD 0:=by rw[h2];exact RM hA i (by omega)
   have k2:r.set i (fa (ra[i]?.getD 0) (fm (rb[i]?.getD 0) s))=(Fz ra rb s).take (i+1)++ra.drop (i+1):=by
    rw[h2,←Zi ra rb s i hl];exact RK hA i (by omega)
   have hB:(R.set a r)[b]?.getD []=rb:=by rw[dL hab];exact hrb
   (try (simp -implicitDefEqProofs only[go_sem,h',hw,k1,aH ha,hB,aF,List.length_set]));repeat' first|(with_reducible first|exact tI|refine aI ?_ ?_|intro _)|((first|with_reducible refine AN ?_ ?_<;>intro _|(with_reducible refine isCall ?_);first|refine AG c1 ?_)<;>try (simp -implicitDefEqProofs only[go_sem,h',hw,k1,aH ha,hB,aF,List.length_set]))|simp (disch:=omega) only[Ap]|((with_reducible refine AZ ?_);refine⟨(_,_),rfl,?_,?_⟩)
   all_goals first|omega|(simp<;>omega)|skip
   all_goals first|exact k2|skip
  ·have h':¬(i:Int)<(rb.length:Int):=by omega
   have hk:i=rb.length:=by omega
   have hf:r=Fz ra rb s:=by
    rw[h2,hk]
    have:=RN hA
    rwa [hA,hl] at this
   subst hf
   have hB:(R.set a (Fz ra rb s))[b]?.getD []=rb:=by rw[dL hab];exact hrb
   (try (simp -implicitDefEqProofs only[go_sem,h',hB,List.length_set]));repeat' first|(with_reducible first|exact tI|refine aI ?_ ?_|intro _)|((first|with_reducible refine AN ?_ ?_<;>intro _)<;>try (simp -implicitDefEqProofs only[go_sem,h',hB,List.length_set]))|simp (disch:=omega) only[Ap]|((with_reducible refine AZ ?_);refine⟨(_,_),rfl,?_,?_⟩)
   all_goals first|omega|(simp<;>omega)|skip
theorem Qx (nl nb na:Bool) (M:List (List F)) (at_:List Nat) (m:Nat) (hm:m=at_.length) (hl:M.length<=1000) (hs:∀i,i<M.length->m<(M[i]?.getD []).length) :
  DE E0 CF [.list nl (M.map fun r=>.list nb (us r)),.fn C2 [.ptr [.list na (A4 (ni at_))]]] (.list M.isEmpty (us (M.map fun r=>r[m]?.getD 0))):=by
 subst hm
 have c0:∀r:List F,at_.length<r.length->DE E0 C2 [.list nb (us r),.ptr [.list na (A4 (ni at_))]] (.int .u8 ((r[at_.length]?.getD 0).val:Int)):=by
  intro r hr
  refine AP HP A5 (by simp) fun hwf=>?_
  rw[AU];unfold E2
  (try (simp -implicitDefEqProofs only[go_sem]));repeat' first|(with_reducible first|exact tI|refine aI ?_ ?_|intro _)|((first|with_reducible refine AN ?_ ?_<;>intro _)<;>try (simp -implicitDefEqProofs only[go_sem]))|simp (disch:=omega) only[Ap]|((with_reducible refine Ad ?_);refine⟨(_,_,_),rfl,?_,?_⟩)
  all_goals first|omega|(simp<;>omega)|skip
 refine AP DY A5 (by simp) fun hwf=>?_
 rw[AU];unfold B_
 (try (simp -implicitDefEqProofs only[go_sem]));repeat' first|(with_reducible first|exact tI|refine aI ?_ ?_|intro _)|((first|with_reducible refine AN ?_ ?_<;>intro _)<;>try (simp -implicitDefEqProofs only[go_sem]))|simp (disch:=omega) only[Ap]|((with_reducible refine Ad ?_);refine⟨(_,_,_),rfl,?_,?_⟩)
 refine AX (α:=Nat×Bool×(List F)) (l0:=?l2) (m0:=?m2) (fun x=>[(10,.d (.int .i64 (x.1:Int)))]) (fun x=>[(19,.row 173 1 x.2.1 (us x.2.2))]) (fun x=>x.1<=M.length/\x.2.2=(M.take x.1).map (fun r=>r[at_.length]?.getD 0)/\x.2.1=x.2.2.isEmpty) (fun x=>M.length-x.1) (0,true,[]) ?h02 ?he2 ?he22 ?hI2 ?step2
 case h02=>(simp -implicitDefEqProofs only[go_sem];rfl)
 case he2=>rfl
 case he22=>rfl
 case' step2=>(rintro⟨i,b,l⟩ hI;try dsimp only at hI)
 case' hI2=>try dsimp only
 ·exact⟨by omega,rfl,rfl⟩
 ·obtain⟨h1,h2,h3⟩:=hI
  subst h3
  by_cases h:i<M.length
  ·have h':(i:Int)<(M.length:Int):=by omega
   have hw:IntKind.i64.wrap ((i:Int)+1)=((i+1:Nat):Int):=by rw[Af _ (by omega)];omega
   have c1:=c0 (M[i]?.getD default) (hs i h)
   have hk:l++[(M[i]?.getD default)[at_.length]?.getD 0]=(M.take (i+1)).map (fun r=>r[at_.length]?.getD 0):=by
    rw[h2,List.take_succ,List.getElem?_eq_getElem h,List.map_append,Option.getD_some];rfl
   have hl3:l.length<=1000:=by rw[h2];simp;omega
   (try (simp -implicitDefEqProofs only[go_sem,h',hw,L5,IE]));repeat' first|(with_reducible first|exact tI|refine aI ?_ ?_|intro _)|((first|with_reducible refine AN ?_ ?_<;>intro _|(with_reducible refine isCall ?_);first|refine AG c1 ?_)<;>try (simp -implicitDefEqProofs only[go_sem,h',hw,L5,IE]))|simp (disch:=omega) only[Ap]|((with_reducible refine Ad ?_);refine⟨(_,_,_),rfl,?_,?_⟩)
   all_goals first|omega|(simp<;>omega)|skip
   all_goals first|exact hk|(exact(Lk _ _).symm)|(simp at *;done)|(simp at *;omega)|skip
  ·have h':¬(i:Int)<(M.length:Int):=by omega
   have hk:i=M.length:=by omega
   subst hk
   rw[List.take_length] at h2
   have he:l.isEmpty=M.isEmpty:=by rw[h2];cases M<;>rfl
   rw[←h2,←he]
   (try (simp -implicitDefEqProofs only[go_sem,h']));repeat' first|(with_reducible first|exact tI|refine aI ?_ ?_|intro _)|((first|with_reducible refine AN ?_ ?_<;>intro _)<;>try (simp -implicitDefEqProofs only[go_sem,h']))|simp (disch:=omega) only[Ap]|((with_reducible refine Ad ?_);refine⟨(_,_,_),rfl,?_,?_⟩)
   all_goals first|omega|(simp<;>omega)|skip
   all_goals first|rfl|skip
end Go.Pw
