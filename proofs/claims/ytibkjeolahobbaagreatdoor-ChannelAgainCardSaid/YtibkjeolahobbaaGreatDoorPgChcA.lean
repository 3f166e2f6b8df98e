/- A part of the proof. -/
import Derived.Test.YtibkjeolahobbaaGreatDoorChPC
import Derived.Test.YtibkjeolahobbaaGreatDoorPwVC
import Derived.Test.YtibkjeolahobbaaGreatDoorCodesSpec
set_option linter.all false
open Go Go.Pw Go.Proofs
namespace Go.Pw
set_option maxRecDepth 100000
set_option maxHeartbeats 800000
section
attribute [local congr] Bh A7 A8 Au Bi Az A1 A0 Ar Ai Ab AZ Aw Ad Ax BF BJ BH BI BG BK BC Ag Ay Ah BA BS Af BD BE BB A_ A' A6 Bj A9 Av Ae
attribute [local irreducible] IntKind.wrap A5 Option.getD and or
theorem Cf (n lo hi:Int):CI E0 LJ [.int .i64 n,.int .i64 lo,.int .i64 hi] (.bool (Cp n lo hi)):=by
 refine AK Oa Aq (by simp) fun hwf=>?_
 rw[AW];unfold Jr Cp
 (try (simp -implicitDefEqProofs only[go_sem]));repeat' first|(with_reducible first|exact tI|refine aI ?_ ?_|intro _)|((first|with_reducible refine AM ?_ ?_<;>intro _)<;>try (simp -implicitDefEqProofs only[go_sem]))|simp (disch:=omega) only[An]
 all_goals first|omega|(simp_all[Cp];done)|(simp_all[Cp];omega)|grind
theorem C9 (n lo hi:Int):CI E0 LE [.int .i64 n,.int .i64 lo,.int .i64 hi] (.bool (Cp n lo hi)):=by
 refine AK OV Aq (by simp) fun hwf=>?_
 rw[AW];unfold Jm Cp
 (try (simp -implicitDefEqProofs only[go_sem]));repeat' first|(with_reducible first|exact tI|refine aI ?_ ?_|intro _)|((first|with_reducible refine AM ?_ ?_<;>intro _)<;>try (simp -implicitDefEqProofs only[go_sem]))|simp (disch:=omega) only[An]
 all_goals first|omega|(simp_all[Cp];done)|(simp_all[Cp];omega)|grind
theorem GW (c:AU) (h:0<=c.bits/\c.bits<=2):CI E0 Hc [HS c] (.int .i64 (2^c.bits.toNat)):=by
 refine AK K3 Aq (by simp) fun hwf=>?_
 rw[AW];unfold Gs
 simp -implicitDefEqProofs only[go_sem,BQ,BN]
 exact⟨h.1,by simp (disch:=omega) only[An]⟩
theorem GX (c:AU) (n:Int):CI E0 Hd [HS c,.int .i64 n] (.bool (c.isState n)):=by
 refine AK K4 Aq (by simp) fun hwf=>?_
 simp only[Dx,DK,DJ,C0,EH,EG,Fz,EF,Bk,Bv,Bw,DM,B9,List.length_map,B5,true_and,and_true,BQ,BN,BL] at hwf
 rw[AW];unfold Gt
 simp -implicitDefEqProofs only[go_sem,BQ,BN,BL]
 simp (disch:=omega) only[An]
 refine HV (Cf _ _ _) rfl ?_
 simp -implicitDefEqProofs only[go_sem,AU.isState]
theorem Lo (nl:Bool) (xs:List Int) (f:FuncId) (cs:List D) (p:Int->Bool) (hb:Bp E0.P f=true) (hcs:BM AV.toD1 (cs.map .d)=some cs) (h:∀x,x∈xs->CI E0 f (.int .i64 x::cs) (.bool (p x))) :
  CI E0 DG [.list nl (Aj xs),.fn f cs] (.int .i64 (match xs.findIdx? p with|some i=>i|none=>-1)):=by
 refine AK D6 Aq (by simp) fun hwf=>?_
 simp only[Dx,DK,DJ,C0,EH,EG,Fz,EF,Bk,Bv,Bw,DM,B9,List.length_map,B5,true_and,and_true] at hwf
 rw[AW];unfold C1
 simp -implicitDefEqProofs only[go_sem]
 refine AY (α:=Int) (l0:=?l1) (m0:=?m1) (fun x=>[(8,.d (.int .i64 x))]) (fun x=>[]) (fun x=>0<=x/\x<=xs.length/\∀(j:Nat) (hj:j<xs.length),(j:Int)<x->p xs[j]=false) (fun x=>(xs.length-x).toNat) ?a1_0 ?h01 ?he1 ?he21 ?hI1 ?step1
 case h01=>(simp -implicitDefEqProofs only[go_sem];rfl)
 case he1=>rfl
 case he21=>rfl
 case' step1=>(rintro i hI;try dsimp only at hI)
 case' hI1=>try dsimp only
 ·simp
  omega
 ·(try (simp -implicitDefEqProofs only[go_sem]));repeat' first|(with_reducible first|exact tI|refine aI ?_ ?_|intro _)|((first|with_reducible refine AM ?_ ?_<;>intro _)<;>try (simp -implicitDefEqProofs only[go_sem]))|simp (disch:=omega) only[An]|((with_reducible refine Ao ?_);refine⟨_,rfl,?_,?_⟩)
  all_goals first|omega|(simp;done)|(simp;omega)|skip
  ·have hx:xs[i.toNat]?.getD 0=xs[i.toNat]'(by omega):=by rw[List.getElem?_eq_getElem (by omega),Option.getD_some]
   rw[hx]
   refine Xf (h _ (List.getElem_mem _)) (K9 rfl hcs) (fun hp=>?_) (fun hp=>?_)
   ·simp -implicitDefEqProofs only[go_sem]
    have:xs.findIdx? p=some i.toNat:=by rw[List.findIdx?_eq_some_iff_getElem];exact⟨by omega,hp,fun j hj=>by simp[hI.2.2 j (by omega) (by omega)]⟩
    rw[this];simp;omega
   ·(try (simp -implicitDefEqProofs only[go_sem]));repeat' first|(with_reducible first|exact tI|refine aI ?_ ?_|intro _)|((first|with_reducible refine AM ?_ ?_<;>intro _)<;>try (simp -implicitDefEqProofs only[go_sem]))|simp (disch:=omega) only[An]|((with_reducible refine Ao ?_);refine⟨_,rfl,?_,?_⟩)
    all_goals first|omega|(simp;done)|(simp;omega)|skip
    rename_i j hj hlt
    by_cases hjk:j=i.toNat
    ·subst hjk;exact hp
    ·exact hI.2.2 j hj (by omega)
  ·have:xs.findIdx? p=none:=by
    rw[List.findIdx?_eq_none_iff];intro x hx;obtain⟨j,hj,rfl⟩:=List.getElem_of_mem hx;exact hI.2.2 j hj (by omega)
   rw[this]
theorem CT (nl:Bool) (xs:List Int) (f:FuncId) (cs:List D) (p:Int->Bool) (hb:Bp E0.P f=true) (hcs:BM AV.toD1 (cs.map .d)=some cs) (h:∀x,x∈xs->CI E0 f (.int .i64 x::cs) (.bool (p x))) :
  CI E0 B7 [.list nl (Aj xs),.fn f cs] (.bool (xs.any p)):=by
 refine AK Dg Aq (by simp) fun hwf=>?_
 rw[AW];unfold Cc
 simp -implicitDefEqProofs only[go_sem]
 refine HV (Lo nl xs f cs p hb hcs h) rfl ?_
 simp -implicitDefEqProofs only[go_sem]
 have key:(0:Int)<=(match xs.findIdx? p with|some i=>(i:Int)|none=>-1)↔xs.any p=true:=by
  cases hf:xs.findIdx? p with
  |none=>rw[List.findIdx?_eq_none_iff] at hf;simp;intro x hx;simp[hf x hx]
  |some i=>rw[List.findIdx?_eq_some_iff_getElem] at hf;simp;exact⟨_,List.getElem_mem hf.1,hf.2.1⟩
 grind
theorem Pb (n:Int):CI E0 IU [.int .i64 n] (.bool (!Cp n 0 1)):=by
 refine AK PY Aq (by simp) fun hwf=>?_
 rw[AW];unfold Kj Cp
 (try (simp -implicitDefEqProofs only[go_sem]));repeat' first|(with_reducible first|exact tI|refine aI ?_ ?_|intro _)|((first|with_reducible refine AM ?_ ?_<;>intro _)<;>try (simp -implicitDefEqProofs only[go_sem]))|simp (disch:=omega) only[An]
 all_goals first|omega|(simp_all[Cp];done)|(simp_all[Cp];omega)|grind
theorem RA {α:Type}(xs:List α) (p:α->Bool):xs.any (fun x=>!p x)=!xs.all p:=by
 induction xs with
 |nil=>rfl
 |cons x xs ih=>simp only[List.any_cons,List.all_cons,ih,Bool.not_and]
theorem IP (nl:Bool) (xs:List Int):CI E0 PH [.list nl (Aj xs)] (.bool (Ap xs)):=by
 refine AK Rh Aq (by simp) fun hwf=>?_
 rw[AW];unfold M_
 simp -implicitDefEqProofs only[go_sem]
 refine HV (CT nl xs IU [] (fun n=>!Cp n 0 1) (by kernel_rfl) rfl fun x _=>Pb x) rfl ?_
 simp -implicitDefEqProofs only[go_sem,RA,Bool.not_not,Ap]
theorem Oh (nl:Bool) (xs:List Int):CI E0 LK [.list nl (Aj xs)] (.bool (Cp xs.length 1 16 && Ap xs)):=by
 refine AK Ob Aq (by simp) fun hwf=>?_
 rw[AW];unfold Js
 (try (simp -implicitDefEqProofs only[go_sem]));repeat' first|(with_reducible first|exact tI|refine aI ?_ ?_|intro _)|((first|with_reducible refine AM ?_ ?_<;>intro _|(with_reducible refine isCall ?_);first|refine AE (Cf _ _ _) ?_|refine AE (IP nl xs) ?_)<;>try (simp -implicitDefEqProofs only[go_sem]))|simp (disch:=omega) only[An]
 all_goals first|omega|(simp_all[Cp];done)|(simp_all[Cp];omega)|grind
theorem Nm (c:AU) (n:Int) (h:1<=c.out/\c.out<=5):CI E0 Gn [.int .i64 n,.ptr (L2 c)] (.bool (!Cp n 0 (2^c.out.toNat-1))):=by
 refine AK NZ Aq (by simp) fun hwf=>?_
 rw[AW];unfold Ir
 simp -implicitDefEqProofs only[go_sem,BN]
 have h1:=QL (k:=c.out.toNat) (by omega)
 have h2:=QK c.out.toNat
 refine⟨by omega,?_⟩
 simp (disch:=omega) only[An]
 refine HV (Cf _ _ _) rfl ?_
 simp -implicitDefEqProofs only[go_sem]
theorem Nl (c:AU) (n:Int):CI E0 Gm [.int .i64 n,.ptr (L2 c)] (.bool (!c.isState n)):=by
 refine AK NY Aq (by simp) fun hwf=>?_
 rw[AW];unfold Iq
 simp -implicitDefEqProofs only[go_sem,BN]
 refine HV (GX c n) rfl ?_
 simp -implicitDefEqProofs only[go_sem]
theorem Mi (c:AU) (n:Int) (h:1<=c.bits/\c.bits<=2):CI E0 GF [.int .i64 n,.ptr (L2 c)] (.bool (!c.isWord n)):=by
 refine AK MY Aq (by simp) fun hwf=>?_
 rw[AW];unfold Hw
 simp -implicitDefEqProofs only[go_sem,BN]
 refine HV (GW c (by omega)) rfl ?_
 simp -implicitDefEqProofs only[go_sem]
 have:=OH h
 simp (disch:=omega) only[An]
 refine HV (Cf _ _ _) rfl ?_
 simp -implicitDefEqProofs only[go_sem,AU.isWord]
theorem Ln (c:AU) (s w:Int) (h:c.ok=true) (hs:c.isState s=true) (hw:c.isWord w=true) :
  CI E0 Fs [HS c,.int .i64 s,.int .i64 w] (.list false (Aj (Cn c.out.toNat (c.wrd s w)))):=by
 refine AK Lj Aq (by simp) fun hwf=>?_
 have hd:=AU.ok_head h
 simp only[AU.isState,AU.isWord,Cp,decide_eq_true_eq] at hs hw
 have hrow:=AU.ok_words h s.toNat (by omega)
 have h12:=OH (b:=c.bits) (by omega)
 rw[AW];unfold HG
 simp -implicitDefEqProofs only[go_sem,BQ,BN,BL]
 simp (disch:=omega) only[An]
 refine AY (α:=Int×Bool×(List Int)) (l0:=?l2) (m0:=?m2) (fun x=>[(8,.d (.int .i64 x.1))]) (fun x=>[(31,.row Sb 1 x.2.1 (Aj x.2.2))]) (fun x=>-1<=x.1/\x.1<c.out/\x.2.2.length+x.1=c.out-1/\x.2.1=x.2.2.isEmpty/\x.2.2++Cn (x.1+1).toNat (c.wrd s w)=Cn c.out.toNat (c.wrd s w)) (fun x=>(x.1+1).toNat) (?a2_0,?a2_1,[]) ?h02 ?he2 ?he22 ?hI2 ?step2
 case h02=>(simp -implicitDefEqProofs only[go_sem,BQ,BN,BL];rfl)
 case he2=>rfl
 case he22=>rfl
 case' step2=>(rintro⟨i,nl,acc⟩ hI;try dsimp only at hI)
 case' hI2=>try dsimp only
 ·simp;(try omega)
 ·(try (simp -implicitDefEqProofs only[go_sem,BL,DL]));repeat' first|(with_reducible first|exact tI|refine aI ?_ ?_|intro _)|((first|with_reducible refine AM ?_ ?_<;>intro _)<;>try (simp -implicitDefEqProofs only[go_sem,BL,DL]))|simp (disch:=omega) only[An]|((with_reducible refine BZ ?_);refine⟨(_,_,_),rfl,?_,?_⟩)
  all_goals first|omega|(simp;done)|(simp;omega)|skip
  ·rw[←hI.2.2.2.2,show (i-1+1).toNat=i.toNat by omega,show (i+1).toNat=i.toNat+1 by omega,Cn,c.wrd_eq]
   simp
  ·have h0:(i+1).toNat=0:=by omega
   have h1:acc=Cn c.out.toNat (c.wrd s w):=by rw[←hI.2.2.2.2,h0,Cn,List.append_nil]
   have h2:acc≠[]:=by rintro rfl;simp at hI;omega
   rw[←h1,hI.2.2.2.1];cases acc with
   |nil=>exact absurd rfl h2
   |cons _ _=>rfl
end
section
attribute [local congr] Bh A7 A8 Au Bi Az A1 A0 Ar Ai Ab AZ Aw Ad Ax BF BJ BH BI BG BK BC Ag Ay Ah BA BS Af BD BE BB A_ A' A6 Bj A9 Av Ae
attribute [local irreducible] IntKind.wrap A5 Option.getD and or
def AU.rowsOk (c:AU) (j:Nat):Bool:=QH (2^c.bits.toNat) (2^c.out.toNat-1) (c.words[j]?.getD default) && QH (2^c.bits.toNat) (c.words.length-1) (c.next[j]?.getD default)
theorem N' (c:AU) (j:Nat):c.rowsOk j=(decide (((c.words[j]?.getD default).2.length:Int)=2^c.bits.toNat) && ((c.words[j]?.getD default).2.all fun n=>Cp n 0 (2^c.out.toNat-1)) &&
  (decide (((c.next[j]?.getD default).2.length:Int)=2^c.bits.toNat) && (c.next[j]?.getD default).2.all c.isState)):=by
 have h:∀(n k:Nat),decide (n=2^k)=decide ((n:Int)=2^k):=fun n k=>by
  have:((2^k:Nat):Int)=(2:Int)^k:=by simp
  rw[←this,decide_eq_decide];omega
 simp only[AU.rowsOk,QH,h];rfl
theorem Wi (c:AU) (hh:c.head=true):c.ok=true↔∀(j:Nat),j<c.words.length->c.rowsOk j=true:=by
 have hl:c.next.length=c.words.length:=by simp[AU.head] at hh;exact hh.2
 simp only[AU.ok,AU.rowsOk,hh,Bool.true_and,Bool.and_eq_true,List.all_eq_true]
 constructor
 ·intro h j h1
  exact⟨h.1 _ (Ks h1),h.2 _ (Ks (by omega))⟩
 ·intro h
  constructor
  ·intro x hx;obtain⟨j,hj,rfl⟩:=List.getElem_of_mem hx;have:=(h j hj).1;simpa[hj] using this
  ·intro x hx;obtain⟨j,hj,rfl⟩:=List.getElem_of_mem hx;have:=(h j (by omega)).2;simpa[hj] using this
theorem cr (c:AU) (hh:c.head=true) (j:Nat) (hj:j<c.words.length) (hb:c.rowsOk j=false):c.ok=false:=by
 cases h:c.ok with
 |false=>rfl
 |true=>have:=(Wi c hh).1 h j hj;rw[this] at hb;cases hb
theorem Jz (c:AU):CI E0 MB [HS c] (.int .i64 (Kx c.ok 40)):=by
 refine AK PZ Aq (by simp) fun hwf=>?_
 simp only[Dx,DK,DJ,C0,EH,EG,Fz,EF,Bk,Bv,Bw,DM,B9,List.length_map,B5,true_and,and_true,BQ,BN,BL] at hwf
 have noHead:c.head=false->Kx c.ok 40=40:=fun h=>by simp[Kx,AU.ok,h]
 rw[AW];unfold Kk
 (try (simp -implicitDefEqProofs only[go_sem,BQ,BN,BL]));repeat' first|(with_reducible first|exact tI|refine aI ?_ ?_|intro _)|((first|with_reducible refine AM ?_ ?_<;>intro _|(with_reducible refine isCall ?_);first|refine AE (Cf _ _ _) ?_)<;>try (simp -implicitDefEqProofs only[go_sem,BQ,BN,BL]))|simp (disch:=omega) only[An]|((with_reducible refine Ao ?_);refine⟨_,rfl,?_,?_⟩)
 all_goals first|(rw[noHead (by cases hh:c.head;rfl;exfalso;simp only[AU.head,Cp,Bool.and_eq_true,decide_eq_true_eq,decide_eq_false_iff_not] at *;omega)];done)|skip
 have hh:c.head=true:=by simp only[AU.head,Cp,Bool.and_eq_true,decide_eq_true_eq,decide_eq_false_iff_not] at *;omega
 have ho:1<=c.out/\c.out<=5:=by simp_all[Cp]
 have hb:1<=c.bits/\c.bits<=2:=by simp_all[Cp]
 have hl:c.next.length=c.words.length:=by omega
 have h12:=OH hb
 have c1:=fun nl xs=>CT nl xs Gn [.ptr (L2 c)] (fun n=>!Cp n 0 (2^c.out.toNat-1)) (by kernel_rfl) rfl (fun x _=>Nm c x ho)
 have c2:=fun nl xs=>CT nl xs Gm [.ptr (L2 c)] (fun n=>!c.isState n) (by kernel_rfl) rfl (fun x _=>Nl c x)
 simp only[RA] at c1 c2
 have bad:∀j,j<c.words.length->c.rowsOk j=false->Kx c.ok 40=40:=fun j hj h=>by rw[Kx,cr c hh j hj h];rfl
 refine AY (α:=Int) (l0:=?l1) (m0:=?m1) (fun x=>[(63,.d (.int .i64 x))]) (fun x=>[]) (fun x=>0<=x/\x<=c.words.length/\∀(j:Nat),(j:Int)<x->c.rowsOk j=true) (fun x=>(c.words.length-x).toNat) ?a1_0 ?h01 ?he1 ?he21 ?hI1 ?step1
 case h01=>(simp -implicitDefEqProofs only[go_sem,BQ,BN,BL];rfl)
 case he1=>rfl
 case he21=>rfl
 case' step1=>(rintro i hI;try dsimp only at hI)
 case' hI1=>try dsimp only
 ·simp;omega
 ·(try (simp -implicitDefEqProofs only[go_sem,BL,DL]));repeat' first|(with_reducible first|exact tI|refine aI ?_ ?_|intro _)|((first|with_reducible refine AM ?_ ?_<;>intro _|(with_reducible refine isCall ?_);first|refine AE (GW c (by omega)) ?_|refine AE (c1 _ _) ?_|refine AE (c2 _ _) ?_)<;>try (simp -implicitDefEqProofs only[go_sem,BL,DL]))|simp (disch:=omega) only[An]|((with_reducible refine Ao ?_);refine⟨_,rfl,?_,?_⟩)
  all_goals first|omega|(simp;done)|(simp;omega)|skip
  all_goals try (refine congrArg (D.int .i64) (bad i.toNat (by omega) ?_).symm;rw[N'];generalize ((c.words[i.toNat]?.getD default).2.all fun n=>Cp n 0 (2^c.out.toNat-1))=A at *;generalize (c.next[i.toNat]?.getD default).2.all c.isState=B at *;cases A<;>cases B<;>simp_all;done)
  ·rename_i j hj
   by_cases hji:j=i.toNat
   ·subst hji;rw[N'];generalize ((c.words[i.toNat]?.getD default).2.all fun n=>Cp n 0 (2^c.out.toNat-1))=A at *;generalize (c.next[i.toNat]?.getD default).2.all c.isState=B at *;cases A<;>cases B<;>simp_all
   ·exact hI.2.2 j (by omega)
  ·have:c.ok=true:=(Wi c hh).2 fun j hj=>hI.2.2 j (by omega)
   rw[Kx,this];rfl
theorem Qw (c:AU) (s:Int):CI E0 Nz [HS c,.int .i64 s] (.tup [HS c,.int .i64 (if !c.ok then 40 else if !c.isState s then 41 else 0)]):=by
 refine AK Qp Aq (by simp) fun hwf=>?_
 rw[AW];unfold Lw
 (try (simp -implicitDefEqProofs only[go_sem,BQ,BN]));repeat' first|(with_reducible first|exact tI|refine aI ?_ ?_|intro _)|((first|with_reducible refine AM ?_ ?_<;>intro _|(with_reducible refine isCall ?_);first|refine AE (Jz c) ?_|refine AE (GX c s) ?_)<;>try (simp -implicitDefEqProofs only[go_sem,BQ,BN]))|simp (disch:=omega) only[An]
 all_goals (cases hok:c.ok<;>cases hst:c.isState s<;>simp_all[Kx,BQ,BN])
end
section
attribute [local congr] Bh A7 A8 Au Bi Az A1 A0 Ar Ai Ab AZ Aw Ad Ax BF BJ BH BI BG BK BC Ag Ay Ah BA BS Af BD BE BB A_ A' A6 Bj A9 Av Ae
attribute [local irreducible] IntKind.wrap A5 Option.getD and or
theorem Oi (c:AU) (s:Int) (nl:Bool) (l:List Int):CI E0 LL [HS c,.int .i64 s,.list nl (Aj l)] (.tup [.list (c.encode s l).1.isEmpty (Aj (c.encode s l).1),.int .i64 (c.encode s l).2.1,.int .i64 (c.encode s l).2.2]):=by
 refine AK Oc Aq (by simp) fun hwf=>?_
 rw[AW];unfold Jt
 simp -implicitDefEqProofs only[go_sem,BQ,BN]
 refine HV (Qw c s) rfl ?_
 simp -implicitDefEqProofs only[go_sem,BQ,BN]
 by_cases hok:c.ok=true/\c.isState s=true
 ·obtain⟨h1,h2⟩:=hok
  have hd:=AU.ok_head h1
  have c1:=fun nl xs=>CT nl xs GF [.ptr (L2 c)] (fun n=>!c.isWord n) (by kernel_rfl) rfl (fun x _=>Mi c x (by omega))
  simp only[RA] at c1
  simp only[h1,h2,Bool.not_true,Bool.false_eq_true,if_false]
  (try (simp -implicitDefEqProofs only[go_sem]));repeat' first|(with_reducible first|exact tI|refine aI ?_ ?_|intro _)|((first|with_reducible refine AM ?_ ?_<;>intro _|(with_reducible refine isCall ?_);first|refine AE (c1 _ _) ?_)<;>try (simp -implicitDefEqProofs only[go_sem]))|simp (disch:=omega) only[An]|((with_reducible refine CW ?_);refine⟨(_,_,_,_),rfl,?_,?_⟩)
  ·have:c.isData l=false:=by simp[AU.isData];omega
   simp[AU.encode,h1,h2,this]
  ·have:c.isData l=false:=by simp only[AU.isData];simp_all
   simp[AU.encode,h1,h2,this]
  ·have hdt:c.isData l=true:=by simp only[AU.isData];simp_all;omega
   have hen:c.encode s l=((c.stream s l).1,(c.stream s l).2,0):=by simp[AU.encode,h1,h2,hdt]
   have hlw:∀w,w∈l->c.isWord w=true:=by simp only[AU.isData,Bool.and_eq_true,List.all_eq_true] at hdt;exact hdt.2
   have hl24:l.length<=24:=by simp[AU.isData] at hdt;exact hdt.1
   rw[hen]
   refine AY (α:=Int×Int×Bool×(List Int)) (l0:=?l1) (m0:=?m1) (fun x=>[(31,.d (.int .i64 x.1)),(1,.d (.int .i64 x.2.1))]) (fun x=>[(40,.row Sb 1 x.2.2.1 (Aj x.2.2.2))]) (fun x=>0<=x.1/\x.1<=l.length/\c.isState x.2.1=true/\x.2.2.1=x.2.2.2.isEmpty/\x.2.2.2.length=c.out.toNat * x.1.toNat/\c.stream s l=(x.2.2.2++(c.stream x.2.1 (l.drop x.1.toNat)).1,(c.stream x.2.1 (l.drop x.1.toNat)).2)) (fun x=>(l.length-x.1).toNat) (?a1_0,?a1_1,?a1_2,[]) ?h01 ?he1 ?he21 ?hI1 ?step1
   case h01=>(simp -implicitDefEqProofs only[go_sem,BQ,BN];rfl)
   case he1=>rfl
   case he21=>rfl
   case' step1=>(rintro⟨i,t,nl',acc⟩ hI;try dsimp only at hI)
   case' hI1=>try dsimp only
   ·simp[h2]
   ·have hcb:∀w,w∈l->CI E0 Fs [HS c,.int .i64 t,.int .i64 w] (.list false (Aj (Cn c.out.toNat (c.wrd t w)))):=fun w hw=>Ln c t w h1 hI.2.2.1 (hlw w hw)
    by_cases hi:i<l.length
    ·have hm:l[i.toNat]?.getD 0∈l:=EC (by omega)
     have hcb:=hcb _ hm
     have hst:=hI.2.2.1
     simp only[AU.isState,Cp,decide_eq_true_eq] at hst
     have hn:=AU.ok_next h1 t.toNat (by omega)
     have h12:=OH (b:=c.bits) (by omega)
     have hwd:=hlw _ hm
     simp only[AU.isWord,Cp,decide_eq_true_eq] at hwd
     have hbl:=IQ c.out.toNat (c.wrd t (l[i.toNat]?.getD 0))
     have hbig:c.out.toNat * i.toNat<=5*24:=Nat.mul_le_mul (by omega) (by omega)
     (try (simp -implicitDefEqProofs only[go_sem,BL,DL]));repeat' first|(with_reducible first|exact tI|refine aI ?_ ?_|intro _)|((first|with_reducible refine AM ?_ ?_<;>intro _|(with_reducible refine isCall ?_);first|refine AE hcb ?_)<;>try (simp -implicitDefEqProofs only[go_sem,BL,DL]))|simp (disch:=omega) only[An]|((with_reducible refine CW ?_);refine⟨(_,_,_,_),rfl,?_,?_⟩)
     all_goals first|omega|(simp;done)|(simp;omega)|skip
     ·exact AU.nxt_state h1 hI.2.2.1 (hlw _ hm)
     ·rw[hI.2.2.2.1];cases acc<;>simp
     ·rw[List.length_append,hI.2.2.2.2.1,hbl,show (i+1).toNat=i.toNat+1 by omega,Nat.mul_succ]
     ·have hdrop:l.drop i.toNat=(l[i.toNat]?.getD 0)::l.drop (i+1).toNat:=by
       rw[show (i+1).toNat=i.toNat+1 by omega,List.drop_eq_getElem_cons (by omega),List.getElem?_eq_getElem (by omega),Option.getD_some]
      rw[hI.2.2.2.2.2,hdrop,AU.stream]
      simp[c.nxt_eq,List.append_assoc]
    ·(try (simp -implicitDefEqProofs only[go_sem]));repeat' first|(with_reducible first|exact tI|refine aI ?_ ?_|intro _)|((first|with_reducible refine AM ?_ ?_<;>intro _)<;>try (simp -implicitDefEqProofs only[go_sem]))|simp (disch:=omega) only[An]|((with_reducible refine CW ?_);refine⟨(_,_,_,_),rfl,?_,?_⟩)
     all_goals first|omega|(simp;done)|(simp;omega)|skip
     have h0:l.drop i.toNat=[]:=List.drop_eq_nil_of_le (by omega)
     rw[hI.2.2.2.2.2,h0,AU.stream,hI.2.2.2.1]
     simp
 ·have hk:c.encode s l=([],0,if !c.ok then 40 else 41):=by
   simp only[AU.encode];cases hok1:c.ok<;>cases hst:c.isState s<;>simp_all
  rw[hk]
  (try (simp -implicitDefEqProofs only[go_sem]));repeat' first|(with_reducible first|exact tI|refine aI ?_ ?_|intro _)|((first|with_reducible refine AM ?_ ?_<;>intro _)<;>try (simp -implicitDefEqProofs only[go_sem]))|simp (disch:=omega) only[An]|((with_reducible refine CW ?_);refine⟨(_,_,_,_),rfl,?_,?_⟩)
  all_goals (cases hok1:c.ok<;>cases hst:c.isState s<;>simp_all)
theorem Mh (n1 n2:Bool) (xs ys:List Int) (hx:Ap xs=true) (hy:Ap ys=true) (hl:xs.length<=ys.length) (h128:xs.length<=1000000) :
  CI E0 JA [.list n1 (Aj xs),.list n2 (Aj ys)] (.int .i64 (Ce xs ys)):=by
 refine AK MW Aq (by simp) fun hwf=>?_
 rw[AW];unfold Hu
 simp -implicitDefEqProofs only[go_sem]
 refine AY (α:=Int×Int) (l0:=?l2) (m0:=?m2) (fun x=>[(9,.d (.int .i64 x.1)),(4,.d (.int .i64 x.2))]) (fun x=>[]) (fun x=>0<=x.1/\x.1<=xs.length/\0<=x.2/\x.2<=x.1/\x.2+Ce (xs.drop x.1.toNat) (ys.drop x.1.toNat)=Ce xs ys) (fun x=>(xs.length-x.1).toNat) (?a2_0,?a2_1) ?h02 ?he2 ?he22 ?hI2 ?step2
 case h02=>(simp -implicitDefEqProofs only[go_sem];rfl)
 case he2=>rfl
 case he22=>rfl
 case' step2=>(rintro⟨i,n⟩ hI;try dsimp only at hI)
 case' hI2=>try dsimp only
 ·simp
 ·by_cases hi:i<xs.length
  ·obtain⟨e,he⟩:∃e:Int,(if xs[i.toNat]?.getD 0=ys[i.toNat]?.getD 0 then 0 else 1)=e:=⟨_,rfl⟩
   have hxor:=Sg (Ee hx (i:=i.toNat) (by omega)) (Ee hy (i:=i.toNat) (by omega))
   have hd:Ce (xs.drop i.toNat) (ys.drop i.toNat)=e+Ce (xs.drop (i+1).toNat) (ys.drop (i+1).toNat):=by
    rw[Fi (xs:=xs) (i:=i.toNat) (by omega),Fi (xs:=ys) (i:=i.toNat) (by omega),Ce,he,show (i+1).toNat=i.toNat+1 by omega]
   rw[he] at hxor
   have he1:e=0\/e=1:=by rw[←he];split<;>simp
   (try (simp -implicitDefEqProofs only[go_sem]));repeat' first|(with_reducible first|exact tI|refine aI ?_ ?_|intro _)|((first|with_reducible refine AM ?_ ?_<;>intro _)<;>try (simp -implicitDefEqProofs only[go_sem]))|simp (disch:=omega) only[An]|((with_reducible refine Am ?_);refine⟨(_,_),rfl,?_,?_⟩)
   all_goals (try simp only[hxor])
   all_goals (try rw[Ak _ (by omega)])
   all_goals omega
  ·(try (simp -implicitDefEqProofs only[go_sem]));repeat' first|(with_reducible first|exact tI|refine aI ?_ ?_|intro _)|((first|with_reducible refine AM ?_ ?_<;>intro _)<;>try (simp -implicitDefEqProofs only[go_sem]))|simp (disch:=omega) only[An]|((with_reducible refine Am ?_);refine⟨(_,_),rfl,?_,?_⟩)
   all_goals first|omega|(simp;done)|(simp;omega)|skip
   have h0:xs.drop i.toNat=[]:=List.drop_eq_nil_of_le (by omega)
   have h1:Ce [] (ys.drop i.toNat)=0:=by simp[Ce]
   rw[h0,h1] at hI
   rw[←hI.2.2.2.2];simp
def Kw (mark bits:List Int) (e:Int):Nat->Int->List Int
 |0,_=>[]
 |n+1,i=>if Ce mark (bits.drop i.toNat)<=e then i::Kw mark bits e n (i+1) else Kw mark bits e n (i+1)
def Ci (mark:List Int):Bool:=Cp mark.length 1 16 && Ap mark
def Ku (mark bits:List Int) (e:Int):List Int×Int :=
 if !(Ci mark && decide (bits.length<=128) && Ap bits && Cp e 0 16) then ([],1)
 else (Kw mark bits e (bits.length+1-mark.length) 0,0)
theorem Ei {xs:List Int}(h:Ap xs=true) (n:Nat):Ap (xs.drop n)=true:=by
 simp only[Ap,List.all_eq_true] at *
 exact fun x hx=>h x (List.mem_of_mem_drop hx)
theorem Qx (n1 n2:Bool) (mark bits:List Int) (e:Int):CI E0 N0 [.list n1 (Aj mark),.list n2 (Aj bits),.int .i64 e]
  (.tup [.list (Ku mark bits e).1.isEmpty (Aj (Ku mark bits e).1),.int .i64 (Ku mark bits e).2]):=by
 refine AK Qq Aq (by simp) fun hwf=>?_
 simp only[Dx,DK,DJ,C0,EH,EG,Fz,EF,Bk,Bv,Bw,DM,B9,List.length_map,B5,true_and,and_true] at hwf
 have bad:(Ci mark && decide (bits.length<=128) && Ap bits && Cp e 0 16)=false->Ku mark bits e=([],1):=fun h=>by simp only[Ku,h];rfl
 have bad2:¬bits.length<=128->Ku mark bits e=([],1):=fun h=>bad (by
      have:decide (bits.length<=128)=false:=by simpa using h
      simp[this])
 rw[AW];unfold Lx
 (try (simp -implicitDefEqProofs only[go_sem]));repeat' first|(with_reducible first|exact tI|refine aI ?_ ?_|intro _)|((first|with_reducible refine AM ?_ ?_<;>intro _|(with_reducible refine isCall ?_);first|refine AE (Oh _ _) ?_|refine AE (IP _ _) ?_|refine AE (Cf _ _ _) ?_)<;>try (simp -implicitDefEqProofs only[go_sem]))|simp (disch:=omega) only[An]|((with_reducible refine BZ ?_);refine⟨(_,_,_),rfl,?_,?_⟩)
 all_goals first|(
     have hx:¬bits.length<=128:=by omega
     rw[bad2 hx];rfl)|skip
 all_goals first|(
     have hx:(Ci mark && decide (bits.length<=128) && Ap bits && Cp e 0 16)=false:=by(simp_all[Ci];done)
     rw[bad hx];rfl)|skip
 have hm:Ci mark=true:=by assumption
 have hb:Ap bits=true:=by assumption
 have h128:bits.length<=128:=by omega
 have hgood:Ku mark bits e=(Kw mark bits e (bits.length+1-mark.length) 0,0):=by simp only[Ku];simp_all
 have hmb:Ap mark=true:=by simp only[Ci,Bool.and_eq_true] at hm;exact hm.2
 have hm1:1<=mark.length/\mark.length<=16:=by simp[Ci,Cp] at hm;omega
 rw[hgood]
 refine AY (α:=Int×Bool×(List Int)) (l0:=?l3) (m0:=?m3) (fun x=>[(35,.d (.int .i64 x.1))]) (fun x=>[(48,.row Sb 1 x.2.1 (Aj x.2.2))]) (fun x=>0<=x.1/\x.1<=max 0 (bits.length-mark.length+1:Int)/\x.2.2.length<=x.1/\x.2.1=x.2.2.isEmpty/\x.2.2++Kw mark bits e (bits.length+1-mark.length-x.1.toNat) x.1=Kw mark bits e (bits.length+1-mark.length) 0) (fun x=>(max 0 (bits.length-mark.length+1:Int)-x.1).toNat) (?a3_0,?a3_1,[]) ?h03 ?he3 ?he23 ?hI3 ?step3
 case h03=>(simp -implicitDefEqProofs only[go_sem];rfl)
 case he3=>rfl
 case he23=>rfl
 case' step3=>(rintro⟨i,nl,acc⟩ hI;try dsimp only at hI)
 case' hI3=>try dsimp only
 ·simp;omega
 ·by_cases hi:i<max 0 (bits.length-mark.length+1:Int)
  ·have hstep:Kw mark bits e (bits.length+1-mark.length-i.toNat) i=if Ce mark (bits.drop i.toNat)<=e then i::Kw mark bits e (bits.length+1-mark.length-(i+1).toNat) (i+1) else Kw mark bits e (bits.length+1-mark.length-(i+1).toNat) (i+1):=by
    rw[show bits.length+1-mark.length-i.toNat=(bits.length+1-mark.length-(i+1).toNat)+1 by omega,Kw]
   have cd:=fun n1 n2=>Mh n1 n2 mark (bits.drop i.toNat) hmb (Ei hb _) (by simp;omega) (by omega)
   (try (simp -implicitDefEqProofs only[go_sem]));repeat' first|(with_reducible first|exact tI|refine aI ?_ ?_|intro _)|((first|with_reducible refine AM ?_ ?_<;>intro _|(with_reducible refine isCall ?_);first|refine AE (cd _ _) ?_)<;>try (simp -implicitDefEqProofs only[go_sem]))|simp (disch:=omega) only[An]|((with_reducible refine BZ ?_);refine⟨(_,_,_),rfl,?_,?_⟩)
   all_goals first|omega|(simp;done)|(simp;omega)|skip
   ·rw[←hI.2.2.2.2,hstep,if_pos (by assumption)];simp
   ·exact hI.2.2.2.1
   ·rw[←hI.2.2.2.2,hstep,if_neg (by assumption)]
  ·(try (simp -implicitDefEqProofs only[go_sem]));repeat' first|(with_reducible first|exact tI|refine aI ?_ ?_|intro _)|((first|with_reducible refine AM ?_ ?_<;>intro _)<;>try (simp -implicitDefEqProofs only[go_sem]))|simp (disch:=omega) only[An]|((with_reducible refine BZ ?_);refine⟨(_,_,_),rfl,?_,?_⟩)
   all_goals first|omega|(simp;done)|(simp;omega)|skip
   have h0:bits.length+1-mark.length-i.toNat=0:=by omega
   have h1:=hI.2.2.2.2
   rw[h0,Kw,List.append_nil] at h1
   rw[←h1,hI.2.2.2.1]
end
end Go.Pw
