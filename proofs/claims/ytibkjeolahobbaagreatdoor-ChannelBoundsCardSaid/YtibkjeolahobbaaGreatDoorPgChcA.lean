/- A part of the proof. -/
import Derived.Test.YtibkjeolahobbaaGreatDoorChPC
import Derived.Test.YtibkjeolahobbaaGreatDoorPwVC
import Derived.Test.YtibkjeolahobbaaGreatDoorCodesSpec
set_option linter.all false
open Go Go.Pw Go.Proofs
namespace Go.Pw
set_option maxRecDepth 100000
set_option maxHeartbeats 800000
section
attribute [local congr] Bf A9 A_ Aq Bg Ax Az Ay Ap Aj Ad AZ Au Ae Av BK BO BM BN BL BP BE Ah Aw Ai BC BW Ag BI BJ BD BF BH BG BA BB A8 Bj A' Ar Af
attribute [local irreducible] IntKind.wrap A4 Option.getD and or
theorem Ci (n lo hi:Int):B' E0 LV [.int .i64 n,.int .i64 lo,.int .i64 hi] (.bool (Ct n lo hi)):=by
 refine AO O7 An (by simp) fun hwf=>?_
 rw[AW];unfold J0 Ct
 (try (simp -implicitDefEqProofs only[go_sem]));repeat' first|(with_reducible first|exact tI|refine aI ?_ ?_|intro _)|((first|with_reducible refine AN ?_ ?_<;>intro _)<;>try (simp -implicitDefEqProofs only[go_sem]))|simp (disch:=omega) only[Al]
 all_goals first|omega|(simp_all[Ct];done)|(simp_all[Ct];omega)|grind
theorem DG (n lo hi:Int):B' E0 LQ [.int .i64 n,.int .i64 lo,.int .i64 hi] (.bool (Ct n lo hi)):=by
 refine AO O2 An (by simp) fun hwf=>?_
 rw[AW];unfold Jv Ct
 (try (simp -implicitDefEqProofs only[go_sem]));repeat' first|(with_reducible first|exact tI|refine aI ?_ ?_|intro _)|((first|with_reducible refine AN ?_ ?_<;>intro _)<;>try (simp -implicitDefEqProofs only[go_sem]))|simp (disch:=omega) only[Al]
 all_goals first|omega|(simp_all[Ct];done)|(simp_all[Ct];omega)|grind
theorem Gg (c:AU) (h:0<=c.bits/\c.bits<=2):B' E0 Hm [Fx c] (.int .i64 (2^c.bits.toNat)):=by
 refine AO LD An (by simp) fun hwf=>?_
 rw[AW];unfold G3
 simp -implicitDefEqProofs only[go_sem,BQ,A5]
 exact⟨h.1,by simp (disch:=omega) only[Al]⟩
theorem Gh (c:AU) (n:Int):B' E0 Hn [Fx c,.int .i64 n] (.bool (c.isState n)):=by
 refine AO LE An (by simp) fun hwf=>?_
 simp only[Dv,C7,C6,Cu,D9,D8,Fh,D7,Bl,Bs,Bt,C_,B8,List.length_map,B4,true_and,and_true,BQ,A5,A7] at hwf
 rw[AW];unfold G4
 simp -implicitDefEqProofs only[go_sem,BQ,A5,A7]
 simp (disch:=omega) only[Al]
 refine Hf (Ci _ _ _) rfl ?_
 simp -implicitDefEqProofs only[go_sem,AU.isState]
theorem L1 (nl:Bool) (xs:List Int) (f:FuncId) (cs:List D) (p:Int->Bool) (hb:Bv E0.P f=true) (hcs:BR AV.toD1 (cs.map .d)=some cs) (h:∀x,x∈xs->B' E0 f (.int .i64 x::cs) (.bool (p x))) :
  B' E0 DQ [.list nl (Am xs),.fn f cs] (.int .i64 (match xs.findIdx? p with|some i=>i|none=>-1)):=by
 refine AO EJ An (by simp) fun hwf=>?_
 simp only[Dv,C7,C6,Cu,D9,D8,Fh,D7,Bl,Bs,Bt,C_,B8,List.length_map,B4,true_and,and_true] at hwf
 rw[AW];unfold C8
 simp -implicitDefEqProofs only[go_sem]
 refine AY (α:=Int) (l0:=?l1) (m0:=?m1) (fun x=>[(8,.d (.int .i64 x))]) (fun x=>[]) (fun x=>0<=x/\x<=xs.length/\∀(j:Nat) (hj:j<xs.length),(j:Int)<x->p xs[j]=false) (fun x=>(xs.length-x).toNat) ?a1_0 ?h01 ?he1 ?he21 ?hI1 ?step1
 case h01=>(simp -implicitDefEqProofs only[go_sem];rfl)
 case he1=>rfl
 case he21=>rfl
 case' step1=>(rintro i hI;try dsimp only at hI)
 case' hI1=>try dsimp only
 ·simp
  omega
 ·(try (simp -implicitDefEqProofs only[go_sem]));repeat' first|(with_reducible first|exact tI|refine aI ?_ ?_|intro _)|((first|with_reducible refine AN ?_ ?_<;>intro _)<;>try (simp -implicitDefEqProofs only[go_sem]))|simp (disch:=omega) only[Al]|((with_reducible refine Ao ?_);refine⟨_,rfl,?_,?_⟩)
  all_goals first|omega|(simp;done)|(simp;omega)|skip
  ·have hx:xs[i.toNat]?.getD 0=xs[i.toNat]'(by omega):=by rw[List.getElem?_eq_getElem (by omega),Option.getD_some]
   rw[hx]
   refine Yd (h _ (List.getElem_mem _)) (LK rfl hcs) (fun hp=>?_) (fun hp=>?_)
   ·simp -implicitDefEqProofs only[go_sem]
    have:xs.findIdx? p=some i.toNat:=by rw[List.findIdx?_eq_some_iff_getElem];exact⟨by omega,hp,fun j hj=>by simp[hI.2.2 j (by omega) (by omega)]⟩
    rw[this];simp;omega
   ·(try (simp -implicitDefEqProofs only[go_sem]));repeat' first|(with_reducible first|exact tI|refine aI ?_ ?_|intro _)|((first|with_reducible refine AN ?_ ?_<;>intro _)<;>try (simp -implicitDefEqProofs only[go_sem]))|simp (disch:=omega) only[Al]|((with_reducible refine Ao ?_);refine⟨_,rfl,?_,?_⟩)
    all_goals first|omega|(simp;done)|(simp;omega)|skip
    rename_i j hj hlt
    by_cases hjk:j=i.toNat
    ·subst hjk;exact hp
    ·exact hI.2.2 j hj (by omega)
  ·have:xs.findIdx? p=none:=by
    rw[List.findIdx?_eq_none_iff];intro x hx;obtain⟨j,hj,rfl⟩:=List.getElem_of_mem hx;exact hI.2.2 j hj (by omega)
   rw[this]
theorem CV (nl:Bool) (xs:List Int) (f:FuncId) (cs:List D) (p:Int->Bool) (hb:Bv E0.P f=true) (hcs:BR AV.toD1 (cs.map .d)=some cs) (h:∀x,x∈xs->B' E0 f (.int .i64 x::cs) (.bool (p x))) :
  B' E0 B_ [.list nl (Am xs),.fn f cs] (.bool (xs.any p)):=by
 refine AO Dm An (by simp) fun hwf=>?_
 rw[AW];unfold Cg
 simp -implicitDefEqProofs only[go_sem]
 refine Hf (L1 nl xs f cs p hb hcs h) rfl ?_
 simp -implicitDefEqProofs only[go_sem]
 have key:(0:Int)<=(match xs.findIdx? p with|some i=>(i:Int)|none=>-1)↔xs.any p=true:=by
  cases hf:xs.findIdx? p with
  |none=>rw[List.findIdx?_eq_none_iff] at hf;simp;intro x hx;simp[hf x hx]
  |some i=>rw[List.findIdx?_eq_some_iff_getElem] at hf;simp;exact⟨_,List.getElem_mem hf.1,hf.2.1⟩
 grind
theorem QC (n:Int):B' E0 Ie [.int .i64 n] (.bool (!Ct n 0 1)):=by
 refine AO P' An (by simp) fun hwf=>?_
 rw[AW];unfold Kv Ct
 (try (simp -implicitDefEqProofs only[go_sem]));repeat' first|(with_reducible first|exact tI|refine aI ?_ ?_|intro _)|((first|with_reducible refine AN ?_ ?_<;>intro _)<;>try (simp -implicitDefEqProofs only[go_sem]))|simp (disch:=omega) only[Al]
 all_goals first|omega|(simp_all[Ct];done)|(simp_all[Ct];omega)|grind
theorem Rv {α:Type}(xs:List α) (p:α->Bool):xs.any (fun x=>!p x)=!xs.all p:=by
 induction xs with
 |nil=>rfl
 |cons x xs ih=>simp only[List.any_cons,List.all_cons,ih,Bool.not_and]
theorem Ia (nl:Bool) (xs:List Int):B' E0 Pp [.list nl (Am xs)] (.bool (A1 xs)):=by
 refine AO SR An (by simp) fun hwf=>?_
 rw[AW];unfold NU
 simp -implicitDefEqProofs only[go_sem]
 refine Hf (CV nl xs Ie [] (fun n=>!Ct n 0 1) (by kernel_rfl) rfl fun x _=>QC x) rfl ?_
 simp -implicitDefEqProofs only[go_sem,Rv,Bool.not_not,A1]
theorem PB (nl:Bool) (xs:List Int):B' E0 LW [.list nl (Am xs)] (.bool (Ct xs.length 1 16 && A1 xs)):=by
 refine AO O8 An (by simp) fun hwf=>?_
 rw[AW];unfold J1
 (try (simp -implicitDefEqProofs only[go_sem]));repeat' first|(with_reducible first|exact tI|refine aI ?_ ?_|intro _)|((first|with_reducible refine AN ?_ ?_<;>intro _|(with_reducible refine isCall ?_);first|refine AE (Ci _ _ _) ?_|refine AE (Ia nl xs) ?_)<;>try (simp -implicitDefEqProofs only[go_sem]))|simp (disch:=omega) only[Al]
 all_goals first|omega|(simp_all[Ct];done)|(simp_all[Ct];omega)|grind
theorem N8 (c:AU) (n:Int) (h:1<=c.out/\c.out<=5):B' E0 Gy [.int .i64 n,.ptr (MI c)] (.bool (!Ct n 0 (2^c.out.toNat-1))):=by
 refine AO Nv An (by simp) fun hwf=>?_
 rw[AW];unfold I1
 simp -implicitDefEqProofs only[go_sem,A5]
 have h1:=Qx (k:=c.out.toNat) (by omega)
 have h2:=Qw c.out.toNat
 refine⟨by omega,?_⟩
 simp (disch:=omega) only[Al]
 refine Hf (Ci _ _ _) rfl ?_
 simp -implicitDefEqProofs only[go_sem]
theorem N7 (c:AU) (n:Int):B' E0 Gx [.int .i64 n,.ptr (MI c)] (.bool (!c.isState n)):=by
 refine AO Nu An (by simp) fun hwf=>?_
 rw[AW];unfold I0
 simp -implicitDefEqProofs only[go_sem,A5]
 refine Hf (Gh c n) rfl ?_
 simp -implicitDefEqProofs only[go_sem]
theorem Mz (c:AU) (n:Int) (h:1<=c.bits/\c.bits<=2):B' E0 GP [.int .i64 n,.ptr (MI c)] (.bool (!c.isWord n)):=by
 refine AO Mp An (by simp) fun hwf=>?_
 rw[AW];unfold H6
 simp -implicitDefEqProofs only[go_sem,A5]
 refine Hf (Gg c (by omega)) rfl ?_
 simp -implicitDefEqProofs only[go_sem]
 have:=Om h
 simp (disch:=omega) only[Al]
 refine Hf (Ci _ _ _) rfl ?_
 simp -implicitDefEqProofs only[go_sem,AU.isWord]
theorem L0 (c:AU) (s w:Int) (h:c.ok=true) (hs:c.isState s=true) (hw:c.isWord w=true) :
  B' E0 F6 [Fx c,.int .i64 s,.int .i64 w] (.list false (Am (Cr c.out.toNat (c.wrd s w)))):=by
 refine AO Lw An (by simp) fun hwf=>?_
 have hd:=AU.ok_head h
 simp only[AU.isState,AU.isWord,Ct,decide_eq_true_eq] at hs hw
 have hrow:=AU.ok_words h s.toNat (by omega)
 have h12:=Om (b:=c.bits) (by omega)
 rw[AW];unfold HQ
 simp -implicitDefEqProofs only[go_sem,BQ,A5,A7]
 simp (disch:=omega) only[Al]
 refine AY (α:=Int×Bool×(List Int)) (l0:=?l2) (m0:=?m2) (fun x=>[(8,.d (.int .i64 x.1))]) (fun x=>[(31,.row TI 1 x.2.1 (Am x.2.2))]) (fun x=>-1<=x.1/\x.1<c.out/\x.2.2.length+x.1=c.out-1/\x.2.1=x.2.2.isEmpty/\x.2.2++Cr (x.1+1).toNat (c.wrd s w)=Cr c.out.toNat (c.wrd s w)) (fun x=>(x.1+1).toNat) (?a2_0,?a2_1,[]) ?h02 ?he2 ?he22 ?hI2 ?step2
 case h02=>(simp -implicitDefEqProofs only[go_sem,BQ,A5,A7];rfl)
 case he2=>rfl
 case he22=>rfl
 case' step2=>(rintro⟨i,nl,acc⟩ hI;try dsimp only at hI)
 case' hI2=>try dsimp only
 ·simp;(try omega)
 ·(try (simp -implicitDefEqProofs only[go_sem,A7,Cc]));repeat' first|(with_reducible first|exact tI|refine aI ?_ ?_|intro _)|((first|with_reducible refine AN ?_ ?_<;>intro _)<;>try (simp -implicitDefEqProofs only[go_sem,A7,Cc]))|simp (disch:=omega) only[Al]|((with_reducible refine BS ?_);refine⟨(_,_,_),rfl,?_,?_⟩)
  all_goals first|omega|(simp;done)|(simp;omega)|skip
  ·rw[←hI.2.2.2.2,show (i-1+1).toNat=i.toNat by omega,show (i+1).toNat=i.toNat+1 by omega,Cr,c.wrd_eq]
   simp
  ·have h0:(i+1).toNat=0:=by omega
   have h1:acc=Cr c.out.toNat (c.wrd s w):=by rw[←hI.2.2.2.2,h0,Cr,List.append_nil]
   have h2:acc≠[]:=by rintro rfl;simp at hI;omega
   rw[←h1,hI.2.2.2.1];cases acc with
   |nil=>exact absurd rfl h2
   |cons _ _=>rfl
end
section
attribute [local congr] Bf A9 A_ Aq Bg Ax Az Ay Ap Aj Ad AZ Au Ae Av BK BO BM BN BL BP BE Ah Aw Ai BC BW Ag BI BJ BD BF BH BG BA BB A8 Bj A' Ar Af
attribute [local irreducible] IntKind.wrap A4 Option.getD and or
def AU.rowsOk (c:AU) (j:Nat):Bool:=NP (2^c.bits.toNat) (2^c.out.toNat-1) (c.words[j]?.getD default) && NP (2^c.bits.toNat) (c.words.length-1) (c.next[j]?.getD default)
theorem Oe (c:AU) (j:Nat):c.rowsOk j=(decide (((c.words[j]?.getD default).2.length:Int)=2^c.bits.toNat) && ((c.words[j]?.getD default).2.all fun n=>Ct n 0 (2^c.out.toNat-1)) &&
  (decide (((c.next[j]?.getD default).2.length:Int)=2^c.bits.toNat) && (c.next[j]?.getD default).2.all c.isState)):=by
 have h:∀(n k:Nat),decide (n=2^k)=decide ((n:Int)=2^k):=fun n k=>by
  have:((2^k:Nat):Int)=(2:Int)^k:=by simp
  rw[←this,decide_eq_decide];omega
 simp only[AU.rowsOk,NP,h];rfl
theorem Xd (c:AU) (hh:c.head=true):c.ok=true↔∀(j:Nat),j<c.words.length->c.rowsOk j=true:=by
 have hl:c.next.length=c.words.length:=by simp[AU.head] at hh;exact hh.2
 simp only[AU.ok,AU.rowsOk,hh,Bool.true_and,Bool.and_eq_true,List.all_eq_true]
 constructor
 ·intro h j h1
  exact⟨h.1 _ (K4 h1),h.2 _ (K4 (by omega))⟩
 ·intro h
  constructor
  ·intro x hx;obtain⟨j,hj,rfl⟩:=List.getElem_of_mem hx;have:=(h j hj).1;simpa[hj] using this
  ·intro x hx;obtain⟨j,hj,rfl⟩:=List.getElem_of_mem hx;have:=(h j (by omega)).2;simpa[hj] using this
theorem eO (c:AU) (hh:c.head=true) (j:Nat) (hj:j<c.words.length) (hb:c.rowsOk j=false):c.ok=false:=by
 cases h:c.ok with
 |false=>rfl
 |true=>have:=(Xd c hh).1 h j hj;rw[this] at hb;cases hb
theorem J9 (c:AU):B' E0 MV [Fx c] (.int .i64 (K9 c.ok 40)):=by
 refine AO QA An (by simp) fun hwf=>?_
 simp only[Dv,C7,C6,Cu,D9,D8,Fh,D7,Bl,Bs,Bt,C_,B8,List.length_map,B4,true_and,and_true,BQ,A5,A7] at hwf
 have noHead:c.head=false->K9 c.ok 40=40:=fun h=>by simp[K9,AU.ok,h]
 rw[AW];unfold Kw
 (try (simp -implicitDefEqProofs only[go_sem,BQ,A5,A7]));repeat' first|(with_reducible first|exact tI|refine aI ?_ ?_|intro _)|((first|with_reducible refine AN ?_ ?_<;>intro _|(with_reducible refine isCall ?_);first|refine AE (Ci _ _ _) ?_)<;>try (simp -implicitDefEqProofs only[go_sem,BQ,A5,A7]))|simp (disch:=omega) only[Al]|((with_reducible refine Ao ?_);refine⟨_,rfl,?_,?_⟩)
 all_goals first|(rw[noHead (by cases hh:c.head;rfl;exfalso;simp only[AU.head,Ct,Bool.and_eq_true,decide_eq_true_eq,decide_eq_false_iff_not] at *;omega)];done)|skip
 have hh:c.head=true:=by simp only[AU.head,Ct,Bool.and_eq_true,decide_eq_true_eq,decide_eq_false_iff_not] at *;omega
 have ho:1<=c.out/\c.out<=5:=by simp_all[Ct]
 have hb:1<=c.bits/\c.bits<=2:=by simp_all[Ct]
 have hl:c.next.length=c.words.length:=by omega
 have h12:=Om hb
 have c1:=fun nl xs=>CV nl xs Gy [.ptr (MI c)] (fun n=>!Ct n 0 (2^c.out.toNat-1)) (by kernel_rfl) rfl (fun x _=>N8 c x ho)
 have c2:=fun nl xs=>CV nl xs Gx [.ptr (MI c)] (fun n=>!c.isState n) (by kernel_rfl) rfl (fun x _=>N7 c x)
 simp only[Rv] at c1 c2
 have bad:∀j,j<c.words.length->c.rowsOk j=false->K9 c.ok 40=40:=fun j hj h=>by rw[K9,eO c hh j hj h];rfl
 refine AY (α:=Int) (l0:=?l1) (m0:=?m1) (fun x=>[(63,.d (.int .i64 x))]) (fun x=>[]) (fun x=>0<=x/\x<=c.words.length/\∀(j:Nat),(j:Int)<x->c.rowsOk j=true) (fun x=>(c.words.length-x).toNat) ?a1_0 ?h01 ?he1 ?he21 ?hI1 ?step1
 case h01=>(simp -implicitDefEqProofs only[go_sem,BQ,A5,A7];rfl)
 case he1=>rfl
 case he21=>rfl
 case' step1=>(rintro i hI;try dsimp only at hI)
 case' hI1=>try dsimp only
 ·simp;omega
 ·(try (simp -implicitDefEqProofs only[go_sem,A7,Cc]));repeat' first|(with_reducible first|exact tI|refine aI ?_ ?_|intro _)|((first|with_reducible refine AN ?_ ?_<;>intro _|(with_reducible refine isCall ?_);first|refine AE (Gg c (by omega)) ?_|refine AE (c1 _ _) ?_|refine AE (c2 _ _) ?_)<;>try (simp -implicitDefEqProofs only[go_sem,A7,Cc]))|simp (disch:=omega) only[Al]|((with_reducible refine Ao ?_);refine⟨_,rfl,?_,?_⟩)
  all_goals first|omega|(simp;done)|(simp;omega)|skip
  all_goals try (refine congrArg (D.int .i64) (bad i.toNat (by omega) ?_).symm;rw[Oe];generalize ((c.words[i.toNat]?.getD default).2.all fun n=>Ct n 0 (2^c.out.toNat-1))=A at *;generalize (c.next[i.toNat]?.getD default).2.all c.isState=B at *;cases A<;>cases B<;>simp_all;done)
  ·rename_i j hj
   by_cases hji:j=i.toNat
   ·subst hji;rw[Oe];generalize ((c.words[i.toNat]?.getD default).2.all fun n=>Ct n 0 (2^c.out.toNat-1))=A at *;generalize (c.next[i.toNat]?.getD default).2.all c.isState=B at *;cases A<;>cases B<;>simp_all
   ·exact hI.2.2 j (by omega)
  ·have:c.ok=true:=(Xd c hh).2 fun j hj=>hI.2.2 j (by omega)
   rw[K9,this];rfl
theorem Rg (c:AU) (s:Int):B' E0 OO [Fx c,.int .i64 s] (.tup [Fx c,.int .i64 (if !c.ok then 40 else if !c.isState s then 41 else 0)]):=by
 refine AO RY An (by simp) fun hwf=>?_
 rw[AW];unfold MB
 (try (simp -implicitDefEqProofs only[go_sem,BQ,A5]));repeat' first|(with_reducible first|exact tI|refine aI ?_ ?_|intro _)|((first|with_reducible refine AN ?_ ?_<;>intro _|(with_reducible refine isCall ?_);first|refine AE (J9 c) ?_|refine AE (Gh c s) ?_)<;>try (simp -implicitDefEqProofs only[go_sem,BQ,A5]))|simp (disch:=omega) only[Al]
 all_goals (cases hok:c.ok<;>cases hst:c.isState s<;>simp_all[K9,BQ,A5])
end
section
attribute [local congr] Bf A9 A_ Aq Bg Ax Az Ay Ap Aj Ad AZ Au Ae Av BK BO BM BN BL BP BE Ah Aw Ai BC BW Ag BI BJ BD BF BH BG BA BB A8 Bj A' Ar Af
attribute [local irreducible] IntKind.wrap A4 Option.getD and or
theorem PD (c:AU) (s:Int) (nl:Bool) (l:List Int):B' E0 LX [Fx c,.int .i64 s,.list nl (Am l)] (.tup [.list (c.encode s l).1.isEmpty (Am (c.encode s l).1),.int .i64 (c.encode s l).2.1,.int .i64 (c.encode s l).2.2]):=by
 refine AO O9 An (by simp) fun hwf=>?_
 rw[AW];unfold J2
 simp -implicitDefEqProofs only[go_sem,BQ,A5]
 refine Hf (Rg c s) rfl ?_
 simp -implicitDefEqProofs only[go_sem,BQ,A5]
 by_cases hok:c.ok=true/\c.isState s=true
 ·obtain⟨h1,h2⟩:=hok
  have hd:=AU.ok_head h1
  have c1:=fun nl xs=>CV nl xs GP [.ptr (MI c)] (fun n=>!c.isWord n) (by kernel_rfl) rfl (fun x _=>Mz c x (by omega))
  simp only[Rv] at c1
  simp only[h1,h2,Bool.not_true,Bool.false_eq_true,if_false]
  (try (simp -implicitDefEqProofs only[go_sem]));repeat' first|(with_reducible first|exact tI|refine aI ?_ ?_|intro _)|((first|with_reducible refine AN ?_ ?_<;>intro _|(with_reducible refine isCall ?_);first|refine AE (c1 _ _) ?_)<;>try (simp -implicitDefEqProofs only[go_sem]))|simp (disch:=omega) only[Al]|((with_reducible refine CY ?_);refine⟨(_,_,_,_),rfl,?_,?_⟩)
  ·have:c.isData l=false:=by simp[AU.isData];omega
   simp[AU.encode,h1,h2,this]
  ·have:c.isData l=false:=by simp only[AU.isData];simp_all
   simp[AU.encode,h1,h2,this]
  ·have hdt:c.isData l=true:=by simp only[AU.isData];simp_all;omega
   have hen:c.encode s l=((c.stream s l).1,(c.stream s l).2,0):=by simp[AU.encode,h1,h2,hdt]
   have hlw:∀w,w∈l->c.isWord w=true:=by simp only[AU.isData,Bool.and_eq_true,List.all_eq_true] at hdt;exact hdt.2
   have hl24:l.length<=24:=by simp[AU.isData] at hdt;exact hdt.1
   rw[hen]
   refine AY (α:=Int×Int×Bool×(List Int)) (l0:=?l1) (m0:=?m1) (fun x=>[(31,.d (.int .i64 x.1)),(1,.d (.int .i64 x.2.1))]) (fun x=>[(40,.row TI 1 x.2.2.1 (Am x.2.2.2))]) (fun x=>0<=x.1/\x.1<=l.length/\c.isState x.2.1=true/\x.2.2.1=x.2.2.2.isEmpty/\x.2.2.2.length=c.out.toNat * x.1.toNat/\c.stream s l=(x.2.2.2++(c.stream x.2.1 (l.drop x.1.toNat)).1,(c.stream x.2.1 (l.drop x.1.toNat)).2)) (fun x=>(l.length-x.1).toNat) (?a1_0,?a1_1,?a1_2,[]) ?h01 ?he1 ?he21 ?hI1 ?step1
   case h01=>(simp -implicitDefEqProofs only[go_sem,BQ,A5];rfl)
   case he1=>rfl
   case he21=>rfl
   case' step1=>(rintro⟨i,t,nl',acc⟩ hI;try dsimp only at hI)
   case' hI1=>try dsimp only
   ·simp[h2]
   ·have hcb:∀w,w∈l->B' E0 F6 [Fx c,.int .i64 t,.int .i64 w] (.list false (Am (Cr c.out.toNat (c.wrd t w)))):=fun w hw=>L0 c t w h1 hI.2.2.1 (hlw w hw)
    by_cases hi:i<l.length
    ·have hm:l[i.toNat]?.getD 0∈l:=EQ (by omega)
     have hcb:=hcb _ hm
     have hst:=hI.2.2.1
     simp only[AU.isState,Ct,decide_eq_true_eq] at hst
     have hn:=AU.ok_next h1 t.toNat (by omega)
     have h12:=Om (b:=c.bits) (by omega)
     have hwd:=hlw _ hm
     simp only[AU.isWord,Ct,decide_eq_true_eq] at hwd
     have hbl:=Ib c.out.toNat (c.wrd t (l[i.toNat]?.getD 0))
     have hbig:c.out.toNat * i.toNat<=5*24:=Nat.mul_le_mul (by omega) (by omega)
     (try (simp -implicitDefEqProofs only[go_sem,A7,Cc]));repeat' first|(with_reducible first|exact tI|refine aI ?_ ?_|intro _)|((first|with_reducible refine AN ?_ ?_<;>intro _|(with_reducible refine isCall ?_);first|refine AE hcb ?_)<;>try (simp -implicitDefEqProofs only[go_sem,A7,Cc]))|simp (disch:=omega) only[Al]|((with_reducible refine CY ?_);refine⟨(_,_,_,_),rfl,?_,?_⟩)
     all_goals first|omega|(simp;done)|(simp;omega)|skip
     ·exact AU.nxt_state h1 hI.2.2.1 (hlw _ hm)
     ·rw[hI.2.2.2.1];cases acc<;>simp
     ·rw[List.length_append,hI.2.2.2.2.1,hbl,show (i+1).toNat=i.toNat+1 by omega,Nat.mul_succ]
     ·have hdrop:l.drop i.toNat=(l[i.toNat]?.getD 0)::l.drop (i+1).toNat:=by
       rw[show (i+1).toNat=i.toNat+1 by omega,List.drop_eq_getElem_cons (by omega),List.getElem?_eq_getElem (by omega),Option.getD_some]
      rw[hI.2.2.2.2.2,hdrop,AU.stream]
      simp[c.nxt_eq,List.append_assoc]
    ·(try (simp -implicitDefEqProofs only[go_sem]));repeat' first|(with_reducible first|exact tI|refine aI ?_ ?_|intro _)|((first|with_reducible refine AN ?_ ?_<;>intro _)<;>try (simp -implicitDefEqProofs only[go_sem]))|simp (disch:=omega) only[Al]|((with_reducible refine CY ?_);refine⟨(_,_,_,_),rfl,?_,?_⟩)
     all_goals first|omega|(simp;done)|(simp;omega)|skip
     have h0:l.drop i.toNat=[]:=List.drop_eq_nil_of_le (by omega)
     rw[hI.2.2.2.2.2,h0,AU.stream,hI.2.2.2.1]
     simp
 ·have hk:c.encode s l=([],0,if !c.ok then 40 else 41):=by
   simp only[AU.encode];cases hok1:c.ok<;>cases hst:c.isState s<;>simp_all
  rw[hk]
  (try (simp -implicitDefEqProofs only[go_sem]));repeat' first|(with_reducible first|exact tI|refine aI ?_ ?_|intro _)|((first|with_reducible refine AN ?_ ?_<;>intro _)<;>try (simp -implicitDefEqProofs only[go_sem]))|simp (disch:=omega) only[Al]|((with_reducible refine CY ?_);refine⟨(_,_,_,_),rfl,?_,?_⟩)
  all_goals (cases hok1:c.ok<;>cases hst:c.isState s<;>simp_all)
theorem My (n1 n2:Bool) (xs ys:List Int) (hx:A1 xs=true) (hy:A1 ys=true) (hl:xs.length<=ys.length) (h128:xs.length<=1000000) :
  B' E0 JO [.list n1 (Am xs),.list n2 (Am ys)] (.int .i64 (CM xs ys)):=by
 refine AO Mn An (by simp) fun hwf=>?_
 rw[AW];unfold H4
 simp -implicitDefEqProofs only[go_sem]
 refine AY (α:=Int×Int) (l0:=?l2) (m0:=?m2) (fun x=>[(9,.d (.int .i64 x.1)),(4,.d (.int .i64 x.2))]) (fun x=>[]) (fun x=>0<=x.1/\x.1<=xs.length/\0<=x.2/\x.2<=x.1/\x.2+CM (xs.drop x.1.toNat) (ys.drop x.1.toNat)=CM xs ys) (fun x=>(xs.length-x.1).toNat) (?a2_0,?a2_1) ?h02 ?he2 ?he22 ?hI2 ?step2
 case h02=>(simp -implicitDefEqProofs only[go_sem];rfl)
 case he2=>rfl
 case he22=>rfl
 case' step2=>(rintro⟨i,n⟩ hI;try dsimp only at hI)
 case' hI2=>try dsimp only
 ·simp
 ·by_cases hi:i<xs.length
  ·obtain⟨e,he⟩:∃e:Int,(if xs[i.toNat]?.getD 0=ys[i.toNat]?.getD 0 then 0 else 1)=e:=⟨_,rfl⟩
   have hxor:=TN (Et hx (i:=i.toNat) (by omega)) (Et hy (i:=i.toNat) (by omega))
   have hd:CM (xs.drop i.toNat) (ys.drop i.toNat)=e+CM (xs.drop (i+1).toNat) (ys.drop (i+1).toNat):=by
    rw[Fw (xs:=xs) (i:=i.toNat) (by omega),Fw (xs:=ys) (i:=i.toNat) (by omega),CM,he,show (i+1).toNat=i.toNat+1 by omega]
   rw[he] at hxor
   have he1:e=0\/e=1:=by rw[←he];split<;>simp
   (try (simp -implicitDefEqProofs only[go_sem]));repeat' first|(with_reducible first|exact tI|refine aI ?_ ?_|intro _)|((first|with_reducible refine AN ?_ ?_<;>intro _)<;>try (simp -implicitDefEqProofs only[go_sem]))|simp (disch:=omega) only[Al]|((with_reducible refine Ab ?_);refine⟨(_,_),rfl,?_,?_⟩)
   all_goals (try simp only[hxor])
   all_goals (try rw[Aa _ (by omega)])
   all_goals omega
  ·(try (simp -implicitDefEqProofs only[go_sem]));repeat' first|(with_reducible first|exact tI|refine aI ?_ ?_|intro _)|((first|with_reducible refine AN ?_ ?_<;>intro _)<;>try (simp -implicitDefEqProofs only[go_sem]))|simp (disch:=omega) only[Al]|((with_reducible refine Ab ?_);refine⟨(_,_),rfl,?_,?_⟩)
   all_goals first|omega|(simp;done)|(simp;omega)|skip
   have h0:xs.drop i.toNat=[]:=List.drop_eq_nil_of_le (by omega)
   have h1:CM [] (ys.drop i.toNat)=0:=by simp[CM]
   rw[h0,h1] at hI
   rw[←hI.2.2.2.2];simp
def K8 (mark bits:List Int) (e:Int):Nat->Int->List Int
 |0,_=>[]
 |n+1,i=>if CM mark (bits.drop i.toNat)<=e then i::K8 mark bits e n (i+1) else K8 mark bits e n (i+1)
def Cl (mark:List Int):Bool:=Ct mark.length 1 16 && A1 mark
def K6 (mark bits:List Int) (e:Int):List Int×Int :=
 if !(Cl mark && decide (bits.length<=128) && A1 bits && Ct e 0 16) then ([],1)
 else (K8 mark bits e (bits.length+1-mark.length) 0,0)
theorem Ez {xs:List Int}(h:A1 xs=true) (n:Nat):A1 (xs.drop n)=true:=by
 simp only[A1,List.all_eq_true] at *
 exact fun x hx=>h x (List.mem_of_mem_drop hx)
theorem Rh (n1 n2:Bool) (mark bits:List Int) (e:Int):B' E0 OP [.list n1 (Am mark),.list n2 (Am bits),.int .i64 e]
  (.tup [.list (K6 mark bits e).1.isEmpty (Am (K6 mark bits e).1),.int .i64 (K6 mark bits e).2]):=by
 refine AO RZ An (by simp) fun hwf=>?_
 simp only[Dv,C7,C6,Cu,D9,D8,Fh,D7,Bl,Bs,Bt,C_,B8,List.length_map,B4,true_and,and_true] at hwf
 have bad:(Cl mark && decide (bits.length<=128) && A1 bits && Ct e 0 16)=false->K6 mark bits e=([],1):=fun h=>by simp only[K6,h];rfl
 have bad2:¬bits.length<=128->K6 mark bits e=([],1):=fun h=>bad (by
      have:decide (bits.length<=128)=false:=by simpa using h
      simp[this])
 rw[AW];unfold MC
 (try (simp -implicitDefEqProofs only[go_sem]));repeat' first|(with_reducible first|exact tI|refine aI ?_ ?_|intro _)|((first|with_reducible refine AN ?_ ?_<;>intro _|(with_reducible refine isCall ?_);first|refine AE (PB _ _) ?_|refine AE (Ia _ _) ?_|refine AE (Ci _ _ _) ?_)<;>try (simp -implicitDefEqProofs only[go_sem]))|simp (disch:=omega) only[Al]|((with_reducible refine BS ?_);refine⟨(_,_,_),rfl,?_,?_⟩)
 all_goals first|(
     have hx:¬bits.length<=128:=by omega
     rw[bad2 hx];rfl)|skip
 all_goals first|(
     have hx:(Cl mark && decide (bits.length<=128) && A1 bits && Ct e 0 16)=false:=by(simp_all[Cl];done)
     rw[bad hx];rfl)|skip
 have hm:Cl mark=true:=by assumption
 have hb:A1 bits=true:=by assumption
 have h128:bits.length<=128:=by omega
 have hgood:K6 mark bits e=(K8 mark bits e (bits.length+1-mark.length) 0,0):=by simp only[K6];simp_all
 have hmb:A1 mark=true:=by simp only[Cl,Bool.and_eq_true] at hm;exact hm.2
 have hm1:1<=mark.length/\mark.length<=16:=by simp[Cl,Ct] at hm;omega
 rw[hgood]
 refine AY (α:=Int×Bool×(List Int)) (l0:=?l3) (m0:=?m3) (fun x=>[(35,.d (.int .i64 x.1))]) (fun x=>[(48,.row TI 1 x.2.1 (Am x.2.2))]) (fun x=>0<=x.1/\x.1<=max 0 (bits.length-mark.length+1:Int)/\x.2.2.length<=x.1/\x.2.1=x.2.2.isEmpty/\x.2.2++K8 mark bits e (bits.length+1-mark.length-x.1.toNat) x.1=K8 mark bits e (bits.length+1-mark.length) 0) (fun x=>(max 0 (bits.length-mark.length+1:Int)-x.1).toNat) (?a3_0,?a3_1,[]) ?h03 ?he3 ?he23 ?hI3 ?step3
 case h03=>(simp -implicitDefEqProofs only[go_sem];rfl)
 case he3=>rfl
 case he23=>rfl
 case' step3=>(rintro⟨i,nl,acc⟩ hI;try dsimp only at hI)
 case' hI3=>try dsimp only
 ·simp;omega
 ·by_cases hi:i<max 0 (bits.length-mark.length+1:Int)
  ·have hstep:K8 mark bits e (bits.length+1-mark.length-i.toNat) i=if CM mark (bits.drop i.toNat)<=e then i::K8 mark bits e (bits.length+1-mark.length-(i+1).toNat) (i+1) else K8 mark bits e (bits.length+1-mark.length-(i+1).toNat) (i+1):=by
    rw[show bits.length+1-mark.length-i.toNat=(bits.length+1-mark.length-(i+1).toNat)+1 by omega,K8]
   have cd:=fun n1 n2=>My n1 n2 mark (bits.drop i.toNat) hmb (Ez hb _) (by simp;omega) (by omega)
   (try (simp -implicitDefEqProofs only[go_sem]));repeat' first|(with_reducible first|exact tI|refine aI ?_ ?_|intro _)|((first|with_reducible refine AN ?_ ?_<;>intro _|(with_reducible refine isCall ?_);first|refine AE (cd _ _) ?_)<;>try (simp -implicitDefEqProofs only[go_sem]))|simp (disch:=omega) only[Al]|((with_reducible refine BS ?_);refine⟨(_,_,_),rfl,?_,?_⟩)
   all_goals first|omega|(simp;done)|(simp;omega)|skip
   ·rw[←hI.2.2.2.2,hstep,if_pos (by assumption)];simp
   ·exact hI.2.2.2.1
   ·rw[←hI.2.2.2.2,hstep,if_neg (by assumption)]
  ·(try (simp -implicitDefEqProofs only[go_sem]));repeat' first|(with_reducible first|exact tI|refine aI ?_ ?_|intro _)|((first|with_reducible refine AN ?_ ?_<;>intro _)<;>try (simp -implicitDefEqProofs only[go_sem]))|simp (disch:=omega) only[Al]|((with_reducible refine BS ?_);refine⟨(_,_,_),rfl,?_,?_⟩)
   all_goals first|omega|(simp;done)|(simp;omega)|skip
   have h0:bits.length+1-mark.length-i.toNat=0:=by omega
   have h1:=hI.2.2.2.2
   rw[h0,K8,List.append_nil] at h1
   rw[←h1,hI.2.2.2.1]
end
end Go.Pw
