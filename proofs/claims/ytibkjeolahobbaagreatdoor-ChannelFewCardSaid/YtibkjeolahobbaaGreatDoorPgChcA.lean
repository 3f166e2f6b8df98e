/- A part of the proof. -/
import Derived.Test.YtibkjeolahobbaaGreatDoorChPC
import Derived.Test.YtibkjeolahobbaaGreatDoorPwVC
import Derived.Test.YtibkjeolahobbaaGreatDoorCodesSpec
set_option linter.all false
section
open Go Go.Pw Go.Proofs
namespace Go.Pw
set_option maxRecDepth 100000
set_option maxHeartbeats 400000
attribute [local congr] Bl A_ A' Ar Bm Ay A0 Az Aq Ak Ae Aa Av Af Aw BL BP BN BO BM BQ BF Ai Ax Aj BD BX Ah BJ BK BE BG BI BH BB BC A9 Bn BA Au Ag
attribute [local irreducible] IntKind.wrap A4 Option.getD and or
theorem Cm (n lo hi:Int):CE E0 Lg [.int .i64 n,.int .i64 lo,.int .i64 hi] (.bool (Cw n lo hi)):=by
 refine AP PM Ap (by simp) fun hwf=>?_
 rw[AW];unfold J9 Cw
 (try (simp -implicitDefEqProofs only[go_sem]));repeat' first|(with_reducible first|exact tI|refine aI ?_ ?_|intro _)|((first|with_reducible refine AO ?_ ?_<;>intro _)<;>try (simp -implicitDefEqProofs only[go_sem]))|simp (disch:=omega) only[Al]
 all_goals first|omega|(simp_all[Cw];done)|(simp_all[Cw];omega)|grind
theorem DI (n lo hi:Int):CE E0 Lb [.int .i64 n,.int .i64 lo,.int .i64 hi] (.bool (Cw n lo hi)):=by
 refine AP PH Ap (by simp) fun hwf=>?_
 rw[AW];unfold J4 Cw
 (try (simp -implicitDefEqProofs only[go_sem]));repeat' first|(with_reducible first|exact tI|refine aI ?_ ?_|intro _)|((first|with_reducible refine AO ?_ ?_<;>intro _)<;>try (simp -implicitDefEqProofs only[go_sem]))|simp (disch:=omega) only[Al]
 all_goals first|omega|(simp_all[Cw];done)|(simp_all[Cw];omega)|grind
theorem Gj (c:AR) (h:0<=c.bits/\c.bits<=2):CE E0 Hq [Fw c] (.int .i64 (2^c.bits.toNat)):=by
 refine AP LO Ap (by simp) fun hwf=>?_
 rw[AW];unfold G5
 simp -implicitDefEqProofs only[go_sem,A8,A5]
 exact⟨h.1,by simp (disch:=omega) only[Al]⟩
theorem Gk (c:AR) (n:Int):CE E0 Hr [Fw c,.int .i64 n] (.bool (c.isState n)):=by
 refine AP LP Ap (by simp) fun hwf=>?_
 simp only[Du,DA,C_,Cy,EB,EA,Fk,D_,Bi,Bu,Bv,DC,CA,List.length_map,B7,true_and,and_true,A8,A5,A7] at hwf
 rw[AW];unfold G6
 simp -implicitDefEqProofs only[go_sem,A8,A5,A7]
 simp (disch:=omega) only[Al]
 refine Hj (Cm _ _ _) rfl ?_
 simp -implicitDefEqProofs only[go_sem,AR.isState]
theorem MD (nl:Bool) (xs:List Int) (f:FuncId) (cs:List D) (p:Int->Bool) (hb:B0 E0.P f=true) (hcs:BS AV.toD1 (cs.map .d)=some cs) (h:∀x,x∈xs->CE E0 f (.int .i64 x::cs) (.bool (p x))) :
  CE E0 DQ [.list nl (Am xs),.fn f cs] (.int .i64 (match xs.findIdx? p with|some i=>i|none=>-1)):=by
 refine AP EM Ap (by simp) fun hwf=>?_
 simp only[Du,DA,C_,Cy,EB,EA,Fk,D_,Bi,Bu,Bv,DC,CA,List.length_map,B7,true_and,and_true] at hwf
 rw[AW];unfold DB
 simp -implicitDefEqProofs only[go_sem]
 refine AY (α:=Int) (l0:=?l1) (m0:=?m1) (fun x=>[(8,.d (.int .i64 x))]) (fun x=>[]) (fun x=>0<=x/\x<=xs.length/\∀(j:Nat) (hj:j<xs.length),(j:Int)<x->p xs[j]=false) (fun x=>(xs.length-x).toNat) ?a1_0 ?h01 ?he1 ?he21 ?hI1 ?step1
 case h01=>(simp -implicitDefEqProofs only[go_sem];rfl)
 case he1=>rfl
 case he21=>rfl
 case' step1=>(rintro i hI;try dsimp only at hI)
 case' hI1=>try dsimp only
 ·simp
  omega
 ·(try (simp -implicitDefEqProofs only[go_sem]));repeat' first|(with_reducible first|exact tI|refine aI ?_ ?_|intro _)|((first|with_reducible refine AO ?_ ?_<;>intro _)<;>try (simp -implicitDefEqProofs only[go_sem]))|simp (disch:=omega) only[Al]|((with_reducible refine A1 ?_);refine⟨_,rfl,?_,?_⟩)
  all_goals first|omega|(simp;done)|(simp;omega)|skip
  ·have hx:xs[i.toNat]?.getD 0=xs[i.toNat]'(by omega):=by rw[List.getElem?_eq_getElem (by omega),Option.getD_some]
   rw[hx]
   refine Yw (h _ (List.getElem_mem _)) (LV rfl hcs) (fun hp=>?_) (fun hp=>?_)
   ·simp -implicitDefEqProofs only[go_sem]
    have:xs.findIdx? p=some i.toNat:=by rw[List.findIdx?_eq_some_iff_getElem];exact⟨by omega,hp,fun j hj=>by simp[hI.2.2 j (by omega) (by omega)]⟩
    rw[this];simp;omega
   ·(try (simp -implicitDefEqProofs only[go_sem]));repeat' first|(with_reducible first|exact tI|refine aI ?_ ?_|intro _)|((first|with_reducible refine AO ?_ ?_<;>intro _)<;>try (simp -implicitDefEqProofs only[go_sem]))|simp (disch:=omega) only[Al]|((with_reducible refine A1 ?_);refine⟨_,rfl,?_,?_⟩)
    all_goals first|omega|(simp;done)|(simp;omega)|skip
    rename_i j hj hlt
    by_cases hjk:j=i.toNat
    ·subst hjk;exact hp
    ·exact hI.2.2 j hj (by omega)
  ·have:xs.findIdx? p=none:=by
    rw[List.findIdx?_eq_none_iff];intro x hx;obtain⟨j,hj,rfl⟩:=List.getElem_of_mem hx;exact hI.2.2 j hj (by omega)
   rw[this]
theorem CY (nl:Bool) (xs:List Int) (f:FuncId) (cs:List D) (p:Int->Bool) (hb:B0 E0.P f=true) (hcs:BS AV.toD1 (cs.map .d)=some cs) (h:∀x,x∈xs->CE E0 f (.int .i64 x::cs) (.bool (p x))) :
  CE E0 CC [.list nl (Am xs),.fn f cs] (.bool (xs.any p)):=by
 refine AP Dn Ap (by simp) fun hwf=>?_
 rw[AW];unfold Ck
 simp -implicitDefEqProofs only[go_sem]
 refine Hj (MD nl xs f cs p hb hcs h) rfl ?_
 simp -implicitDefEqProofs only[go_sem]
 have key:(0:Int)<=(match xs.findIdx? p with|some i=>(i:Int)|none=>-1)↔xs.any p=true:=by
  cases hf:xs.findIdx? p with
  |none=>rw[List.findIdx?_eq_none_iff] at hf;simp;intro x hx;simp[hf x hx]
  |some i=>rw[List.findIdx?_eq_some_iff_getElem] at hf;simp;exact⟨_,List.getElem_mem hf.1,hf.2.1⟩
 grind
theorem QL (n:Int):CE E0 Iq [.int .i64 n] (.bool (!Cw n 0 1)):=by
 refine AP QI Ap (by simp) fun hwf=>?_
 rw[AW];unfold K6 Cw
 (try (simp -implicitDefEqProofs only[go_sem]));repeat' first|(with_reducible first|exact tI|refine aI ?_ ?_|intro _)|((first|with_reducible refine AO ?_ ?_<;>intro _)<;>try (simp -implicitDefEqProofs only[go_sem]))|simp (disch:=omega) only[Al]
 all_goals first|omega|(simp_all[Cw];done)|(simp_all[Cw];omega)|grind
theorem R8 {α:Type}(xs:List α) (p:α->Bool):xs.any (fun x=>!p x)=!xs.all p:=by
 induction xs with
 |nil=>rfl
 |cons x xs ih=>simp only[List.any_cons,List.all_cons,ih,Bool.not_and]
theorem Im (nl:Bool) (xs:List Int):CE E0 P0 [.list nl (Am xs)] (.bool (Ao xs)):=by
 refine AP Sb Ap (by simp) fun hwf=>?_
 rw[AW];unfold Ni
 simp -implicitDefEqProofs only[go_sem]
 refine Hj (CY nl xs Iq [] (fun n=>!Cw n 0 1) (by kernel_rfl) rfl fun x _=>QL x) rfl ?_
 simp -implicitDefEqProofs only[go_sem,R8,Bool.not_not,Ao]
theorem PT (nl:Bool) (xs:List Int):CE E0 Lh [.list nl (Am xs)] (.bool (Cw xs.length 1 16 && Ao xs)):=by
 refine AP PN Ap (by simp) fun hwf=>?_
 rw[AW];unfold J_
 (try (simp -implicitDefEqProofs only[go_sem]));repeat' first|(with_reducible first|exact tI|refine aI ?_ ?_|intro _)|((first|with_reducible refine AO ?_ ?_<;>intro _|(with_reducible refine isCall ?_);first|refine AE (Cm _ _ _) ?_|refine AE (Im nl xs) ?_)<;>try (simp -implicitDefEqProofs only[go_sem]))|simp (disch:=omega) only[Al]
 all_goals first|omega|(simp_all[Cw];done)|(simp_all[Cw];omega)|grind
theorem OP (c:AR) (n:Int) (h:1<=c.out/\c.out<=5):CE E0 Gz [.int .i64 n,.ptr (MW c)] (.bool (!Cw n 0 (2^c.out.toNat-1))):=by
 refine AP OC Ap (by simp) fun hwf=>?_
 rw[AW];unfold I'
 simp -implicitDefEqProofs only[go_sem,A5]
 have h1:=Q7 (k:=c.out.toNat) (by omega)
 have h2:=Q6 c.out.toNat
 refine⟨by omega,?_⟩
 simp (disch:=omega) only[Al]
 refine Hj (Cm _ _ _) rfl ?_
 simp -implicitDefEqProofs only[go_sem]
theorem OO (c:AR) (n:Int):CE E0 Gy [.int .i64 n,.ptr (MW c)] (.bool (!c.isState n)):=by
 refine AP OB Ap (by simp) fun hwf=>?_
 rw[AW];unfold I_
 simp -implicitDefEqProofs only[go_sem,A5]
 refine Hj (Gk c n) rfl ?_
 simp -implicitDefEqProofs only[go_sem]
theorem NE (c:AR) (n:Int) (h:1<=c.bits/\c.bits<=2):CE E0 GQ [.int .i64 n,.ptr (MW c)] (.bool (!c.isWord n)):=by
 refine AP M4 Ap (by simp) fun hwf=>?_
 rw[AW];unfold H'
 simp -implicitDefEqProofs only[go_sem,A5]
 refine Hj (Gj c (by omega)) rfl ?_
 simp -implicitDefEqProofs only[go_sem]
 have:=O7 h
 simp (disch:=omega) only[Al]
 refine Hj (Cm _ _ _) rfl ?_
 simp -implicitDefEqProofs only[go_sem,AR.isWord]
theorem MC (c:AR) (s w:Int) (h:c.ok=true) (hs:c.isState s=true) (hw:c.isWord w=true) :
  CE E0 F8 [Fw c,.int .i64 s,.int .i64 w] (.list false (Am (Cu c.out.toNat (c.wrd s w)))):=by
 refine AP L9 Ap (by simp) fun hwf=>?_
 have hd:=AR.ok_head h
 simp only[AR.isState,AR.isWord,Cw,decide_eq_true_eq] at hs hw
 have hrow:=AR.ok_words h s.toNat (by omega)
 have h12:=O7 (b:=c.bits) (by omega)
 rw[AW];unfold HR
 simp -implicitDefEqProofs only[go_sem,A8,A5,A7]
 simp (disch:=omega) only[Al]
 refine AY (α:=Int×Bool×(List Int)) (l0:=?l2) (m0:=?m2) (fun x=>[(8,.d (.int .i64 x.1))]) (fun x=>[(31,.row TW 1 x.2.1 (Am x.2.2))]) (fun x=>-1<=x.1/\x.1<c.out/\x.2.2.length+x.1=c.out-1/\x.2.1=x.2.2.isEmpty/\x.2.2++Cu (x.1+1).toNat (c.wrd s w)=Cu c.out.toNat (c.wrd s w)) (fun x=>(x.1+1).toNat) (?a2_0,?a2_1,[]) ?h02 ?he2 ?he22 ?hI2 ?step2
 case h02=>(simp -implicitDefEqProofs only[go_sem,A8,A5,A7];rfl)
 case he2=>rfl
 case he22=>rfl
 case' step2=>(rintro⟨i,nl,acc⟩ hI;try dsimp only at hI)
 case' hI2=>try dsimp only
 ·simp;(try omega)
 ·(try (simp -implicitDefEqProofs only[go_sem,A7,Cg]));repeat' first|(with_reducible first|exact tI|refine aI ?_ ?_|intro _)|((first|with_reducible refine AO ?_ ?_<;>intro _)<;>try (simp -implicitDefEqProofs only[go_sem,A7,Cg]))|simp (disch:=omega) only[Al]|((with_reducible refine BT ?_);refine⟨(_,_,_),rfl,?_,?_⟩)
  all_goals first|omega|(simp;done)|(simp;omega)|skip
  ·rw[←hI.2.2.2.2,show (i-1+1).toNat=i.toNat by omega,show (i+1).toNat=i.toNat+1 by omega,Cu,c.wrd_eq]
   simp
  ·have h0:(i+1).toNat=0:=by omega
   have h1:acc=Cu c.out.toNat (c.wrd s w):=by rw[←hI.2.2.2.2,h0,Cu,List.append_nil]
   have h2:acc≠[]:=by rintro rfl;simp at hI;omega
   rw[←h1,hI.2.2.2.1];cases acc with
   |nil=>exact absurd rfl h2
   |cons _ _=>rfl
end Go.Pw
end
section
open Go Go.Pw Go.Proofs
namespace Go.Pw
set_option maxRecDepth 100000
set_option maxHeartbeats 800000
attribute [local congr] Bl A_ A' Ar Bm Ay A0 Az Aq Ak Ae Aa Av Af Aw BL BP BN BO BM BQ BF Ai Ax Aj BD BX Ah BJ BK BE BG BI BH BB BC A9 Bn BA Au Ag
attribute [local irreducible] IntKind.wrap A4 Option.getD and or
def AR.rowsOk (c:AR) (j:Nat):Bool:=Nc (2^c.bits.toNat) (2^c.out.toNat-1) (c.words[j]?.getD default) && Nc (2^c.bits.toNat) (c.words.length-1) (c.next[j]?.getD default)
theorem O0 (c:AR) (j:Nat):c.rowsOk j=(decide (((c.words[j]?.getD default).2.length:Int)=2^c.bits.toNat) && ((c.words[j]?.getD default).2.all fun n=>Cw n 0 (2^c.out.toNat-1)) &&
  (decide (((c.next[j]?.getD default).2.length:Int)=2^c.bits.toNat) && (c.next[j]?.getD default).2.all c.isState)):=by
 have h:∀(n k:Nat),decide (n=2^k)=decide ((n:Int)=2^k):=fun n k=>by
  have:((2^k:Nat):Int)=(2:Int)^k:=by simp
  rw[←this,decide_eq_decide];omega
 simp only[AR.rowsOk,Nc,h];rfl
theorem Xx (c:AR) (hh:c.head=true):c.ok=true↔∀(j:Nat),j<c.words.length->c.rowsOk j=true:=by
 have hl:c.next.length=c.words.length:=by simp[AR.head] at hh;exact hh.2
 simp only[AR.ok,AR.rowsOk,hh,Bool.true_and,Bool.and_eq_true,List.all_eq_true]
 constructor
 ·intro h j h1
  exact⟨h.1 _ (LD h1),h.2 _ (LD (by omega))⟩
 ·intro h
  constructor
  ·intro x hx;obtain⟨j,hj,rfl⟩:=List.getElem_of_mem hx;have:=(h j hj).1;simpa[hj] using this
  ·intro x hx;obtain⟨j,hj,rfl⟩:=List.getElem_of_mem hx;have:=(h j (by omega)).2;simpa[hj] using this
theorem eZ (c:AR) (hh:c.head=true) (j:Nat) (hj:j<c.words.length) (hb:c.rowsOk j=false):c.ok=false:=by
 cases h:c.ok with
 |false=>rfl
 |true=>have:=(Xx c hh).1 h j hj;rw[this] at hb;cases hb
theorem KG (c:AR):CE E0 Mh [Fw c] (.int .i64 (LI c.ok 40)):=by
 refine AP QJ Ap (by simp) fun hwf=>?_
 simp only[Du,DA,C_,Cy,EB,EA,Fk,D_,Bi,Bu,Bv,DC,CA,List.length_map,B7,true_and,and_true,A8,A5,A7] at hwf
 have noHead:c.head=false->LI c.ok 40=40:=fun h=>by simp[LI,AR.ok,h]
 rw[AW];unfold K7
 (try (simp -implicitDefEqProofs only[go_sem,A8,A5,A7]));repeat' first|(with_reducible first|exact tI|refine aI ?_ ?_|intro _)|((first|with_reducible refine AO ?_ ?_<;>intro _|(with_reducible refine isCall ?_);first|refine AE (Cm _ _ _) ?_)<;>try (simp -implicitDefEqProofs only[go_sem,A8,A5,A7]))|simp (disch:=omega) only[Al]|((with_reducible refine A1 ?_);refine⟨_,rfl,?_,?_⟩)
 all_goals first|(rw[noHead (by cases hh:c.head;rfl;exfalso;simp only[AR.head,Cw,Bool.and_eq_true,decide_eq_true_eq,decide_eq_false_iff_not] at *;omega)];done)|skip
 have hh:c.head=true:=by simp only[AR.head,Cw,Bool.and_eq_true,decide_eq_true_eq,decide_eq_false_iff_not] at *;omega
 have ho:1<=c.out/\c.out<=5:=by simp_all[Cw]
 have hb:1<=c.bits/\c.bits<=2:=by simp_all[Cw]
 have hl:c.next.length=c.words.length:=by omega
 have h12:=O7 hb
 have c1:=fun nl xs=>CY nl xs Gz [.ptr (MW c)] (fun n=>!Cw n 0 (2^c.out.toNat-1)) (by kernel_rfl) rfl (fun x _=>OP c x ho)
 have c2:=fun nl xs=>CY nl xs Gy [.ptr (MW c)] (fun n=>!c.isState n) (by kernel_rfl) rfl (fun x _=>OO c x)
 simp only[R8] at c1 c2
 have bad:∀j,j<c.words.length->c.rowsOk j=false->LI c.ok 40=40:=fun j hj h=>by rw[LI,eZ c hh j hj h];rfl
 refine AY (α:=Int) (l0:=?l1) (m0:=?m1) (fun x=>[(63,.d (.int .i64 x))]) (fun x=>[]) (fun x=>0<=x/\x<=c.words.length/\∀(j:Nat),(j:Int)<x->c.rowsOk j=true) (fun x=>(c.words.length-x).toNat) ?a1_0 ?h01 ?he1 ?he21 ?hI1 ?step1
 case h01=>(simp -implicitDefEqProofs only[go_sem,A8,A5,A7];rfl)
 case he1=>rfl
 case he21=>rfl
 case' step1=>(rintro i hI;try dsimp only at hI)
 case' hI1=>try dsimp only
 ·simp;omega
 ·(try (simp -implicitDefEqProofs only[go_sem,A7,Cg]));repeat' first|(with_reducible first|exact tI|refine aI ?_ ?_|intro _)|((first|with_reducible refine AO ?_ ?_<;>intro _|(with_reducible refine isCall ?_);first|refine AE (Gj c (by omega)) ?_|refine AE (c1 _ _) ?_|refine AE (c2 _ _) ?_)<;>try (simp -implicitDefEqProofs only[go_sem,A7,Cg]))|simp (disch:=omega) only[Al]|((with_reducible refine A1 ?_);refine⟨_,rfl,?_,?_⟩)
  all_goals first|omega|(simp;done)|(simp;omega)|skip
  all_goals try (refine congrArg (D.int .i64) (bad i.toNat (by omega) ?_).symm;rw[O0];generalize ((c.words[i.toNat]?.getD default).2.all fun n=>Cw n 0 (2^c.out.toNat-1))=A at *;generalize (c.next[i.toNat]?.getD default).2.all c.isState=B at *;cases A<;>cases B<;>simp_all;done)
  ·rename_i j hj
   by_cases hji:j=i.toNat
   ·subst hji;rw[O0];generalize ((c.words[i.toNat]?.getD default).2.all fun n=>Cw n 0 (2^c.out.toNat-1))=A at *;generalize (c.next[i.toNat]?.getD default).2.all c.isState=B at *;cases A<;>cases B<;>simp_all
   ·exact hI.2.2 j (by omega)
  ·have:c.ok=true:=(Xx c hh).2 fun j hj=>hI.2.2 j (by omega)
   rw[LI,this];rfl
theorem Rp (c:AR) (s:Int):CE E0 Oj [Fw c,.int .i64 s] (.tup [Fw c,.int .i64 (if !c.ok then 40 else if !c.isState s then 41 else 0)]):=by
 refine AP Rh Ap (by simp) fun hwf=>?_
 rw[AW];unfold MP
 (try (simp -implicitDefEqProofs only[go_sem,A8,A5]));repeat' first|(with_reducible first|exact tI|refine aI ?_ ?_|intro _)|((first|with_reducible refine AO ?_ ?_<;>intro _|(with_reducible refine isCall ?_);first|refine AE (KG c) ?_|refine AE (Gk c s) ?_)<;>try (simp -implicitDefEqProofs only[go_sem,A8,A5]))|simp (disch:=omega) only[Al]
 all_goals (cases hok:c.ok<;>cases hst:c.isState s<;>simp_all[LI,A8,A5])
end Go.Pw
end
section
open Go Go.Pw Go.Proofs
namespace Go.Pw
set_option maxRecDepth 100000
set_option maxHeartbeats 800000
attribute [local congr] Bl A_ A' Ar Bm Ay A0 Az Aq Ak Ae Aa Av Af Aw BL BP BN BO BM BQ BF Ai Ax Aj BD BX Ah BJ BK BE BG BI BH BB BC A9 Bn BA Au Ag
attribute [local irreducible] IntKind.wrap A4 Option.getD and or
theorem PU (c:AR) (s:Int) (nl:Bool) (l:List Int):CE E0 Li [Fw c,.int .i64 s,.list nl (Am l)] (.tup [.list (c.encode s l).1.isEmpty (Am (c.encode s l).1),.int .i64 (c.encode s l).2.1,.int .i64 (c.encode s l).2.2]):=by
 refine AP PO Ap (by simp) fun hwf=>?_
 rw[AW];unfold J'
 simp -implicitDefEqProofs only[go_sem,A8,A5]
 refine Hj (Rp c s) rfl ?_
 simp -implicitDefEqProofs only[go_sem,A8,A5]
 by_cases hok:c.ok=true/\c.isState s=true
 ·obtain⟨h1,h2⟩:=hok
  have hd:=AR.ok_head h1
  have c1:=fun nl xs=>CY nl xs GQ [.ptr (MW c)] (fun n=>!c.isWord n) (by kernel_rfl) rfl (fun x _=>NE c x (by omega))
  simp only[R8] at c1
  simp only[h1,h2,Bool.not_true,Bool.false_eq_true,if_false]
  (try (simp -implicitDefEqProofs only[go_sem]));repeat' first|(with_reducible first|exact tI|refine aI ?_ ?_|intro _)|((first|with_reducible refine AO ?_ ?_<;>intro _|(with_reducible refine isCall ?_);first|refine AE (c1 _ _) ?_)<;>try (simp -implicitDefEqProofs only[go_sem]))|simp (disch:=omega) only[Al]|((with_reducible refine Cc ?_);refine⟨(_,_,_,_),rfl,?_,?_⟩)
  ·have:c.isData l=false:=by simp[AR.isData];omega
   simp[AR.encode,h1,h2,this]
  ·have:c.isData l=false:=by simp only[AR.isData];simp_all
   simp[AR.encode,h1,h2,this]
  ·have hdt:c.isData l=true:=by simp only[AR.isData];simp_all;omega
   have hen:c.encode s l=((c.stream s l).1,(c.stream s l).2,0):=by simp[AR.encode,h1,h2,hdt]
   have hlw:∀w,w∈l->c.isWord w=true:=by simp only[AR.isData,Bool.and_eq_true,List.all_eq_true] at hdt;exact hdt.2
   have hl24:l.length<=24:=by simp[AR.isData] at hdt;exact hdt.1
   rw[hen]
   refine AY (α:=Int×Int×Bool×(List Int)) (l0:=?l1) (m0:=?m1) (fun x=>[(31,.d (.int .i64 x.1)),(1,.d (.int .i64 x.2.1))]) (fun x=>[(40,.row TW 1 x.2.2.1 (Am x.2.2.2))]) (fun x=>0<=x.1/\x.1<=l.length/\c.isState x.2.1=true/\x.2.2.1=x.2.2.2.isEmpty/\x.2.2.2.length=c.out.toNat * x.1.toNat/\c.stream s l=(x.2.2.2++(c.stream x.2.1 (l.drop x.1.toNat)).1,(c.stream x.2.1 (l.drop x.1.toNat)).2)) (fun x=>(l.length-x.1).toNat) (?a1_0,?a1_1,?a1_2,[]) ?h01 ?he1 ?he21 ?hI1 ?step1
   case h01=>(simp -implicitDefEqProofs only[go_sem,A8,A5];rfl)
   case he1=>rfl
   case he21=>rfl
   case' step1=>(rintro⟨i,t,nl',acc⟩ hI;try dsimp only at hI)
   case' hI1=>try dsimp only
   ·simp[h2]
   ·have hcb:∀w,w∈l->CE E0 F8 [Fw c,.int .i64 t,.int .i64 w] (.list false (Am (Cu c.out.toNat (c.wrd t w)))):=fun w hw=>MC c t w h1 hI.2.2.1 (hlw w hw)
    by_cases hi:i<l.length
    ·have hm:l[i.toNat]?.getD 0∈l:=D2 (by omega)
     have hcb:=hcb _ hm
     have hst:=hI.2.2.1
     simp only[AR.isState,Cw,decide_eq_true_eq] at hst
     have hn:=AR.ok_next h1 t.toNat (by omega)
     have h12:=O7 (b:=c.bits) (by omega)
     have hwd:=hlw _ hm
     simp only[AR.isWord,Cw,decide_eq_true_eq] at hwd
     have hbl:=Io c.out.toNat (c.wrd t (l[i.toNat]?.getD 0))
     have hbig:c.out.toNat * i.toNat<=5*24:=Nat.mul_le_mul (by omega) (by omega)
     (try (simp -implicitDefEqProofs only[go_sem,A7,Cg]));repeat' first|(with_reducible first|exact tI|refine aI ?_ ?_|intro _)|((first|with_reducible refine AO ?_ ?_<;>intro _|(with_reducible refine isCall ?_);first|refine AE hcb ?_)<;>try (simp -implicitDefEqProofs only[go_sem,A7,Cg]))|simp (disch:=omega) only[Al]|((with_reducible refine Cc ?_);refine⟨(_,_,_,_),rfl,?_,?_⟩)
     all_goals first|omega|(simp;done)|(simp;omega)|skip
     ·exact AR.nxt_state h1 hI.2.2.1 (hlw _ hm)
     ·rw[hI.2.2.2.1];cases acc<;>simp
     ·rw[List.length_append,hI.2.2.2.2.1,hbl,show (i+1).toNat=i.toNat+1 by omega,Nat.mul_succ]
     ·have hdrop:l.drop i.toNat=(l[i.toNat]?.getD 0)::l.drop (i+1).toNat:=by
       rw[show (i+1).toNat=i.toNat+1 by omega,List.drop_eq_getElem_cons (by omega),List.getElem?_eq_getElem (by omega),Option.getD_some]
      rw[hI.2.2.2.2.2,hdrop,AR.stream]
      simp[c.nxt_eq,List.append_assoc]
    ·(try (simp -implicitDefEqProofs only[go_sem]));repeat' first|(with_reducible first|exact tI|refine aI ?_ ?_|intro _)|((first|with_reducible refine AO ?_ ?_<;>intro _)<;>try (simp -implicitDefEqProofs only[go_sem]))|simp (disch:=omega) only[Al]|((with_reducible refine Cc ?_);refine⟨(_,_,_,_),rfl,?_,?_⟩)
     all_goals first|omega|(simp;done)|(simp;omega)|skip
     have h0:l.drop i.toNat=[]:=List.drop_eq_nil_of_le (by omega)
     rw[hI.2.2.2.2.2,h0,AR.stream,hI.2.2.2.1]
     simp
 ·have hk:c.encode s l=([],0,if !c.ok then 40 else 41):=by
   simp only[AR.encode];cases hok1:c.ok<;>cases hst:c.isState s<;>simp_all
  rw[hk]
  (try (simp -implicitDefEqProofs only[go_sem]));repeat' first|(with_reducible first|exact tI|refine aI ?_ ?_|intro _)|((first|with_reducible refine AO ?_ ?_<;>intro _)<;>try (simp -implicitDefEqProofs only[go_sem]))|simp (disch:=omega) only[Al]|((with_reducible refine Cc ?_);refine⟨(_,_,_,_),rfl,?_,?_⟩)
  all_goals (cases hok1:c.ok<;>cases hst:c.isState s<;>simp_all)
theorem ND (n1 n2:Bool) (xs ys:List Int) (hx:Ao xs=true) (hy:Ao ys=true) (hl:xs.length<=ys.length) (h128:xs.length<=1000000) :
  CE E0 JX [.list n1 (Am xs),.list n2 (Am ys)] (.int .i64 (B5 xs ys)):=by
 refine AP M1 Ap (by simp) fun hwf=>?_
 rw[AW];unfold H9
 simp -implicitDefEqProofs only[go_sem]
 refine AY (α:=Int×Int) (l0:=?l2) (m0:=?m2) (fun x=>[(9,.d (.int .i64 x.1)),(4,.d (.int .i64 x.2))]) (fun x=>[]) (fun x=>0<=x.1/\x.1<=xs.length/\0<=x.2/\x.2<=x.1/\x.2+B5 (xs.drop x.1.toNat) (ys.drop x.1.toNat)=B5 xs ys) (fun x=>(xs.length-x.1).toNat) (?a2_0,?a2_1) ?h02 ?he2 ?he22 ?hI2 ?step2
 case h02=>(simp -implicitDefEqProofs only[go_sem];rfl)
 case he2=>rfl
 case he22=>rfl
 case' step2=>(rintro⟨i,n⟩ hI;try dsimp only at hI)
 case' hI2=>try dsimp only
 ·simp
 ·by_cases hi:i<xs.length
  ·obtain⟨e,he⟩:∃e:Int,(if xs[i.toNat]?.getD 0=ys[i.toNat]?.getD 0 then 0 else 1)=e:=⟨_,rfl⟩
   have hxor:=Tb (Et hx (i:=i.toNat) (by omega)) (Et hy (i:=i.toNat) (by omega))
   have hd:B5 (xs.drop i.toNat) (ys.drop i.toNat)=e+B5 (xs.drop (i+1).toNat) (ys.drop (i+1).toNat):=by
    rw[Fv (xs:=xs) (i:=i.toNat) (by omega),Fv (xs:=ys) (i:=i.toNat) (by omega),B5,he,show (i+1).toNat=i.toNat+1 by omega]
   rw[he] at hxor
   have he1:e=0\/e=1:=by rw[←he];split<;>simp
   (try (simp -implicitDefEqProofs only[go_sem]));repeat' first|(with_reducible first|exact tI|refine aI ?_ ?_|intro _)|((first|with_reducible refine AO ?_ ?_<;>intro _)<;>try (simp -implicitDefEqProofs only[go_sem]))|simp (disch:=omega) only[Al]|((with_reducible refine Ab ?_);refine⟨(_,_),rfl,?_,?_⟩)
   all_goals (try simp only[hxor])
   all_goals (try rw[AZ _ (by omega)])
   all_goals omega
  ·(try (simp -implicitDefEqProofs only[go_sem]));repeat' first|(with_reducible first|exact tI|refine aI ?_ ?_|intro _)|((first|with_reducible refine AO ?_ ?_<;>intro _)<;>try (simp -implicitDefEqProofs only[go_sem]))|simp (disch:=omega) only[Al]|((with_reducible refine Ab ?_);refine⟨(_,_),rfl,?_,?_⟩)
   all_goals first|omega|(simp;done)|(simp;omega)|skip
   have h0:xs.drop i.toNat=[]:=List.drop_eq_nil_of_le (by omega)
   have h1:B5 [] (ys.drop i.toNat)=0:=by simp[B5]
   rw[h0,h1] at hI
   rw[←hI.2.2.2.2];simp
def LH (mark bits:List Int) (e:Int):Nat->Int->List Int
 |0,_=>[]
 |n+1,i=>if B5 mark (bits.drop i.toNat)<=e then i::LH mark bits e n (i+1) else LH mark bits e n (i+1)
def Co (mark:List Int):Bool:=Cw mark.length 1 16 && Ao mark
def LF (mark bits:List Int) (e:Int):List Int×Int :=
 if !(Co mark && decide (bits.length<=128) && Ao bits && Cw e 0 16) then ([],1)
 else (LH mark bits e (bits.length+1-mark.length) 0,0)
theorem Ez {xs:List Int}(h:Ao xs=true) (n:Nat):Ao (xs.drop n)=true:=by
 simp only[Ao,List.all_eq_true] at *
 exact fun x hx=>h x (List.mem_of_mem_drop hx)
theorem Rq (n1 n2:Bool) (mark bits:List Int) (e:Int):CE E0 Ok [.list n1 (Am mark),.list n2 (Am bits),.int .i64 e]
  (.tup [.list (LF mark bits e).1.isEmpty (Am (LF mark bits e).1),.int .i64 (LF mark bits e).2]):=by
 refine AP Ri Ap (by simp) fun hwf=>?_
 simp only[Du,DA,C_,Cy,EB,EA,Fk,D_,Bi,Bu,Bv,DC,CA,List.length_map,B7,true_and,and_true] at hwf
 have bad:(Co mark && decide (bits.length<=128) && Ao bits && Cw e 0 16)=false->LF mark bits e=([],1):=fun h=>by simp only[LF,h];rfl
 have bad2:¬bits.length<=128->LF mark bits e=([],1):=fun h=>bad (by
      have:decide (bits.length<=128)=false:=by simpa using h
      simp[this])
 rw[AW];unfold MQ
 (try (simp -implicitDefEqProofs only[go_sem]));repeat' first|(with_reducible first|exact tI|refine aI ?_ ?_|intro _)|((first|with_reducible refine AO ?_ ?_<;>intro _|(with_reducible refine isCall ?_);first|refine AE (PT _ _) ?_|refine AE (Im _ _) ?_|refine AE (Cm _ _ _) ?_)<;>try (simp -implicitDefEqProofs only[go_sem]))|simp (disch:=omega) only[Al]|((with_reducible refine BT ?_);refine⟨(_,_,_),rfl,?_,?_⟩)
 all_goals first|(
     have hx:¬bits.length<=128:=by omega
     rw[bad2 hx];rfl)|skip
 all_goals first|(
     have hx:(Co mark && decide (bits.length<=128) && Ao bits && Cw e 0 16)=false:=by(simp_all[Co];done)
     rw[bad hx];rfl)|skip
 have hm:Co mark=true:=by assumption
 have hb:Ao bits=true:=by assumption
 have h128:bits.length<=128:=by omega
 have hgood:LF mark bits e=(LH mark bits e (bits.length+1-mark.length) 0,0):=by simp only[LF];simp_all
 have hmb:Ao mark=true:=by simp only[Co,Bool.and_eq_true] at hm;exact hm.2
 have hm1:1<=mark.length/\mark.length<=16:=by simp[Co,Cw] at hm;omega
 rw[hgood]
 refine AY (α:=Int×Bool×(List Int)) (l0:=?l3) (m0:=?m3) (fun x=>[(35,.d (.int .i64 x.1))]) (fun x=>[(48,.row TW 1 x.2.1 (Am x.2.2))]) (fun x=>0<=x.1/\x.1<=max 0 (bits.length-mark.length+1:Int)/\x.2.2.length<=x.1/\x.2.1=x.2.2.isEmpty/\x.2.2++LH mark bits e (bits.length+1-mark.length-x.1.toNat) x.1=LH mark bits e (bits.length+1-mark.length) 0) (fun x=>(max 0 (bits.length-mark.length+1:Int)-x.1).toNat) (?a3_0,?a3_1,[]) ?h03 ?he3 ?he23 ?hI3 ?step3
 case h03=>(simp -implicitDefEqProofs only[go_sem];rfl)
 case he3=>rfl
 case he23=>rfl
 case' step3=>(rintro⟨i,nl,acc⟩ hI;try dsimp only at hI)
 case' hI3=>try dsimp only
 ·simp;omega
 ·by_cases hi:i<max 0 (bits.length-mark.length+1:Int)
  ·have hstep:LH mark bits e (bits.length+1-mark.length-i.toNat) i=if B5 mark (bits.drop i.toNat)<=e then i::LH mark bits e (bits.length+1-mark.length-(i+1).toNat) (i+1) else LH mark bits e (bits.length+1-mark.length-(i+1).toNat) (i+1):=by
    rw[show bits.length+1-mark.length-i.toNat=(bits.length+1-mark.length-(i+1).toNat)+1 by omega,LH]
   have cd:=fun n1 n2=>ND n1 n2 mark (bits.drop i.toNat) hmb (Ez hb _) (by simp;omega) (by omega)
   (try (simp -implicitDefEqProofs only[go_sem]));repeat' first|(with_reducible first|exact tI|refine aI ?_ ?_|intro _)|((first|with_reducible refine AO ?_ ?_<;>intro _|(with_reducible refine isCall ?_);first|refine AE (cd _ _) ?_)<;>try (simp -implicitDefEqProofs only[go_sem]))|simp (disch:=omega) only[Al]|((with_reducible refine BT ?_);refine⟨(_,_,_),rfl,?_,?_⟩)
   all_goals first|omega|(simp;done)|(simp;omega)|skip
   ·rw[←hI.2.2.2.2,hstep,if_pos (by assumption)];simp
   ·exact hI.2.2.2.1
   ·rw[←hI.2.2.2.2,hstep,if_neg (by assumption)]
  ·(try (simp -implicitDefEqProofs only[go_sem]));repeat' first|(with_reducible first|exact tI|refine aI ?_ ?_|intro _)|((first|with_reducible refine AO ?_ ?_<;>intro _)<;>try (simp -implicitDefEqProofs only[go_sem]))|simp (disch:=omega) only[Al]|((with_reducible refine BT ?_);refine⟨(_,_,_),rfl,?_,?_⟩)
   all_goals first|omega|(simp;done)|(simp;omega)|skip
   have h0:bits.length+1-mark.length-i.toNat=0:=by omega
   have h1:=hI.2.2.2.2
   rw[h0,LH,List.append_nil] at h1
   rw[←h1,hI.2.2.2.1]
end Go.Pw
end
