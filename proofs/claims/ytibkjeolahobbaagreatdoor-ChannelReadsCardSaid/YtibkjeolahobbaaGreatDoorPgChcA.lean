/- A part of the proof. -/
import Derived.Test.YtibkjeolahobbaaGreatDoorChPC
import Derived.Test.YtibkjeolahobbaaGreatDoorPwVC
import Derived.Test.YtibkjeolahobbaaGreatDoorCodesSpec
set_option linter.all false
open Go Go.Pw Go.Proofs
namespace Go.Pw
set_option maxRecDepth 100000
set_option maxHeartbeats 800000
section
attribute [local congr] Bm A' BA Au Bn Az A1 A0 Ar Al Af Aa Aw Ag Ax BM BQ BO BP BN BR BG Aj Ay Ak BE BX Ai BK BL BF BH BJ BI BC BD A_ Bp BB Av Ah
attribute [local irreducible] IntKind.wrap A3 Option.getD and or
theorem Ct (n lo hi:Int):CA E0 L_ [.int .i64 n,.int .i64 lo,.int .i64 hi] (.bool (C1 n lo hi)):=by
 refine AL QE An (by simp) fun hwf=>?_
 rw[AR];unfold KZ C1
 (try (simp -implicitDefEqProofs only[go_sem]));repeat' first|(with_reducible first|exact tI|refine aI ?_ ?_|intro _)|((first|with_reducible refine AK ?_ ?_<;>intro _)<;>try (simp -implicitDefEqProofs only[go_sem]))|simp (disch:=omega) only[Ae]
 all_goals first|omega|(simp_all[C1];done)|(simp_all[C1];omega)|grind
theorem Co (n lo hi:Int):CA E0 L5 [.int .i64 n,.int .i64 lo,.int .i64 hi] (.bool (C1 n lo hi)):=by
 refine AL P' An (by simp) fun hwf=>?_
 rw[AR];unfold KU C1
 (try (simp -implicitDefEqProofs only[go_sem]));repeat' first|(with_reducible first|exact tI|refine aI ?_ ?_|intro _)|((first|with_reducible refine AK ?_ ?_<;>intro _)<;>try (simp -implicitDefEqProofs only[go_sem]))|simp (disch:=omega) only[Ae]
 all_goals first|omega|(simp_all[C1];done)|(simp_all[C1];omega)|grind
theorem Gr (c:AW) (h:0<=c.bits/\c.bits<=2):CA E0 H4 [Fz c] (.int .i64 (2^c.bits.toNat)):=by
 refine AL Ll An (by simp) fun hwf=>?_
 rw[AR];unfold HG
 simp -implicitDefEqProofs only[go_sem,BU,A9]
 exact⟨h.1,by simp (disch:=omega) only[Ae]⟩
theorem Gs (c:AW) (n:Int):CA E0 H5 [Fz c,.int .i64 n] (.bool (c.isState n)):=by
 refine AL Lm An (by simp) fun hwf=>?_
 simp only[DY,Cv,Cu,Ck,Dq,Dp,FD,Dn,Bj,Bt,Bu,Cy,B6,List.length_map,B4,true_and,and_true,BU,A9,BT] at hwf
 rw[AR];unfold HH
 simp -implicitDefEqProofs only[go_sem,BU,A9,BT]
 simp (disch:=omega) only[Ae]
 refine Hy (Ct _ _ _) rfl ?_
 simp -implicitDefEqProofs only[go_sem,AW.isState]
theorem Mm (nl:Bool) (xs:List Int) (f:FuncId) (cs:List D) (p:Int->Bool) (hb:B5 E0.P f=true) (hcs:BV AV.toD1 (cs.map .d)=some cs) (h:∀x,x∈xs->CA E0 f (.int .i64 x::cs) (.bool (p x))) :
  CA E0 DS [.list nl (Ab xs),.fn f cs] (.int .i64 (match xs.findIdx? p with|some i=>i|none=>-1)):=by
 refine AL EL An (by simp) fun hwf=>?_
 simp only[DY,Cv,Cu,Ck,Dq,Dp,FD,Dn,Bj,Bt,Bu,Cy,B6,List.length_map,B4,true_and,and_true] at hwf
 rw[AR];unfold DH
 simp -implicitDefEqProofs only[go_sem]
 refine AX (α:=Int) (l0:=?l1) (m0:=?m1) (fun x=>[(8,.d (.int .i64 x))]) (fun x=>[]) (fun x=>0<=x/\x<=xs.length/\∀(j:Nat) (hj:j<xs.length),(j:Int)<x->p xs[j]=false) (fun x=>(xs.length-x).toNat) ?a1_0 ?h01 ?he1 ?he21 ?hI1 ?step1
 case h01=>(simp -implicitDefEqProofs only[go_sem];rfl)
 case he1=>rfl
 case he21=>rfl
 case' step1=>(rintro i hI;try dsimp only at hI)
 case' hI1=>try dsimp only
 ·simp
  omega
 ·(try (simp -implicitDefEqProofs only[go_sem]));repeat' first|(with_reducible first|exact tI|refine aI ?_ ?_|intro _)|((first|with_reducible refine AK ?_ ?_<;>intro _)<;>try (simp -implicitDefEqProofs only[go_sem]))|simp (disch:=omega) only[Ae]|((with_reducible refine Ad ?_);refine⟨_,rfl,?_,?_⟩)
  all_goals first|omega|(simp<;>omega)|skip
  ·have hx:xs[i.toNat]?.getD 0=xs[i.toNat]'(by omega):=by rw[List.getElem?_eq_getElem (by omega),Option.getD_some]
   rw[hx]
   refine aA (h _ (List.getElem_mem _)) (Ls rfl hcs) (fun hp=>?_) (fun hp=>?_)
   ·simp -implicitDefEqProofs only[go_sem]
    have:xs.findIdx? p=some i.toNat:=by rw[List.findIdx?_eq_some_iff_getElem];exact⟨by omega,hp,fun j hj=>by simp[hI.2.2 j (by omega) (by omega)]⟩
    rw[this];simp;omega
   ·(try (simp -implicitDefEqProofs only[go_sem]));repeat' first|(with_reducible first|exact tI|refine aI ?_ ?_|intro _)|((first|with_reducible refine AK ?_ ?_<;>intro _)<;>try (simp -implicitDefEqProofs only[go_sem]))|simp (disch:=omega) only[Ae]|((with_reducible refine Ad ?_);refine⟨_,rfl,?_,?_⟩)
    all_goals first|omega|(simp<;>omega)|skip
    rename_i j hj hlt
    by_cases hjk:j=i.toNat
    ·subst hjk;exact hp
    ·exact hI.2.2 j hj (by omega)
  ·have:xs.findIdx? p=none:=by
    rw[List.findIdx?_eq_none_iff];intro x hx;obtain⟨j,hj,rfl⟩:=List.getElem_of_mem hx;exact hI.2.2 j hj (by omega)
   rw[this]
theorem Cf (nl:Bool) (xs:List Int) (f:FuncId) (cs:List D) (p:Int->Bool) (hb:B5 E0.P f=true) (hcs:BV AV.toD1 (cs.map .d)=some cs) (h:∀x,x∈xs->CA E0 f (.int .i64 x::cs) (.bool (p x))) :
  CA E0 CJ [.list nl (Ab xs),.fn f cs] (.bool (xs.any p)):=by
 refine AL Dx An (by simp) fun hwf=>?_
 rw[AR];unfold Cq
 simp -implicitDefEqProofs only[go_sem]
 refine Hy (Mm nl xs f cs p hb hcs h) rfl ?_
 simp -implicitDefEqProofs only[go_sem]
 have key:(0:Int)<=(match xs.findIdx? p with|some i=>(i:Int)|none=>-1)↔xs.any p=true:=by
  cases hf:xs.findIdx? p with
  |none=>rw[List.findIdx?_eq_none_iff] at hf;simp;intro x hx;simp[hf x hx]
  |some i=>rw[List.findIdx?_eq_some_iff_getElem] at hf;simp;exact⟨_,List.getElem_mem hf.1,hf.2.1⟩
 grind
theorem RJ (n:Int):CA E0 I3 [.int .i64 n] (.bool (!C1 n 0 1)):=by
 refine AL RG An (by simp) fun hwf=>?_
 rw[AR];unfold LQ C1
 (try (simp -implicitDefEqProofs only[go_sem]));repeat' first|(with_reducible first|exact tI|refine aI ?_ ?_|intro _)|((first|with_reducible refine AK ?_ ?_<;>intro _)<;>try (simp -implicitDefEqProofs only[go_sem]))|simp (disch:=omega) only[Ae]
 all_goals first|omega|(simp_all[C1];done)|(simp_all[C1];omega)|grind
theorem TK {α:Type}(xs:List α) (p:α->Bool):xs.any (fun x=>!p x)=!xs.all p:=by
 induction xs with
 |nil=>rfl
 |cons x xs ih=>simp only[List.any_cons,List.all_cons,ih,Bool.not_and]
theorem Ix (nl:Bool) (xs:List Int):CA E0 Qw [.list nl (Ab xs)] (.bool (A8 xs)):=by
 refine AL Tx An (by simp) fun hwf=>?_
 rw[AR];unfold OQ
 simp -implicitDefEqProofs only[go_sem]
 refine Hy (Cf nl xs I3 [] (fun n=>!C1 n 0 1) (by kernel_rfl) rfl fun x _=>RJ x) rfl ?_
 simp -implicitDefEqProofs only[go_sem,TK,Bool.not_not,A8]
theorem QK (nl:Bool) (xs:List Int):CA E0 MA [.list nl (Ab xs)] (.bool (C1 xs.length 1 16 && A8 xs)):=by
 refine AL QF An (by simp) fun hwf=>?_
 rw[AR];unfold Ka
 (try (simp -implicitDefEqProofs only[go_sem]));repeat' first|(with_reducible first|exact tI|refine aI ?_ ?_|intro _)|((first|with_reducible refine AK ?_ ?_<;>intro _|(with_reducible refine isCall ?_);first|refine AE (Ct _ _ _) ?_|refine AE (Ix nl xs) ?_)<;>try (simp -implicitDefEqProofs only[go_sem]))|simp (disch:=omega) only[Ae]
 all_goals first|omega|(simp_all[C1];done)|(simp_all[C1];omega)|grind
theorem O' (c:AW) (n:Int) (h:1<=c.out/\c.out<=5):CA E0 HB [.int .i64 n,.ptr (M_ c)] (.bool (!C1 n 0 (2^c.out.toNat-1))):=by
 refine AL Oz An (by simp) fun hwf=>?_
 rw[AR];unfold JN
 simp -implicitDefEqProofs only[go_sem,A9]
 have h1:=SL (k:=c.out.toNat) (by omega)
 have h2:=SK c.out.toNat
 refine⟨by omega,?_⟩
 simp (disch:=omega) only[Ae]
 refine Hy (Ct _ _ _) rfl ?_
 simp -implicitDefEqProofs only[go_sem]
theorem O_ (c:AW) (n:Int):CA E0 HA [.int .i64 n,.ptr (M_ c)] (.bool (!c.isState n)):=by
 refine AL Oy An (by simp) fun hwf=>?_
 rw[AR];unfold JM
 simp -implicitDefEqProofs only[go_sem,A9]
 refine Hy (Gs c n) rfl ?_
 simp -implicitDefEqProofs only[go_sem]
theorem Ny (c:AW) (n:Int) (h:1<=c.bits/\c.bits<=2):CA E0 GY [.int .i64 n,.ptr (M_ c)] (.bool (!c.isWord n)):=by
 refine AL No An (by simp) fun hwf=>?_
 rw[AR];unfold IT
 simp -implicitDefEqProofs only[go_sem,A9]
 refine Hy (Gr c (by omega)) rfl ?_
 simp -implicitDefEqProofs only[go_sem]
 have:=Pt h
 simp (disch:=omega) only[Ae]
 refine Hy (Ct _ _ _) rfl ?_
 simp -implicitDefEqProofs only[go_sem,AW.isWord]
theorem Ml (c:AW) (s w:Int) (h:c.ok=true) (hs:c.isState s=true) (hw:c.isWord w=true) :
  CA E0 F9 [Fz c,.int .i64 s,.int .i64 w] (.list false (Ab (C5 c.out.toNat (c.wrd s w)))):=by
 refine AL Mh An (by simp) fun hwf=>?_
 have hd:=AW.ok_head h
 simp only[AW.isState,AW.isWord,C1,decide_eq_true_eq] at hs hw
 have hrow:=AW.ok_words h s.toNat (by omega)
 have h12:=Pt (b:=c.bits) (by omega)
 rw[AR];unfold Hk
 simp -implicitDefEqProofs only[go_sem,BU,A9,BT]
 simp (disch:=omega) only[Ae]
 refine AX (α:=Int×Bool×(List Int)) (l0:=?l2) (m0:=?m2) (fun x=>[(8,.d (.int .i64 x.1))]) (fun x=>[(31,.row TS 1 x.2.1 (Ab x.2.2))]) (fun x=>-1<=x.1/\x.1<c.out/\x.2.2.length+x.1=c.out-1/\x.2.1=x.2.2.isEmpty/\x.2.2++C5 (x.1+1).toNat (c.wrd s w)=C5 c.out.toNat (c.wrd s w)) (fun x=>(x.1+1).toNat) (?a2_0,?a2_1,[]) ?h02 ?he2 ?he22 ?hI2 ?step2
 case h02=>(simp -implicitDefEqProofs only[go_sem,BU,A9,BT];rfl)
 case he2=>rfl
 case he22=>rfl
 case' step2=>(rintro⟨i,nl,acc⟩ hI;try dsimp only at hI)
 case' hI2=>try dsimp only
 ·simp;(try omega)
 ·(try (simp -implicitDefEqProofs only[go_sem,BT,Cl]));repeat' first|(with_reducible first|exact tI|refine aI ?_ ?_|intro _)|((first|with_reducible refine AK ?_ ?_<;>intro _)<;>try (simp -implicitDefEqProofs only[go_sem,BT,Cl]))|simp (disch:=omega) only[Ae]|((with_reducible refine Ao ?_);refine⟨(_,_,_),rfl,?_,?_⟩)
  all_goals first|omega|(simp<;>omega)|skip
  ·rw[←hI.2.2.2.2,show (i-1+1).toNat=i.toNat by omega,show (i+1).toNat=i.toNat+1 by omega,C5,c.wrd_eq]
   simp
  ·have h0:(i+1).toNat=0:=by omega
   have h1:acc=C5 c.out.toNat (c.wrd s w):=by rw[←hI.2.2.2.2,h0,C5,List.append_nil]
   have h2:acc≠[]:=by rintro rfl;simp at hI;omega
   rw[←h1,hI.2.2.2.1];cases acc with
   |nil=>exact absurd rfl h2
   |cons _ _=>rfl
end
section
attribute [local congr] Bm A' BA Au Bn Az A1 A0 Ar Al Af Aa Aw Ag Ax BM BQ BO BP BN BR BG Aj Ay Ak BE BX Ai BK BL BF BH BJ BI BC BD A_ Bp BB Av Ah
attribute [local irreducible] IntKind.wrap A3 Option.getD and or
def AW.rowsOk (c:AW) (j:Nat):Bool:=OK (2^c.bits.toNat) (2^c.out.toNat-1) (c.words[j]?.getD default) && OK (2^c.bits.toNat) (c.words.length-1) (c.next[j]?.getD default)
theorem Pg (c:AW) (j:Nat):c.rowsOk j=(decide (((c.words[j]?.getD default).2.length:Int)=2^c.bits.toNat) && ((c.words[j]?.getD default).2.all fun n=>C1 n 0 (2^c.out.toNat-1)) &&
  (decide (((c.next[j]?.getD default).2.length:Int)=2^c.bits.toNat) && (c.next[j]?.getD default).2.all c.isState)):=by
 have h:∀(n k:Nat),decide (n=2^k)=decide ((n:Int)=2^k):=fun n k=>by
  have:((2^k:Nat):Int)=(2:Int)^k:=by simp
  rw[←this,decide_eq_decide];omega
 simp only[AW.rowsOk,OK,h];rfl
theorem ZG (c:AW) (hh:c.head=true):c.ok=true↔∀(j:Nat),j<c.words.length->c.rowsOk j=true:=by
 have hl:c.next.length=c.words.length:=by simp[AW.head] at hh;exact hh.2
 simp only[AW.ok,AW.rowsOk,hh,Bool.true_and,Bool.and_eq_true,List.all_eq_true]
 constructor
 ·intro h j h1
  exact⟨h.1 _ (LY h1),h.2 _ (LY (by omega))⟩
 ·intro h
  constructor
  ·intro x hx;obtain⟨j,hj,rfl⟩:=List.getElem_of_mem hx;have:=(h j hj).1;simpa[hj] using this
  ·intro x hx;obtain⟨j,hj,rfl⟩:=List.getElem_of_mem hx;have:=(h j (by omega)).2;simpa[hj] using this
theorem gE (c:AW) (hh:c.head=true) (j:Nat) (hj:j<c.words.length) (hb:c.rowsOk j=false):c.ok=false:=by
 cases h:c.ok with
 |false=>rfl
 |true=>have:=(ZG c hh).1 h j hj;rw[this] at hb;cases hb
theorem Ki (c:AW):CA E0 NM [Fz c] (.int .i64 (Ld c.ok 40)):=by
 refine AL RH An (by simp) fun hwf=>?_
 simp only[DY,Cv,Cu,Ck,Dq,Dp,FD,Dn,Bj,Bt,Bu,Cy,B6,List.length_map,B4,true_and,and_true,BU,A9,BT] at hwf
 have noHead:c.head=false->Ld c.ok 40=40:=fun h=>by simp[Ld,AW.ok,h]
 rw[AR];unfold LR
 (try (simp -implicitDefEqProofs only[go_sem,BU,A9,BT]));repeat' first|(with_reducible first|exact tI|refine aI ?_ ?_|intro _)|((first|with_reducible refine AK ?_ ?_<;>intro _|(with_reducible refine isCall ?_);first|refine AE (Ct _ _ _) ?_)<;>try (simp -implicitDefEqProofs only[go_sem,BU,A9,BT]))|simp (disch:=omega) only[Ae]|((with_reducible refine Ad ?_);refine⟨_,rfl,?_,?_⟩)
 all_goals first|(rw[noHead (by cases hh:c.head;rfl;exfalso;simp only[AW.head,C1,Bool.and_eq_true,decide_eq_true_eq,decide_eq_false_iff_not] at *;omega)];done)|skip
 have hh:c.head=true:=by simp only[AW.head,C1,Bool.and_eq_true,decide_eq_true_eq,decide_eq_false_iff_not] at *;omega
 have ho:1<=c.out/\c.out<=5:=by simp_all[C1]
 have hb:1<=c.bits/\c.bits<=2:=by simp_all[C1]
 have hl:c.next.length=c.words.length:=by omega
 have h12:=Pt hb
 have c1:=fun nl xs=>Cf nl xs HB [.ptr (M_ c)] (fun n=>!C1 n 0 (2^c.out.toNat-1)) (by kernel_rfl) rfl (fun x _=>O' c x ho)
 have c2:=fun nl xs=>Cf nl xs HA [.ptr (M_ c)] (fun n=>!c.isState n) (by kernel_rfl) rfl (fun x _=>O_ c x)
 simp only[TK] at c1 c2
 have bad:∀j,j<c.words.length->c.rowsOk j=false->Ld c.ok 40=40:=fun j hj h=>by rw[Ld,gE c hh j hj h];rfl
 refine AX (α:=Int) (l0:=?l1) (m0:=?m1) (fun x=>[(63,.d (.int .i64 x))]) (fun x=>[]) (fun x=>0<=x/\x<=c.words.length/\∀(j:Nat),(j:Int)<x->c.rowsOk j=true) (fun x=>(c.words.length-x).toNat) ?a1_0 ?h01 ?he1 ?he21 ?hI1 ?step1
 case h01=>(simp -implicitDefEqProofs only[go_sem,BU,A9,BT];rfl)
 case he1=>rfl
 case he21=>rfl
 case' step1=>(rintro i hI;try dsimp only at hI)
 case' hI1=>try dsimp only
 ·simp;omega
 ·(try (simp -implicitDefEqProofs only[go_sem,BT,Cl]));repeat' first|(with_reducible first|exact tI|refine aI ?_ ?_|intro _)|((first|with_reducible refine AK ?_ ?_<;>intro _|(with_reducible refine isCall ?_);first|refine AE (Gr c (by omega)) ?_|refine AE (c1 _ _) ?_|refine AE (c2 _ _) ?_)<;>try (simp -implicitDefEqProofs only[go_sem,BT,Cl]))|simp (disch:=omega) only[Ae]|((with_reducible refine Ad ?_);refine⟨_,rfl,?_,?_⟩)
  all_goals first|omega|(simp<;>omega)|skip
  all_goals try (refine congrArg (D.int .i64) (bad i.toNat (by omega) ?_).symm;rw[Pg];generalize ((c.words[i.toNat]?.getD default).2.all fun n=>C1 n 0 (2^c.out.toNat-1))=A at *;generalize (c.next[i.toNat]?.getD default).2.all c.isState=B at *;cases A<;>cases B<;>simp_all;done)
  ·rename_i j hj
   by_cases hji:j=i.toNat
   ·subst hji;rw[Pg];generalize ((c.words[i.toNat]?.getD default).2.all fun n=>C1 n 0 (2^c.out.toNat-1))=A at *;generalize (c.next[i.toNat]?.getD default).2.all c.isState=B at *;cases A<;>cases B<;>simp_all
   ·exact hI.2.2 j (by omega)
  ·have:c.ok=true:=(ZG c hh).2 fun j hj=>hI.2.2 j (by omega)
   rw[Ld,this];rfl
theorem S6 (c:AW) (s:Int):CA E0 PW [Fz c,.int .i64 s] (.tup [Fz c,.int .i64 (if !c.ok then 40 else if !c.isState s then 41 else 0)]):=by
 refine AL Sy An (by simp) fun hwf=>?_
 rw[AR];unfold M4
 (try (simp -implicitDefEqProofs only[go_sem,BU,A9]));repeat' first|(with_reducible first|exact tI|refine aI ?_ ?_|intro _)|((first|with_reducible refine AK ?_ ?_<;>intro _|(with_reducible refine isCall ?_);first|refine AE (Ki c) ?_|refine AE (Gs c s) ?_)<;>try (simp -implicitDefEqProofs only[go_sem,BU,A9]))|simp (disch:=omega) only[Ae]
 all_goals (cases hok:c.ok<;>cases hst:c.isState s<;>simp_all[Ld,BU,A9])
end
section
attribute [local congr] Bm A' BA Au Bn Az A1 A0 Ar Al Af Aa Aw Ag Ax BM BQ BO BP BN BR BG Aj Ay Ak BE BX Ai BK BL BF BH BJ BI BC BD A_ Bp BB Av Ah
attribute [local irreducible] IntKind.wrap A3 Option.getD and or
theorem QL (c:AW) (s:Int) (nl:Bool) (l:List Int):CA E0 MB [Fz c,.int .i64 s,.list nl (Ab l)] (.tup [.list (c.encode s l).1.isEmpty (Ab (c.encode s l).1),.int .i64 (c.encode s l).2.1,.int .i64 (c.encode s l).2.2]):=by
 refine AL QG An (by simp) fun hwf=>?_
 rw[AR];unfold Kb
 simp -implicitDefEqProofs only[go_sem,BU,A9]
 refine Hy (S6 c s) rfl ?_
 simp -implicitDefEqProofs only[go_sem,BU,A9]
 by_cases hok:c.ok=true/\c.isState s=true
 ·obtain⟨h1,h2⟩:=hok
  have hd:=AW.ok_head h1
  have c1:=fun nl xs=>Cf nl xs GY [.ptr (M_ c)] (fun n=>!c.isWord n) (by kernel_rfl) rfl (fun x _=>Ny c x (by omega))
  simp only[TK] at c1
  simp only[h1,h2,Bool.not_true,Bool.false_eq_true,if_false]
  (try (simp -implicitDefEqProofs only[go_sem]));repeat' first|(with_reducible first|exact tI|refine aI ?_ ?_|intro _)|((first|with_reducible refine AK ?_ ?_<;>intro _|(with_reducible refine isCall ?_);first|refine AE (c1 _ _) ?_)<;>try (simp -implicitDefEqProofs only[go_sem]))|simp (disch:=omega) only[Ae]|((with_reducible refine Bf ?_);refine⟨(_,_,_,_),rfl,?_,?_⟩)
  ·have:c.isData l=false:=by simp[AW.isData];omega
   simp[AW.encode,h1,h2,this]
  ·have:c.isData l=false:=by simp only[AW.isData];simp_all
   simp[AW.encode,h1,h2,this]
  ·have hdt:c.isData l=true:=by simp only[AW.isData];simp_all;omega
   have hen:c.encode s l=((c.stream s l).1,(c.stream s l).2,0):=by simp[AW.encode,h1,h2,hdt]
   have hlw:∀w,w∈l->c.isWord w=true:=by simp only[AW.isData,Bool.and_eq_true,List.all_eq_true] at hdt;exact hdt.2
   have hl24:l.length<=24:=by simp[AW.isData] at hdt;exact hdt.1
   rw[hen]
   refine AX (α:=Int×Int×Bool×(List Int)) (l0:=?l1) (m0:=?m1) (fun x=>[(31,.d (.int .i64 x.1)),(1,.d (.int .i64 x.2.1))]) (fun x=>[(40,.row TS 1 x.2.2.1 (Ab x.2.2.2))]) (fun x=>0<=x.1/\x.1<=l.length/\c.isState x.2.1=true/\x.2.2.1=x.2.2.2.isEmpty/\x.2.2.2.length=c.out.toNat * x.1.toNat/\c.stream s l=(x.2.2.2++(c.stream x.2.1 (l.drop x.1.toNat)).1,(c.stream x.2.1 (l.drop x.1.toNat)).2)) (fun x=>(l.length-x.1).toNat) (?a1_0,?a1_1,?a1_2,[]) ?h01 ?he1 ?he21 ?hI1 ?step1
   case h01=>(simp -implicitDefEqProofs only[go_sem,BU,A9];rfl)
   case he1=>rfl
   case he21=>rfl
   case' step1=>(rintro⟨i,t,nl',acc⟩ hI;try dsimp only at hI)
   case' hI1=>try dsimp only
   ·simp[h2]
   ·have hcb:∀w,w∈l->CA E0 F9 [Fz c,.int .i64 t,.int .i64 w] (.list false (Ab (C5 c.out.toNat (c.wrd t w)))):=fun w hw=>Ml c t w h1 hI.2.2.1 (hlw w hw)
    by_cases hi:i<l.length
    ·have hm:l[i.toNat]?.getD 0∈l:=Dd (by omega)
     have hcb:=hcb _ hm
     have hst:=hI.2.2.1
     simp only[AW.isState,C1,decide_eq_true_eq] at hst
     have hn:=AW.ok_next h1 t.toNat (by omega)
     have h12:=Pt (b:=c.bits) (by omega)
     have hwd:=hlw _ hm
     simp only[AW.isWord,C1,decide_eq_true_eq] at hwd
     have hbl:=Iz c.out.toNat (c.wrd t (l[i.toNat]?.getD 0))
     have hbig:c.out.toNat * i.toNat<=5*24:=Nat.mul_le_mul (by omega) (by omega)
     (try (simp -implicitDefEqProofs only[go_sem,BT,Cl]));repeat' first|(with_reducible first|exact tI|refine aI ?_ ?_|intro _)|((first|with_reducible refine AK ?_ ?_<;>intro _|(with_reducible refine isCall ?_);first|refine AE hcb ?_)<;>try (simp -implicitDefEqProofs only[go_sem,BT,Cl]))|simp (disch:=omega) only[Ae]|((with_reducible refine Bf ?_);refine⟨(_,_,_,_),rfl,?_,?_⟩)
     all_goals first|omega|(simp<;>omega)|skip
     ·exact AW.nxt_state h1 hI.2.2.1 (hlw _ hm)
     ·rw[hI.2.2.2.1];cases acc<;>simp
     ·rw[List.length_append,hI.2.2.2.2.1,hbl,show (i+1).toNat=i.toNat+1 by omega,Nat.mul_succ]
     ·have hdrop:l.drop i.toNat=(l[i.toNat]?.getD 0)::l.drop (i+1).toNat:=by
       rw[show (i+1).toNat=i.toNat+1 by omega,List.drop_eq_getElem_cons (by omega),List.getElem?_eq_getElem (by omega),Option.getD_some]
      rw[hI.2.2.2.2.2,hdrop,AW.stream]
      simp[c.nxt_eq,List.append_assoc]
    ·(try (simp -implicitDefEqProofs only[go_sem]));repeat' first|(with_reducible first|exact tI|refine aI ?_ ?_|intro _)|((first|with_reducible refine AK ?_ ?_<;>intro _)<;>try (simp -implicitDefEqProofs only[go_sem]))|simp (disch:=omega) only[Ae]|((with_reducible refine Bf ?_);refine⟨(_,_,_,_),rfl,?_,?_⟩)
     all_goals first|omega|(simp<;>omega)|skip
     have h0:l.drop i.toNat=[]:=List.drop_eq_nil_of_le (by omega)
     rw[hI.2.2.2.2.2,h0,AW.stream,hI.2.2.2.1]
     simp
 ·have hk:c.encode s l=([],0,if !c.ok then 40 else 41):=by
   simp only[AW.encode];cases hok1:c.ok<;>cases hst:c.isState s<;>simp_all
  rw[hk]
  (try (simp -implicitDefEqProofs only[go_sem]));repeat' first|(with_reducible first|exact tI|refine aI ?_ ?_|intro _)|((first|with_reducible refine AK ?_ ?_<;>intro _)<;>try (simp -implicitDefEqProofs only[go_sem]))|simp (disch:=omega) only[Ae]|((with_reducible refine Bf ?_);refine⟨(_,_,_,_),rfl,?_,?_⟩)
  all_goals (cases hok1:c.ok<;>cases hst:c.isState s<;>simp_all)
theorem Nx (n1 n2:Bool) (xs ys:List Int) (hx:A8 xs=true) (hy:A8 ys=true) (hl:xs.length<=ys.length) (h128:xs.length<=1000000) :
  CA E0 Jp [.list n1 (Ab xs),.list n2 (Ab ys)] (.int .i64 (Cs xs ys)):=by
 refine AL Nm An (by simp) fun hwf=>?_
 rw[AR];unfold IQ
 simp -implicitDefEqProofs only[go_sem]
 refine AX (α:=Int×Int) (l0:=?l2) (m0:=?m2) (fun x=>[(9,.d (.int .i64 x.1)),(4,.d (.int .i64 x.2))]) (fun x=>[]) (fun x=>0<=x.1/\x.1<=xs.length/\0<=x.2/\x.2<=x.1/\x.2+Cs (xs.drop x.1.toNat) (ys.drop x.1.toNat)=Cs xs ys) (fun x=>(xs.length-x.1).toNat) (?a2_0,?a2_1) ?h02 ?he2 ?he22 ?hI2 ?step2
 case h02=>(simp -implicitDefEqProofs only[go_sem];rfl)
 case he2=>rfl
 case he22=>rfl
 case' step2=>(rintro⟨i,n⟩ hI;try dsimp only at hI)
 case' hI2=>try dsimp only
 ·simp
 ·by_cases hi:i<xs.length
  ·obtain⟨e,he⟩:∃e:Int,(if xs[i.toNat]?.getD 0=ys[i.toNat]?.getD 0 then 0 else 1)=e:=⟨_,rfl⟩
   have hxor:=Ux (Fi hx (i:=i.toNat) (by omega)) (Fi hy (i:=i.toNat) (by omega))
   have hd:Cs (xs.drop i.toNat) (ys.drop i.toNat)=e+Cs (xs.drop (i+1).toNat) (ys.drop (i+1).toNat):=by
    rw[FJ (xs:=xs) (i:=i.toNat) (by omega),FJ (xs:=ys) (i:=i.toNat) (by omega),Cs,he,show (i+1).toNat=i.toNat+1 by omega]
   rw[he] at hxor
   have he1:e=0\/e=1:=by rw[←he];split<;>simp
   (try (simp -implicitDefEqProofs only[go_sem]));repeat' first|(with_reducible first|exact tI|refine aI ?_ ?_|intro _)|((first|with_reducible refine AK ?_ ?_<;>intro _)<;>try (simp -implicitDefEqProofs only[go_sem]))|simp (disch:=omega) only[Ae]|((with_reducible refine Ap ?_);refine⟨(_,_),rfl,?_,?_⟩)
   all_goals (try simp only[hxor])
   all_goals (try rw[AZ _ (by omega)])
   all_goals omega
  ·(try (simp -implicitDefEqProofs only[go_sem]));repeat' first|(with_reducible first|exact tI|refine aI ?_ ?_|intro _)|((first|with_reducible refine AK ?_ ?_<;>intro _)<;>try (simp -implicitDefEqProofs only[go_sem]))|simp (disch:=omega) only[Ae]|((with_reducible refine Ap ?_);refine⟨(_,_),rfl,?_,?_⟩)
   all_goals first|omega|(simp<;>omega)|skip
   have h0:xs.drop i.toNat=[]:=List.drop_eq_nil_of_le (by omega)
   have h1:Cs [] (ys.drop i.toNat)=0:=by simp[Cs]
   rw[h0,h1] at hI
   rw[←hI.2.2.2.2];simp
def Lc (mark bits:List Int) (e:Int):Nat->Int->List Int
 |0,_=>[]
 |n+1,i=>if Cs mark (bits.drop i.toNat)<=e then i::Lc mark bits e n (i+1) else Lc mark bits e n (i+1)
def Cx (mark:List Int):Bool:=C1 mark.length 1 16 && A8 mark
def La (mark bits:List Int) (e:Int):List Int×Int :=
 if !(Cx mark && decide (bits.length<=128) && A8 bits && C1 e 0 16) then ([],1)
 else (Lc mark bits e (bits.length+1-mark.length) 0,0)
theorem EC {xs:List Int}(h:A8 xs=true) (n:Nat):A8 (xs.drop n)=true:=by
 simp only[A8,List.all_eq_true] at *
 exact fun x hx=>h x (List.mem_of_mem_drop hx)
theorem S7 (n1 n2:Bool) (mark bits:List Int) (e:Int):CA E0 PX [.list n1 (Ab mark),.list n2 (Ab bits),.int .i64 e]
  (.tup [.list (La mark bits e).1.isEmpty (Ab (La mark bits e).1),.int .i64 (La mark bits e).2]):=by
 refine AL Sz An (by simp) fun hwf=>?_
 simp only[DY,Cv,Cu,Ck,Dq,Dp,FD,Dn,Bj,Bt,Bu,Cy,B6,List.length_map,B4,true_and,and_true] at hwf
 have bad:(Cx mark && decide (bits.length<=128) && A8 bits && C1 e 0 16)=false->La mark bits e=([],1):=fun h=>by simp only[La,h];rfl
 have bad2:¬bits.length<=128->La mark bits e=([],1):=fun h=>bad (by
      have:decide (bits.length<=128)=false:=by simpa using h
      simp[this])
 rw[AR];unfold M5
 (try (simp -implicitDefEqProofs only[go_sem]));repeat' first|(with_reducible first|exact tI|refine aI ?_ ?_|intro _)|((first|with_reducible refine AK ?_ ?_<;>intro _|(with_reducible refine isCall ?_);first|refine AE (QK _ _) ?_|refine AE (Ix _ _) ?_|refine AE (Ct _ _ _) ?_)<;>try (simp -implicitDefEqProofs only[go_sem]))|simp (disch:=omega) only[Ae]|((with_reducible refine Ao ?_);refine⟨(_,_,_),rfl,?_,?_⟩)
 all_goals first|(
     have hx:¬bits.length<=128:=by omega
     rw[bad2 hx];rfl)|skip
 all_goals first|(
     have hx:(Cx mark && decide (bits.length<=128) && A8 bits && C1 e 0 16)=false:=by(simp_all[Cx];done)
     rw[bad hx];rfl)|skip
 have hm:Cx mark=true:=by assumption
 have hb:A8 bits=true:=by assumption
 have h128:bits.length<=128:=by omega
 have hgood:La mark bits e=(Lc mark bits e (bits.length+1-mark.length) 0,0):=by simp only[La];simp_all
 have hmb:A8 mark=true:=by simp only[Cx,Bool.and_eq_true] at hm;exact hm.2
 have hm1:1<=mark.length/\mark.length<=16:=by simp[Cx,C1] at hm;omega
 rw[hgood]
 refine AX (α:=Int×Bool×(List Int)) (l0:=?l3) (m0:=?m3) (fun x=>[(35,.d (.int .i64 x.1))]) (fun x=>[(48,.row TS 1 x.2.1 (Ab x.2.2))]) (fun x=>0<=x.1/\x.1<=max 0 (bits.length-mark.length+1:Int)/\x.2.2.length<=x.1/\x.2.1=x.2.2.isEmpty/\x.2.2++Lc mark bits e (bits.length+1-mark.length-x.1.toNat) x.1=Lc mark bits e (bits.length+1-mark.length) 0) (fun x=>(max 0 (bits.length-mark.length+1:Int)-x.1).toNat) (?a3_0,?a3_1,[]) ?h03 ?he3 ?he23 ?hI3 ?step3
 case h03=>(simp -implicitDefEqProofs only[go_sem];rfl)
 case he3=>rfl
 case he23=>rfl
 case' step3=>(rintro⟨i,nl,acc⟩ hI;try dsimp only at hI)
 case' hI3=>try dsimp only
 ·simp;omega
 ·by_cases hi:i<max 0 (bits.length-mark.length+1:Int)
  ·have hstep:Lc mark bits e (bits.length+1-mark.length-i.toNat) i=if Cs mark (bits.drop i.toNat)<=e then i::Lc mark bits e (bits.length+1-mark.length-(i+1).toNat) (i+1) else Lc mark bits e (bits.length+1-mark.length-(i+1).toNat) (i+1):=by
    rw[show bits.length+1-mark.length-i.toNat=(bits.length+1-mark.length-(i+1).toNat)+1 by omega,Lc]
   have cd:=fun n1 n2=>Nx n1 n2 mark (bits.drop i.toNat) hmb (EC hb _) (by simp;omega) (by omega)
   (try (simp -implicitDefEqProofs only[go_sem]));repeat' first|(with_reducible first|exact tI|refine aI ?_ ?_|intro _)|((first|with_reducible refine AK ?_ ?_<;>intro _|(with_reducible refine isCall ?_);first|refine AE (cd _ _) ?_)<;>try (simp -implicitDefEqProofs only[go_sem]))|simp (disch:=omega) only[Ae]|((with_reducible refine Ao ?_);refine⟨(_,_,_),rfl,?_,?_⟩)
   all_goals first|omega|(simp<;>omega)|skip
   ·rw[←hI.2.2.2.2,hstep,if_pos (by assumption)];simp
   ·exact hI.2.2.2.1
   ·rw[←hI.2.2.2.2,hstep,if_neg (by assumption)]
  ·(try (simp -implicitDefEqProofs only[go_sem]));repeat' first|(with_reducible first|exact tI|refine aI ?_ ?_|intro _)|((first|with_reducible refine AK ?_ ?_<;>intro _)<;>try (simp -implicitDefEqProofs only[go_sem]))|simp (disch:=omega) only[Ae]|((with_reducible refine Ao ?_);refine⟨(_,_,_),rfl,?_,?_⟩)
   all_goals first|omega|(simp<;>omega)|skip
   have h0:bits.length+1-mark.length-i.toNat=0:=by omega
   have h1:=hI.2.2.2.2
   rw[h0,Lc,List.append_nil] at h1
   rw[←h1,hI.2.2.2.1]
end
end Go.Pw
