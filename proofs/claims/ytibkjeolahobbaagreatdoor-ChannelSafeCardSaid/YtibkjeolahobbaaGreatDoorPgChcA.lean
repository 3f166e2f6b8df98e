/- A part of the proof. -/
import Derived.Test.YtibkjeolahobbaaGreatDoorChPC
import Derived.Test.YtibkjeolahobbaaGreatDoorPwVC
import Derived.Test.YtibkjeolahobbaaGreatDoorCodesSpec
set_option linter.all false
section
open Go Go.Pw Go.Proofs
namespace Go.Pw
set_option maxRecDepth 100000
set_option maxHeartbeats 400000
attribute [local congr] Bl A_ A' Ar Bm Ay A0 Az Aq Ak Ae Aa Av Af Aw BL BP BN BO BM BQ BF Ai Ax Aj BD BX Ah BJ BK BE BG BI BH BB BC A9 Bn BA Au Ag
attribute [local irreducible] IntKind.wrap A4 Option.getD and or
theorem Cl (n lo hi:Int):CD E0 Lc [.int .i64 n,.int .i64 lo,.int .i64 hi] (.bool (Cw n lo hi)):=by
 refine AO PE Ap (by simp) fun hwf=>?_
 rw[AW];unfold J7 Cw
 (try (simp -implicitDefEqProofs only[go_sem]));repeat' first|(with_reducible first|exact tI|refine aI ?_ ?_|intro _)|((first|with_reducible refine AM ?_ ?_<;>intro _)<;>try (simp -implicitDefEqProofs only[go_sem]))|simp (disch:=omega) only[Al]
 all_goals first|omega|(simp_all[Cw];done)|(simp_all[Cw];omega)|grind
theorem DI (n lo hi:Int):CD E0 LX [.int .i64 n,.int .i64 lo,.int .i64 hi] (.bool (Cw n lo hi)):=by
 refine AO O_ Ap (by simp) fun hwf=>?_
 rw[AW];unfold J2 Cw
 (try (simp -implicitDefEqProofs only[go_sem]));repeat' first|(with_reducible first|exact tI|refine aI ?_ ?_|intro _)|((first|with_reducible refine AM ?_ ?_<;>intro _)<;>try (simp -implicitDefEqProofs only[go_sem]))|simp (disch:=omega) only[Al]
 all_goals first|omega|(simp_all[Cw];done)|(simp_all[Cw];omega)|grind
theorem Gj (c:AQ) (h:0<=c.bits/\c.bits<=2):CD E0 Ho [Fw c] (.int .i64 (2^c.bits.toNat)):=by
 refine AO LK Ap (by simp) fun hwf=>?_
 rw[AW];unfold G4
 simp -implicitDefEqProofs only[go_sem,A8,A5]
 exact⟨h.1,by simp (disch:=omega) only[Al]⟩
theorem Gk (c:AQ) (n:Int):CD E0 Hp [Fw c,.int .i64 n] (.bool (c.isState n)):=by
 refine AO LL Ap (by simp) fun hwf=>?_
 simp only[Du,DA,C_,Cy,EB,EA,Fk,D_,Bi,Bs,Bt,DC,CA,List.length_map,B7,true_and,and_true,A8,A5,A7] at hwf
 rw[AW];unfold G5
 simp -implicitDefEqProofs only[go_sem,A8,A5,A7]
 simp (disch:=omega) only[Al]
 refine Hi (Cl _ _ _) rfl ?_
 simp -implicitDefEqProofs only[go_sem,AQ.isState]
theorem L_ (nl:Bool) (xs:List Int) (f:FuncId) (cs:List D) (p:Int->Bool) (hb:Bz E0.P f=true) (hcs:BR AV.toD1 (cs.map .d)=some cs) (h:∀x,x∈xs->CD E0 f (.int .i64 x::cs) (.bool (p x))) :
  CD E0 DQ [.list nl (Am xs),.fn f cs] (.int .i64 (match xs.findIdx? p with|some i=>i|none=>-1)):=by
 refine AO EM Ap (by simp) fun hwf=>?_
 simp only[Du,DA,C_,Cy,EB,EA,Fk,D_,Bi,Bs,Bt,DC,CA,List.length_map,B7,true_and,and_true] at hwf
 rw[AW];unfold DB
 simp -implicitDefEqProofs only[go_sem]
 refine AY (α:=Int) (l0:=?l1) (m0:=?m1) (fun x=>[(8,.d (.int .i64 x))]) (fun x=>[]) (fun x=>0<=x/\x<=xs.length/\∀(j:Nat) (hj:j<xs.length),(j:Int)<x->p xs[j]=false) (fun x=>(xs.length-x).toNat) ?a1_0 ?h01 ?he1 ?he21 ?hI1 ?step1
 case h01=>(simp -implicitDefEqProofs only[go_sem];rfl)
 case he1=>rfl
 case he21=>rfl
 case' step1=>(rintro i hI;try dsimp only at hI)
 case' hI1=>try dsimp only
 ·simp
  omega
 ·(try (simp -implicitDefEqProofs only[go_sem]));repeat' first|(with_reducible first|exact tI|refine aI ?_ ?_|intro _)|((first|with_reducible refine AM ?_ ?_<;>intro _)<;>try (simp -implicitDefEqProofs only[go_sem]))|simp (disch:=omega) only[Al]|((with_reducible refine A1 ?_);refine⟨_,rfl,?_,?_⟩)
  all_goals first|omega|(simp;done)|(simp;omega)|skip
  ·have hx:xs[i.toNat]?.getD 0=xs[i.toNat]'(by omega):=by rw[List.getElem?_eq_getElem (by omega),Option.getD_some]
   rw[hx]
   refine Yo (h _ (List.getElem_mem _)) (LR rfl hcs) (fun hp=>?_) (fun hp=>?_)
   ·simp -implicitDefEqProofs only[go_sem]
    have:xs.findIdx? p=some i.toNat:=by rw[List.findIdx?_eq_some_iff_getElem];exact⟨by omega,hp,fun j hj=>by simp[hI.2.2 j (by omega) (by omega)]⟩
    rw[this];simp;omega
   ·(try (simp -implicitDefEqProofs only[go_sem]));repeat' first|(with_reducible first|exact tI|refine aI ?_ ?_|intro _)|((first|with_reducible refine AM ?_ ?_<;>intro _)<;>try (simp -implicitDefEqProofs only[go_sem]))|simp (disch:=omega) only[Al]|((with_reducible refine A1 ?_);refine⟨_,rfl,?_,?_⟩)
    all_goals first|omega|(simp;done)|(simp;omega)|skip
    rename_i j hj hlt
    by_cases hjk:j=i.toNat
    ·subst hjk;exact hp
    ·exact hI.2.2 j hj (by omega)
  ·have:xs.findIdx? p=none:=by
    rw[List.findIdx?_eq_none_iff];intro x hx;obtain⟨j,hj,rfl⟩:=List.getElem_of_mem hx;exact hI.2.2 j hj (by omega)
   rw[this]
theorem CY (nl:Bool) (xs:List Int) (f:FuncId) (cs:List D) (p:Int->Bool) (hb:Bz E0.P f=true) (hcs:BR AV.toD1 (cs.map .d)=some cs) (h:∀x,x∈xs->CD E0 f (.int .i64 x::cs) (.bool (p x))) :
  CD E0 CB [.list nl (Am xs),.fn f cs] (.bool (xs.any p)):=by
 refine AO Dn Ap (by simp) fun hwf=>?_
 rw[AW];unfold Cj
 simp -implicitDefEqProofs only[go_sem]
 refine Hi (L_ nl xs f cs p hb hcs h) rfl ?_
 simp -implicitDefEqProofs only[go_sem]
 have key:(0:Int)<=(match xs.findIdx? p with|some i=>(i:Int)|none=>-1)↔xs.any p=true:=by
  cases hf:xs.findIdx? p with
  |none=>rw[List.findIdx?_eq_none_iff] at hf;simp;intro x hx;simp[hf x hx]
  |some i=>rw[List.findIdx?_eq_some_iff_getElem] at hf;simp;exact⟨_,List.getElem_mem hf.1,hf.2.1⟩
 grind
theorem QC (n:Int):CD E0 Io [.int .i64 n] (.bool (!Cw n 0 1)):=by
 refine AO P' Ap (by simp) fun hwf=>?_
 rw[AW];unfold K3 Cw
 (try (simp -implicitDefEqProofs only[go_sem]));repeat' first|(with_reducible first|exact tI|refine aI ?_ ?_|intro _)|((first|with_reducible refine AM ?_ ?_<;>intro _)<;>try (simp -implicitDefEqProofs only[go_sem]))|simp (disch:=omega) only[Al]
 all_goals first|omega|(simp_all[Cw];done)|(simp_all[Cw];omega)|grind
theorem Rv {α:Type}(xs:List α) (p:α->Bool):xs.any (fun x=>!p x)=!xs.all p:=by
 induction xs with
 |nil=>rfl
 |cons x xs ih=>simp only[List.any_cons,List.all_cons,ih,Bool.not_and]
theorem Ih (nl:Bool) (xs:List Int):CD E0 Pr [.list nl (Am xs)] (.bool (Ao xs)):=by
 refine AO SQ Ap (by simp) fun hwf=>?_
 rw[AW];unfold Nb
 simp -implicitDefEqProofs only[go_sem]
 refine Hi (CY nl xs Io [] (fun n=>!Cw n 0 1) (by kernel_rfl) rfl fun x _=>QC x) rfl ?_
 simp -implicitDefEqProofs only[go_sem,Rv,Bool.not_not,Ao]
theorem PK (nl:Bool) (xs:List Int):CD E0 Ld [.list nl (Am xs)] (.bool (Cw xs.length 1 16 && Ao xs)):=by
 refine AO PF Ap (by simp) fun hwf=>?_
 rw[AW];unfold J8
 (try (simp -implicitDefEqProofs only[go_sem]));repeat' first|(with_reducible first|exact tI|refine aI ?_ ?_|intro _)|((first|with_reducible refine AM ?_ ?_<;>intro _|(with_reducible refine isCall ?_);first|refine AE (Cl _ _ _) ?_|refine AE (Ih nl xs) ?_)<;>try (simp -implicitDefEqProofs only[go_sem]))|simp (disch:=omega) only[Al]
 all_goals first|omega|(simp_all[Cw];done)|(simp_all[Cw];omega)|grind
theorem OI (c:AQ) (n:Int) (h:1<=c.out/\c.out<=5):CD E0 Gz [.int .i64 n,.ptr (MQ c)] (.bool (!Cw n 0 (2^c.out.toNat-1))):=by
 refine AO N8 Ap (by simp) fun hwf=>?_
 rw[AW];unfold I9
 simp -implicitDefEqProofs only[go_sem,A5]
 have h1:=Qx (k:=c.out.toNat) (by omega)
 have h2:=Qw c.out.toNat
 refine⟨by omega,?_⟩
 simp (disch:=omega) only[Al]
 refine Hi (Cl _ _ _) rfl ?_
 simp -implicitDefEqProofs only[go_sem]
theorem OH (c:AQ) (n:Int):CD E0 Gy [.int .i64 n,.ptr (MQ c)] (.bool (!c.isState n)):=by
 refine AO N7 Ap (by simp) fun hwf=>?_
 rw[AW];unfold I8
 simp -implicitDefEqProofs only[go_sem,A5]
 refine Hi (Gk c n) rfl ?_
 simp -implicitDefEqProofs only[go_sem]
theorem M8 (c:AQ) (n:Int) (h:1<=c.bits/\c.bits<=2):CD E0 GQ [.int .i64 n,.ptr (MQ c)] (.bool (!c.isWord n)):=by
 refine AO Mw Ap (by simp) fun hwf=>?_
 rw[AW];unfold H9
 simp -implicitDefEqProofs only[go_sem,A5]
 refine Hi (Gj c (by omega)) rfl ?_
 simp -implicitDefEqProofs only[go_sem]
 have:=Oz h
 simp (disch:=omega) only[Al]
 refine Hi (Cl _ _ _) rfl ?_
 simp -implicitDefEqProofs only[go_sem,AQ.isWord]
theorem L9 (c:AQ) (s w:Int) (h:c.ok=true) (hs:c.isState s=true) (hw:c.isWord w=true) :
  CD E0 F8 [Fw c,.int .i64 s,.int .i64 w] (.list false (Am (Cu c.out.toNat (c.wrd s w)))):=by
 refine AO L5 Ap (by simp) fun hwf=>?_
 have hd:=AQ.ok_head h
 simp only[AQ.isState,AQ.isWord,Cw,decide_eq_true_eq] at hs hw
 have hrow:=AQ.ok_words h s.toNat (by omega)
 have h12:=Oz (b:=c.bits) (by omega)
 rw[AW];unfold HQ
 simp -implicitDefEqProofs only[go_sem,A8,A5,A7]
 simp (disch:=omega) only[Al]
 refine AY (α:=Int×Bool×(List Int)) (l0:=?l2) (m0:=?m2) (fun x=>[(8,.d (.int .i64 x.1))]) (fun x=>[(31,.row TL 1 x.2.1 (Am x.2.2))]) (fun x=>-1<=x.1/\x.1<c.out/\x.2.2.length+x.1=c.out-1/\x.2.1=x.2.2.isEmpty/\x.2.2++Cu (x.1+1).toNat (c.wrd s w)=Cu c.out.toNat (c.wrd s w)) (fun x=>(x.1+1).toNat) (?a2_0,?a2_1,[]) ?h02 ?he2 ?he22 ?hI2 ?step2
 case h02=>(simp -implicitDefEqProofs only[go_sem,A8,A5,A7];rfl)
 case he2=>rfl
 case he22=>rfl
 case' step2=>(rintro⟨i,nl,acc⟩ hI;try dsimp only at hI)
 case' hI2=>try dsimp only
 ·simp;(try omega)
 ·(try (simp -implicitDefEqProofs only[go_sem,A7,Cg]));repeat' first|(with_reducible first|exact tI|refine aI ?_ ?_|intro _)|((first|with_reducible refine AM ?_ ?_<;>intro _)<;>try (simp -implicitDefEqProofs only[go_sem,A7,Cg]))|simp (disch:=omega) only[Al]|((with_reducible refine BS ?_);refine⟨(_,_,_),rfl,?_,?_⟩)
  all_goals first|omega|(simp;done)|(simp;omega)|skip
  ·rw[←hI.2.2.2.2,show (i-1+1).toNat=i.toNat by omega,show (i+1).toNat=i.toNat+1 by omega,Cu,c.wrd_eq]
   simp
  ·have h0:(i+1).toNat=0:=by omega
   have h1:acc=Cu c.out.toNat (c.wrd s w):=by rw[←hI.2.2.2.2,h0,Cu,List.append_nil]
   have h2:acc≠[]:=by rintro rfl;simp at hI;omega
   rw[←h1,hI.2.2.2.1];cases acc with
   |nil=>exact absurd rfl h2
   |cons _ _=>rfl
end Go.Pw
end
section
open Go Go.Pw Go.Proofs
namespace Go.Pw
set_option maxRecDepth 100000
set_option maxHeartbeats 800000
attribute [local congr] Bl A_ A' Ar Bm Ay A0 Az Aq Ak Ae Aa Av Af Aw BL BP BN BO BM BQ BF Ai Ax Aj BD BX Ah BJ BK BE BG BI BH BB BC A9 Bn BA Au Ag
attribute [local irreducible] IntKind.wrap A4 Option.getD and or
def AQ.rowsOk (c:AQ) (j:Nat):Bool:=NW (2^c.bits.toNat) (2^c.out.toNat-1) (c.words[j]?.getD default) && NW (2^c.bits.toNat) (c.words.length-1) (c.next[j]?.getD default)
theorem Oq (c:AQ) (j:Nat):c.rowsOk j=(decide (((c.words[j]?.getD default).2.length:Int)=2^c.bits.toNat) && ((c.words[j]?.getD default).2.all fun n=>Cw n 0 (2^c.out.toNat-1)) &&
  (decide (((c.next[j]?.getD default).2.length:Int)=2^c.bits.toNat) && (c.next[j]?.getD default).2.all c.isState)):=by
 have h:∀(n k:Nat),decide (n=2^k)=decide ((n:Int)=2^k):=fun n k=>by
  have:((2^k:Nat):Int)=(2:Int)^k:=by simp
  rw[←this,decide_eq_decide];omega
 simp only[AQ.rowsOk,NW,h];rfl
theorem Xp (c:AQ) (hh:c.head=true):c.ok=true↔∀(j:Nat),j<c.words.length->c.rowsOk j=true:=by
 have hl:c.next.length=c.words.length:=by simp[AQ.head] at hh;exact hh.2
 simp only[AQ.ok,AQ.rowsOk,hh,Bool.true_and,Bool.and_eq_true,List.all_eq_true]
 constructor
 ·intro h j h1
  exact⟨h.1 _ (LA h1),h.2 _ (LA (by omega))⟩
 ·intro h
  constructor
  ·intro x hx;obtain⟨j,hj,rfl⟩:=List.getElem_of_mem hx;have:=(h j hj).1;simpa[hj] using this
  ·intro x hx;obtain⟨j,hj,rfl⟩:=List.getElem_of_mem hx;have:=(h j (by omega)).2;simpa[hj] using this
theorem eQ (c:AQ) (hh:c.head=true) (j:Nat) (hj:j<c.words.length) (hb:c.rowsOk j=false):c.ok=false:=by
 cases h:c.ok with
 |false=>rfl
 |true=>have:=(Xp c hh).1 h j hj;rw[this] at hb;cases hb
theorem KE (c:AQ):CD E0 Ma [Fw c] (.int .i64 (LF c.ok 40)):=by
 refine AO QA Ap (by simp) fun hwf=>?_
 simp only[Du,DA,C_,Cy,EB,EA,Fk,D_,Bi,Bs,Bt,DC,CA,List.length_map,B7,true_and,and_true,A8,A5,A7] at hwf
 have noHead:c.head=false->LF c.ok 40=40:=fun h=>by simp[LF,AQ.ok,h]
 rw[AW];unfold K4
 (try (simp -implicitDefEqProofs only[go_sem,A8,A5,A7]));repeat' first|(with_reducible first|exact tI|refine aI ?_ ?_|intro _)|((first|with_reducible refine AM ?_ ?_<;>intro _|(with_reducible refine isCall ?_);first|refine AE (Cl _ _ _) ?_)<;>try (simp -implicitDefEqProofs only[go_sem,A8,A5,A7]))|simp (disch:=omega) only[Al]|((with_reducible refine A1 ?_);refine⟨_,rfl,?_,?_⟩)
 all_goals first|(rw[noHead (by cases hh:c.head;rfl;exfalso;simp only[AQ.head,Cw,Bool.and_eq_true,decide_eq_true_eq,decide_eq_false_iff_not] at *;omega)];done)|skip
 have hh:c.head=true:=by simp only[AQ.head,Cw,Bool.and_eq_true,decide_eq_true_eq,decide_eq_false_iff_not] at *;omega
 have ho:1<=c.out/\c.out<=5:=by simp_all[Cw]
 have hb:1<=c.bits/\c.bits<=2:=by simp_all[Cw]
 have hl:c.next.length=c.words.length:=by omega
 have h12:=Oz hb
 have c1:=fun nl xs=>CY nl xs Gz [.ptr (MQ c)] (fun n=>!Cw n 0 (2^c.out.toNat-1)) (by kernel_rfl) rfl (fun x _=>OI c x ho)
 have c2:=fun nl xs=>CY nl xs Gy [.ptr (MQ c)] (fun n=>!c.isState n) (by kernel_rfl) rfl (fun x _=>OH c x)
 simp only[Rv] at c1 c2
 have bad:∀j,j<c.words.length->c.rowsOk j=false->LF c.ok 40=40:=fun j hj h=>by rw[LF,eQ c hh j hj h];rfl
 refine AY (α:=Int) (l0:=?l1) (m0:=?m1) (fun x=>[(63,.d (.int .i64 x))]) (fun x=>[]) (fun x=>0<=x/\x<=c.words.length/\∀(j:Nat),(j:Int)<x->c.rowsOk j=true) (fun x=>(c.words.length-x).toNat) ?a1_0 ?h01 ?he1 ?he21 ?hI1 ?step1
 case h01=>(simp -implicitDefEqProofs only[go_sem,A8,A5,A7];rfl)
 case he1=>rfl
 case he21=>rfl
 case' step1=>(rintro i hI;try dsimp only at hI)
 case' hI1=>try dsimp only
 ·simp;omega
 ·(try (simp -implicitDefEqProofs only[go_sem,A7,Cg]));repeat' first|(with_reducible first|exact tI|refine aI ?_ ?_|intro _)|((first|with_reducible refine AM ?_ ?_<;>intro _|(with_reducible refine isCall ?_);first|refine AE (Gj c (by omega)) ?_|refine AE (c1 _ _) ?_|refine AE (c2 _ _) ?_)<;>try (simp -implicitDefEqProofs only[go_sem,A7,Cg]))|simp (disch:=omega) only[Al]|((with_reducible refine A1 ?_);refine⟨_,rfl,?_,?_⟩)
  all_goals first|omega|(simp;done)|(simp;omega)|skip
  all_goals try (refine congrArg (D.int .i64) (bad i.toNat (by omega) ?_).symm;rw[Oq];generalize ((c.words[i.toNat]?.getD default).2.all fun n=>Cw n 0 (2^c.out.toNat-1))=A at *;generalize (c.next[i.toNat]?.getD default).2.all c.isState=B at *;cases A<;>cases B<;>simp_all;done)
  ·rename_i j hj
   by_cases hji:j=i.toNat
   ·subst hji;rw[Oq];generalize ((c.words[i.toNat]?.getD default).2.all fun n=>Cw n 0 (2^c.out.toNat-1))=A at *;generalize (c.next[i.toNat]?.getD default).2.all c.isState=B at *;cases A<;>cases B<;>simp_all
   ·exact hI.2.2 j (by omega)
  ·have:c.ok=true:=(Xp c hh).2 fun j hj=>hI.2.2 j (by omega)
   rw[LF,this];rfl
theorem Re (c:AQ) (s:Int):CD E0 Oa [Fw c,.int .i64 s] (.tup [Fw c,.int .i64 (if !c.ok then 40 else if !c.isState s then 41 else 0)]):=by
 refine AO RV Ap (by simp) fun hwf=>?_
 rw[AW];unfold MI
 (try (simp -implicitDefEqProofs only[go_sem,A8,A5]));repeat' first|(with_reducible first|exact tI|refine aI ?_ ?_|intro _)|((first|with_reducible refine AM ?_ ?_<;>intro _|(with_reducible refine isCall ?_);first|refine AE (KE c) ?_|refine AE (Gk c s) ?_)<;>try (simp -implicitDefEqProofs only[go_sem,A8,A5]))|simp (disch:=omega) only[Al]
 all_goals (cases hok:c.ok<;>cases hst:c.isState s<;>simp_all[LF,A8,A5])
end Go.Pw
end
section
open Go Go.Pw Go.Proofs
namespace Go.Pw
set_option maxRecDepth 100000
set_option maxHeartbeats 800000
attribute [local congr] Bl A_ A' Ar Bm Ay A0 Az Aq Ak Ae Aa Av Af Aw BL BP BN BO BM BQ BF Ai Ax Aj BD BX Ah BJ BK BE BG BI BH BB BC A9 Bn BA Au Ag
attribute [local irreducible] IntKind.wrap A4 Option.getD and or
theorem PL (c:AQ) (s:Int) (nl:Bool) (l:List Int):CD E0 Le [Fw c,.int .i64 s,.list nl (Am l)] (.tup [.list (c.encode s l).1.isEmpty (Am (c.encode s l).1),.int .i64 (c.encode s l).2.1,.int .i64 (c.encode s l).2.2]):=by
 refine AO PG Ap (by simp) fun hwf=>?_
 rw[AW];unfold J9
 simp -implicitDefEqProofs only[go_sem,A8,A5]
 refine Hi (Re c s) rfl ?_
 simp -implicitDefEqProofs only[go_sem,A8,A5]
 by_cases hok:c.ok=true/\c.isState s=true
 ·obtain⟨h1,h2⟩:=hok
  have hd:=AQ.ok_head h1
  have c1:=fun nl xs=>CY nl xs GQ [.ptr (MQ c)] (fun n=>!c.isWord n) (by kernel_rfl) rfl (fun x _=>M8 c x (by omega))
  simp only[Rv] at c1
  simp only[h1,h2,Bool.not_true,Bool.false_eq_true,if_false]
  (try (simp -implicitDefEqProofs only[go_sem]));repeat' first|(with_reducible first|exact tI|refine aI ?_ ?_|intro _)|((first|with_reducible refine AM ?_ ?_<;>intro _|(with_reducible refine isCall ?_);first|refine AE (c1 _ _) ?_)<;>try (simp -implicitDefEqProofs only[go_sem]))|simp (disch:=omega) only[Al]|((with_reducible refine Cc ?_);refine⟨(_,_,_,_),rfl,?_,?_⟩)
  ·have:c.isData l=false:=by simp[AQ.isData];omega
   simp[AQ.encode,h1,h2,this]
  ·have:c.isData l=false:=by simp only[AQ.isData];simp_all
   simp[AQ.encode,h1,h2,this]
  ·have hdt:c.isData l=true:=by simp only[AQ.isData];simp_all;omega
   have hen:c.encode s l=((c.stream s l).1,(c.stream s l).2,0):=by simp[AQ.encode,h1,h2,hdt]
   have hlw:∀w,w∈l->c.isWord w=true:=by simp only[AQ.isData,Bool.and_eq_true,List.all_eq_true] at hdt;exact hdt.2
   have hl24:l.length<=24:=by simp[AQ.isData] at hdt;exact hdt.1
   rw[hen]
   refine AY (α:=Int×Int×Bool×(List Int)) (l0:=?l1) (m0:=?m1) (fun x=>[(31,.d (.int .i64 x.1)),(1,.d (.int .i64 x.2.1))]) (fun x=>[(40,.row TL 1 x.2.2.1 (Am x.2.2.2))]) (fun x=>0<=x.1/\x.1<=l.length/\c.isState x.2.1=true/\x.2.2.1=x.2.2.2.isEmpty/\x.2.2.2.length=c.out.toNat * x.1.toNat/\c.stream s l=(x.2.2.2++(c.stream x.2.1 (l.drop x.1.toNat)).1,(c.stream x.2.1 (l.drop x.1.toNat)).2)) (fun x=>(l.length-x.1).toNat) (?a1_0,?a1_1,?a1_2,[]) ?h01 ?he1 ?he21 ?hI1 ?step1
   case h01=>(simp -implicitDefEqProofs only[go_sem,A8,A5];rfl)
   case he1=>rfl
   case he21=>rfl
   case' step1=>(rintro⟨i,t,nl',acc⟩ hI;try dsimp only at hI)
   case' hI1=>try dsimp only
   ·simp[h2]
   ·have hcb:∀w,w∈l->CD E0 F8 [Fw c,.int .i64 t,.int .i64 w] (.list false (Am (Cu c.out.toNat (c.wrd t w)))):=fun w hw=>L9 c t w h1 hI.2.2.1 (hlw w hw)
    by_cases hi:i<l.length
    ·have hm:l[i.toNat]?.getD 0∈l:=D2 (by omega)
     have hcb:=hcb _ hm
     have hst:=hI.2.2.1
     simp only[AQ.isState,Cw,decide_eq_true_eq] at hst
     have hn:=AQ.ok_next h1 t.toNat (by omega)
     have h12:=Oz (b:=c.bits) (by omega)
     have hwd:=hlw _ hm
     simp only[AQ.isWord,Cw,decide_eq_true_eq] at hwd
     have hbl:=Il c.out.toNat (c.wrd t (l[i.toNat]?.getD 0))
     have hbig:c.out.toNat * i.toNat<=5*24:=Nat.mul_le_mul (by omega) (by omega)
     (try (simp -implicitDefEqProofs only[go_sem,A7,Cg]));repeat' first|(with_reducible first|exact tI|refine aI ?_ ?_|intro _)|((first|with_reducible refine AM ?_ ?_<;>intro _|(with_reducible refine isCall ?_);first|refine AE hcb ?_)<;>try (simp -implicitDefEqProofs only[go_sem,A7,Cg]))|simp (disch:=omega) only[Al]|((with_reducible refine Cc ?_);refine⟨(_,_,_,_),rfl,?_,?_⟩)
     all_goals first|omega|(simp;done)|(simp;omega)|skip
     ·exact AQ.nxt_state h1 hI.2.2.1 (hlw _ hm)
     ·rw[hI.2.2.2.1];cases acc<;>simp
     ·rw[List.length_append,hI.2.2.2.2.1,hbl,show (i+1).toNat=i.toNat+1 by omega,Nat.mul_succ]
     ·have hdrop:l.drop i.toNat=(l[i.toNat]?.getD 0)::l.drop (i+1).toNat:=by
       rw[show (i+1).toNat=i.toNat+1 by omega,List.drop_eq_getElem_cons (by omega),List.getElem?_eq_getElem (by omega),Option.getD_some]
      rw[hI.2.2.2.2.2,hdrop,AQ.stream]
      simp[c.nxt_eq,List.append_assoc]
    ·(try (simp -implicitDefEqProofs only[go_sem]));repeat' first|(with_reducible first|exact tI|refine aI ?_ ?_|intro _)|((first|with_reducible refine AM ?_ ?_<;>intro _)<;>try (simp -implicitDefEqProofs only[go_sem]))|simp (disch:=omega) only[Al]|((with_reducible refine Cc ?_);refine⟨(_,_,_,_),rfl,?_,?_⟩)
     all_goals first|omega|(simp;done)|(simp;omega)|skip
     have h0:l.drop i.toNat=[]:=List.drop_eq_nil_of_le (by omega)
     rw[hI.2.2.2.2.2,h0,AQ.stream,hI.2.2.2.1]
     simp
 ·have hk:c.encode s l=([],0,if !c.ok then 40 else 41):=by
   simp only[AQ.encode];cases hok1:c.ok<;>cases hst:c.isState s<;>simp_all
  rw[hk]
  (try (simp -implicitDefEqProofs only[go_sem]));repeat' first|(with_reducible first|exact tI|refine aI ?_ ?_|intro _)|((first|with_reducible refine AM ?_ ?_<;>intro _)<;>try (simp -implicitDefEqProofs only[go_sem]))|simp (disch:=omega) only[Al]|((with_reducible refine Cc ?_);refine⟨(_,_,_,_),rfl,?_,?_⟩)
  all_goals (cases hok1:c.ok<;>cases hst:c.isState s<;>simp_all)
theorem M7 (n1 n2:Bool) (xs ys:List Int) (hx:Ao xs=true) (hy:Ao ys=true) (hl:xs.length<=ys.length) (h128:xs.length<=1000000) :
  CD E0 JV [.list n1 (Am xs),.list n2 (Am ys)] (.int .i64 (B5 xs ys)):=by
 refine AO Mu Ap (by simp) fun hwf=>?_
 rw[AW];unfold H7
 simp -implicitDefEqProofs only[go_sem]
 refine AY (α:=Int×Int) (l0:=?l2) (m0:=?m2) (fun x=>[(9,.d (.int .i64 x.1)),(4,.d (.int .i64 x.2))]) (fun x=>[]) (fun x=>0<=x.1/\x.1<=xs.length/\0<=x.2/\x.2<=x.1/\x.2+B5 (xs.drop x.1.toNat) (ys.drop x.1.toNat)=B5 xs ys) (fun x=>(xs.length-x.1).toNat) (?a2_0,?a2_1) ?h02 ?he2 ?he22 ?hI2 ?step2
 case h02=>(simp -implicitDefEqProofs only[go_sem];rfl)
 case he2=>rfl
 case he22=>rfl
 case' step2=>(rintro⟨i,n⟩ hI;try dsimp only at hI)
 case' hI2=>try dsimp only
 ·simp
 ·by_cases hi:i<xs.length
  ·obtain⟨e,he⟩:∃e:Int,(if xs[i.toNat]?.getD 0=ys[i.toNat]?.getD 0 then 0 else 1)=e:=⟨_,rfl⟩
   have hxor:=TR (Et hx (i:=i.toNat) (by omega)) (Et hy (i:=i.toNat) (by omega))
   have hd:B5 (xs.drop i.toNat) (ys.drop i.toNat)=e+B5 (xs.drop (i+1).toNat) (ys.drop (i+1).toNat):=by
    rw[Fv (xs:=xs) (i:=i.toNat) (by omega),Fv (xs:=ys) (i:=i.toNat) (by omega),B5,he,show (i+1).toNat=i.toNat+1 by omega]
   rw[he] at hxor
   have he1:e=0\/e=1:=by rw[←he];split<;>simp
   (try (simp -implicitDefEqProofs only[go_sem]));repeat' first|(with_reducible first|exact tI|refine aI ?_ ?_|intro _)|((first|with_reducible refine AM ?_ ?_<;>intro _)<;>try (simp -implicitDefEqProofs only[go_sem]))|simp (disch:=omega) only[Al]|((with_reducible refine Ab ?_);refine⟨(_,_),rfl,?_,?_⟩)
   all_goals (try simp only[hxor])
   all_goals (try rw[AZ _ (by omega)])
   all_goals omega
  ·(try (simp -implicitDefEqProofs only[go_sem]));repeat' first|(with_reducible first|exact tI|refine aI ?_ ?_|intro _)|((first|with_reducible refine AM ?_ ?_<;>intro _)<;>try (simp -implicitDefEqProofs only[go_sem]))|simp (disch:=omega) only[Al]|((with_reducible refine Ab ?_);refine⟨(_,_),rfl,?_,?_⟩)
   all_goals first|omega|(simp;done)|(simp;omega)|skip
   have h0:xs.drop i.toNat=[]:=List.drop_eq_nil_of_le (by omega)
   have h1:B5 [] (ys.drop i.toNat)=0:=by simp[B5]
   rw[h0,h1] at hI
   rw[←hI.2.2.2.2];simp
def LE (mark bits:List Int) (e:Int):Nat->Int->List Int
 |0,_=>[]
 |n+1,i=>if B5 mark (bits.drop i.toNat)<=e then i::LE mark bits e n (i+1) else LE mark bits e n (i+1)
def Co (mark:List Int):Bool:=Cw mark.length 1 16 && Ao mark
def LC (mark bits:List Int) (e:Int):List Int×Int :=
 if !(Co mark && decide (bits.length<=128) && Ao bits && Cw e 0 16) then ([],1)
 else (LE mark bits e (bits.length+1-mark.length) 0,0)
theorem Ez {xs:List Int}(h:Ao xs=true) (n:Nat):Ao (xs.drop n)=true:=by
 simp only[Ao,List.all_eq_true] at *
 exact fun x hx=>h x (List.mem_of_mem_drop hx)
theorem Rf (n1 n2:Bool) (mark bits:List Int) (e:Int):CD E0 Ob [.list n1 (Am mark),.list n2 (Am bits),.int .i64 e]
  (.tup [.list (LC mark bits e).1.isEmpty (Am (LC mark bits e).1),.int .i64 (LC mark bits e).2]):=by
 refine AO RX Ap (by simp) fun hwf=>?_
 simp only[Du,DA,C_,Cy,EB,EA,Fk,D_,Bi,Bs,Bt,DC,CA,List.length_map,B7,true_and,and_true] at hwf
 have bad:(Co mark && decide (bits.length<=128) && Ao bits && Cw e 0 16)=false->LC mark bits e=([],1):=fun h=>by simp only[LC,h];rfl
 have bad2:¬bits.length<=128->LC mark bits e=([],1):=fun h=>bad (by
      have:decide (bits.length<=128)=false:=by simpa using h
      simp[this])
 rw[AW];unfold MJ
 (try (simp -implicitDefEqProofs only[go_sem]));repeat' first|(with_reducible first|exact tI|refine aI ?_ ?_|intro _)|((first|with_reducible refine AM ?_ ?_<;>intro _|(with_reducible refine isCall ?_);first|refine AE (PK _ _) ?_|refine AE (Ih _ _) ?_|refine AE (Cl _ _ _) ?_)<;>try (simp -implicitDefEqProofs only[go_sem]))|simp (disch:=omega) only[Al]|((with_reducible refine BS ?_);refine⟨(_,_,_),rfl,?_,?_⟩)
 all_goals first|(
     have hx:¬bits.length<=128:=by omega
     rw[bad2 hx];rfl)|skip
 all_goals first|(
     have hx:(Co mark && decide (bits.length<=128) && Ao bits && Cw e 0 16)=false:=by(simp_all[Co];done)
     rw[bad hx];rfl)|skip
 have hm:Co mark=true:=by assumption
 have hb:Ao bits=true:=by assumption
 have h128:bits.length<=128:=by omega
 have hgood:LC mark bits e=(LE mark bits e (bits.length+1-mark.length) 0,0):=by simp only[LC];simp_all
 have hmb:Ao mark=true:=by simp only[Co,Bool.and_eq_true] at hm;exact hm.2
 have hm1:1<=mark.length/\mark.length<=16:=by simp[Co,Cw] at hm;omega
 rw[hgood]
 refine AY (α:=Int×Bool×(List Int)) (l0:=?l3) (m0:=?m3) (fun x=>[(35,.d (.int .i64 x.1))]) (fun x=>[(48,.row TL 1 x.2.1 (Am x.2.2))]) (fun x=>0<=x.1/\x.1<=max 0 (bits.length-mark.length+1:Int)/\x.2.2.length<=x.1/\x.2.1=x.2.2.isEmpty/\x.2.2++LE mark bits e (bits.length+1-mark.length-x.1.toNat) x.1=LE mark bits e (bits.length+1-mark.length) 0) (fun x=>(max 0 (bits.length-mark.length+1:Int)-x.1).toNat) (?a3_0,?a3_1,[]) ?h03 ?he3 ?he23 ?hI3 ?step3
 case h03=>(simp -implicitDefEqProofs only[go_sem];rfl)
 case he3=>rfl
 case he23=>rfl
 case' step3=>(rintro⟨i,nl,acc⟩ hI;try dsimp only at hI)
 case' hI3=>try dsimp only
 ·simp;omega
 ·by_cases hi:i<max 0 (bits.length-mark.length+1:Int)
  ·have hstep:LE mark bits e (bits.length+1-mark.length-i.toNat) i=if B5 mark (bits.drop i.toNat)<=e then i::LE mark bits e (bits.length+1-mark.length-(i+1).toNat) (i+1) else LE mark bits e (bits.length+1-mark.length-(i+1).toNat) (i+1):=by
    rw[show bits.length+1-mark.length-i.toNat=(bits.length+1-mark.length-(i+1).toNat)+1 by omega,LE]
   have cd:=fun n1 n2=>M7 n1 n2 mark (bits.drop i.toNat) hmb (Ez hb _) (by simp;omega) (by omega)
   (try (simp -implicitDefEqProofs only[go_sem]));repeat' first|(with_reducible first|exact tI|refine aI ?_ ?_|intro _)|((first|with_reducible refine AM ?_ ?_<;>intro _|(with_reducible refine isCall ?_);first|refine AE (cd _ _) ?_)<;>try (simp -implicitDefEqProofs only[go_sem]))|simp (disch:=omega) only[Al]|((with_reducible refine BS ?_);refine⟨(_,_,_),rfl,?_,?_⟩)
   all_goals first|omega|(simp;done)|(simp;omega)|skip
   ·rw[←hI.2.2.2.2,hstep,if_pos (by assumption)];simp
   ·exact hI.2.2.2.1
   ·rw[←hI.2.2.2.2,hstep,if_neg (by assumption)]
  ·(try (simp -implicitDefEqProofs only[go_sem]));repeat' first|(with_reducible first|exact tI|refine aI ?_ ?_|intro _)|((first|with_reducible refine AM ?_ ?_<;>intro _)<;>try (simp -implicitDefEqProofs only[go_sem]))|simp (disch:=omega) only[Al]|((with_reducible refine BS ?_);refine⟨(_,_,_),rfl,?_,?_⟩)
   all_goals first|omega|(simp;done)|(simp;omega)|skip
   have h0:bits.length+1-mark.length-i.toNat=0:=by omega
   have h1:=hI.2.2.2.2
   rw[h0,LE,List.append_nil] at h1
   rw[←h1,hI.2.2.2.1]
end Go.Pw
end
