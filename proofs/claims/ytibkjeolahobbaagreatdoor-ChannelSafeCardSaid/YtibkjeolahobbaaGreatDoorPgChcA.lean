/- A part of the proof. -/
import Derived.Test.YtibkjeolahobbaaGreatDoorChPC
import Derived.Test.YtibkjeolahobbaaGreatDoorPwVC
import Derived.Test.YtibkjeolahobbaaGreatDoorCodesSpec
set_option linter.all false
section
open Go Go.Pw Go.Proofs
namespace Go.Pw
set_option linter.unusedSimpArgs false
set_option linter.unusedVariables false
set_option maxRecDepth 100000
set_option maxHeartbeats 400000
attribute [local congr] Bh A_ A' Ap Bi Av Ax Aw Ao Ah Ab AZ Ar Ac As BI BM BK BL BJ BN BF Af Au Ag BD BQ Ae BG BH BE BB BC A9 BA Aq Ad
attribute [local irreducible] IntKind.wrap A5 Option.getD and or
theorem A8 (n lo hi:Int):CF E0 Kz [.int .i64 n,.int .i64 lo,.int .i64 hi] (.bool (Cj n lo hi)):=by
 refine AO N8 Am (by simp) fun hwf=>?_
 rw [AW];unfold JY Cj
 (try (simp -implicitDefEqProofs only [go_sem]));repeat' first|(with_reducible first|exact True.intro|refine And.intro ?_ ?_|intro _)|(((with_reducible refine AS ?_ ?_)<;>intro _)<;>try (simp -implicitDefEqProofs only [go_sem]))|simp (disch:=omega) only [AC,AH,AP,AJ,AD,AQ,AI,AA]
 all_goals first|omega|(simp_all [Cj];done)|(simp_all [Cj];omega)|grind
theorem Al (n lo hi:Int):CF E0 Ku [.int .i64 n,.int .i64 lo,.int .i64 hi] (.bool (Cj n lo hi)):=by
 refine AO N3 Am (by simp) fun hwf=>?_
 rw [AW];unfold JT Cj
 (try (simp -implicitDefEqProofs only [go_sem]));repeat' first|(with_reducible first|exact True.intro|refine And.intro ?_ ?_|intro _)|(((with_reducible refine AS ?_ ?_)<;>intro _)<;>try (simp -implicitDefEqProofs only [go_sem]))|simp (disch:=omega) only [AC,AH,AP,AJ,AD,AQ,AI,AA]
 all_goals first|omega|(simp_all [Cj];done)|(simp_all [Cj];omega)|grind
theorem Ce (c:AU) (h:0≤c.bits∧c.bits≤2):CF E0 HJ [HC c] (.int .i64 (2 ^ c.bits.toNat)):=by
 refine AO Ki Am (by simp) fun hwf=>?_
 rw [AW];unfold GX
 simp -implicitDefEqProofs only [go_sem,A6,A2]
 exact⟨h.1,by simp (disch:=omega) only [AC,AH,AP,AJ,AD,AQ,AI,AA]⟩
theorem Cf (c:AU) (n:Int):CF E0 HK [HC c,.int .i64 n] (.bool (c.isState n)):=by
 refine AO Kj Am (by simp) fun hwf=>?_
 simp only [Dl,DB,DA,Cw,D7,D6,Fi,D5,Bd,Bo,Bp,DC,B1,List.length_map,Bx,true_and,and_true,A6,A2,Az] at hwf
 rw [AW];unfold GY
 simp -implicitDefEqProofs only [go_sem,A6,A2,Az]
 simp (disch:=omega) only [AC,AH,AP,AJ,AD,AQ,AI,AA]
 refine AE (A8 _ _ _) rfl ?_
 simp -implicitDefEqProofs only [go_sem,AU.isState]
theorem LR (nl:Bool) (xs:List Int) (f:FuncId) (cs:List D) (p:Int→Bool) (hb:Bl E0.P f=true) (hcs:A7 AV.toD1 (cs.map .d)=some cs) (h:∀x,x∈xs→CF E0 f (.int .i64 x :: cs) (.bool (p x))) :
  CF E0 C9 [.list nl (Ai xs),.fn f cs] (.int .i64 (match xs.findIdx? p with|some i=>i|none=>-1)):=by
 refine AO Dv Am (by simp) fun hwf=>?_
 simp only [Dl,DB,DA,Cw,D7,D6,Fi,D5,Bd,Bo,Bp,DC,B1,List.length_map,Bx,true_and,and_true] at hwf
 rw [AW];unfold Cx
 simp -implicitDefEqProofs only [go_sem]
 refine AY (α:=Int) (l0:=?l1) (m0:=?m1) (fun x=>[(8,.d (.int .i64 x))]) (fun x=>[]) (fun x=>0≤x∧x≤xs.length∧∀(j:Nat) (hj:j < xs.length),(j:Int) < x→p xs[j]=false) (fun x=>(xs.length - x).toNat) ?a1_0 ?h01 ?he1 ?he21 ?hI1 ?step1
 case h01=>(simp -implicitDefEqProofs only [go_sem];rfl)
 case he1=>rfl
 case he21=>rfl
 case' step1=>(rintro i hI;try dsimp only at hI)
 case' hI1=>try dsimp only
 ·simp
  omega
 ·(try (simp -implicitDefEqProofs only [go_sem]));repeat' first|(with_reducible first|exact True.intro|refine And.intro ?_ ?_|intro _)|(((with_reducible refine AS ?_ ?_)<;>intro _)<;>try (simp -implicitDefEqProofs only [go_sem]))|simp (disch:=omega) only [AC,AH,AP,AJ,AD,AQ,AI,AA]|((with_reducible refine A4 ?_);refine⟨_,rfl,?_,?_⟩)
  all_goals first|omega|(simp;done)|(simp;omega)|skip
  ·have hx:xs[i.toNat]?.getD 0=xs[i.toNat]'(by omega):=by rw [List.getElem?_eq_getElem (by omega),Option.getD_some]
   rw [hx]
   refine AF (h _ (List.getElem_mem _)) (Kn rfl hcs) (fun hp=>?_) (fun hp=>?_)
   ·simp -implicitDefEqProofs only [go_sem]
    have:xs.findIdx? p=some i.toNat:=by rw [List.findIdx?_eq_some_iff_getElem];exact⟨by omega,hp,fun j hj=>by simp [hI.2.2 j (by omega) (by omega)]⟩
    rw [this];simp;omega
   ·(try (simp -implicitDefEqProofs only [go_sem]));repeat' first|(with_reducible first|exact True.intro|refine And.intro ?_ ?_|intro _)|(((with_reducible refine AS ?_ ?_)<;>intro _)<;>try (simp -implicitDefEqProofs only [go_sem]))|simp (disch:=omega) only [AC,AH,AP,AJ,AD,AQ,AI,AA]|((with_reducible refine A4 ?_);refine⟨_,rfl,?_,?_⟩)
    all_goals first|omega|(simp;done)|(simp;omega)|skip
    rename_i j hj hlt
    by_cases hjk:j=i.toNat
    ·subst hjk;exact hp
    ·exact hI.2.2 j hj (by omega)
  ·have:xs.findIdx? p=none:=by
    rw [List.findIdx?_eq_none_iff];intro x hx;obtain⟨j,hj,rfl⟩:=List.getElem_of_mem hx;exact hI.2.2 j hj (by omega)
   rw [this]
theorem CL (nl:Bool) (xs:List Int) (f:FuncId) (cs:List D) (p:Int→Bool) (hb:Bl E0.P f=true) (hcs:A7 AV.toD1 (cs.map .d)=some cs) (h:∀x,x∈xs→CF E0 f (.int .i64 x :: cs) (.bool (p x))) :
  CF E0 Bz [.list nl (Ai xs),.fn f cs] (.bool (xs.any p)):=by
 refine AO DV Am (by simp) fun hwf=>?_
 rw [AW];unfold CV
 simp -implicitDefEqProofs only [go_sem]
 refine AE (LR nl xs f cs p hb hcs h) rfl ?_
 simp -implicitDefEqProofs only [go_sem]
 have key:(0:Int)≤(match xs.findIdx? p with|some i=>(i:Int)|none=>-1)↔xs.any p=true:=by
  cases hf:xs.findIdx? p with
  |none=>rw [List.findIdx?_eq_none_iff] at hf;simp;intro x hx;simp [hf x hx]
  |some i=>rw [List.findIdx?_eq_some_iff_getElem] at hf;simp;exact⟨_,List.getElem_mem hf.1,hf.2.1⟩
 grind
theorem O2 (n:Int):CF E0 H5 [.int .i64 n] (.bool (!Cj n 0 1)):=by
 refine AO Oz Am (by simp) fun hwf=>?_
 rw [AW];unfold KM Cj
 (try (simp -implicitDefEqProofs only [go_sem]));repeat' first|(with_reducible first|exact True.intro|refine And.intro ?_ ?_|intro _)|(((with_reducible refine AS ?_ ?_)<;>intro _)<;>try (simp -implicitDefEqProofs only [go_sem]))|simp (disch:=omega) only [AC,AH,AP,AJ,AD,AQ,AI,AA]
 all_goals first|omega|(simp_all [Cj];done)|(simp_all [Cj];omega)|grind
theorem Qb {α:Type} (xs:List α) (p:α→Bool):xs.any (fun x=>!p x)=!xs.all p:=by
 induction xs with
 |nil=>rfl
 |cons x xs ih=>simp only [List.any_cons,List.all_cons,ih,Bool.not_and]
theorem Bw (nl:Bool) (xs:List Int):CF E0 Oe [.list nl (Ai xs)] (.bool (Ak xs)):=by
 refine AO Q5 Am (by simp) fun hwf=>?_
 rw [AW];unfold Mh
 simp -implicitDefEqProofs only [go_sem]
 refine AE (CL nl xs H5 [] (fun n=>!Cj n 0 1) (by kernel_rfl) rfl fun x _=>O2 x) rfl ?_
 simp -implicitDefEqProofs only [go_sem,Qb,Bool.not_not,Ak]
theorem EX (nl:Bool) (xs:List Int):CF E0 K0 [.list nl (Ai xs)] (.bool (Cj xs.length 1 16 && Ak xs)):=by
 refine AO N9 Am (by simp) fun hwf=>?_
 rw [AW];unfold JZ
 (try (simp -implicitDefEqProofs only [go_sem]));repeat' first|(with_reducible first|exact True.intro|refine And.intro ?_ ?_|intro _)|(((with_reducible refine isCall ?_);first|refine AF (A8 _ _ _) rfl ?_ ?_|refine AE (A8 _ _ _) rfl ?_|refine AB (A8 _ _ _) rfl ?_ ?_|refine AG (A8 _ _ _) rfl rfl ?_|refine AF (Bw nl xs) rfl ?_ ?_|refine AE (Bw nl xs) rfl ?_|refine AB (Bw nl xs) rfl ?_ ?_|refine AG (Bw nl xs) rfl rfl ?_)<;>try (simp -implicitDefEqProofs only [go_sem]))|(((with_reducible refine AS ?_ ?_)<;>intro _)<;>try (simp -implicitDefEqProofs only [go_sem]))|simp (disch:=omega) only [AC,AH,AP,AJ,AD,AQ,AI,AA]
 all_goals first|omega|(simp_all [Cj];done)|(simp_all [Cj];omega)|grind
theorem NN (c:AU) (n:Int) (h:1≤c.out∧c.out≤5):CF E0 GT [.int .i64 n,.ptr (Lf c)] (.bool (!Cj n 0 (2 ^ c.out.toNat - 1))):=by
 refine AO ND Am (by simp) fun hwf=>?_
 rw [AW];unfold IR
 simp -implicitDefEqProofs only [go_sem,A2]
 have h1:=Pl (k:=c.out.toNat) (by omega)
 have h2:=Pk c.out.toNat
 refine⟨by omega,?_⟩
 simp (disch:=omega) only [AC,AH,AP,AJ,AD,AQ,AI,AA]
 refine AE (A8 _ _ _) rfl ?_
 simp -implicitDefEqProofs only [go_sem]
theorem NM (c:AU) (n:Int):CF E0 GS [.int .i64 n,.ptr (Lf c)] (.bool (!c.isState n)):=by
 refine AO NC Am (by simp) fun hwf=>?_
 rw [AW];unfold IQ
 simp -implicitDefEqProofs only [go_sem,A2]
 refine AE (Cf c n) rfl ?_
 simp -implicitDefEqProofs only [go_sem]
theorem MJ (c:AU) (n:Int) (h:1≤c.bits∧c.bits≤2):CF E0 Fy [.int .i64 n,.ptr (Lf c)] (.bool (!c.isWord n)):=by
 refine AO L_ Am (by simp) fun hwf=>?_
 rw [AW];unfold He
 simp -implicitDefEqProofs only [go_sem,A2]
 refine AE (Ce c (by omega)) rfl ?_
 simp -implicitDefEqProofs only [go_sem]
 have:=Nr h
 simp (disch:=omega) only [AC,AH,AP,AJ,AD,AQ,AI,AA]
 refine AE (A8 _ _ _) rfl ?_
 simp -implicitDefEqProofs only [go_sem,AU.isWord]
theorem LQ (c:AU) (s w:Int) (h:c.ok=true) (hs:c.isState s=true) (hw:c.isWord w=true) :
  CF E0 Fd [HC c,.int .i64 s,.int .i64 w] (.list false (Ai (Cg c.out.toNat (c.wrd s w)))):=by
 refine AO LM Am (by simp) fun hwf=>?_
 have hd:=AU.ok_head h
 simp only [AU.isState,AU.isWord,Cj,decide_eq_true_eq] at hs hw
 have hrow:=AU.ok_words h s.toNat (by omega)
 have h12:=Nr (b:=c.bits) (by omega)
 rw [AW];unfold Gy
 simp -implicitDefEqProofs only [go_sem,A6,A2,Az]
 simp (disch:=omega) only [AC,AH,AP,AJ,AD,AQ,AI,AA]
 refine AY (α:=Int×Bool×(List Int)) (l0:=?l2) (m0:=?m2) (fun x=>[(8,.d (.int .i64 x.1))]) (fun x=>[(31,.row R6 1 x.2.1 (Ai x.2.2))]) (fun x=>-1≤x.1∧x.1 < c.out∧x.2.2.length+x.1=c.out - 1∧x.2.1=x.2.2.isEmpty∧x.2.2++Cg (x.1+1).toNat (c.wrd s w)=Cg c.out.toNat (c.wrd s w)) (fun x=>(x.1+1).toNat) (?a2_0,?a2_1,[]) ?h02 ?he2 ?he22 ?hI2 ?step2
 case h02=>(simp -implicitDefEqProofs only [go_sem,A6,A2,Az];rfl)
 case he2=>rfl
 case he22=>rfl
 case' step2=>(rintro⟨i,nl,acc⟩ hI;try dsimp only at hI)
 case' hI2=>try dsimp only
 ·simp;(try omega)
 ·(try (simp -implicitDefEqProofs only [go_sem,Az,CC]));repeat' first|(with_reducible first|exact True.intro|refine And.intro ?_ ?_|intro _)|(((with_reducible refine AS ?_ ?_)<;>intro _)<;>try (simp -implicitDefEqProofs only [go_sem,Az,CC]))|simp (disch:=omega) only [AC,AH,AP,AJ,AD,AQ,AI,AA]|((with_reducible refine BW ?_);refine⟨(_,_,_),rfl,?_,?_⟩)
  all_goals first|omega|(simp;done)|(simp;omega)|skip
  ·rw [←hI.2.2.2.2,show (i - 1+1).toNat=i.toNat by omega,show (i+1).toNat=i.toNat+1 by omega,Cg,c.wrd_eq]
   simp
  ·have h0:(i+1).toNat=0:=by omega
   have h1:acc=Cg c.out.toNat (c.wrd s w):=by rw [←hI.2.2.2.2,h0,Cg,List.append_nil]
   have h2:acc≠[]:=by rintro rfl;simp at hI;omega
   rw [←h1,hI.2.2.2.1];cases acc with
   |nil=>exact absurd rfl h2
   |cons _ _=>rfl
end Go.Pw
end
section
open Go Go.Pw Go.Proofs
namespace Go.Pw
set_option linter.unusedSimpArgs false
set_option linter.unusedVariables false
set_option maxRecDepth 100000
set_option maxHeartbeats 800000
attribute [local congr] Bh A_ A' Ap Bi Av Ax Aw Ao Ah Ab AZ Ar Ac As BI BM BK BL BJ BN BF Af Au Ag BD BQ Ae BG BH BE BB BC A9 BA Aq Ad
attribute [local irreducible] IntKind.wrap A5 Option.getD and or
def AU.rowsOk (c:AU) (j:Nat):Bool:=Ph (2 ^ c.bits.toNat) (2 ^ c.out.toNat - 1) (c.words[j]?.getD default) && Ph (2 ^ c.bits.toNat) (c.words.length - 1) (c.next[j]?.getD default)
theorem Nj (c:AU) (j:Nat):c.rowsOk j=(decide (((c.words[j]?.getD default).2.length:Int)=2 ^ c.bits.toNat) && ((c.words[j]?.getD default).2.all fun n=>Cj n 0 (2 ^ c.out.toNat - 1)) &&
  (decide (((c.next[j]?.getD default).2.length:Int)=2 ^ c.bits.toNat) && (c.next[j]?.getD default).2.all c.isState)):=by
 have h:∀(n k:Nat),decide (n=2 ^ k)=decide ((n:Int)=2 ^ k):=fun n k=>by
  have:((2 ^ k:Nat):Int)=(2:Int) ^ k:=by simp
  rw [←this,decide_eq_decide];omega
 simp only [AU.rowsOk,Ph,h];rfl
theorem WH (c:AU) (hh:c.head=true):c.ok=true↔∀(j:Nat),j < c.words.length→c.rowsOk j=true:=by
 have hl:c.next.length=c.words.length:=by simp [AU.head] at hh;exact hh.2
 simp only [AU.ok,AU.rowsOk,hh,Bool.true_and,Bool.and_eq_true,List.all_eq_true]
 constructor
 ·intro h j h1
  exact⟨h.1 _ (KW h1),h.2 _ (KW (by omega))⟩
 ·intro h
  constructor
  ·intro x hx;obtain⟨j,hj,rfl⟩:=List.getElem_of_mem hx;have:=(h j hj).1;simpa [hj] using this
  ·intro x hx;obtain⟨j,hj,rfl⟩:=List.getElem_of_mem hx;have:=(h j (by omega)).2;simpa [hj] using this
theorem bo (c:AU) (hh:c.head=true) (j:Nat) (hj:j < c.words.length) (hb:c.rowsOk j=false):c.ok=false:=by
 cases h:c.ok with
 |false=>rfl
 |true=>have:=(WH c hh).1 h j hj;rw [this] at hb;cases hb
theorem Dw (c:AU):CF E0 Lp [HC c] (.int .i64 (Kb c.ok 40)):=by
 refine AO O0 Am (by simp) fun hwf=>?_
 simp only [Dl,DB,DA,Cw,D7,D6,Fi,D5,Bd,Bo,Bp,DC,B1,List.length_map,Bx,true_and,and_true,A6,A2,Az] at hwf
 have noHead:c.head=false→Kb c.ok 40=40:=fun h=>by simp [Kb,AU.ok,h]
 rw [AW];unfold KN
 (try (simp -implicitDefEqProofs only [go_sem,A6,A2,Az]));repeat' first|(with_reducible first|exact True.intro|refine And.intro ?_ ?_|intro _)|(((with_reducible refine isCall ?_);first|refine AF (A8 _ _ _) rfl ?_ ?_|refine AE (A8 _ _ _) rfl ?_|refine AB (A8 _ _ _) rfl ?_ ?_|refine AG (A8 _ _ _) rfl rfl ?_)<;>try (simp -implicitDefEqProofs only [go_sem,A6,A2,Az]))|(((with_reducible refine AS ?_ ?_)<;>intro _)<;>try (simp -implicitDefEqProofs only [go_sem,A6,A2,Az]))|simp (disch:=omega) only [AC,AH,AP,AJ,AD,AQ,AI,AA]|((with_reducible refine A4 ?_);refine⟨_,rfl,?_,?_⟩)
 all_goals first|(rw [noHead (by cases hh:c.head;rfl;exfalso;simp only [AU.head,Cj,Bool.and_eq_true,decide_eq_true_eq,decide_eq_false_iff_not] at *;omega)];done)|skip
 have hh:c.head=true:=by simp only [AU.head,Cj,Bool.and_eq_true,decide_eq_true_eq,decide_eq_false_iff_not] at *;omega
 have ho:1≤c.out∧c.out≤5:=by simp_all [Cj]
 have hb:1≤c.bits∧c.bits≤2:=by simp_all [Cj]
 have hl:c.next.length=c.words.length:=by omega
 have h12:=Nr hb
 have c1:=fun nl xs=>CL nl xs GT [.ptr (Lf c)] (fun n=>!Cj n 0 (2 ^ c.out.toNat - 1)) (by kernel_rfl) rfl (fun x _=>NN c x ho)
 have c2:=fun nl xs=>CL nl xs GS [.ptr (Lf c)] (fun n=>!c.isState n) (by kernel_rfl) rfl (fun x _=>NM c x)
 simp only [Qb] at c1 c2
 have bad:∀j,j < c.words.length→c.rowsOk j=false→Kb c.ok 40=40:=fun j hj h=>by rw [Kb,bo c hh j hj h];rfl
 refine AY (α:=Int) (l0:=?l1) (m0:=?m1) (fun x=>[(63,.d (.int .i64 x))]) (fun x=>[]) (fun x=>0≤x∧x≤c.words.length∧∀(j:Nat),(j:Int) < x→c.rowsOk j=true) (fun x=>(c.words.length - x).toNat) ?a1_0 ?h01 ?he1 ?he21 ?hI1 ?step1
 case h01=>(simp -implicitDefEqProofs only [go_sem,A6,A2,Az];rfl)
 case he1=>rfl
 case he21=>rfl
 case' step1=>(rintro i hI;try dsimp only at hI)
 case' hI1=>try dsimp only
 ·simp;omega
 ·(try (simp -implicitDefEqProofs only [go_sem,Az,CC]));repeat' first|(with_reducible first|exact True.intro|refine And.intro ?_ ?_|intro _)|(((with_reducible refine isCall ?_);first|refine AF (Ce c (by omega)) rfl ?_ ?_|refine AE (Ce c (by omega)) rfl ?_|refine AB (Ce c (by omega)) rfl ?_ ?_|refine AG (Ce c (by omega)) rfl rfl ?_|refine AF (c1 _ _) rfl ?_ ?_|refine AE (c1 _ _) rfl ?_|refine AB (c1 _ _) rfl ?_ ?_|refine AG (c1 _ _) rfl rfl ?_|refine AF (c2 _ _) rfl ?_ ?_|refine AE (c2 _ _) rfl ?_|refine AB (c2 _ _) rfl ?_ ?_|refine AG (c2 _ _) rfl rfl ?_)<;>try (simp -implicitDefEqProofs only [go_sem,Az,CC]))|(((with_reducible refine AS ?_ ?_)<;>intro _)<;>try (simp -implicitDefEqProofs only [go_sem,Az,CC]))|simp (disch:=omega) only [AC,AH,AP,AJ,AD,AQ,AI,AA]|((with_reducible refine A4 ?_);refine⟨_,rfl,?_,?_⟩)
  all_goals first|omega|(simp;done)|(simp;omega)|skip
  all_goals try (refine congrArg (D.int .i64) (bad i.toNat (by omega) ?_).symm;rw [Nj];generalize ((c.words[i.toNat]?.getD default).2.all fun n=>Cj n 0 (2 ^ c.out.toNat - 1))=A at *;generalize (c.next[i.toNat]?.getD default).2.all c.isState=B at *;cases A<;>cases B<;>simp_all;done)
  ·rename_i j hj
   by_cases hji:j=i.toNat
   ·subst hji;rw [Nj];generalize ((c.words[i.toNat]?.getD default).2.all fun n=>Cj n 0 (2 ^ c.out.toNat - 1))=A at *;generalize (c.next[i.toNat]?.getD default).2.all c.isState=B at *;cases A<;>cases B<;>simp_all
   ·exact hI.2.2 j (by omega)
  ·have:c.ok=true:=(WH c hh).2 fun j hj=>hI.2.2 j (by omega)
   rw [Kb,this];rfl
theorem QL (c:AU) (s:Int):CF E0 Nb [HC c,.int .i64 s] (.tup [HC c,.int .i64 (if !c.ok then 40 else if !c.isState s then 41 else 0)]):=by
 refine AO QE Am (by simp) fun hwf=>?_
 rw [AW];unfold LZ
 (try (simp -implicitDefEqProofs only [go_sem,A6,A2]));repeat' first|(with_reducible first|exact True.intro|refine And.intro ?_ ?_|intro _)|(((with_reducible refine isCall ?_);first|refine AF (Dw c) rfl ?_ ?_|refine AE (Dw c) rfl ?_|refine AB (Dw c) rfl ?_ ?_|refine AG (Dw c) rfl rfl ?_|refine AF (Cf c s) rfl ?_ ?_|refine AE (Cf c s) rfl ?_|refine AB (Cf c s) rfl ?_ ?_|refine AG (Cf c s) rfl rfl ?_)<;>try (simp -implicitDefEqProofs only [go_sem,A6,A2]))|(((with_reducible refine AS ?_ ?_)<;>intro _)<;>try (simp -implicitDefEqProofs only [go_sem,A6,A2]))|simp (disch:=omega) only [AC,AH,AP,AJ,AD,AQ,AI,AA]
 all_goals (cases hok:c.ok<;>cases hst:c.isState s<;>simp_all [Kb,A6,A2])
end Go.Pw
end
section
open Go Go.Pw Go.Proofs
namespace Go.Pw
set_option linter.unusedSimpArgs false
set_option linter.unusedVariables false
set_option maxRecDepth 100000
set_option maxHeartbeats 800000
attribute [local congr] Bh A_ A' Ap Bi Av Ax Aw Ao Ah Ab AZ Ar Ac As BI BM BK BL BJ BN BF Af Au Ag BD BQ Ae BG BH BE BB BC A9 BA Aq Ad
attribute [local irreducible] IntKind.wrap A5 Option.getD and or
theorem OB (c:AU) (s:Int) (nl:Bool) (l:List Int):CF E0 K1 [HC c,.int .i64 s,.list nl (Ai l)] (.tup [.list (c.encode s l).1.isEmpty (Ai (c.encode s l).1),.int .i64 (c.encode s l).2.1,.int .i64 (c.encode s l).2.2]):=by
 refine AO N_ Am (by simp) fun hwf=>?_
 rw [AW];unfold Ja
 simp -implicitDefEqProofs only [go_sem,A6,A2]
 refine AE (QL c s) rfl ?_
 simp -implicitDefEqProofs only [go_sem,A6,A2]
 by_cases hok:c.ok=true∧c.isState s=true
 ·obtain⟨h1,h2⟩:=hok
  have hd:=AU.ok_head h1
  have c1:=fun nl xs=>CL nl xs Fy [.ptr (Lf c)] (fun n=>!c.isWord n) (by kernel_rfl) rfl (fun x _=>MJ c x (by omega))
  simp only [Qb] at c1
  simp only [h1,h2,Bool.not_true,Bool.false_eq_true,if_false]
  (try (simp -implicitDefEqProofs only [go_sem]));repeat' first|(with_reducible first|exact True.intro|refine And.intro ?_ ?_|intro _)|(((with_reducible refine isCall ?_);first|refine AF (c1 _ _) rfl ?_ ?_|refine AE (c1 _ _) rfl ?_|refine AB (c1 _ _) rfl ?_ ?_|refine AG (c1 _ _) rfl rfl ?_)<;>try (simp -implicitDefEqProofs only [go_sem]))|(((with_reducible refine AS ?_ ?_)<;>intro _)<;>try (simp -implicitDefEqProofs only [go_sem]))|simp (disch:=omega) only [AC,AH,AP,AJ,AD,AQ,AI,AA]|((with_reducible refine CP ?_);refine⟨(_,_,_,_),rfl,?_,?_⟩)
  ·have:c.isData l=false:=by simp [AU.isData];omega
   simp [AU.encode,h1,h2,this]
  ·have:c.isData l=false:=by simp only [AU.isData];simp_all
   simp [AU.encode,h1,h2,this]
  ·have hdt:c.isData l=true:=by simp only [AU.isData];simp_all;omega
   have hen:c.encode s l=((c.stream s l).1,(c.stream s l).2,0):=by simp [AU.encode,h1,h2,hdt]
   have hlw:∀w,w∈l→c.isWord w=true:=by simp only [AU.isData,Bool.and_eq_true,List.all_eq_true] at hdt;exact hdt.2
   have hl24:l.length≤24:=by simp [AU.isData] at hdt;exact hdt.1
   rw [hen]
   refine AY (α:=Int×Int×Bool×(List Int)) (l0:=?l1) (m0:=?m1) (fun x=>[(31,.d (.int .i64 x.1)),(1,.d (.int .i64 x.2.1))]) (fun x=>[(40,.row R6 1 x.2.2.1 (Ai x.2.2.2))]) (fun x=>0≤x.1∧x.1≤l.length∧c.isState x.2.1=true∧x.2.2.1=x.2.2.2.isEmpty∧x.2.2.2.length=c.out.toNat * x.1.toNat∧c.stream s l=(x.2.2.2++(c.stream x.2.1 (l.drop x.1.toNat)).1,(c.stream x.2.1 (l.drop x.1.toNat)).2)) (fun x=>(l.length - x.1).toNat) (?a1_0,?a1_1,?a1_2,[]) ?h01 ?he1 ?he21 ?hI1 ?step1
   case h01=>(simp -implicitDefEqProofs only [go_sem,A6,A2];rfl)
   case he1=>rfl
   case he21=>rfl
   case' step1=>(rintro⟨i,t,nl',acc⟩ hI;try dsimp only at hI)
   case' hI1=>try dsimp only
   ·simp [h2]
   ·have hcb:∀w,w∈l→CF E0 Fd [HC c,.int .i64 t,.int .i64 w] (.list false (Ai (Cg c.out.toNat (c.wrd t w)))):=fun w hw=>LQ c t w h1 hI.2.2.1 (hlw w hw)
    by_cases hi:i < l.length
    ·have hm:l[i.toNat]?.getD 0∈l:=Df (by omega)
     have hcb:=hcb _ hm
     have hst:=hI.2.2.1
     simp only [AU.isState,Cj,decide_eq_true_eq] at hst
     have hn:=AU.ok_next h1 t.toNat (by omega)
     have h12:=Nr (b:=c.bits) (by omega)
     have hwd:=hlw _ hm
     simp only [AU.isWord,Cj,decide_eq_true_eq] at hwd
     have hbl:=H2 c.out.toNat (c.wrd t (l[i.toNat]?.getD 0))
     have hbig:c.out.toNat * i.toNat≤5 * 24:=Nat.mul_le_mul (by omega) (by omega)
     (try (simp -implicitDefEqProofs only [go_sem,Az,CC]));repeat' first|(with_reducible first|exact True.intro|refine And.intro ?_ ?_|intro _)|(((with_reducible refine isCall ?_);first|refine AF (hcb) rfl ?_ ?_|refine AE (hcb) rfl ?_|refine AB (hcb) rfl ?_ ?_|refine AG (hcb) rfl rfl ?_)<;>try (simp -implicitDefEqProofs only [go_sem,Az,CC]))|(((with_reducible refine AS ?_ ?_)<;>intro _)<;>try (simp -implicitDefEqProofs only [go_sem,Az,CC]))|simp (disch:=omega) only [AC,AH,AP,AJ,AD,AQ,AI,AA]|((with_reducible refine CP ?_);refine⟨(_,_,_,_),rfl,?_,?_⟩)
     all_goals first|omega|(simp;done)|(simp;omega)|skip
     ·exact AU.nxt_state h1 hI.2.2.1 (hlw _ hm)
     ·rw [hI.2.2.2.1];cases acc<;>simp
     ·rw [List.length_append,hI.2.2.2.2.1,hbl,show (i+1).toNat=i.toNat+1 by omega,Nat.mul_succ]
     ·have hdrop:l.drop i.toNat=(l[i.toNat]?.getD 0) :: l.drop (i+1).toNat:=by
       rw [show (i+1).toNat=i.toNat+1 by omega,List.drop_eq_getElem_cons (by omega),List.getElem?_eq_getElem (by omega),Option.getD_some]
      rw [hI.2.2.2.2.2,hdrop,AU.stream]
      simp [c.nxt_eq,List.append_assoc]
    ·(try (simp -implicitDefEqProofs only [go_sem]));repeat' first|(with_reducible first|exact True.intro|refine And.intro ?_ ?_|intro _)|(((with_reducible refine AS ?_ ?_)<;>intro _)<;>try (simp -implicitDefEqProofs only [go_sem]))|simp (disch:=omega) only [AC,AH,AP,AJ,AD,AQ,AI,AA]|((with_reducible refine CP ?_);refine⟨(_,_,_,_),rfl,?_,?_⟩)
     all_goals first|omega|(simp;done)|(simp;omega)|skip
     have h0:l.drop i.toNat=[]:=List.drop_eq_nil_of_le (by omega)
     rw [hI.2.2.2.2.2,h0,AU.stream,hI.2.2.2.1]
     simp
 ·have hk:c.encode s l=([],0,if !c.ok then 40 else 41):=by
   simp only [AU.encode];cases hok1:c.ok<;>cases hst:c.isState s<;>simp_all
  rw [hk]
  (try (simp -implicitDefEqProofs only [go_sem]));repeat' first|(with_reducible first|exact True.intro|refine And.intro ?_ ?_|intro _)|(((with_reducible refine AS ?_ ?_)<;>intro _)<;>try (simp -implicitDefEqProofs only [go_sem]))|simp (disch:=omega) only [AC,AH,AP,AJ,AD,AQ,AI,AA]|((with_reducible refine CP ?_);refine⟨(_,_,_,_),rfl,?_,?_⟩)
  all_goals (cases hok1:c.ok<;>cases hst:c.isState s<;>simp_all)
theorem MI (n1 n2:Bool) (xs ys:List Int) (hx:Ak xs=true) (hy:Ak ys=true) (hl:xs.length≤ys.length) (h128:xs.length≤1000000) :
  CF E0 Is [.list n1 (Ai xs),.list n2 (Ai ys)] (.int .i64 (CX xs ys)):=by
 refine AO L8 Am (by simp) fun hwf=>?_
 rw [AW];unfold Hc
 simp -implicitDefEqProofs only [go_sem]
 refine AY (α:=Int×Int) (l0:=?l2) (m0:=?m2) (fun x=>[(9,.d (.int .i64 x.1)),(4,.d (.int .i64 x.2))]) (fun x=>[]) (fun x=>0≤x.1∧x.1≤xs.length∧0≤x.2∧x.2≤x.1∧x.2+CX (xs.drop x.1.toNat) (ys.drop x.1.toNat)=CX xs ys) (fun x=>(xs.length - x.1).toNat) (?a2_0,?a2_1) ?h02 ?he2 ?he22 ?hI2 ?step2
 case h02=>(simp -implicitDefEqProofs only [go_sem];rfl)
 case he2=>rfl
 case he22=>rfl
 case' step2=>(rintro⟨i,n⟩ hI;try dsimp only at hI)
 case' hI2=>try dsimp only
 ·simp
 ·by_cases hi:i < xs.length
  ·obtain⟨e,he⟩:∃e:Int,(if xs[i.toNat]?.getD 0=ys[i.toNat]?.getD 0 then 0 else 1)=e:=⟨_,rfl⟩
   have hxor:=SA (ET hx (i:=i.toNat) (by omega)) (ET hy (i:=i.toNat) (by omega))
   have hd:CX (xs.drop i.toNat) (ys.drop i.toNat)=e+CX (xs.drop (i+1).toNat) (ys.drop (i+1).toNat):=by
    rw [FS (xs:=xs) (i:=i.toNat) (by omega),FS (xs:=ys) (i:=i.toNat) (by omega),CX,he,show (i+1).toNat=i.toNat+1 by omega]
   rw [he] at hxor
   have he1:e=0∨e=1:=by rw [←he];split<;>simp
   (try (simp -implicitDefEqProofs only [go_sem]));repeat' first|(with_reducible first|exact True.intro|refine And.intro ?_ ?_|intro _)|(((with_reducible refine AS ?_ ?_)<;>intro _)<;>try (simp -implicitDefEqProofs only [go_sem]))|simp (disch:=omega) only [AC,AH,AP,AJ,AD,AQ,AI,AA]|((with_reducible refine An ?_);refine⟨(_,_),rfl,?_,?_⟩)
   all_goals (try simp only [hxor])
   all_goals (try rw [AC _ (by omega)])
   all_goals omega
  ·(try (simp -implicitDefEqProofs only [go_sem]));repeat' first|(with_reducible first|exact True.intro|refine And.intro ?_ ?_|intro _)|(((with_reducible refine AS ?_ ?_)<;>intro _)<;>try (simp -implicitDefEqProofs only [go_sem]))|simp (disch:=omega) only [AC,AH,AP,AJ,AD,AQ,AI,AA]|((with_reducible refine An ?_);refine⟨(_,_),rfl,?_,?_⟩)
   all_goals first|omega|(simp;done)|(simp;omega)|skip
   have h0:xs.drop i.toNat=[]:=List.drop_eq_nil_of_le (by omega)
   have h1:CX [] (ys.drop i.toNat)=0:=by simp [CX]
   rw [h0,h1] at hI
   rw [←hI.2.2.2.2];simp
def Ka (mark bits:List Int) (e:Int):Nat→Int→List Int
 |0,_=>[]
 |n+1,i=>if CX mark (bits.drop i.toNat)≤e then i :: Ka mark bits e n (i+1) else Ka mark bits e n (i+1)
def CZ (mark:List Int):Bool:=Cj mark.length 1 16 && Ak mark
def KY (mark bits:List Int) (e:Int):List Int×Int :=
 if !(CZ mark && decide (bits.length≤128) && Ak bits && Cj e 0 16) then ([],1)
 else (Ka mark bits e (bits.length+1 - mark.length) 0,0)
theorem EY {xs:List Int} (h:Ak xs=true) (n:Nat):Ak (xs.drop n)=true:=by
 simp only [Ak,List.all_eq_true] at *
 exact fun x hx=>h x (List.mem_of_mem_drop hx)
theorem QM (n1 n2:Bool) (mark bits:List Int) (e:Int):CF E0 Nc [.list n1 (Ai mark),.list n2 (Ai bits),.int .i64 e]
  (.tup [.list (KY mark bits e).1.isEmpty (Ai (KY mark bits e).1),.int .i64 (KY mark bits e).2]):=by
 refine AO QF Am (by simp) fun hwf=>?_
 simp only [Dl,DB,DA,Cw,D7,D6,Fi,D5,Bd,Bo,Bp,DC,B1,List.length_map,Bx,true_and,and_true] at hwf
 have bad:(CZ mark && decide (bits.length≤128) && Ak bits && Cj e 0 16)=false→KY mark bits e=([],1):=fun h=>by simp only [KY,h];rfl
 have bad2:¬bits.length≤128→KY mark bits e=([],1):=fun h=>bad (by have:decide (bits.length≤128)=false:=by simpa using h
      simp [this])
 rw [AW];unfold La
 (try (simp -implicitDefEqProofs only [go_sem]));repeat' first|(with_reducible first|exact True.intro|refine And.intro ?_ ?_|intro _)|(((with_reducible refine isCall ?_);first|refine AF (EX _ _) rfl ?_ ?_|refine AE (EX _ _) rfl ?_|refine AB (EX _ _) rfl ?_ ?_|refine AG (EX _ _) rfl rfl ?_|refine AF (Bw _ _) rfl ?_ ?_|refine AE (Bw _ _) rfl ?_|refine AB (Bw _ _) rfl ?_ ?_|refine AG (Bw _ _) rfl rfl ?_|refine AF (A8 _ _ _) rfl ?_ ?_|refine AE (A8 _ _ _) rfl ?_|refine AB (A8 _ _ _) rfl ?_ ?_|refine AG (A8 _ _ _) rfl rfl ?_)<;>try (simp -implicitDefEqProofs only [go_sem]))|(((with_reducible refine AS ?_ ?_)<;>intro _)<;>try (simp -implicitDefEqProofs only [go_sem]))|simp (disch:=omega) only [AC,AH,AP,AJ,AD,AQ,AI,AA]|((with_reducible refine BW ?_);refine⟨(_,_,_),rfl,?_,?_⟩)
 all_goals first|(
     have hx:¬bits.length≤128:=by omega
     rw [bad2 hx];rfl)|skip
 all_goals first|(
     have hx:(CZ mark && decide (bits.length≤128) && Ak bits && Cj e 0 16)=false:=by(simp_all [CZ];done)
     rw [bad hx];rfl)|skip
 have hm:CZ mark=true:=by assumption
 have hb:Ak bits=true:=by assumption
 have h128:bits.length≤128:=by omega
 have hgood:KY mark bits e=(Ka mark bits e (bits.length+1 - mark.length) 0,0):=by simp only [KY];simp_all
 have hmb:Ak mark=true:=by simp only [CZ,Bool.and_eq_true] at hm;exact hm.2
 have hm1:1≤mark.length∧mark.length≤16:=by simp [CZ,Cj] at hm;omega
 rw [hgood]
 refine AY (α:=Int×Bool×(List Int)) (l0:=?l3) (m0:=?m3) (fun x=>[(35,.d (.int .i64 x.1))]) (fun x=>[(48,.row R6 1 x.2.1 (Ai x.2.2))]) (fun x=>0≤x.1∧x.1≤max 0 (bits.length - mark.length+1:Int)∧x.2.2.length≤x.1∧x.2.1=x.2.2.isEmpty∧x.2.2++Ka mark bits e (bits.length+1 - mark.length - x.1.toNat) x.1=Ka mark bits e (bits.length+1 - mark.length) 0) (fun x=>(max 0 (bits.length - mark.length+1:Int) - x.1).toNat) (?a3_0,?a3_1,[]) ?h03 ?he3 ?he23 ?hI3 ?step3
 case h03=>(simp -implicitDefEqProofs only [go_sem];rfl)
 case he3=>rfl
 case he23=>rfl
 case' step3=>(rintro⟨i,nl,acc⟩ hI;try dsimp only at hI)
 case' hI3=>try dsimp only
 ·simp;omega
 ·by_cases hi:i < max 0 (bits.length - mark.length+1:Int)
  ·have hstep:Ka mark bits e (bits.length+1 - mark.length - i.toNat) i=if CX mark (bits.drop i.toNat)≤e then i :: Ka mark bits e (bits.length+1 - mark.length - (i+1).toNat) (i+1) else Ka mark bits e (bits.length+1 - mark.length - (i+1).toNat) (i+1):=by
    rw [show bits.length+1 - mark.length - i.toNat=(bits.length+1 - mark.length - (i+1).toNat)+1 by omega,Ka]
   have cd:=fun n1 n2=>MI n1 n2 mark (bits.drop i.toNat) hmb (EY hb _) (by simp;omega) (by omega)
   (try (simp -implicitDefEqProofs only [go_sem]));repeat' first|(with_reducible first|exact True.intro|refine And.intro ?_ ?_|intro _)|(((with_reducible refine isCall ?_);first|refine AF (cd _ _) rfl ?_ ?_|refine AE (cd _ _) rfl ?_|refine AB (cd _ _) rfl ?_ ?_|refine AG (cd _ _) rfl rfl ?_)<;>try (simp -implicitDefEqProofs only [go_sem]))|(((with_reducible refine AS ?_ ?_)<;>intro _)<;>try (simp -implicitDefEqProofs only [go_sem]))|simp (disch:=omega) only [AC,AH,AP,AJ,AD,AQ,AI,AA]|((with_reducible refine BW ?_);refine⟨(_,_,_),rfl,?_,?_⟩)
   all_goals first|omega|(simp;done)|(simp;omega)|skip
   ·rw [←hI.2.2.2.2,hstep,if_pos (by assumption)];simp
   ·exact hI.2.2.2.1
   ·rw [←hI.2.2.2.2,hstep,if_neg (by assumption)]
  ·(try (simp -implicitDefEqProofs only [go_sem]));repeat' first|(with_reducible first|exact True.intro|refine And.intro ?_ ?_|intro _)|(((with_reducible refine AS ?_ ?_)<;>intro _)<;>try (simp -implicitDefEqProofs only [go_sem]))|simp (disch:=omega) only [AC,AH,AP,AJ,AD,AQ,AI,AA]|((with_reducible refine BW ?_);refine⟨(_,_,_),rfl,?_,?_⟩)
   all_goals first|omega|(simp;done)|(simp;omega)|skip
   have h0:bits.length+1 - mark.length - i.toNat=0:=by omega
   have h1:=hI.2.2.2.2
   rw [h0,Ka,List.append_nil] at h1
   rw [←h1,hI.2.2.2.1]
end Go.Pw
end
