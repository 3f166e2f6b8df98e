/- A part of the proof. -/
import Derived.Test.YtibkjeolahobbaaGreatDoorChPC
import Derived.Test.YtibkjeolahobbaaGreatDoorPwVC
import Derived.Test.YtibkjeolahobbaaGreatDoorCodesSpec
set_option linter.all false
open Go Go.Pw Go.Proofs
namespace Go.Pw
set_option maxRecDepth 100000
set_option maxHeartbeats 800000
section
attribute [local irreducible] IntKind.wrap Ai Option.getD and or
theorem CA (n lo hi:Int):BR E0 LD [.int .i64 n,.int .i64 lo,.int .i64 hi] (.bool (B_ n lo hi)):=by
 refine AM O4 Af (by simp) fun hwf=>?_
 rw[AQ];unfold Ji B_
 (try (simp -implicitDefEqProofs only[go_sem]));repeat' first|(with_reducible first|exact tI|refine aI ?_ ?_|intro _|refine AJ ?_ ?_<;>intro _<;>try simp -implicitDefEqProofs only[go_sem])|simp (disch:=omega) only[Ad]
 all_goals first|omega|(simp_all[B_];done)|(simp_all[B_];omega)|grind
theorem B7 (n lo hi:Int):BR E0 K9 [.int .i64 n,.int .i64 lo,.int .i64 hi] (.bool (B_ n lo hi)):=by
 refine AM Oz Af (by simp) fun hwf=>?_
 rw[AQ];unfold Jd B_
 (try (simp -implicitDefEqProofs only[go_sem]));repeat' first|(with_reducible first|exact tI|refine aI ?_ ?_|intro _|refine AJ ?_ ?_<;>intro _<;>try simp -implicitDefEqProofs only[go_sem])|simp (disch:=omega) only[Ad]
 all_goals first|omega|(simp_all[B_];done)|(simp_all[B_];omega)|grind
theorem F5 (c:AW) (h:0<=c.bits/\c.bits<=2):BR E0 HG [FE c] (.int .i64 (2^c.bits.toNat)):=by
 refine AM Ks Af (by simp) fun hwf=>?_
 rw[AQ];unfold GS
 simp -implicitDefEqProofs only[go_sem,Au,Aq]
 exact⟨h.1,by simp (disch:=omega) only[Ad]⟩
theorem F6 (c:AW) (n:Int):BR E0 HH [FE c,.int .i64 n] (.bool (c.isState n)):=by
 refine AM Kt Af (by simp) fun hwf=>?_
 simp only[CU,Bu,Bt,Bq,Cd,Cc,Dt,Cb,A2,A9,A_,Bz,BG,List.length_map,BH,true_and,and_true,Au,Aq,Ao] at hwf
 rw[AQ];unfold GT
 simp -implicitDefEqProofs only[go_sem,Au,Aq,Ao]
 simp (disch:=omega) only[Ad]
 refine G_ (CA _ _ _) rfl ?_
 simp -implicitDefEqProofs only[go_sem,AW.isState]
theorem Lr (nl:Bool) (xs:List Int) (f:FuncId) (cs:List D) (p:Int->Bool) (hb:BL E0.P f=true) (hcs:Ax AV.toD1 (cs.map .d)=some cs) (h:∀x,x∈xs->BR E0 f (.int .i64 x::cs) (.bool (p x))) :
  BR E0 Cg [.list nl (Aa xs),.fn f cs] (.int .i64 (match xs.findIdx? p with|some i=>i|none=>-1)):=by
 refine AM DX Af (by simp) fun hwf=>?_
 simp only[CU,Bu,Bt,Bq,Cd,Cc,Dt,Cb,A2,A9,A_,Bz,BG,List.length_map,BH,true_and,and_true] at hwf
 rw[AQ];unfold CV
 simp -implicitDefEqProofs only[go_sem]
 refine AU (α:=Int) (l0:=?l1) (m0:=?m1) (fun x=>[(8,.d (.int .i64 x))]) (fun x=>[]) (fun x=>0<=x/\x<=xs.length/\∀(j:Nat) (hj:j<xs.length),(j:Int)<x->p xs[j]=false) (fun x=>(xs.length-x).toNat) ?a1_0 ?h01 ?he1 ?he21 ?hI1 ?step1
 case h01=>(simp -implicitDefEqProofs only[go_sem];rfl)
 case he1=>rfl
 case he21=>rfl
 case' step1=>(rintro i hI;try dsimp only at hI)
 case' hI1=>try dsimp only
 ·simp
  omega
 ·(try (simp -implicitDefEqProofs only[go_sem]));repeat' first|(with_reducible first|exact tI|refine aI ?_ ?_|intro _|refine AJ ?_ ?_<;>intro _<;>try simp -implicitDefEqProofs only[go_sem])|simp (disch:=omega) only[Ad]|((with_reducible apply Ab);exact rfl)
  all_goals first|omega|(simp<;>omega)|skip
  ·have hx:xs[i.toNat]?.getD 0=xs[i.toNat]'(by omega):=by rw[List.getElem?_eq_getElem (by omega),Option.getD_some]
   rw[hx]
   refine Y9 (h _ (List.getElem_mem _)) (K1 rfl hcs) (fun hp=>?_) (fun hp=>?_)
   ·simp -implicitDefEqProofs only[go_sem]
    have:xs.findIdx? p=some i.toNat:=by rw[List.findIdx?_eq_some_iff_getElem];exact⟨by omega,hp,fun j hj=>by simp[hI.2.2 j (by omega) (by omega)]⟩
    rw[this];simp;omega
   ·(try (simp -implicitDefEqProofs only[go_sem]));repeat' first|(with_reducible first|exact tI|refine aI ?_ ?_|intro _|refine AJ ?_ ?_<;>intro _<;>try simp -implicitDefEqProofs only[go_sem])|simp (disch:=omega) only[Ad]|((with_reducible apply Ab);exact rfl)
    all_goals first|omega|(simp<;>omega)|skip
    rename_i j hj hlt
    by_cases hjk:j=i.toNat
    ·subst hjk;exact hp
    ·exact hI.2.2 j hj (by omega)
  ·have:xs.findIdx? p=none:=by
    rw[List.findIdx?_eq_none_iff];intro x hx;obtain⟨j,hj,rfl⟩:=List.getElem_of_mem hx;exact hI.2.2 j hj (by omega)
   rw[this]
theorem B0 (nl:Bool) (xs:List Int) (f:FuncId) (cs:List D) (p:Int->Bool) (hb:BL E0.P f=true) (hcs:Ax AV.toD1 (cs.map .d)=some cs) (h:∀x,x∈xs->BR E0 f (.int .i64 x::cs) (.bool (p x))) :
  BR E0 BZ [.list nl (Aa xs),.fn f cs] (.bool (xs.any p)):=by
 refine AM C8 Af (by simp) fun hwf=>?_
 rw[AQ];unfold B8
 simp -implicitDefEqProofs only[go_sem]
 refine G_ (Lr nl xs f cs p hb hcs h) rfl ?_
 simp -implicitDefEqProofs only[go_sem]
 have key:(0:Int)<=(match xs.findIdx? p with|some i=>(i:Int)|none=>-1)↔xs.any p=true:=by
  cases hf:xs.findIdx? p with
  |none=>rw[List.findIdx?_eq_none_iff] at hf;simp;intro x hx;simp[hf x hx]
  |some i=>rw[List.findIdx?_eq_some_iff_getElem] at hf;simp;exact⟨_,List.getElem_mem hf.1,hf.2.1⟩
 grind
theorem QB (n:Int):BR E0 H6 [.int .i64 n] (.bool (!B_ n 0 1)):=by
 refine AM P9 Af (by simp) fun hwf=>?_
 rw[AQ];unfold KW B_
 (try (simp -implicitDefEqProofs only[go_sem]));repeat' first|(with_reducible first|exact tI|refine aI ?_ ?_|intro _|refine AJ ?_ ?_<;>intro _<;>try simp -implicitDefEqProofs only[go_sem])|simp (disch:=omega) only[Ad]
 all_goals first|omega|(simp_all[B_];done)|(simp_all[B_];omega)|grind
theorem SK {α:Type}(xs:List α) (p:α->Bool):xs.any (fun x=>!p x)=!xs.all p:=by
 induction xs with
 |nil=>rfl
 |cons x xs ih=>simp only[List.any_cons,List.all_cons,ih,Bool.not_and]
theorem H0 (nl:Bool) (xs:List Int):BR E0 Po [.list nl (Aa xs)] (.bool (Al xs)):=by
 refine AM Ss Af (by simp) fun hwf=>?_
 rw[AQ];unfold NQ
 simp -implicitDefEqProofs only[go_sem]
 refine G_ (B0 nl xs H6 [] (fun n=>!B_ n 0 1) (by kernel_rfl) rfl fun x _=>QB x) rfl ?_
 simp -implicitDefEqProofs only[go_sem,SK,Bool.not_not,Al]
theorem O' (nl:Bool) (xs:List Int):BR E0 LE [.list nl (Aa xs)] (.bool (B_ xs.length 1 16 && Al xs)):=by
 refine AM O5 Af (by simp) fun hwf=>?_
 rw[AQ];unfold Jj
 (try (simp -implicitDefEqProofs only[go_sem]));repeat' first|(with_reducible first|exact tI|refine aI ?_ ?_|intro _)|((first|with_reducible refine AJ ?_ ?_<;>intro _|(with_reducible refine isCall ?_);first|refine AE (CA _ _ _) ?_|refine AE (H0 nl xs) ?_)<;>try (simp -implicitDefEqProofs only[go_sem]))|simp (disch:=omega) only[Ad]
 all_goals first|omega|(simp_all[B_];done)|(simp_all[B_];omega)|grind
theorem N2 (c:AW) (n:Int) (h:1<=c.out/\c.out<=5):BR E0 GO [.int .i64 n,.ptr (MA c)] (.bool (!B_ n 0 (2^c.out.toNat-1))):=by
 refine AM Ns Af (by simp) fun hwf=>?_
 rw[AQ];unfold IU
 simp -implicitDefEqProofs only[go_sem,Aq]
 have h1:=RM (k:=c.out.toNat) (by omega)
 have h2:=RL c.out.toNat
 refine⟨by omega,?_⟩
 simp (disch:=omega) only[Ad]
 refine G_ (CA _ _ _) rfl ?_
 simp -implicitDefEqProofs only[go_sem]
theorem N1 (c:AW) (n:Int):BR E0 GN [.int .i64 n,.ptr (MA c)] (.bool (!c.isState n)):=by
 refine AM Nr Af (by simp) fun hwf=>?_
 rw[AQ];unfold IT
 simp -implicitDefEqProofs only[go_sem,Aq]
 refine G_ (F6 c n) rfl ?_
 simp -implicitDefEqProofs only[go_sem]
theorem Mx (c:AW) (n:Int) (h:1<=c.bits/\c.bits<=2):BR E0 Fp [.int .i64 n,.ptr (MA c)] (.bool (!c.isWord n)):=by
 refine AM Mo Af (by simp) fun hwf=>?_
 rw[AQ];unfold Hc
 simp -implicitDefEqProofs only[go_sem,Aq]
 refine G_ (F5 c (by omega)) rfl ?_
 simp -implicitDefEqProofs only[go_sem]
 have:=Oi h
 simp (disch:=omega) only[Ad]
 refine G_ (CA _ _ _) rfl ?_
 simp -implicitDefEqProofs only[go_sem,AW.isWord]
theorem Lq (c:AW) (s w:Int) (h:c.ok=true) (hs:c.isState s=true) (hw:c.isWord w=true) :
  BR E0 FL [FE c,.int .i64 s,.int .i64 w] (.list false (Aa (CH c.out.toNat (c.wrd s w)))):=by
 refine AM Lm Af (by simp) fun hwf=>?_
 have hd:=AW.ok_head h
 simp only[AW.isState,AW.isWord,B_,decide_eq_true_eq] at hs hw
 have hrow:=AW.ok_words h s.toNat (by omega)
 have h12:=Oi (b:=c.bits) (by omega)
 rw[AQ];unfold Gu
 simp -implicitDefEqProofs only[go_sem,Au,Aq,Ao]
 simp (disch:=omega) only[Ad]
 refine AU (α:=Int×Bool×(List Int)) (l0:=?l2) (m0:=?m2) (fun x=>[(8,.d (.int .i64 x.1))]) (fun x=>[(31,.row SR 1 x.2.1 (Aa x.2.2))]) (fun x=>-1<=x.1/\x.1<c.out/\x.2.2.length+x.1=c.out-1/\x.2.1=x.2.2.isEmpty/\x.2.2++CH (x.1+1).toNat (c.wrd s w)=CH c.out.toNat (c.wrd s w)) (fun x=>(x.1+1).toNat) (?a2_0,?a2_1,[]) ?h02 ?he2 ?he22 ?hI2 ?step2
 case h02=>(simp -implicitDefEqProofs only[go_sem,Au,Aq,Ao];rfl)
 case he2=>rfl
 case he22=>rfl
 case' step2=>(rintro⟨i,nl,acc⟩ hI;try dsimp only at hI)
 case' hI2=>try dsimp only
 ·simp;(try omega)
 ·(try (simp -implicitDefEqProofs only[go_sem,Ao,B3]));repeat' first|(with_reducible first|exact tI|refine aI ?_ ?_|intro _|refine AJ ?_ ?_<;>intro _<;>try simp -implicitDefEqProofs only[go_sem,Ao,B3])|simp (disch:=omega) only[Ad]|((with_reducible apply Ag);exact rfl)
  all_goals first|omega|(simp<;>omega)|skip
  ·rw[←hI.2.2.2.2,show (i-1+1).toNat=i.toNat by omega,show (i+1).toNat=i.toNat+1 by omega,CH,c.wrd_eq]
   simp
  ·have h0:(i+1).toNat=0:=by omega
   have h1:acc=CH c.out.toNat (c.wrd s w):=by rw[←hI.2.2.2.2,h0,CH,List.append_nil]
   have h2:acc≠[]:=by rintro rfl;simp at hI;omega
   rw[←h1,hI.2.2.2.1];cases acc with
   |nil=>exact absurd rfl h2
   |cons _ _=>rfl
end
section
attribute [local irreducible] IntKind.wrap Ai Option.getD and or
def AW.rowsOk (c:AW) (j:Nat):Bool:=NL (2^c.bits.toNat) (2^c.out.toNat-1) (c.words[j]?.getD default) && NL (2^c.bits.toNat) (c.words.length-1) (c.next[j]?.getD default)
theorem OY (c:AW) (j:Nat):c.rowsOk j=(decide (((c.words[j]?.getD default).2.length:Int)=2^c.bits.toNat) && ((c.words[j]?.getD default).2.all fun n=>B_ n 0 (2^c.out.toNat-1)) &&
  (decide (((c.next[j]?.getD default).2.length:Int)=2^c.bits.toNat) && (c.next[j]?.getD default).2.all c.isState)):=by
 have h:∀(n k:Nat),decide (n=2^k)=decide ((n:Int)=2^k):=fun n k=>by
  have:((2^k:Nat):Int)=(2:Int)^k:=by simp
  rw[←this,decide_eq_decide];omega
 simp only[AW.rowsOk,NL,h];rfl
theorem X' (c:AW) (hh:c.head=true):c.ok=true↔∀(j:Nat),j<c.words.length->c.rowsOk j=true:=by
 have hl:c.next.length=c.words.length:=by simp[AW.head] at hh;exact hh.2
 simp only[AW.ok,AW.rowsOk,hh,Bool.true_and,Bool.and_eq_true,List.all_eq_true]
 constructor
 ·intro h j h1
  exact⟨h.1 _ (Kg h1),h.2 _ (Kg (by omega))⟩
 ·intro h
  constructor
  ·intro x hx;obtain⟨j,hj,rfl⟩:=List.getElem_of_mem hx;have:=(h j hj).1;simpa[hj] using this
  ·intro x hx;obtain⟨j,hj,rfl⟩:=List.getElem_of_mem hx;have:=(h j (by omega)).2;simpa[hj] using this
theorem fL (c:AW) (hh:c.head=true) (j:Nat) (hj:j<c.words.length) (hb:c.rowsOk j=false):c.ok=false:=by
 cases h:c.ok with
 |false=>rfl
 |true=>have:=(X' c hh).1 h j hj;rw[this] at hb;cases hb
theorem Jp (c:AW):BR E0 MO [FE c] (.int .i64 (Kk c.ok 40)):=by
 refine AM P_ Af (by simp) fun hwf=>?_
 simp only[CU,Bu,Bt,Bq,Cd,Cc,Dt,Cb,A2,A9,A_,Bz,BG,List.length_map,BH,true_and,and_true,Au,Aq,Ao] at hwf
 have noHead:c.head=false->Kk c.ok 40=40:=fun h=>by simp[Kk,AW.ok,h]
 rw[AQ];unfold KX
 (try (simp -implicitDefEqProofs only[go_sem,Au,Aq,Ao]));repeat' first|(with_reducible first|exact tI|refine aI ?_ ?_|intro _)|((first|with_reducible refine AJ ?_ ?_<;>intro _|(with_reducible refine isCall ?_);first|refine AE (CA _ _ _) ?_)<;>try (simp -implicitDefEqProofs only[go_sem,Au,Aq,Ao]))|simp (disch:=omega) only[Ad]|((with_reducible apply Ab);exact rfl)
 all_goals first|(rw[noHead (by cases hh:c.head;rfl;exfalso;simp only[AW.head,B_,Bool.and_eq_true,decide_eq_true_eq,decide_eq_false_iff_not] at *;omega)];done)|skip
 have hh:c.head=true:=by simp only[AW.head,B_,Bool.and_eq_true,decide_eq_true_eq,decide_eq_false_iff_not] at *;omega
 have ho:1<=c.out/\c.out<=5:=by simp_all[B_]
 have hb:1<=c.bits/\c.bits<=2:=by simp_all[B_]
 have hl:c.next.length=c.words.length:=by omega
 have h12:=Oi hb
 have c1:=fun nl xs=>B0 nl xs GO [.ptr (MA c)] (fun n=>!B_ n 0 (2^c.out.toNat-1)) (by kernel_rfl) rfl (fun x _=>N2 c x ho)
 have c2:=fun nl xs=>B0 nl xs GN [.ptr (MA c)] (fun n=>!c.isState n) (by kernel_rfl) rfl (fun x _=>N1 c x)
 simp only[SK] at c1 c2
 have bad:∀j,j<c.words.length->c.rowsOk j=false->Kk c.ok 40=40:=fun j hj h=>by rw[Kk,fL c hh j hj h];rfl
 refine AU (α:=Int) (l0:=?l1) (m0:=?m1) (fun x=>[(63,.d (.int .i64 x))]) (fun x=>[]) (fun x=>0<=x/\x<=c.words.length/\∀(j:Nat),(j:Int)<x->c.rowsOk j=true) (fun x=>(c.words.length-x).toNat) ?a1_0 ?h01 ?he1 ?he21 ?hI1 ?step1
 case h01=>(simp -implicitDefEqProofs only[go_sem,Au,Aq,Ao];rfl)
 case he1=>rfl
 case he21=>rfl
 case' step1=>(rintro i hI;try dsimp only at hI)
 case' hI1=>try dsimp only
 ·simp;omega
 ·(try (simp -implicitDefEqProofs only[go_sem,Ao,B3]));repeat' first|(with_reducible first|exact tI|refine aI ?_ ?_|intro _)|((first|with_reducible refine AJ ?_ ?_<;>intro _|(with_reducible refine isCall ?_);first|refine AE (F5 c (by omega)) ?_|refine AE (c1 _ _) ?_|refine AE (c2 _ _) ?_)<;>try (simp -implicitDefEqProofs only[go_sem,Ao,B3]))|simp (disch:=omega) only[Ad]|((with_reducible apply Ab);exact rfl)
  all_goals first|omega|(simp<;>omega)|skip
  all_goals try (refine congrArg (D.int .i64) (bad i.toNat (by omega) ?_).symm;rw[OY];generalize ((c.words[i.toNat]?.getD default).2.all fun n=>B_ n 0 (2^c.out.toNat-1))=A at *;generalize (c.next[i.toNat]?.getD default).2.all c.isState=B at *;cases A<;>cases B<;>simp_all;done)
  ·rename_i j hj
   by_cases hji:j=i.toNat
   ·subst hji;rw[OY];generalize ((c.words[i.toNat]?.getD default).2.all fun n=>B_ n 0 (2^c.out.toNat-1))=A at *;generalize (c.next[i.toNat]?.getD default).2.all c.isState=B at *;cases A<;>cases B<;>simp_all
   ·exact hI.2.2 j (by omega)
  ·have:c.ok=true:=(X' c hh).2 fun j hj=>hI.2.2 j (by omega)
   rw[Kk,this];rfl
theorem R7 (c:AW) (s:Int):BR E0 OK [FE c,.int .i64 s] (.tup [FE c,.int .i64 (if !c.ok then 40 else if !c.isState s then 41 else 0)]):=by
 refine AM Rx Af (by simp) fun hwf=>?_
 rw[AQ];unfold L5
 (try (simp -implicitDefEqProofs only[go_sem,Au,Aq]));repeat' first|(with_reducible first|exact tI|refine aI ?_ ?_|intro _)|((first|with_reducible refine AJ ?_ ?_<;>intro _|(with_reducible refine isCall ?_);first|refine AE (Jp c) ?_|refine AE (F6 c s) ?_)<;>try (simp -implicitDefEqProofs only[go_sem,Au,Aq]))|simp (disch:=omega) only[Ad]
 all_goals (cases hok:c.ok<;>cases hst:c.isState s<;>simp_all[Kk,Au,Aq])
end
section
attribute [local irreducible] IntKind.wrap Ai Option.getD and or
theorem PA (c:AW) (s:Int) (nl:Bool) (l:List Int):BR E0 LF [FE c,.int .i64 s,.list nl (Aa l)] (.tup [.list (c.encode s l).1.isEmpty (Aa (c.encode s l).1),.int .i64 (c.encode s l).2.1,.int .i64 (c.encode s l).2.2]):=by
 refine AM O6 Af (by simp) fun hwf=>?_
 rw[AQ];unfold Jk
 simp -implicitDefEqProofs only[go_sem,Au,Aq]
 refine G_ (R7 c s) rfl ?_
 simp -implicitDefEqProofs only[go_sem,Au,Aq]
 by_cases hok:c.ok=true/\c.isState s=true
 ·obtain⟨h1,h2⟩:=hok
  have hd:=AW.ok_head h1
  have c1:=fun nl xs=>B0 nl xs Fp [.ptr (MA c)] (fun n=>!c.isWord n) (by kernel_rfl) rfl (fun x _=>Mx c x (by omega))
  simp only[SK] at c1
  simp only[h1,h2,Bool.not_true,Bool.false_eq_true,if_false]
  (try (simp -implicitDefEqProofs only[go_sem]));repeat' first|(with_reducible first|exact tI|refine aI ?_ ?_|intro _)|((first|with_reducible refine AJ ?_ ?_<;>intro _|(with_reducible refine isCall ?_);first|refine AE (c1 _ _) ?_)<;>try (simp -implicitDefEqProofs only[go_sem]))|simp (disch:=omega) only[Ad]|((with_reducible apply A8);exact rfl)
  ·have:c.isData l=false:=by simp[AW.isData];omega
   simp[AW.encode,h1,h2,this]
  ·have:c.isData l=false:=by simp only[AW.isData];simp_all
   simp[AW.encode,h1,h2,this]
  ·have hdt:c.isData l=true:=by simp only[AW.isData];simp_all;omega
   have hen:c.encode s l=((c.stream s l).1,(c.stream s l).2,0):=by simp[AW.encode,h1,h2,hdt]
   have hlw:∀w,w∈l->c.isWord w=true:=by simp only[AW.isData,Bool.and_eq_true,List.all_eq_true] at hdt;exact hdt.2
   have hl24:l.length<=24:=by simp[AW.isData] at hdt;exact hdt.1
   rw[hen]
   refine AU (α:=Int×Int×Bool×(List Int)) (l0:=?l1) (m0:=?m1) (fun x=>[(31,.d (.int .i64 x.1)),(1,.d (.int .i64 x.2.1))]) (fun x=>[(40,.row SR 1 x.2.2.1 (Aa x.2.2.2))]) (fun x=>0<=x.1/\x.1<=l.length/\c.isState x.2.1=true/\x.2.2.1=x.2.2.2.isEmpty/\x.2.2.2.length=c.out.toNat * x.1.toNat/\c.stream s l=(x.2.2.2++(c.stream x.2.1 (l.drop x.1.toNat)).1,(c.stream x.2.1 (l.drop x.1.toNat)).2)) (fun x=>(l.length-x.1).toNat) (?a1_0,?a1_1,?a1_2,[]) ?h01 ?he1 ?he21 ?hI1 ?step1
   case h01=>(simp -implicitDefEqProofs only[go_sem,Au,Aq];rfl)
   case he1=>rfl
   case he21=>rfl
   case' step1=>(rintro⟨i,t,nl',acc⟩ hI;try dsimp only at hI)
   case' hI1=>try dsimp only
   ·simp[h2]
   ·have hcb:∀w,w∈l->BR E0 FL [FE c,.int .i64 t,.int .i64 w] (.list false (Aa (CH c.out.toNat (c.wrd t w)))):=fun w hw=>Lq c t w h1 hI.2.2.1 (hlw w hw)
    by_cases hi:i<l.length
    ·have hm:l[i.toNat]?.getD 0∈l:=Cs (by omega)
     have hcb:=hcb _ hm
     have hst:=hI.2.2.1
     simp only[AW.isState,B_,decide_eq_true_eq] at hst
     have hn:=AW.ok_next h1 t.toNat (by omega)
     have h12:=Oi (b:=c.bits) (by omega)
     have hwd:=hlw _ hm
     simp only[AW.isWord,B_,decide_eq_true_eq] at hwd
     have hbl:=H2 c.out.toNat (c.wrd t (l[i.toNat]?.getD 0))
     have hbig:c.out.toNat * i.toNat<=5*24:=Nat.mul_le_mul (by omega) (by omega)
     (try (simp -implicitDefEqProofs only[go_sem,Ao,B3]));repeat' first|(with_reducible first|exact tI|refine aI ?_ ?_|intro _)|((first|with_reducible refine AJ ?_ ?_<;>intro _|(with_reducible refine isCall ?_);first|refine AE hcb ?_)<;>try (simp -implicitDefEqProofs only[go_sem,Ao,B3]))|simp (disch:=omega) only[Ad]|((with_reducible apply A8);exact rfl)
     all_goals first|omega|(simp<;>omega)|skip
     ·exact AW.nxt_state h1 hI.2.2.1 (hlw _ hm)
     ·rw[hI.2.2.2.1];cases acc<;>simp
     ·rw[List.length_append,hI.2.2.2.2.1,hbl,show (i+1).toNat=i.toNat+1 by omega,Nat.mul_succ]
     ·have hdrop:l.drop i.toNat=(l[i.toNat]?.getD 0)::l.drop (i+1).toNat:=by
       rw[show (i+1).toNat=i.toNat+1 by omega,List.drop_eq_getElem_cons (by omega),List.getElem?_eq_getElem (by omega),Option.getD_some]
      rw[hI.2.2.2.2.2,hdrop,AW.stream]
      simp[c.nxt_eq,List.append_assoc]
    ·(try (simp -implicitDefEqProofs only[go_sem]));repeat' first|(with_reducible first|exact tI|refine aI ?_ ?_|intro _|refine AJ ?_ ?_<;>intro _<;>try simp -implicitDefEqProofs only[go_sem])|simp (disch:=omega) only[Ad]|((with_reducible apply A8);exact rfl)
     all_goals first|omega|(simp<;>omega)|skip
     have h0:l.drop i.toNat=[]:=List.drop_eq_nil_of_le (by omega)
     rw[hI.2.2.2.2.2,h0,AW.stream,hI.2.2.2.1]
     simp
 ·have hk:c.encode s l=([],0,if !c.ok then 40 else 41):=by
   simp only[AW.encode];cases hok1:c.ok<;>cases hst:c.isState s<;>simp_all
  rw[hk]
  (try (simp -implicitDefEqProofs only[go_sem]));repeat' first|(with_reducible first|exact tI|refine aI ?_ ?_|intro _|refine AJ ?_ ?_<;>intro _<;>try simp -implicitDefEqProofs only[go_sem])|simp (disch:=omega) only[Ad]|((with_reducible apply A8);exact rfl)
  all_goals (cases hok1:c.ok<;>cases hst:c.isState s<;>simp_all)
theorem Mw (n1 n2:Bool) (xs ys:List Int) (hx:Al xs=true) (hy:Al ys=true) (hl:xs.length<=ys.length) (h128:xs.length<=1000000) :
  BR E0 I3 [.list n1 (Aa xs),.list n2 (Aa ys)] (.int .i64 (B' xs ys)):=by
 refine AM Mm Af (by simp) fun hwf=>?_
 rw[AQ];unfold Ha
 simp -implicitDefEqProofs only[go_sem]
 refine AU (α:=Int×Int) (l0:=?l2) (m0:=?m2) (fun x=>[(9,.d (.int .i64 x.1)),(4,.d (.int .i64 x.2))]) (fun x=>[]) (fun x=>0<=x.1/\x.1<=xs.length/\0<=x.2/\x.2<=x.1/\x.2+B' (xs.drop x.1.toNat) (ys.drop x.1.toNat)=B' xs ys) (fun x=>(xs.length-x.1).toNat) (?a2_0,?a2_1) ?h02 ?he2 ?he22 ?hI2 ?step2
 case h02=>(simp -implicitDefEqProofs only[go_sem];rfl)
 case he2=>rfl
 case he22=>rfl
 case' step2=>(rintro⟨i,n⟩ hI;try dsimp only at hI)
 case' hI2=>try dsimp only
 ·simp
 ·by_cases hi:i<xs.length
  ·obtain⟨e,he⟩:∃e:Int,(if xs[i.toNat]?.getD 0=ys[i.toNat]?.getD 0 then 0 else 1)=e:=⟨_,rfl⟩
   have hxor:=Tm (Et hx (i:=i.toNat) (by omega)) (Et hy (i:=i.toNat) (by omega))
   have hd:B' (xs.drop i.toNat) (ys.drop i.toNat)=e+B' (xs.drop (i+1).toNat) (ys.drop (i+1).toNat):=by
    rw[ER (xs:=xs) (i:=i.toNat) (by omega),ER (xs:=ys) (i:=i.toNat) (by omega),B',he,show (i+1).toNat=i.toNat+1 by omega]
   rw[he] at hxor
   have he1:e=0\/e=1:=by rw[←he];split<;>simp
   (try (simp -implicitDefEqProofs only[go_sem]));repeat' first|(with_reducible first|exact tI|refine aI ?_ ?_|intro _|refine AJ ?_ ?_<;>intro _<;>try simp -implicitDefEqProofs only[go_sem])|simp (disch:=omega) only[Ad]|((with_reducible apply Ae);exact rfl)
   all_goals (try simp only[hxor])
   all_goals (try rw[AZ _ (by omega)])
   all_goals omega
  ·(try (simp -implicitDefEqProofs only[go_sem]));repeat' first|(with_reducible first|exact tI|refine aI ?_ ?_|intro _|refine AJ ?_ ?_<;>intro _<;>try simp -implicitDefEqProofs only[go_sem])|simp (disch:=omega) only[Ad]|((with_reducible apply Ae);exact rfl)
   all_goals first|omega|(simp<;>omega)|skip
   have h0:xs.drop i.toNat=[]:=List.drop_eq_nil_of_le (by omega)
   have h1:B' [] (ys.drop i.toNat)=0:=by simp[B']
   rw[h0,h1] at hI
   rw[←hI.2.2.2.2];simp
def Kj (mark bits:List Int) (e:Int):Nat->Int->List Int
 |0,_=>[]
 |n+1,i=>if B' mark (bits.drop i.toNat)<=e then i::Kj mark bits e n (i+1) else Kj mark bits e n (i+1)
def CE (mark:List Int):Bool:=B_ mark.length 1 16 && Al mark
def Ki (mark bits:List Int) (e:Int):List Int×Int :=
 if !(CE mark && decide (bits.length<=128) && Al bits && B_ e 0 16) then ([],1)
 else (Kj mark bits e (bits.length+1-mark.length) 0,0)
theorem DM {xs:List Int}(h:Al xs=true) (n:Nat):Al (xs.drop n)=true:=by
 simp only[Al,List.all_eq_true] at *
 exact fun x hx=>h x (List.mem_of_mem_drop hx)
theorem R8 (n1 n2:Bool) (mark bits:List Int) (e:Int):BR E0 OL [.list n1 (Aa mark),.list n2 (Aa bits),.int .i64 e]
  (.tup [.list (Ki mark bits e).1.isEmpty (Aa (Ki mark bits e).1),.int .i64 (Ki mark bits e).2]):=by
 refine AM Ry Af (by simp) fun hwf=>?_
 simp only[CU,Bu,Bt,Bq,Cd,Cc,Dt,Cb,A2,A9,A_,Bz,BG,List.length_map,BH,true_and,and_true] at hwf
 have bad:(CE mark && decide (bits.length<=128) && Al bits && B_ e 0 16)=false->Ki mark bits e=([],1):=fun h=>by simp only[Ki,h];rfl
 have bad2:¬bits.length<=128->Ki mark bits e=([],1):=fun h=>bad (by
      have:decide (bits.length<=128)=false:=by simpa using h
      simp[this])
 rw[AQ];unfold L6
 (try (simp -implicitDefEqProofs only[go_sem]));repeat' first|(with_reducible first|exact tI|refine aI ?_ ?_|intro _)|((first|with_reducible refine AJ ?_ ?_<;>intro _|(with_reducible refine isCall ?_);first|refine AE (O' _ _) ?_|refine AE (H0 _ _) ?_|refine AE (CA _ _ _) ?_)<;>try (simp -implicitDefEqProofs only[go_sem]))|simp (disch:=omega) only[Ad]|((with_reducible apply Ag);exact rfl)
 all_goals first|(
     have hx:¬bits.length<=128:=by omega
     rw[bad2 hx];rfl)|skip
 all_goals first|(
     have hx:(CE mark && decide (bits.length<=128) && Al bits && B_ e 0 16)=false:=by(simp_all[CE];done)
     rw[bad hx];rfl)|skip
 have hm:CE mark=true:=by assumption
 have hb:Al bits=true:=by assumption
 have h128:bits.length<=128:=by omega
 have hgood:Ki mark bits e=(Kj mark bits e (bits.length+1-mark.length) 0,0):=by simp only[Ki];simp_all
 have hmb:Al mark=true:=by simp only[CE,Bool.and_eq_true] at hm;exact hm.2
 have hm1:1<=mark.length/\mark.length<=16:=by simp[CE,B_] at hm;omega
 rw[hgood]
 refine AU (α:=Int×Bool×(List Int)) (l0:=?l3) (m0:=?m3) (fun x=>[(35,.d (.int .i64 x.1))]) (fun x=>[(48,.row SR 1 x.2.1 (Aa x.2.2))]) (fun x=>0<=x.1/\x.1<=max 0 (bits.length-mark.length+1:Int)/\x.2.2.length<=x.1/\x.2.1=x.2.2.isEmpty/\x.2.2++Kj mark bits e (bits.length+1-mark.length-x.1.toNat) x.1=Kj mark bits e (bits.length+1-mark.length) 0) (fun x=>(max 0 (bits.length-mark.length+1:Int)-x.1).toNat) (?a3_0,?a3_1,[]) ?h03 ?he3 ?he23 ?hI3 ?step3
 case h03=>(simp -implicitDefEqProofs only[go_sem];rfl)
 case he3=>rfl
 case he23=>rfl
 case' step3=>(rintro⟨i,nl,acc⟩ hI;try dsimp only at hI)
 case' hI3=>try dsimp only
 ·simp;omega
 ·by_cases hi:i<max 0 (bits.length-mark.length+1:Int)
  ·have hstep:Kj mark bits e (bits.length+1-mark.length-i.toNat) i=if B' mark (bits.drop i.toNat)<=e then i::Kj mark bits e (bits.length+1-mark.length-(i+1).toNat) (i+1) else Kj mark bits e (bits.length+1-mark.length-(i+1).toNat) (i+1):=by
    rw[show bits.length+1-mark.length-i.toNat=(bits.length+1-mark.length-(i+1).toNat)+1 by omega,Kj]
   have cd:=fun n1 n2=>Mw n1 n2 mark (bits.drop i.toNat) hmb (DM hb _) (by simp;omega) (by omega)
   (try (simp -implicitDefEqProofs only[go_sem]));repeat' first|(with_reducible first|exact tI|refine aI ?_ ?_|intro _)|((first|with_reducible refine AJ ?_ ?_<;>intro _|(with_reducible refine isCall ?_);first|refine AE (cd _ _) ?_)<;>try (simp -implicitDefEqProofs only[go_sem]))|simp (disch:=omega) only[Ad]|((with_reducible apply Ag);exact rfl)
   all_goals first|omega|(simp<;>omega)|skip
   ·rw[←hI.2.2.2.2,hstep,if_pos (by assumption)];simp
   ·exact hI.2.2.2.1
   ·rw[←hI.2.2.2.2,hstep,if_neg (by assumption)]
  ·(try (simp -implicitDefEqProofs only[go_sem]));repeat' first|(with_reducible first|exact tI|refine aI ?_ ?_|intro _|refine AJ ?_ ?_<;>intro _<;>try simp -implicitDefEqProofs only[go_sem])|simp (disch:=omega) only[Ad]|((with_reducible apply Ag);exact rfl)
   all_goals first|omega|(simp<;>omega)|skip
   have h0:bits.length+1-mark.length-i.toNat=0:=by omega
   have h1:=hI.2.2.2.2
   rw[h0,Kj,List.append_nil] at h1
   rw[←h1,hI.2.2.2.1]
end
end Go.Pw
