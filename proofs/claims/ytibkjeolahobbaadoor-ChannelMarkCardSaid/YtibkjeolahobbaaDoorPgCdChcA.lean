/- A part of the proof. -/
import Derived.Test.YtibkjeolahobbaaDoorCdPC
import Derived.Test.YtibkjeolahobbaaDoorPwVC
import Derived.Test.YtibkjeolahobbaaDoorCodesSpec
set_option linter.all false
section
open Go Go.Pw Go.Proofs
namespace Go.Pw
set_option maxRecDepth 100000
set_option maxHeartbeats 400000
attribute [local congr] Bi A9 A_ Aq Bj Ax Az Ay Ap Aj Ad AY Au Ae Av BH BL BJ BK BI BM BE Ah Aw Ai BC BS Ag BF BG BD BA BB A8 Bl A' Ar Af
attribute [local irreducible] IntKind.wrap A3 Option.getD and or
theorem Cj (n lo hi:Int):CK E0 LJ [.int .i64 n,.int .i64 lo,.int .i64 hi] (.bool (Cq n lo hi)):=by
 refine AM Og A0 (by simp) fun hwf=>?_
 rw[AU];unfold Js Cq
 (try (simp -implicitDefEqProofs only[go_sem]));repeat' first|(with_reducible first|exact tI|refine aI ?_ ?_|intro _)|((first|with_reducible refine AO ?_ ?_<;>intro _)<;>try (simp -implicitDefEqProofs only[go_sem]))|simp (disch:=omega) only[An]
 all_goals first|omega|(simp_all[Cq];done)|(simp_all[Cq];omega)|grind
theorem C_ (n lo hi:Int):CK E0 LE [.int .i64 n,.int .i64 lo,.int .i64 hi] (.bool (Cq n lo hi)):=by
 refine AM Oa A0 (by simp) fun hwf=>?_
 rw[AU];unfold Jn Cq
 (try (simp -implicitDefEqProofs only[go_sem]));repeat' first|(with_reducible first|exact tI|refine aI ?_ ?_|intro _)|((first|with_reducible refine AO ?_ ?_<;>intro _)<;>try (simp -implicitDefEqProofs only[go_sem]))|simp (disch:=omega) only[An]
 all_goals first|omega|(simp_all[Cq];done)|(simp_all[Cq];omega)|grind
theorem Gb (c:AQ) (h:0<=c.bits/\c.bits<=2):CK E0 Hd [HV c] (.int .i64 (2^c.bits.toNat)):=by
 refine AM K3 A0 (by simp) fun hwf=>?_
 rw[AU];unfold Gv
 simp -implicitDefEqProofs only[go_sem,BO,A6]
 exact⟨h.1,by simp (disch:=omega) only[An]⟩
theorem Gc (c:AQ) (n:Int):CK E0 He [HV c,.int .i64 n] (.bool (c.isState n)):=by
 refine AM K4 A0 (by simp) fun hwf=>?_
 simp only[EM,DU,DT,DI,Ed,Ec,GL,Eb,Bq,B3,B4,DY,CI,List.length_map,CB,true_and,and_true,BO,A6,BN] at hwf
 rw[AU];unfold Gw
 simp -implicitDefEqProofs only[go_sem,BO,A6,BN]
 simp (disch:=omega) only[An]
 refine HX (Cj _ _ _) rfl ?_
 simp -implicitDefEqProofs only[go_sem,AQ.isState]
theorem Lp (nl:Bool) (xs:List Int) (f:FuncId) (cs:List D) (p:Int->Bool) (hb:Bu E0.P f=true) (hcs:A7 AV.toD1 (cs.map .d)=some cs) (h:∀x,x∈xs->CK E0 f (.int .i64 x::cs) (.bool (p x))) :
  CK E0 DG [.list nl (Al xs),.fn f cs] (.int .i64 (match xs.findIdx? p with|some i=>i|none=>-1)):=by
 refine AM EC A0 (by simp) fun hwf=>?_
 simp only[EM,DU,DT,DI,Ed,Ec,GL,Eb,Bq,B3,B4,DY,CI,List.length_map,CB,true_and,and_true] at hwf
 rw[AU];unfold C4
 simp -implicitDefEqProofs only[go_sem]
 refine AZ (α:=Int) (l0:=?l1) (m0:=?m1) (fun x=>[(8,.d (.int .i64 x))]) (fun x=>[]) (fun x=>0<=x/\x<=xs.length/\∀(j:Nat) (hj:j<xs.length),(j:Int)<x->p xs[j]=false) (fun x=>(xs.length-x).toNat) ?a1_0 ?h01 ?he1 ?he21 ?hI1 ?step1
 case h01=>(simp -implicitDefEqProofs only[go_sem];rfl)
 case he1=>rfl
 case he21=>rfl
 case' step1=>(rintro i hI;try dsimp only at hI)
 case' hI1=>try dsimp only
 ·simp
  omega
 ·(try (simp -implicitDefEqProofs only[go_sem]));repeat' first|(with_reducible first|exact tI|refine aI ?_ ?_|intro _)|((first|with_reducible refine AO ?_ ?_<;>intro _)<;>try (simp -implicitDefEqProofs only[go_sem]))|simp (disch:=omega) only[An]|((with_reducible refine A5 ?_);refine⟨_,rfl,?_,?_⟩)
  all_goals first|omega|(simp;done)|(simp;omega)|skip
  ·have hx:xs[i.toNat]?.getD 0=xs[i.toNat]'(by omega):=by rw[List.getElem?_eq_getElem (by omega),Option.getD_some]
   rw[hx]
   refine Xp (h _ (List.getElem_mem _)) (K9 rfl hcs) (fun hp=>?_) (fun hp=>?_)
   ·simp -implicitDefEqProofs only[go_sem]
    have:xs.findIdx? p=some i.toNat:=by rw[List.findIdx?_eq_some_iff_getElem];exact⟨by omega,hp,fun j hj=>by simp[hI.2.2 j (by omega) (by omega)]⟩
    rw[this];simp;omega
   ·(try (simp -implicitDefEqProofs only[go_sem]));repeat' first|(with_reducible first|exact tI|refine aI ?_ ?_|intro _)|((first|with_reducible refine AO ?_ ?_<;>intro _)<;>try (simp -implicitDefEqProofs only[go_sem]))|simp (disch:=omega) only[An]|((with_reducible refine A5 ?_);refine⟨_,rfl,?_,?_⟩)
    all_goals first|omega|(simp;done)|(simp;omega)|skip
    rename_i j hj hlt
    by_cases hjk:j=i.toNat
    ·subst hjk;exact hp
    ·exact hI.2.2 j hj (by omega)
  ·have:xs.findIdx? p=none:=by
    rw[List.findIdx?_eq_none_iff];intro x hx;obtain⟨j,hj,rfl⟩:=List.getElem_of_mem hx;exact hI.2.2 j hj (by omega)
   rw[this]
theorem CX (nl:Bool) (xs:List Int) (f:FuncId) (cs:List D) (p:Int->Bool) (hb:Bu E0.P f=true) (hcs:A7 AV.toD1 (cs.map .d)=some cs) (h:∀x,x∈xs->CK E0 f (.int .i64 x::cs) (.bool (p x))) :
  CK E0 B9 [.list nl (Al xs),.fn f cs] (.bool (xs.any p)):=by
 refine AM Dn A0 (by simp) fun hwf=>?_
 rw[AU];unfold Ch
 simp -implicitDefEqProofs only[go_sem]
 refine HX (Lp nl xs f cs p hb hcs h) rfl ?_
 simp -implicitDefEqProofs only[go_sem]
 have key:(0:Int)<=(match xs.findIdx? p with|some i=>(i:Int)|none=>-1)↔xs.any p=true:=by
  cases hf:xs.findIdx? p with
  |none=>rw[List.findIdx?_eq_none_iff] at hf;simp;intro x hx;simp[hf x hx]
  |some i=>rw[List.findIdx?_eq_some_iff_getElem] at hf;simp;exact⟨_,List.getElem_mem hf.1,hf.2.1⟩
 grind
theorem Pe (n:Int):CK E0 IU [.int .i64 n] (.bool (!Cq n 0 1)):=by
 refine AM Pa A0 (by simp) fun hwf=>?_
 rw[AU];unfold Kj Cq
 (try (simp -implicitDefEqProofs only[go_sem]));repeat' first|(with_reducible first|exact tI|refine aI ?_ ?_|intro _)|((first|with_reducible refine AO ?_ ?_<;>intro _)<;>try (simp -implicitDefEqProofs only[go_sem]))|simp (disch:=omega) only[An]
 all_goals first|omega|(simp_all[Cq];done)|(simp_all[Cq];omega)|grind
theorem Q6 {α:Type}(xs:List α) (p:α->Bool):xs.any (fun x=>!p x)=!xs.all p:=by
 induction xs with
 |nil=>rfl
 |cons x xs ih=>simp only[List.any_cons,List.all_cons,ih,Bool.not_and]
theorem IP (nl:Bool) (xs:List Int):CK E0 PL [.list nl (Al xs)] (.bool (Ab xs)):=by
 refine AM Ra A0 (by simp) fun hwf=>?_
 rw[AU];unfold M8
 simp -implicitDefEqProofs only[go_sem]
 refine HX (CX nl xs IU [] (fun n=>!Cq n 0 1) (by kernel_rfl) rfl fun x _=>Pe x) rfl ?_
 simp -implicitDefEqProofs only[go_sem,Q6,Bool.not_not,Ab]
theorem Om (nl:Bool) (xs:List Int):CK E0 LK [.list nl (Al xs)] (.bool (Cq xs.length 1 16 && Ab xs)):=by
 refine AM Oh A0 (by simp) fun hwf=>?_
 rw[AU];unfold Jt
 (try (simp -implicitDefEqProofs only[go_sem]));repeat' first|(with_reducible first|exact tI|refine aI ?_ ?_|intro _)|((first|with_reducible refine AO ?_ ?_<;>intro _|(with_reducible refine isCall ?_);first|refine AE (Cj _ _ _) ?_|refine AE (IP nl xs) ?_)<;>try (simp -implicitDefEqProofs only[go_sem]))|simp (disch:=omega) only[An]
 all_goals first|omega|(simp_all[Cq];done)|(simp_all[Cq];omega)|grind
theorem Nr (c:AQ) (n:Int) (h:1<=c.out/\c.out<=5):CK E0 Gr [.int .i64 n,.ptr (L2 c)] (.bool (!Cq n 0 (2^c.out.toNat-1))):=by
 refine AM Nf A0 (by simp) fun hwf=>?_
 rw[AU];unfold It
 simp -implicitDefEqProofs only[go_sem,A6]
 have h1:=QH (k:=c.out.toNat) (by omega)
 have h2:=QG c.out.toNat
 refine⟨by omega,?_⟩
 simp (disch:=omega) only[An]
 refine HX (Cj _ _ _) rfl ?_
 simp -implicitDefEqProofs only[go_sem]
theorem Nq (c:AQ) (n:Int):CK E0 Gq [.int .i64 n,.ptr (L2 c)] (.bool (!c.isState n)):=by
 refine AM Nd A0 (by simp) fun hwf=>?_
 rw[AU];unfold Ir
 simp -implicitDefEqProofs only[go_sem,A6]
 refine HX (Gc c n) rfl ?_
 simp -implicitDefEqProofs only[go_sem]
theorem Mf (c:AQ) (n:Int) (h:1<=c.bits/\c.bits<=2):CK E0 GG [.int .i64 n,.ptr (L2 c)] (.bool (!c.isWord n)):=by
 refine AM MW A0 (by simp) fun hwf=>?_
 rw[AU];unfold H0
 simp -implicitDefEqProofs only[go_sem,A6]
 refine HX (Gb c (by omega)) rfl ?_
 simp -implicitDefEqProofs only[go_sem]
 have:=OM h
 simp (disch:=omega) only[An]
 refine HX (Cj _ _ _) rfl ?_
 simp -implicitDefEqProofs only[go_sem,AQ.isWord]
theorem Lo (c:AQ) (s w:Int) (h:c.ok=true) (hs:c.isState s=true) (hw:c.isWord w=true) :
  CK E0 Fy [HV c,.int .i64 s,.int .i64 w] (.list false (Al (Cr c.out.toNat (c.wrd s w)))):=by
 refine AM Lk A0 (by simp) fun hwf=>?_
 have hd:=AQ.ok_head h
 simp only[AQ.isState,AQ.isWord,Cq,decide_eq_true_eq] at hs hw
 have hrow:=AQ.ok_words h s.toNat (by omega)
 have h12:=OM (b:=c.bits) (by omega)
 rw[AU];unfold HF
 simp -implicitDefEqProofs only[go_sem,BO,A6,BN]
 simp (disch:=omega) only[An]
 refine AZ (α:=Int×Bool×(List Int)) (l0:=?l2) (m0:=?m2) (fun x=>[(8,.d (.int .i64 x.1))]) (fun x=>[(31,.row SZ 1 x.2.1 (Al x.2.2))]) (fun x=>-1<=x.1/\x.1<c.out/\x.2.2.length+x.1=c.out-1/\x.2.1=x.2.2.isEmpty/\x.2.2++Cr (x.1+1).toNat (c.wrd s w)=Cr c.out.toNat (c.wrd s w)) (fun x=>(x.1+1).toNat) (?a2_0,?a2_1,[]) ?h02 ?he2 ?he22 ?hI2 ?step2
 case h02=>(simp -implicitDefEqProofs only[go_sem,BO,A6,BN];rfl)
 case he2=>rfl
 case he22=>rfl
 case' step2=>(rintro⟨i,nl,acc⟩ hI;try dsimp only at hI)
 case' hI2=>try dsimp only
 ·simp;(try omega)
 ·(try (simp -implicitDefEqProofs only[go_sem,BN,DJ]));repeat' first|(with_reducible first|exact tI|refine aI ?_ ?_|intro _)|((first|with_reducible refine AO ?_ ?_<;>intro _)<;>try (simp -implicitDefEqProofs only[go_sem,BN,DJ]))|simp (disch:=omega) only[An]|((with_reducible refine BU ?_);refine⟨(_,_,_),rfl,?_,?_⟩)
  all_goals first|omega|(simp;done)|(simp;omega)|skip
  ·rw[←hI.2.2.2.2,show (i-1+1).toNat=i.toNat by omega,show (i+1).toNat=i.toNat+1 by omega,Cr,c.wrd_eq]
   simp
  ·have h0:(i+1).toNat=0:=by omega
   have h1:acc=Cr c.out.toNat (c.wrd s w):=by rw[←hI.2.2.2.2,h0,Cr,List.append_nil]
   have h2:acc≠[]:=by rintro rfl;simp at hI;omega
   rw[←h1,hI.2.2.2.1];cases acc with
   |nil=>exact absurd rfl h2
   |cons _ _=>rfl
end Go.Pw
end
section
open Go Go.Pw Go.Proofs
namespace Go.Pw
set_option maxRecDepth 100000
set_option maxHeartbeats 800000
attribute [local congr] Bi A9 A_ Aq Bj Ax Az Ay Ap Aj Ad AY Au Ae Av BH BL BJ BK BI BM BE Ah Aw Ai BC BS Ag BF BG BD BA BB A8 Bl A' Ar Af
attribute [local irreducible] IntKind.wrap A3 Option.getD and or
def AQ.rowsOk (c:AQ) (j:Nat):Bool:=QE (2^c.bits.toNat) (2^c.out.toNat-1) (c.words[j]?.getD default) && QE (2^c.bits.toNat) (c.words.length-1) (c.next[j]?.getD default)
theorem OE (c:AQ) (j:Nat):c.rowsOk j=(decide (((c.words[j]?.getD default).2.length:Int)=2^c.bits.toNat) && ((c.words[j]?.getD default).2.all fun n=>Cq n 0 (2^c.out.toNat-1)) &&
  (decide (((c.next[j]?.getD default).2.length:Int)=2^c.bits.toNat) && (c.next[j]?.getD default).2.all c.isState)):=by
 have h:∀(n k:Nat),decide (n=2^k)=decide ((n:Int)=2^k):=fun n k=>by
  have:((2^k:Nat):Int)=(2:Int)^k:=by simp
  rw[←this,decide_eq_decide];omega
 simp only[AQ.rowsOk,QE,h];rfl
theorem Ws (c:AQ) (hh:c.head=true):c.ok=true↔∀(j:Nat),j<c.words.length->c.rowsOk j=true:=by
 have hl:c.next.length=c.words.length:=by simp[AQ.head] at hh;exact hh.2
 simp only[AQ.ok,AQ.rowsOk,hh,Bool.true_and,Bool.and_eq_true,List.all_eq_true]
 constructor
 ·intro h j h1
  exact⟨h.1 _ (Ks h1),h.2 _ (Ks (by omega))⟩
 ·intro h
  constructor
  ·intro x hx;obtain⟨j,hj,rfl⟩:=List.getElem_of_mem hx;have:=(h j hj).1;simpa[hj] using this
  ·intro x hx;obtain⟨j,hj,rfl⟩:=List.getElem_of_mem hx;have:=(h j (by omega)).2;simpa[hj] using this
theorem cg (c:AQ) (hh:c.head=true) (j:Nat) (hj:j<c.words.length) (hb:c.rowsOk j=false):c.ok=false:=by
 cases h:c.ok with
 |false=>rfl
 |true=>have:=(Ws c hh).1 h j hj;rw[this] at hb;cases hb
theorem J0 (c:AQ):CK E0 MB [HV c] (.int .i64 (Kx c.ok 40)):=by
 refine AM Pb A0 (by simp) fun hwf=>?_
 simp only[EM,DU,DT,DI,Ed,Ec,GL,Eb,Bq,B3,B4,DY,CI,List.length_map,CB,true_and,and_true,BO,A6,BN] at hwf
 have noHead:c.head=false->Kx c.ok 40=40:=fun h=>by simp[Kx,AQ.ok,h]
 rw[AU];unfold Kk
 (try (simp -implicitDefEqProofs only[go_sem,BO,A6,BN]));repeat' first|(with_reducible first|exact tI|refine aI ?_ ?_|intro _)|((first|with_reducible refine AO ?_ ?_<;>intro _|(with_reducible refine isCall ?_);first|refine AE (Cj _ _ _) ?_)<;>try (simp -implicitDefEqProofs only[go_sem,BO,A6,BN]))|simp (disch:=omega) only[An]|((with_reducible refine A5 ?_);refine⟨_,rfl,?_,?_⟩)
 all_goals first|(rw[noHead (by cases hh:c.head;rfl;exfalso;simp only[AQ.head,Cq,Bool.and_eq_true,decide_eq_true_eq,decide_eq_false_iff_not] at *;omega)];done)|skip
 have hh:c.head=true:=by simp only[AQ.head,Cq,Bool.and_eq_true,decide_eq_true_eq,decide_eq_false_iff_not] at *;omega
 have ho:1<=c.out/\c.out<=5:=by simp_all[Cq]
 have hb:1<=c.bits/\c.bits<=2:=by simp_all[Cq]
 have hl:c.next.length=c.words.length:=by omega
 have h12:=OM hb
 have c1:=fun nl xs=>CX nl xs Gr [.ptr (L2 c)] (fun n=>!Cq n 0 (2^c.out.toNat-1)) (by kernel_rfl) rfl (fun x _=>Nr c x ho)
 have c2:=fun nl xs=>CX nl xs Gq [.ptr (L2 c)] (fun n=>!c.isState n) (by kernel_rfl) rfl (fun x _=>Nq c x)
 simp only[Q6] at c1 c2
 have bad:∀j,j<c.words.length->c.rowsOk j=false->Kx c.ok 40=40:=fun j hj h=>by rw[Kx,cg c hh j hj h];rfl
 refine AZ (α:=Int) (l0:=?l1) (m0:=?m1) (fun x=>[(63,.d (.int .i64 x))]) (fun x=>[]) (fun x=>0<=x/\x<=c.words.length/\∀(j:Nat),(j:Int)<x->c.rowsOk j=true) (fun x=>(c.words.length-x).toNat) ?a1_0 ?h01 ?he1 ?he21 ?hI1 ?step1
 case h01=>(simp -implicitDefEqProofs only[go_sem,BO,A6,BN];rfl)
 case he1=>rfl
 case he21=>rfl
 case' step1=>(rintro i hI;try dsimp only at hI)
 case' hI1=>try dsimp only
 ·simp;omega
 ·(try (simp -implicitDefEqProofs only[go_sem,BN,DJ]));repeat' first|(with_reducible first|exact tI|refine aI ?_ ?_|intro _)|((first|with_reducible refine AO ?_ ?_<;>intro _|(with_reducible refine isCall ?_);first|refine AE (Gb c (by omega)) ?_|refine AE (c1 _ _) ?_|refine AE (c2 _ _) ?_)<;>try (simp -implicitDefEqProofs only[go_sem,BN,DJ]))|simp (disch:=omega) only[An]|((with_reducible refine A5 ?_);refine⟨_,rfl,?_,?_⟩)
  all_goals first|omega|(simp;done)|(simp;omega)|skip
  all_goals try (refine congrArg (D.int .i64) (bad i.toNat (by omega) ?_).symm;rw[OE];generalize ((c.words[i.toNat]?.getD default).2.all fun n=>Cq n 0 (2^c.out.toNat-1))=A at *;generalize (c.next[i.toNat]?.getD default).2.all c.isState=B at *;cases A<;>cases B<;>simp_all;done)
  ·rename_i j hj
   by_cases hji:j=i.toNat
   ·subst hji;rw[OE];generalize ((c.words[i.toNat]?.getD default).2.all fun n=>Cq n 0 (2^c.out.toNat-1))=A at *;generalize (c.next[i.toNat]?.getD default).2.all c.isState=B at *;cases A<;>cases B<;>simp_all
   ·exact hI.2.2 j (by omega)
  ·have:c.ok=true:=(Ws c hh).2 fun j hj=>hI.2.2 j (by omega)
   rw[Kx,this];rfl
theorem Qn (c:AQ) (s:Int):CK E0 N6 [HV c,.int .i64 s] (.tup [HV c,.int .i64 (if !c.ok then 40 else if !c.isState s then 41 else 0)]):=by
 refine AM Qg A0 (by simp) fun hwf=>?_
 rw[AU];unfold Lw
 (try (simp -implicitDefEqProofs only[go_sem,BO,A6]));repeat' first|(with_reducible first|exact tI|refine aI ?_ ?_|intro _)|((first|with_reducible refine AO ?_ ?_<;>intro _|(with_reducible refine isCall ?_);first|refine AE (J0 c) ?_|refine AE (Gc c s) ?_)<;>try (simp -implicitDefEqProofs only[go_sem,BO,A6]))|simp (disch:=omega) only[An]
 all_goals (cases hok:c.ok<;>cases hst:c.isState s<;>simp_all[Kx,BO,A6])
end Go.Pw
end
section
open Go Go.Pw Go.Proofs
namespace Go.Pw
set_option maxRecDepth 100000
set_option maxHeartbeats 800000
attribute [local congr] Bi A9 A_ Aq Bj Ax Az Ay Ap Aj Ad AY Au Ae Av BH BL BJ BK BI BM BE Ah Aw Ai BC BS Ag BF BG BD BA BB A8 Bl A' Ar Af
attribute [local irreducible] IntKind.wrap A3 Option.getD and or
theorem I5 (c:AQ) (s:Int) (nl:Bool) (l:List Int):CK E0 LL [HV c,.int .i64 s,.list nl (Al l)] (.tup [.list (c.encode s l).1.isEmpty (Al (c.encode s l).1),.int .i64 (c.encode s l).2.1,.int .i64 (c.encode s l).2.2]):=by
 refine AM Oi A0 (by simp) fun hwf=>?_
 rw[AU];unfold Ju
 simp -implicitDefEqProofs only[go_sem,BO,A6]
 refine HX (Qn c s) rfl ?_
 simp -implicitDefEqProofs only[go_sem,BO,A6]
 by_cases hok:c.ok=true/\c.isState s=true
 ·obtain⟨h1,h2⟩:=hok
  have hd:=AQ.ok_head h1
  have c1:=fun nl xs=>CX nl xs GG [.ptr (L2 c)] (fun n=>!c.isWord n) (by kernel_rfl) rfl (fun x _=>Mf c x (by omega))
  simp only[Q6] at c1
  simp only[h1,h2,Bool.not_true,Bool.false_eq_true,if_false]
  (try (simp -implicitDefEqProofs only[go_sem]));repeat' first|(with_reducible first|exact tI|refine aI ?_ ?_|intro _)|((first|with_reducible refine AO ?_ ?_<;>intro _|(with_reducible refine isCall ?_);first|refine AE (c1 _ _) ?_)<;>try (simp -implicitDefEqProofs only[go_sem]))|simp (disch:=omega) only[An]|((with_reducible refine Cb ?_);refine⟨(_,_,_,_),rfl,?_,?_⟩)
  ·have:c.isData l=false:=by simp[AQ.isData];omega
   simp[AQ.encode,h1,h2,this]
  ·have:c.isData l=false:=by simp only[AQ.isData];simp_all
   simp[AQ.encode,h1,h2,this]
  ·have hdt:c.isData l=true:=by simp only[AQ.isData];simp_all;omega
   have hen:c.encode s l=((c.stream s l).1,(c.stream s l).2,0):=by simp[AQ.encode,h1,h2,hdt]
   have hlw:∀w,w∈l->c.isWord w=true:=by simp only[AQ.isData,Bool.and_eq_true,List.all_eq_true] at hdt;exact hdt.2
   have hl24:l.length<=24:=by simp[AQ.isData] at hdt;exact hdt.1
   rw[hen]
   refine AZ (α:=Int×Int×Bool×(List Int)) (l0:=?l1) (m0:=?m1) (fun x=>[(31,.d (.int .i64 x.1)),(1,.d (.int .i64 x.2.1))]) (fun x=>[(40,.row SZ 1 x.2.2.1 (Al x.2.2.2))]) (fun x=>0<=x.1/\x.1<=l.length/\c.isState x.2.1=true/\x.2.2.1=x.2.2.2.isEmpty/\x.2.2.2.length=c.out.toNat * x.1.toNat/\c.stream s l=(x.2.2.2++(c.stream x.2.1 (l.drop x.1.toNat)).1,(c.stream x.2.1 (l.drop x.1.toNat)).2)) (fun x=>(l.length-x.1).toNat) (?a1_0,?a1_1,?a1_2,[]) ?h01 ?he1 ?he21 ?hI1 ?step1
   case h01=>(simp -implicitDefEqProofs only[go_sem,BO,A6];rfl)
   case he1=>rfl
   case he21=>rfl
   case' step1=>(rintro⟨i,t,nl',acc⟩ hI;try dsimp only at hI)
   case' hI1=>try dsimp only
   ·simp[h2]
   ·have hcb:∀w,w∈l->CK E0 Fy [HV c,.int .i64 t,.int .i64 w] (.list false (Al (Cr c.out.toNat (c.wrd t w)))):=fun w hw=>Lo c t w h1 hI.2.2.1 (hlw w hw)
    by_cases hi:i<l.length
    ·have hm:l[i.toNat]?.getD 0∈l:=DS (by omega)
     have hcb:=hcb _ hm
     have hst:=hI.2.2.1
     simp only[AQ.isState,Cq,decide_eq_true_eq] at hst
     have hn:=AQ.ok_next h1 t.toNat (by omega)
     have h12:=OM (b:=c.bits) (by omega)
     have hwd:=hlw _ hm
     simp only[AQ.isWord,Cq,decide_eq_true_eq] at hwd
     have hbl:=IQ c.out.toNat (c.wrd t (l[i.toNat]?.getD 0))
     have hbig:c.out.toNat * i.toNat<=5*24:=Nat.mul_le_mul (by omega) (by omega)
     (try (simp -implicitDefEqProofs only[go_sem,BN,DJ]));repeat' first|(with_reducible first|exact tI|refine aI ?_ ?_|intro _)|((first|with_reducible refine AO ?_ ?_<;>intro _|(with_reducible refine isCall ?_);first|refine AE hcb ?_)<;>try (simp -implicitDefEqProofs only[go_sem,BN,DJ]))|simp (disch:=omega) only[An]|((with_reducible refine Cb ?_);refine⟨(_,_,_,_),rfl,?_,?_⟩)
     all_goals first|omega|(simp;done)|(simp;omega)|skip
     ·exact AQ.nxt_state h1 hI.2.2.1 (hlw _ hm)
     ·rw[hI.2.2.2.1];cases acc<;>simp
     ·rw[List.length_append,hI.2.2.2.2.1,hbl,show (i+1).toNat=i.toNat+1 by omega,Nat.mul_succ]
     ·have hdrop:l.drop i.toNat=(l[i.toNat]?.getD 0)::l.drop (i+1).toNat:=by
       rw[show (i+1).toNat=i.toNat+1 by omega,List.drop_eq_getElem_cons (by omega),List.getElem?_eq_getElem (by omega),Option.getD_some]
      rw[hI.2.2.2.2.2,hdrop,AQ.stream]
      simp[c.nxt_eq,List.append_assoc]
    ·(try (simp -implicitDefEqProofs only[go_sem]));repeat' first|(with_reducible first|exact tI|refine aI ?_ ?_|intro _)|((first|with_reducible refine AO ?_ ?_<;>intro _)<;>try (simp -implicitDefEqProofs only[go_sem]))|simp (disch:=omega) only[An]|((with_reducible refine Cb ?_);refine⟨(_,_,_,_),rfl,?_,?_⟩)
     all_goals first|omega|(simp;done)|(simp;omega)|skip
     have h0:l.drop i.toNat=[]:=List.drop_eq_nil_of_le (by omega)
     rw[hI.2.2.2.2.2,h0,AQ.stream,hI.2.2.2.1]
     simp
 ·have hk:c.encode s l=([],0,if !c.ok then 40 else 41):=by
   simp only[AQ.encode];cases hok1:c.ok<;>cases hst:c.isState s<;>simp_all
  rw[hk]
  (try (simp -implicitDefEqProofs only[go_sem]));repeat' first|(with_reducible first|exact tI|refine aI ?_ ?_|intro _)|((first|with_reducible refine AO ?_ ?_<;>intro _)<;>try (simp -implicitDefEqProofs only[go_sem]))|simp (disch:=omega) only[An]|((with_reducible refine Cb ?_);refine⟨(_,_,_,_),rfl,?_,?_⟩)
  all_goals (cases hok1:c.ok<;>cases hst:c.isState s<;>simp_all)
theorem Me (n1 n2:Bool) (xs ys:List Int) (hx:Ab xs=true) (hy:Ab ys=true) (hl:xs.length<=ys.length) (h128:xs.length<=1000000) :
  CK E0 JB [.list n1 (Al xs),.list n2 (Al ys)] (.int .i64 (Bv xs ys)):=by
 refine AM MU A0 (by simp) fun hwf=>?_
 rw[AU];unfold Hy
 simp -implicitDefEqProofs only[go_sem]
 refine AZ (α:=Int×Int) (l0:=?l2) (m0:=?m2) (fun x=>[(9,.d (.int .i64 x.1)),(4,.d (.int .i64 x.2))]) (fun x=>[]) (fun x=>0<=x.1/\x.1<=xs.length/\0<=x.2/\x.2<=x.1/\x.2+Bv (xs.drop x.1.toNat) (ys.drop x.1.toNat)=Bv xs ys) (fun x=>(xs.length-x.1).toNat) (?a2_0,?a2_1) ?h02 ?he2 ?he22 ?hI2 ?step2
 case h02=>(simp -implicitDefEqProofs only[go_sem];rfl)
 case he2=>rfl
 case he22=>rfl
 case' step2=>(rintro⟨i,n⟩ hI;try dsimp only at hI)
 case' hI2=>try dsimp only
 ·simp
 ·by_cases hi:i<xs.length
  ·obtain⟨e,he⟩:∃e:Int,(if xs[i.toNat]?.getD 0=ys[i.toNat]?.getD 0 then 0 else 1)=e:=⟨_,rfl⟩
   have hxor:=Pg (Df hx (i:=i.toNat) (by omega)) (Df hy (i:=i.toNat) (by omega))
   have hd:Bv (xs.drop i.toNat) (ys.drop i.toNat)=e+Bv (xs.drop (i+1).toNat) (ys.drop (i+1).toNat):=by
    rw[HL (xs:=xs) (i:=i.toNat) (by omega),HL (xs:=ys) (i:=i.toNat) (by omega),Bv,he,show (i+1).toNat=i.toNat+1 by omega]
   rw[he] at hxor
   have he1:e=0\/e=1:=by rw[←he];split<;>simp
   (try (simp -implicitDefEqProofs only[go_sem]));repeat' first|(with_reducible first|exact tI|refine aI ?_ ?_|intro _)|((first|with_reducible refine AO ?_ ?_<;>intro _)<;>try (simp -implicitDefEqProofs only[go_sem]))|simp (disch:=omega) only[An]|((with_reducible refine Ao ?_);refine⟨(_,_),rfl,?_,?_⟩)
   all_goals (try simp only[hxor])
   all_goals (try rw[Ak _ (by omega)])
   all_goals omega
  ·(try (simp -implicitDefEqProofs only[go_sem]));repeat' first|(with_reducible first|exact tI|refine aI ?_ ?_|intro _)|((first|with_reducible refine AO ?_ ?_<;>intro _)<;>try (simp -implicitDefEqProofs only[go_sem]))|simp (disch:=omega) only[An]|((with_reducible refine Ao ?_);refine⟨(_,_),rfl,?_,?_⟩)
   all_goals first|omega|(simp;done)|(simp;omega)|skip
   have h0:xs.drop i.toNat=[]:=List.drop_eq_nil_of_le (by omega)
   have h1:Bv [] (ys.drop i.toNat)=0:=by simp[Bv]
   rw[h0,h1] at hI
   rw[←hI.2.2.2.2];simp
def Kw (mark bits:List Int) (e:Int):Nat->Int->List Int
 |0,_=>[]
 |n+1,i=>if Bv mark (bits.drop i.toNat)<=e then i::Kw mark bits e n (i+1) else Kw mark bits e n (i+1)
def Cl (mark:List Int):Bool:=Cq mark.length 1 16 && Ab mark
def Ku (mark bits:List Int) (e:Int):List Int×Int :=
 if !(Cl mark && decide (bits.length<=128) && Ab bits && Cq e 0 16) then ([],1)
 else (Kw mark bits e (bits.length+1-mark.length) 0,0)
theorem Dg {xs:List Int}(h:Ab xs=true) (n:Nat):Ab (xs.drop n)=true:=by
 simp only[Ab,List.all_eq_true] at *
 exact fun x hx=>h x (List.mem_of_mem_drop hx)
theorem Qo (n1 n2:Bool) (mark bits:List Int) (e:Int):CK E0 N7 [.list n1 (Al mark),.list n2 (Al bits),.int .i64 e]
  (.tup [.list (Ku mark bits e).1.isEmpty (Al (Ku mark bits e).1),.int .i64 (Ku mark bits e).2]):=by
 refine AM Qh A0 (by simp) fun hwf=>?_
 simp only[EM,DU,DT,DI,Ed,Ec,GL,Eb,Bq,B3,B4,DY,CI,List.length_map,CB,true_and,and_true] at hwf
 have bad:(Cl mark && decide (bits.length<=128) && Ab bits && Cq e 0 16)=false->Ku mark bits e=([],1):=fun h=>by simp only[Ku,h];rfl
 have bad2:¬bits.length<=128->Ku mark bits e=([],1):=fun h=>bad (by
      have:decide (bits.length<=128)=false:=by simpa using h
      simp[this])
 rw[AU];unfold Lx
 (try (simp -implicitDefEqProofs only[go_sem]));repeat' first|(with_reducible first|exact tI|refine aI ?_ ?_|intro _)|((first|with_reducible refine AO ?_ ?_<;>intro _|(with_reducible refine isCall ?_);first|refine AE (Om _ _) ?_|refine AE (IP _ _) ?_|refine AE (Cj _ _ _) ?_)<;>try (simp -implicitDefEqProofs only[go_sem]))|simp (disch:=omega) only[An]|((with_reducible refine BU ?_);refine⟨(_,_,_),rfl,?_,?_⟩)
 all_goals first|(
     have hx:¬bits.length<=128:=by omega
     rw[bad2 hx];rfl)|skip
 all_goals first|(
     have hx:(Cl mark && decide (bits.length<=128) && Ab bits && Cq e 0 16)=false:=by(simp_all[Cl];done)
     rw[bad hx];rfl)|skip
 have hm:Cl mark=true:=by assumption
 have hb:Ab bits=true:=by assumption
 have h128:bits.length<=128:=by omega
 have hgood:Ku mark bits e=(Kw mark bits e (bits.length+1-mark.length) 0,0):=by simp only[Ku];simp_all
 have hmb:Ab mark=true:=by simp only[Cl,Bool.and_eq_true] at hm;exact hm.2
 have hm1:1<=mark.length/\mark.length<=16:=by simp[Cl,Cq] at hm;omega
 rw[hgood]
 refine AZ (α:=Int×Bool×(List Int)) (l0:=?l3) (m0:=?m3) (fun x=>[(35,.d (.int .i64 x.1))]) (fun x=>[(48,.row SZ 1 x.2.1 (Al x.2.2))]) (fun x=>0<=x.1/\x.1<=max 0 (bits.length-mark.length+1:Int)/\x.2.2.length<=x.1/\x.2.1=x.2.2.isEmpty/\x.2.2++Kw mark bits e (bits.length+1-mark.length-x.1.toNat) x.1=Kw mark bits e (bits.length+1-mark.length) 0) (fun x=>(max 0 (bits.length-mark.length+1:Int)-x.1).toNat) (?a3_0,?a3_1,[]) ?h03 ?he3 ?he23 ?hI3 ?step3
 case h03=>(simp -implicitDefEqProofs only[go_sem];rfl)
 case he3=>rfl
 case he23=>rfl
 case' step3=>(rintro⟨i,nl,acc⟩ hI;try dsimp only at hI)
 case' hI3=>try dsimp only
 ·simp;omega
 ·by_cases hi:i<max 0 (bits.length-mark.length+1:Int)
  ·have hstep:Kw mark bits e (bits.length+1-mark.length-i.toNat) i=if Bv mark (bits.drop i.toNat)<=e then i::Kw mark bits e (bits.length+1-mark.length-(i+1).toNat) (i+1) else Kw mark bits e (bits.length+1-mark.length-(i+1).toNat) (i+1):=by
    rw[show bits.length+1-mark.length-i.toNat=(bits.length+1-mark.length-(i+1).toNat)+1 by omega,Kw]
   have cd:=fun n1 n2=>Me n1 n2 mark (bits.drop i.toNat) hmb (Dg hb _) (by simp;omega) (by omega)
   (try (simp -implicitDefEqProofs only[go_sem]));repeat' first|(with_reducible first|exact tI|refine aI ?_ ?_|intro _)|((first|with_reducible refine AO ?_ ?_<;>intro _|(with_reducible refine isCall ?_);first|refine AE (cd _ _) ?_)<;>try (simp -implicitDefEqProofs only[go_sem]))|simp (disch:=omega) only[An]|((with_reducible refine BU ?_);refine⟨(_,_,_),rfl,?_,?_⟩)
   all_goals first|omega|(simp;done)|(simp;omega)|skip
   ·rw[←hI.2.2.2.2,hstep,if_pos (by assumption)];simp
   ·exact hI.2.2.2.1
   ·rw[←hI.2.2.2.2,hstep,if_neg (by assumption)]
  ·(try (simp -implicitDefEqProofs only[go_sem]));repeat' first|(with_reducible first|exact tI|refine aI ?_ ?_|intro _)|((first|with_reducible refine AO ?_ ?_<;>intro _)<;>try (simp -implicitDefEqProofs only[go_sem]))|simp (disch:=omega) only[An]|((with_reducible refine BU ?_);refine⟨(_,_,_),rfl,?_,?_⟩)
   all_goals first|omega|(simp;done)|(simp;omega)|skip
   have h0:bits.length+1-mark.length-i.toNat=0:=by omega
   have h1:=hI.2.2.2.2
   rw[h0,Kw,List.append_nil] at h1
   rw[←h1,hI.2.2.2.1]
end Go.Pw
end
