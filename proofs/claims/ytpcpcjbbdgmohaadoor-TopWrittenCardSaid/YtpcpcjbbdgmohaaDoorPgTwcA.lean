/- A part of the proof. -/
import Derived.Test.YtpcpcjbbdgmohaaDoorTwPC
import Derived.Test.YtpcpcjbbdgmohaaDoorPwVC
import Derived.Test.YtpcpcjbbdgmohaaDoorCodesSpec
set_option linter.all false
section
open Go Go.Pw Go.Proofs
namespace Go.Pw
set_option maxRecDepth 100000
set_option maxHeartbeats 400000
attribute [local congr] Bx A9 A_ Au Bz A0 A2 A1 Ar An Ai Ab Av Aj Ax BG BK BI BJ BH BL BD Ay Aw Al Az Am BB BT Ak BE BF BC A' BA B1
attribute [local irreducible] IntKind.wrap BM Option.getD and or
theorem EZ (n lo hi:Int):DE E0 Jr [.int .i64 n,.int .i64 lo,.int .i64 hi] (.bool (Dp n lo hi)):=by
 refine AP MW A5 (by simp) fun hwf=>?_
 rw[AU];unfold Im Dp
 (try (simp -implicitDefEqProofs only[go_sem]));repeat' first|(with_reducible first|exact tI|refine aI ?_ ?_|intro _)|((first|with_reducible refine AN ?_ ?_<;>intro _)<;>try (simp -implicitDefEqProofs only[go_sem]))|simp (disch:=omega) only[Ap]
 all_goals first|omega|(simp_all[Dp];done)|(simp_all[Dp];omega)|grind
theorem C5 (n lo hi:Int):DE E0 Jo [.int .i64 n,.int .i64 lo,.int .i64 hi] (.bool (Dp n lo hi)):=by
 refine AP MT A5 (by simp) fun hwf=>?_
 rw[AU];unfold Ig Dp
 (try (simp -implicitDefEqProofs only[go_sem]));repeat' first|(with_reducible first|exact tI|refine aI ?_ ?_|intro _)|((first|with_reducible refine AN ?_ ?_<;>intro _)<;>try (simp -implicitDefEqProofs only[go_sem]))|simp (disch:=omega) only[Ap]
 all_goals first|omega|(simp_all[Dp];done)|(simp_all[Dp];omega)|grind
theorem CD (c:GCode) (h:0<=c.bits/\c.bits<=2):DE E0 Gt [E7 c] (.int .i64 (2^c.bits.toNat)):=by
 refine AP Jg A5 (by simp) fun hwf=>?_
 rw[AU];unfold GF
 simp -implicitDefEqProofs only[go_sem,AH,AF]
 exact⟨h.1,by simp (disch:=omega) only[Ap]⟩
theorem Fy (c:GCode) (n:Int):DE E0 Gu [E7 c,.int .i64 n] (.bool (c.isState n)):=by
 refine AP Jh A5 (by simp) fun hwf=>?_
 simp only[Dt,DM,DL,DC,EK,EJ,Fk,EI,Be,Br,Bs,DD,CC,List.length_map,CK,true_and,and_true,AH,AF,AR] at hwf
 rw[AU];unfold GG
 simp -implicitDefEqProofs only[go_sem,AH,AF,AR]
 simp (disch:=omega) only[Ap]
 refine Ew (EZ _ _ _) rfl ?_
 simp -implicitDefEqProofs only[go_sem,GCode.isState]
theorem KJ (nl:Bool) (xs:List Int) (f:FuncId) (cs:List D) (p:Int->Bool) (hb:Bq E0.P f=true) (hcs:A3 AV.toD1 (cs.map .d)=some cs) (h:∀x,x∈xs->DE E0 f (.int .i64 x::cs) (.bool (p x))) :
  DE E0 DA [.list nl (A4 xs),.fn f cs] (.int .i64 (match xs.findIdx? p with|some i=>i|none=>-1)):=by
 refine AP D2 A5 (by simp) fun hwf=>?_
 simp only[Dt,DM,DL,DC,EK,EJ,Fk,EI,Be,Br,Bs,DD,CC,List.length_map,CK,true_and,and_true] at hwf
 rw[AU];unfold Cw
 simp -implicitDefEqProofs only[go_sem]
 refine AX (α:=Int) (l0:=?l1) (m0:=?m1) (fun x=>[(8,.d (.int .i64 x))]) (fun x=>[]) (fun x=>0<=x/\x<=xs.length/\∀(j:Nat) (hj:j<xs.length),(j:Int)<x->p xs[j]=false) (fun x=>(xs.length-x).toNat) ?a1_0 ?h01 ?he1 ?he21 ?hI1 ?step1
 case h01=>(simp -implicitDefEqProofs only[go_sem];rfl)
 case he1=>rfl
 case he21=>rfl
 case' step1=>(rintro i hI;try dsimp only at hI)
 case' hI1=>try dsimp only
 ·simp
  omega
 ·(try (simp -implicitDefEqProofs only[go_sem]));repeat' first|(with_reducible first|exact tI|refine aI ?_ ?_|intro _)|((first|with_reducible refine AN ?_ ?_<;>intro _)<;>try (simp -implicitDefEqProofs only[go_sem]))|simp (disch:=omega) only[Ap]|((with_reducible refine Ae ?_);refine⟨_,rfl,?_,?_⟩)
  all_goals first|omega|(simp<;>omega)|skip
  ·have hx:xs[i.toNat]?.getD 0=xs[i.toNat]'(by omega):=by rw[List.getElem?_eq_getElem (by omega),Option.getD_some]
   rw[hx]
   refine Mc (h _ (List.getElem_mem _)) (Mz rfl hcs) (fun hp=>?_) (fun hp=>?_)
   ·simp -implicitDefEqProofs only[go_sem]
    have:xs.findIdx? p=some i.toNat:=by rw[List.findIdx?_eq_some_iff_getElem];exact⟨by omega,hp,fun j hj=>by simp[hI.2.2 j (by omega) (by omega)]⟩
    rw[this];simp;omega
   ·(try (simp -implicitDefEqProofs only[go_sem]));repeat' first|(with_reducible first|exact tI|refine aI ?_ ?_|intro _)|((first|with_reducible refine AN ?_ ?_<;>intro _)<;>try (simp -implicitDefEqProofs only[go_sem]))|simp (disch:=omega) only[Ap]|((with_reducible refine Ae ?_);refine⟨_,rfl,?_,?_⟩)
    all_goals first|omega|(simp<;>omega)|skip
    rename_i j hj hlt
    by_cases hjk:j=i.toNat
    ·subst hjk;exact hp
    ·exact hI.2.2 j hj (by omega)
  ·have:xs.findIdx? p=none:=by
    rw[List.findIdx?_eq_none_iff];intro x hx;obtain⟨j,hj,rfl⟩:=List.getElem_of_mem hx;exact hI.2.2 j hj (by omega)
   rw[this]
theorem Cz (nl:Bool) (xs:List Int) (f:FuncId) (cs:List D) (p:Int->Bool) (hb:Bq E0.P f=true) (hcs:A3 AV.toD1 (cs.map .d)=some cs) (h:∀x,x∈xs->DE E0 f (.int .i64 x::cs) (.bool (p x))) :
  DE E0 B2 [.list nl (A4 xs),.fn f cs] (.bool (xs.any p)):=by
 refine AP Da A5 (by simp) fun hwf=>?_
 rw[AU];unfold CU
 simp -implicitDefEqProofs only[go_sem]
 refine Ew (KJ nl xs f cs p hb hcs h) rfl ?_
 simp -implicitDefEqProofs only[go_sem]
 have key:(0:Int)<=(match xs.findIdx? p with|some i=>(i:Int)|none=>-1)↔xs.any p=true:=by
  cases hf:xs.findIdx? p with
  |none=>rw[List.findIdx?_eq_none_iff] at hf;simp;intro x hx;simp[hf x hx]
  |some i=>rw[List.findIdx?_eq_some_iff_getElem] at hf;simp;exact⟨_,List.getElem_mem hf.1,hf.2.1⟩
 grind
theorem NG (n:Int):DE E0 HS [.int .i64 n] (.bool (!Dp n 0 1)):=by
 refine AP ND A5 (by simp) fun hwf=>?_
 rw[AU];unfold JR Dp
 (try (simp -implicitDefEqProofs only[go_sem]));repeat' first|(with_reducible first|exact tI|refine aI ?_ ?_|intro _)|((first|with_reducible refine AN ?_ ?_<;>intro _)<;>try (simp -implicitDefEqProofs only[go_sem]))|simp (disch:=omega) only[Ap]
 all_goals first|omega|(simp_all[Dp];done)|(simp_all[Dp];omega)|grind
theorem Oi {α:Type}(xs:List α) (p:α->Bool):xs.any (fun x=>!p x)=!xs.all p:=by
 induction xs with
 |nil=>rfl
 |cons x xs ih=>simp only[List.any_cons,List.all_cons,ih,Bool.not_and]
theorem HQ (nl:Bool) (xs:List Int):DE E0 M4 [.list nl (A4 xs)] (.bool (BR xs)):=by
 refine AP PE A5 (by simp) fun hwf=>?_
 rw[AU];unfold LQ
 simp -implicitDefEqProofs only[go_sem]
 refine Ew (Cz nl xs HS [] (fun n=>!Dp n 0 1) (by kernel_rfl) rfl fun x _=>NG x) rfl ?_
 simp -implicitDefEqProofs only[go_sem,Oi,Bool.not_not,BR]
theorem L4 (c:GCode) (n:Int) (h:1<=c.out/\c.out<=5):DE E0 GA [.int .i64 n,.ptr (KU c)] (.bool (!Dp n 0 (2^c.out.toNat-1))):=by
 refine AP Lu A5 (by simp) fun hwf=>?_
 rw[AU];unfold Hh
 simp -implicitDefEqProofs only[go_sem,AF]
 have h1:=Nx (k:=c.out.toNat) (by omega)
 have h2:=Nw c.out.toNat
 refine⟨by omega,?_⟩
 simp (disch:=omega) only[Ap]
 refine Ew (EZ _ _ _) rfl ?_
 simp -implicitDefEqProofs only[go_sem]
theorem L3 (c:GCode) (n:Int):DE E0 F_ [.int .i64 n,.ptr (KU c)] (.bool (!c.isState n)):=by
 refine AP Lt A5 (by simp) fun hwf=>?_
 rw[AU];unfold Hg
 simp -implicitDefEqProofs only[go_sem,AF]
 refine Ew (Fy c n) rfl ?_
 simp -implicitDefEqProofs only[go_sem]
theorem K7 (c:GCode) (n:Int) (h:1<=c.bits/\c.bits<=2):DE E0 Fg [.int .i64 n,.ptr (KU c)] (.bool (!c.isWord n)):=by
 refine AP Kz A5 (by simp) fun hwf=>?_
 rw[AU];unfold G7
 simp -implicitDefEqProofs only[go_sem,AF]
 refine Ew (CD c (by omega)) rfl ?_
 simp -implicitDefEqProofs only[go_sem]
 have:=IC h
 simp (disch:=omega) only[Ap]
 refine Ew (EZ _ _ _) rfl ?_
 simp -implicitDefEqProofs only[go_sem,GCode.isWord]
theorem GI (c:GCode) (s w:Int) (h:c.ok=true) (hs:c.isState s=true) (hw:c.isWord w=true) :
  DE E0 FS [E7 c,.int .i64 s,.int .i64 w] (.list false (A4 (CW c.out.toNat (c.wrd s w)))):=by
 refine AP KH A5 (by simp) fun hwf=>?_
 have hd:=GCode.ok_head h
 simp only[GCode.isState,GCode.isWord,Dp,decide_eq_true_eq] at hs hw
 have hrow:=GCode.ok_words h s.toNat (by omega)
 have h12:=IC (b:=c.bits) (by omega)
 rw[AU];unfold Ga
 simp -implicitDefEqProofs only[go_sem,AH,AF,AR]
 simp (disch:=omega) only[Ap]
 refine AX (α:=Int×Bool×(List Int)) (l0:=?l2) (m0:=?m2) (fun x=>[(8,.d (.int .i64 x.1))]) (fun x=>[(31,.row cm 1 x.2.1 (A4 x.2.2))]) (fun x=>-1<=x.1/\x.1<c.out/\x.2.2.length+x.1=c.out-1/\x.2.1=x.2.2.isEmpty/\x.2.2++CW (x.1+1).toNat (c.wrd s w)=CW c.out.toNat (c.wrd s w)) (fun x=>(x.1+1).toNat) (?a2_0,?a2_1,[]) ?h02 ?he2 ?he22 ?hI2 ?step2
 case h02=>(simp -implicitDefEqProofs only[go_sem,AH,AF,AR];rfl)
 case he2=>rfl
 case he22=>rfl
 case' step2=>(rintro⟨i,nl,acc⟩ hI;try dsimp only at hI)
 case' hI2=>try dsimp only
 ·simp;(try omega)
 ·(try (simp -implicitDefEqProofs only[go_sem,AR,CG]));repeat' first|(with_reducible first|exact tI|refine aI ?_ ?_|intro _)|((first|with_reducible refine AN ?_ ?_<;>intro _)<;>try (simp -implicitDefEqProofs only[go_sem,AR,CG]))|simp (disch:=omega) only[Ap]|((with_reducible refine Ad ?_);refine⟨(_,_,_),rfl,?_,?_⟩)
  all_goals first|omega|(simp<;>omega)|skip
  ·rw[←hI.2.2.2.2,show (i-1+1).toNat=i.toNat by omega,show (i+1).toNat=i.toNat+1 by omega,CW,c.wrd_eq]
   simp
  ·have h0:(i+1).toNat=0:=by omega
   have h1:acc=CW c.out.toNat (c.wrd s w):=by rw[←hI.2.2.2.2,h0,CW,List.append_nil]
   have h2:acc≠[]:=by rintro rfl;simp at hI;omega
   rw[←h1,hI.2.2.2.1];cases acc with
   |nil=>exact absurd rfl h2
   |cons _ _=>rfl
end Go.Pw
end
section
open Go Go.Pw Go.Proofs
namespace Go.Pw
set_option maxRecDepth 100000
set_option maxHeartbeats 800000
attribute [local congr] Bx A9 A_ Au Bz A0 A2 A1 Ar An Ai Ab Av Aj Ax BG BK BI BJ BH BL BD Ay Aw Al Az Am BB BT Ak BE BF BC A' BA B1
attribute [local irreducible] IntKind.wrap BM Option.getD and or
def GCode.rowsOk (c:GCode) (j:Nat):Bool:=Nu (2^c.bits.toNat) (2^c.out.toNat-1) (c.words[j]?.getD default) && Nu (2^c.bits.toNat) (c.words.length-1) (c.next[j]?.getD default)
theorem MG (c:GCode) (j:Nat):c.rowsOk j=(decide (((c.words[j]?.getD default).2.length:Int)=2^c.bits.toNat) && ((c.words[j]?.getD default).2.all fun n=>Dp n 0 (2^c.out.toNat-1)) &&
  (decide (((c.next[j]?.getD default).2.length:Int)=2^c.bits.toNat) && (c.next[j]?.getD default).2.all c.isState)):=by
 have h:∀(n k:Nat),decide (n=2^k)=decide ((n:Int)=2^k):=fun n k=>by
  have:((2^k:Nat):Int)=(2:Int)^k:=by simp
  rw[←this,decide_eq_decide];omega
 simp only[GCode.rowsOk,Nu,h];rfl
theorem TZ (c:GCode) (hh:c.head=true):c.ok=true↔∀(j:Nat),j<c.words.length->c.rowsOk j=true:=by
 have hl:c.next.length=c.words.length:=by simp[GCode.head] at hh;exact hh.2
 simp only[GCode.ok,GCode.rowsOk,hh,Bool.true_and,Bool.and_eq_true,List.all_eq_true]
 constructor
 ·intro h j h1
  exact⟨h.1 _ (Hj h1),h.2 _ (Hj (by omega))⟩
 ·intro h
  constructor
  ·intro x hx;obtain⟨j,hj,rfl⟩:=List.getElem_of_mem hx;have:=(h j hj).1;simpa[hj] using this
  ·intro x hx;obtain⟨j,hj,rfl⟩:=List.getElem_of_mem hx;have:=(h j (by omega)).2;simpa[hj] using this
theorem YE (c:GCode) (hh:c.head=true) (j:Nat) (hj:j<c.words.length) (hb:c.rowsOk j=false):c.ok=false:=by
 cases h:c.ok with
 |false=>rfl
 |true=>have:=(TZ c hh).1 h j hj;rw[this] at hb;cases hb
theorem F8 (c:GCode):DE E0 Ke [E7 c] (.int .i64 (IJ c.ok 40)):=by
 refine AP NF A5 (by simp) fun hwf=>?_
 simp only[Dt,DM,DL,DC,EK,EJ,Fk,EI,Be,Br,Bs,DD,CC,List.length_map,CK,true_and,and_true,AH,AF,AR] at hwf
 have noHead:c.head=false->IJ c.ok 40=40:=fun h=>by simp[IJ,GCode.ok,h]
 rw[AU];unfold JT
 (try (simp -implicitDefEqProofs only[go_sem,AH,AF,AR]));repeat' first|(with_reducible first|exact tI|refine aI ?_ ?_|intro _)|((first|with_reducible refine AN ?_ ?_<;>intro _|(with_reducible refine isCall ?_);first|refine AG (EZ _ _ _) ?_)<;>try (simp -implicitDefEqProofs only[go_sem,AH,AF,AR]))|simp (disch:=omega) only[Ap]|((with_reducible refine Ae ?_);refine⟨_,rfl,?_,?_⟩)
 all_goals first|(rw[noHead (by cases hh:c.head;rfl;exfalso;simp only[GCode.head,Dp,Bool.and_eq_true,decide_eq_true_eq,decide_eq_false_iff_not] at *;omega)];done)|skip
 have hh:c.head=true:=by simp only[GCode.head,Dp,Bool.and_eq_true,decide_eq_true_eq,decide_eq_false_iff_not] at *;omega
 have ho:1<=c.out/\c.out<=5:=by simp_all[Dp]
 have hb:1<=c.bits/\c.bits<=2:=by simp_all[Dp]
 have hl:c.next.length=c.words.length:=by omega
 have h12:=IC hb
 have c1:=fun nl xs=>Cz nl xs GA [.ptr (KU c)] (fun n=>!Dp n 0 (2^c.out.toNat-1)) (by kernel_rfl) rfl (fun x _=>L4 c x ho)
 have c2:=fun nl xs=>Cz nl xs F_ [.ptr (KU c)] (fun n=>!c.isState n) (by kernel_rfl) rfl (fun x _=>L3 c x)
 simp only[Oi] at c1 c2
 have bad:∀j,j<c.words.length->c.rowsOk j=false->IJ c.ok 40=40:=fun j hj h=>by rw[IJ,YE c hh j hj h];rfl
 refine AX (α:=Int) (l0:=?l1) (m0:=?m1) (fun x=>[(63,.d (.int .i64 x))]) (fun x=>[]) (fun x=>0<=x/\x<=c.words.length/\∀(j:Nat),(j:Int)<x->c.rowsOk j=true) (fun x=>(c.words.length-x).toNat) ?a1_0 ?h01 ?he1 ?he21 ?hI1 ?step1
 case h01=>(simp -implicitDefEqProofs only[go_sem,AH,AF,AR];rfl)
 case he1=>rfl
 case he21=>rfl
 case' step1=>(rintro i hI;try dsimp only at hI)
 case' hI1=>try dsimp only
 ·simp;omega
 ·(try (simp -implicitDefEqProofs only[go_sem,AR,CG]));repeat' first|(with_reducible first|exact tI|refine aI ?_ ?_|intro _)|((first|with_reducible refine AN ?_ ?_<;>intro _|(with_reducible refine isCall ?_);first|refine AG (CD c (by omega)) ?_|refine AG (c1 _ _) ?_|refine AG (c2 _ _) ?_)<;>try (simp -implicitDefEqProofs only[go_sem,AR,CG]))|simp (disch:=omega) only[Ap]|((with_reducible refine Ae ?_);refine⟨_,rfl,?_,?_⟩)
  all_goals first|omega|(simp<;>omega)|skip
  all_goals try (refine congrArg (D.int .i64) (bad i.toNat (by omega) ?_).symm;rw[MG];generalize ((c.words[i.toNat]?.getD default).2.all fun n=>Dp n 0 (2^c.out.toNat-1))=A at *;generalize (c.next[i.toNat]?.getD default).2.all c.isState=B at *;cases A<;>cases B<;>simp_all;done)
  ·rename_i j hj
   by_cases hji:j=i.toNat
   ·subst hji;rw[MG];generalize ((c.words[i.toNat]?.getD default).2.all fun n=>Dp n 0 (2^c.out.toNat-1))=A at *;generalize (c.next[i.toNat]?.getD default).2.all c.isState=B at *;cases A<;>cases B<;>simp_all
   ·exact hI.2.2 j (by omega)
  ·have:c.ok=true:=(TZ c hh).2 fun j hj=>hI.2.2 j (by omega)
   rw[IJ,this];rfl
theorem FM (c:GCode) (s:Int):DE E0 MA [E7 c,.int .i64 s] (.tup [E7 c,.int .i64 (if !c.ok then 40 else if !c.isState s then 41 else 0)]):=by
 refine AP OI A5 (by simp) fun hwf=>?_
 rw[AU];unfold KL
 (try (simp -implicitDefEqProofs only[go_sem,AH,AF]));repeat' first|(with_reducible first|exact tI|refine aI ?_ ?_|intro _)|((first|with_reducible refine AN ?_ ?_<;>intro _|(with_reducible refine isCall ?_);first|refine AG (F8 c) ?_|refine AG (Fy c s) ?_)<;>try (simp -implicitDefEqProofs only[go_sem,AH,AF]))|simp (disch:=omega) only[Ap]
 all_goals (cases hok:c.ok<;>cases hst:c.isState s<;>simp_all[IJ,AH,AF])
end Go.Pw
end
section
open Go Go.Pw Go.Proofs
namespace Go.Pw
set_option maxRecDepth 100000
set_option maxHeartbeats 800000
attribute [local congr] Bx A9 A_ Au Bz A0 A2 A1 Ar An Ai Ab Av Aj Ax BG BK BI BJ BH BL BD Ay Aw Al Az Am BB BT Ak BE BF BC A' BA B1
attribute [local irreducible] IntKind.wrap BM Option.getD and or
theorem Fe (c:GCode) (s:Int) (nl:Bool) (l:List Int):DE E0 Js [E7 c,.int .i64 s,.list nl (A4 l)] (.tup [.list (c.encode s l).1.isEmpty (A4 (c.encode s l).1),.int .i64 (c.encode s l).2.1,.int .i64 (c.encode s l).2.2]):=by
 refine AP MX A5 (by simp) fun hwf=>?_
 rw[AU];unfold Io
 simp -implicitDefEqProofs only[go_sem,AH,AF]
 refine Ew (FM c s) rfl ?_
 simp -implicitDefEqProofs only[go_sem,AH,AF]
 by_cases hok:c.ok=true/\c.isState s=true
 ·obtain⟨h1,h2⟩:=hok
  have hd:=GCode.ok_head h1
  have c1:=fun nl xs=>Cz nl xs Fg [.ptr (KU c)] (fun n=>!c.isWord n) (by kernel_rfl) rfl (fun x _=>K7 c x (by omega))
  simp only[Oi] at c1
  simp only[h1,h2,Bool.not_true,Bool.false_eq_true,if_false]
  (try (simp -implicitDefEqProofs only[go_sem]));repeat' first|(with_reducible first|exact tI|refine aI ?_ ?_|intro _)|((first|with_reducible refine AN ?_ ?_<;>intro _|(with_reducible refine isCall ?_);first|refine AG (c1 _ _) ?_)<;>try (simp -implicitDefEqProofs only[go_sem]))|simp (disch:=omega) only[Ap]|((with_reducible refine Dq ?_);refine⟨(_,_,_,_),rfl,?_,?_⟩)
  ·have:c.isData l=false:=by simp[GCode.isData];omega
   simp[GCode.encode,h1,h2,this]
  ·have:c.isData l=false:=by simp only[GCode.isData];simp_all
   simp[GCode.encode,h1,h2,this]
  ·have hdt:c.isData l=true:=by simp only[GCode.isData];simp_all;omega
   have hen:c.encode s l=((c.stream s l).1,(c.stream s l).2,0):=by simp[GCode.encode,h1,h2,hdt]
   have hlw:∀w,w∈l->c.isWord w=true:=by simp only[GCode.isData,Bool.and_eq_true,List.all_eq_true] at hdt;exact hdt.2
   have hl24:l.length<=24:=by simp[GCode.isData] at hdt;exact hdt.1
   rw[hen]
   refine AX (α:=Int×Int×Bool×(List Int)) (l0:=?l1) (m0:=?m1) (fun x=>[(31,.d (.int .i64 x.1)),(1,.d (.int .i64 x.2.1))]) (fun x=>[(40,.row cm 1 x.2.2.1 (A4 x.2.2.2))]) (fun x=>0<=x.1/\x.1<=l.length/\c.isState x.2.1=true/\x.2.2.1=x.2.2.2.isEmpty/\x.2.2.2.length=c.out.toNat * x.1.toNat/\c.stream s l=(x.2.2.2++(c.stream x.2.1 (l.drop x.1.toNat)).1,(c.stream x.2.1 (l.drop x.1.toNat)).2)) (fun x=>(l.length-x.1).toNat) (?a1_0,?a1_1,?a1_2,[]) ?h01 ?he1 ?he21 ?hI1 ?step1
   case h01=>(simp -implicitDefEqProofs only[go_sem,AH,AF];rfl)
   case he1=>rfl
   case he21=>rfl
   case' step1=>(rintro⟨i,t,nl',acc⟩ hI;try dsimp only at hI)
   case' hI1=>try dsimp only
   ·simp[h2]
   ·have hcb:∀w,w∈l->DE E0 FS [E7 c,.int .i64 t,.int .i64 w] (.list false (A4 (CW c.out.toNat (c.wrd t w)))):=fun w hw=>GI c t w h1 hI.2.2.1 (hlw w hw)
    by_cases hi:i<l.length
    ·have hm:l[i.toNat]?.getD 0∈l:=D7 (by omega)
     have hcb:=hcb _ hm
     have hst:=hI.2.2.1
     simp only[GCode.isState,Dp,decide_eq_true_eq] at hst
     have hn:=GCode.ok_next h1 t.toNat (by omega)
     have h12:=IC (b:=c.bits) (by omega)
     have hwd:=hlw _ hm
     simp only[GCode.isWord,Dp,decide_eq_true_eq] at hwd
     have hbl:=En c.out.toNat (c.wrd t (l[i.toNat]?.getD 0))
     have hbig:c.out.toNat * i.toNat<=5*24:=Nat.mul_le_mul (by omega) (by omega)
     (try (simp -implicitDefEqProofs only[go_sem,AR,CG]));repeat' first|(with_reducible first|exact tI|refine aI ?_ ?_|intro _)|((first|with_reducible refine AN ?_ ?_<;>intro _|(with_reducible refine isCall ?_);first|refine AG hcb ?_)<;>try (simp -implicitDefEqProofs only[go_sem,AR,CG]))|simp (disch:=omega) only[Ap]|((with_reducible refine Dq ?_);refine⟨(_,_,_,_),rfl,?_,?_⟩)
     all_goals first|omega|(simp<;>omega)|skip
     ·exact GCode.nxt_state h1 hI.2.2.1 (hlw _ hm)
     ·rw[hI.2.2.2.1];cases acc<;>simp
     ·rw[List.length_append,hI.2.2.2.2.1,hbl,show (i+1).toNat=i.toNat+1 by omega,Nat.mul_succ]
     ·have hdrop:l.drop i.toNat=(l[i.toNat]?.getD 0)::l.drop (i+1).toNat:=by
       rw[show (i+1).toNat=i.toNat+1 by omega,List.drop_eq_getElem_cons (by omega),List.getElem?_eq_getElem (by omega),Option.getD_some]
      rw[hI.2.2.2.2.2,hdrop,GCode.stream]
      simp[c.nxt_eq,List.append_assoc]
    ·(try (simp -implicitDefEqProofs only[go_sem]));repeat' first|(with_reducible first|exact tI|refine aI ?_ ?_|intro _)|((first|with_reducible refine AN ?_ ?_<;>intro _)<;>try (simp -implicitDefEqProofs only[go_sem]))|simp (disch:=omega) only[Ap]|((with_reducible refine Dq ?_);refine⟨(_,_,_,_),rfl,?_,?_⟩)
     all_goals first|omega|(simp<;>omega)|skip
     have h0:l.drop i.toNat=[]:=List.drop_eq_nil_of_le (by omega)
     rw[hI.2.2.2.2.2,h0,GCode.stream,hI.2.2.2.1]
     simp
 ·have hk:c.encode s l=([],0,if !c.ok then 40 else 41):=by
   simp only[GCode.encode];cases hok1:c.ok<;>cases hst:c.isState s<;>simp_all
  rw[hk]
  (try (simp -implicitDefEqProofs only[go_sem]));repeat' first|(with_reducible first|exact tI|refine aI ?_ ?_|intro _)|((first|with_reducible refine AN ?_ ?_<;>intro _)<;>try (simp -implicitDefEqProofs only[go_sem]))|simp (disch:=omega) only[Ap]|((with_reducible refine Dq ?_);refine⟨(_,_,_,_),rfl,?_,?_⟩)
  all_goals (cases hok1:c.ok<;>cases hst:c.isState s<;>simp_all)
def Y6 (mark bits:List Int) (e:Int):Nat->Int->List Int
 |0,_=>[]
 |n+1,i=>if bo mark (bits.drop i.toNat)<=e then i::Y6 mark bits e n (i+1) else Y6 mark bits e n (i+1)
def U0 (mark:List Int):Bool:=Dp mark.length 1 16 && BR mark
def gL (mark bits:List Int) (e:Int):List Int×Int :=
 if !(U0 mark && decide (bits.length<=128) && BR bits && Dp e 0 16) then ([],1)
 else (Y6 mark bits e (bits.length+1-mark.length) 0,0)
end Go.Pw
end
