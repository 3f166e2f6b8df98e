/- A part of the proof. -/
import Derived.Test.YtmdklgapccickaaGreatDoorMvPC
import Derived.Test.YtmdklgapccickaaGreatDoorPwVC
import Derived.Test.YtmdklgapccickaaGreatDoorCodesSpec
set_option linter.all false
open Go Go.Pw Go.Proofs
namespace Go.Pw
set_option maxRecDepth 100000
set_option maxHeartbeats 800000
section
attribute [local congr] Bm BC BD Ak Bn Aq Au Ar Aj Af AY AU Am AZ BR BS BP Ao An Ad Ap Ae BH BZ Ab BM BN BI BJ BL BK BF BG BB Bq BE Al Aa Ba Ag Av BQ
attribute [local irreducible] IntKind.wrap A0 Option.getD and or
theorem DS (n lo hi:Int):Cc E0 L6 [.int .i64 n,.int .i64 lo,.int .i64 hi] (.bool (DE n lo hi)):=by
 refine AN P1 Ay (by simp) fun hwf=>?_
 rw[AP];unfold KY DE
 refine' HO
 all_goals first|omega|(simp_all[DE];done)|(simp_all[DE];omega)|grind
theorem DQ (n lo hi:Int):Cc E0 Lz [.int .i64 n,.int .i64 lo,.int .i64 hi] (.bool (DE n lo hi)):=by
 refine AN Pr Ay (by simp) fun hwf=>?_
 rw[AP];unfold KO DE
 refine' HO
 all_goals first|omega|(simp_all[DE];done)|(simp_all[DE];omega)|grind
theorem EQ (c:GCode) (h:0<=c.bits/\c.bits<=2):Cc E0 H7 [Fo c] (.int .i64 (2^c.bits.toNat)):=by
 refine AN Ll Ay (by simp) fun hwf=>?_
 rw[AP];unfold HM
 simp -implicitDefEqProofs only[go_sem,AR,AQ]
 exact⟨h.1,by simp (disch:=omega) only[IE]⟩
theorem G4 (c:GCode) (n:Int):Cc E0 H8 [Fo c,.int .i64 n] (.bool (c.isState n)):=by
 refine AN Lm Ay (by simp) fun hwf=>?_
 simp only[FL,Ea,EZ,EM,Fd,Fc,HI,Fb,CI,CX,CY,Eb,C9,List.length_map,CR,true_and,and_true,AR,AQ,Ax] at hwf
 rw[AP];unfold HN
 simp -implicitDefEqProofs only[go_sem,AR,AQ,Ax]
 simp (disch:=omega) only[IE]
 refine HE (DS _ _ _) rfl ?_
 simp -implicitDefEqProofs only[go_sem,GCode.isState]
theorem Mf (nl:Bool) (xs:List Int) (f:FuncId) (cs:List D) (p:Int->Bool) (hb:Bk E0.P f=true) (hcs:BV AV.toD1 (cs.map .d)=some cs) (h:∀x,x∈xs->Cc E0 f (.int .i64 x::cs) (.bool (p x))) :
  Cc E0 D9 [.list nl (BU xs),.fn f cs] (.int .i64 (match xs.findIdx? p with|some i=>i|none=>-1)):=by
 refine AN E2 Ay (by simp) fun hwf=>?_
 simp only[FL,Ea,EZ,EM,Fd,Fc,HI,Fb,CI,CX,CY,Eb,C9,List.length_map,CR,true_and,and_true] at hwf
 rw[AP];unfold Dr
 simp -implicitDefEqProofs only[go_sem]
 refine Bh (α:=Int) (fun x=>[(8,.d (.int .i64 x))]) (fun x=>[]) (fun x=>0<=x/\x<=xs.length/\∀(j:Nat) (hj:j<xs.length),(j:Int)<x->p xs[j]=false) (fun x=>(xs.length-x).toNat) ?a1_0 ?hI1 ?step1
 case' step1=>(rintro i hI;try dsimp only at hI)
 case' hI1=>try dsimp only
 ·simp
  omega
 ·refine' HO
  all_goals try exact Ca
  ·have hx:xs[i.toNat]?.getD 0=xs[i.toNat]'(by omega):=by rw[List.getElem?_eq_getElem (by omega),Option.getD_some]
   rw[hx]
   refine Y_ (h _ (List.getElem_mem _)) (Lq rfl hcs) (fun hp=>?_) (fun hp=>?_)
   ·simp -implicitDefEqProofs only[go_sem]
    have:xs.findIdx? p=some i.toNat:=by rw[List.findIdx?_eq_some_iff_getElem];exact⟨by omega,hp,fun j hj=>by simp[hI.2.2 j (by omega) (by omega)]⟩
    rw[this];simp;omega
   ·refine' HO
    all_goals try exact Ca
    rename_i j hj hlt
    by_cases hjk:j=i.toNat
    ·subst hjk;exact hp
    ·exact hI.2.2 j hj (by omega)
  ·have:xs.findIdx? p=none:=by
    rw[List.findIdx?_eq_none_iff];intro x hx;obtain⟨j,hj,rfl⟩:=List.getElem_of_mem hx;exact hI.2.2 j hj (by omega)
   rw[this]
theorem Du (nl:Bool) (xs:List Int) (f:FuncId) (cs:List D) (p:Int->Bool) (hb:Bk E0.P f=true) (hcs:BV AV.toD1 (cs.map .d)=some cs) (h:∀x,x∈xs->Cc E0 f (.int .i64 x::cs) (.bool (p x))) :
  Cc E0 Cd [.list nl (BU xs),.fn f cs] (.bool (xs.any p)):=by
 refine AN EW Ay (by simp) fun hwf=>?_
 rw[AP];unfold DR
 simp -implicitDefEqProofs only[go_sem]
 refine HE (Mf nl xs f cs p hb hcs h) rfl ?_
 simp -implicitDefEqProofs only[go_sem]
 have key:(0:Int)<=(match xs.findIdx? p with|some i=>(i:Int)|none=>-1)↔xs.any p=true:=by
  cases hf:xs.findIdx? p with
  |none=>rw[List.findIdx?_eq_none_iff] at hf;simp;intro x hx;simp[hf x hx]
  |some i=>rw[List.findIdx?_eq_some_iff_getElem] at hf;simp;exact⟨_,List.getElem_mem hf.1,hf.2.1⟩
 grind
theorem RC (n:Int):Cc E0 I3 [.int .i64 n] (.bool (!DE n 0 1)):=by
 refine AN Q_ Ay (by simp) fun hwf=>?_
 rw[AP];unfold LR DE
 refine' HO
 all_goals first|omega|(simp_all[DE];done)|(simp_all[DE];omega)|grind
theorem Sj {α:Type}(xs:List α) (p:α->Bool):xs.any (fun x=>!p x)=!xs.all p:=by
 induction xs with
 |nil=>rfl
 |cons x xs ih=>simp only[List.any_cons,List.all_cons,ih,Bool.not_and]
theorem E' (nl:Bool) (xs:List Int):Cc E0 Qm [.list nl (BU xs)] (.bool (Bf xs)):=by
 refine AN TA Ay (by simp) fun hwf=>?_
 rw[AP];unfold N1
 simp -implicitDefEqProofs only[go_sem]
 refine HE (Du nl xs I3 [] (fun n=>!DE n 0 1) (by kernel_rfl) rfl fun x _=>RC x) rfl ?_
 simp -implicitDefEqProofs only[go_sem,Sj,Bool.not_not,Bf]
theorem P_ (nl:Bool) (xs:List Int):Cc E0 L7 [.list nl (BU xs)] (.bool (DE xs.length 1 16 && Bf xs)):=by
 refine AN P2 Ay (by simp) fun hwf=>?_
 rw[AP];unfold KZ
 refine' H9;repeat' first|(refine' CQ;(first|refine AG (DS _ _ _) ?_|refine AG (E' nl xs) ?_)<;>refine' H9)|refine' CP|done
 all_goals first|omega|(simp_all[DE];done)|(simp_all[DE];omega)|grind
theorem Oq (c:GCode) (n:Int) (h:1<=c.out/\c.out<=5):Cc E0 HG [.int .i64 n,.ptr (Mx c)] (.bool (!DE n 0 (2^c.out.toNat-1))):=by
 refine AN Ob Ay (by simp) fun hwf=>?_
 rw[AP];unfold JP
 simp -implicitDefEqProofs only[go_sem,AQ]
 have h1:=Ry (k:=c.out.toNat) (by omega)
 have h2:=Rx c.out.toNat
 refine⟨by omega,?_⟩
 simp (disch:=omega) only[IE]
 refine HE (DS _ _ _) rfl ?_
 simp -implicitDefEqProofs only[go_sem]
theorem Oo (c:GCode) (n:Int):Cc E0 HF [.int .i64 n,.ptr (Mx c)] (.bool (!c.isState n)):=by
 refine AN Oa Ay (by simp) fun hwf=>?_
 rw[AP];unfold JO
 simp -implicitDefEqProofs only[go_sem,AQ]
 refine HE (G4 c n) rfl ?_
 simp -implicitDefEqProofs only[go_sem]
theorem Nd (c:GCode) (n:Int) (h:1<=c.bits/\c.bits<=2):Cc E0 Gl [.int .i64 n,.ptr (Mx c)] (.bool (!c.isWord n)):=by
 refine AN NW Ay (by simp) fun hwf=>?_
 rw[AP];unfold IR
 simp -implicitDefEqProofs only[go_sem,AQ]
 refine HE (EQ c (by omega)) rfl ?_
 simp -implicitDefEqProofs only[go_sem]
 have:=Jt h
 simp (disch:=omega) only[IE]
 refine HE (DS _ _ _) rfl ?_
 simp -implicitDefEqProofs only[go_sem,GCode.isWord]
theorem Fh (c:GCode) (s w:Int) (h:c.ok=true) (hs:c.isState s=true) (hw:c.isWord w=true) :
  Cc E0 GV [Fo c,.int .i64 s,.int .i64 w] (.list false (BU (B8 c.out.toNat (c.wrd s w)))):=by
 refine AN Md Ay (by simp) fun hwf=>?_
 have hd:=GCode.ok_head h
 simp only[GCode.isState,GCode.isWord,DE,decide_eq_true_eq] at hs hw
 have hrow:=GCode.ok_words h s.toNat (by omega)
 have h12:=Jt (b:=c.bits) (by omega)
 rw[AP];unfold Hq
 simp -implicitDefEqProofs only[go_sem,AR,AQ,Ax]
 simp (disch:=omega) only[IE]
 refine B4 (α:=Int×Bool×(List Int)) (l0:=?l2) (m0:=?m2) (fun x=>[(8,.d (.int .i64 x.1))]) (fun x=>[(31,.row UJ 1 x.2.1 (BU x.2.2))]) (fun x=>-1<=x.1/\x.1<c.out/\x.2.2.length+x.1=c.out-1/\x.2.1=x.2.2.isEmpty/\x.2.2++B8 (x.1+1).toNat (c.wrd s w)=B8 c.out.toNat (c.wrd s w)) (fun x=>(x.1+1).toNat) (?a2_0,?a2_1,[]) ?h02 ?he2 ?he22 ?hI2 ?step2
 case h02=>(simp -implicitDefEqProofs only[go_sem,AR,AQ,Ax];rfl)
 case he2=>rfl
 case he22=>rfl
 case' step2=>(rintro⟨i,nl,acc⟩ hI;try dsimp only at hI)
 case' hI2=>try dsimp only
 ·simp;(try omega)
 ·refine' Pc @Ax @DF
  all_goals try exact Ca
  ·rw[←hI.2.2.2.2,show (i-1+1).toNat=i.toNat by omega,show (i+1).toNat=i.toNat+1 by omega,B8,c.wrd_eq]
   simp
  ·have h0:(i+1).toNat=0:=by omega
   have h1:acc=B8 c.out.toNat (c.wrd s w):=by rw[←hI.2.2.2.2,h0,B8,List.append_nil]
   have h2:acc≠[]:=by rintro rfl;simp at hI;omega
   rw[←h1,hI.2.2.2.1];cases acc with
   |nil=>exact absurd rfl h2
   |cons _ _=>rfl
end
section
attribute [local congr] Bm BC BD Ak Bn Aq Au Ar Aj Af AY AU Am AZ BR BS BP Ao An Ad Ap Ae BH BZ Ab BM BN BI BJ BL BK BF BG BB Bq BE Al Aa Ba Ag Av BQ
attribute [local irreducible] IntKind.wrap A0 Option.getD and or
def GCode.rowsOk (c:GCode) (j:Nat):Bool:=Rs (2^c.bits.toNat) (2^c.out.toNat-1) (c.words[j]?.getD default) && Rs (2^c.bits.toNat) (c.words.length-1) (c.next[j]?.getD default)
theorem PM (c:GCode) (j:Nat):c.rowsOk j=(decide (((c.words[j]?.getD default).2.length:Int)=2^c.bits.toNat) && ((c.words[j]?.getD default).2.all fun n=>DE n 0 (2^c.out.toNat-1)) &&
  (decide (((c.next[j]?.getD default).2.length:Int)=2^c.bits.toNat) && (c.next[j]?.getD default).2.all c.isState)):=by
 have h:∀(n k:Nat),decide (n=2^k)=decide ((n:Int)=2^k):=fun n k=>by
  have:((2^k:Nat):Int)=(2:Int)^k:=by simp
  rw[←this,decide_eq_decide];omega
 simp only[GCode.rowsOk,Rs,h];rfl
theorem ok_iff (c:GCode) (hh:c.head=true):c.ok=true↔∀(j:Nat),j<c.words.length->c.rowsOk j=true:=by
 have hl:c.next.length=c.words.length:=by simp[GCode.head] at hh;exact hh.2
 simp only[GCode.ok,GCode.rowsOk,hh,Bool.true_and,Bool.and_eq_true,List.all_eq_true]
 constructor
 ·intro h j h1
  exact⟨h.1 _ (La h1),h.2 _ (La (by omega))⟩
 ·intro h
  constructor
  ·intro x hx;obtain⟨j,hj,rfl⟩:=List.getElem_of_mem hx;have:=(h j hj).1;simpa[hj] using this
  ·intro x hx;obtain⟨j,hj,rfl⟩:=List.getElem_of_mem hx;have:=(h j (by omega)).2;simpa[hj] using this
theorem fS (c:GCode) (hh:c.head=true) (j:Nat) (hj:j<c.words.length) (hb:c.rowsOk j=false):c.ok=false:=by
 cases h:c.ok with
 |false=>rfl
 |true=>have:=(ok_iff c hh).1 h j hj;rw[this] at hb;cases hb
theorem HD (c:GCode):Cc E0 M9 [Fo c] (.int .i64 (Iu c.ok 40)):=by
 refine AN RA Ay (by simp) fun hwf=>?_
 simp only[FL,Ea,EZ,EM,Fd,Fc,HI,Fb,CI,CX,CY,Eb,C9,List.length_map,CR,true_and,and_true,AR,AQ,Ax] at hwf
 have noHead:c.head=false->Iu c.ok 40=40:=fun h=>by simp[Iu,GCode.ok,h]
 rw[AP];unfold LS
 refine' Gb @AR @AQ @Ax;repeat' first|(refine' CQ;(first|refine AG (DS _ _ _) ?_)<;>refine' Gb @AR @AQ @Ax)|refine' CP|done
 all_goals first|(rw[noHead (by cases hh:c.head;rfl;exfalso;simp only[GCode.head,DE,Bool.and_eq_true,decide_eq_true_eq,decide_eq_false_iff_not] at *;omega)];done)|skip
 have hh:c.head=true:=by simp only[GCode.head,DE,Bool.and_eq_true,decide_eq_true_eq,decide_eq_false_iff_not] at *;omega
 have ho:1<=c.out/\c.out<=5:=by simp_all[DE]
 have hb:1<=c.bits/\c.bits<=2:=by simp_all[DE]
 have hl:c.next.length=c.words.length:=by omega
 have h12:=Jt hb
 have c1:=fun nl xs=>Du nl xs HG [.ptr (Mx c)] (fun n=>!DE n 0 (2^c.out.toNat-1)) (by kernel_rfl) rfl (fun x _=>Oq c x ho)
 have c2:=fun nl xs=>Du nl xs HF [.ptr (Mx c)] (fun n=>!c.isState n) (by kernel_rfl) rfl (fun x _=>Oo c x)
 simp only[Sj] at c1 c2
 have bad:∀j,j<c.words.length->c.rowsOk j=false->Iu c.ok 40=40:=fun j hj h=>by rw[Iu,fS c hh j hj h];rfl
 refine B4 (α:=Int) (l0:=?l1) (m0:=?m1) (fun x=>[(63,.d (.int .i64 x))]) (fun x=>[]) (fun x=>0<=x/\x<=c.words.length/\∀(j:Nat),(j:Int)<x->c.rowsOk j=true) (fun x=>(c.words.length-x).toNat) ?a1_0 ?h01 ?he1 ?he21 ?hI1 ?step1
 case h01=>(simp -implicitDefEqProofs only[go_sem,AR,AQ,Ax];rfl)
 case he1=>rfl
 case he21=>rfl
 case' step1=>(rintro i hI;try dsimp only at hI)
 case' hI1=>try dsimp only
 ·simp;omega
 ·refine' HR @Ax @DF;repeat' first|(refine' CQ;(first|refine AG (EQ c (by omega)) ?_|refine AG (c1 _ _) ?_|refine AG (c2 _ _) ?_)<;>refine' HR @Ax @DF)|refine' CP|done
  all_goals try exact Ca
  all_goals try (refine congrArg (D.int .i64) (bad i.toNat (by omega) ?_).symm;rw[PM];generalize ((c.words[i.toNat]?.getD default).2.all fun n=>DE n 0 (2^c.out.toNat-1))=A at *;generalize (c.next[i.toNat]?.getD default).2.all c.isState=B at *;cases A<;>cases B<;>simp_all;done)
  ·rename_i j hj
   by_cases hji:j=i.toNat
   ·subst hji;rw[PM];generalize ((c.words[i.toNat]?.getD default).2.all fun n=>DE n 0 (2^c.out.toNat-1))=A at *;generalize (c.next[i.toNat]?.getD default).2.all c.isState=B at *;cases A<;>cases B<;>simp_all
   ·exact hI.2.2 j (by omega)
  ·have:c.ok=true:=(ok_iff c hh).2 fun j hj=>hI.2.2 j (by omega)
   rw[Iu,this];rfl
theorem GN (c:GCode) (s:Int):Cc E0 O' [Fo c,.int .i64 s] (.tup [Fo c,.int .i64 (if !c.ok then 40 else if !c.isState s then 41 else 0)]):=by
 refine AN SN Ay (by simp) fun hwf=>?_
 rw[AP];unfold Mq
 refine' HR @AR @AQ;repeat' first|(refine' CQ;(first|refine AG (HD c) ?_|refine AG (G4 c s) ?_)<;>refine' HR @AR @AQ)|refine' CP|done
 all_goals (cases hok:c.ok<;>cases hst:c.isState s<;>simp_all[Iu,AR,AQ])
end
section
attribute [local congr] Bm BC BD Ak Bn Aq Au Ar Aj Af AY AU Am AZ BR BS BP Ao An Ad Ap Ae BH BZ Ab BM BN BI BJ BL BK BF BG BB Bq BE Al Aa Ba Ag Av BQ
attribute [local irreducible] IntKind.wrap A0 Option.getD and or
theorem QA (c:GCode) (s:Int) (nl:Bool) (l:List Int):Cc E0 L8 [Fo c,.int .i64 s,.list nl (BU l)] (.tup [.list (c.encode s l).1.isEmpty (BU (c.encode s l).1),.int .i64 (c.encode s l).2.1,.int .i64 (c.encode s l).2.2]):=by
 refine AN P3 Ay (by simp) fun hwf=>?_
 rw[AP];unfold Ka
 simp -implicitDefEqProofs only[go_sem,AR,AQ]
 refine HE (GN c s) rfl ?_
 simp -implicitDefEqProofs only[go_sem,AR,AQ]
 by_cases hok:c.ok=true/\c.isState s=true
 ·obtain⟨h1,h2⟩:=hok
  have hd:=GCode.ok_head h1
  have c1:=fun nl xs=>Du nl xs Gl [.ptr (Mx c)] (fun n=>!c.isWord n) (by kernel_rfl) rfl (fun x _=>Nd c x (by omega))
  simp only[Sj] at c1
  simp only[h1,h2,Bool.not_true,Bool.false_eq_true,if_false]
  refine' H9;repeat' first|(refine' CQ;(first|refine AG (c1 _ _) ?_)<;>refine' H9)|refine' CP|done
  ·have:c.isData l=false:=by simp[GCode.isData];omega
   simp[GCode.encode,h1,h2,this]
  ·have:c.isData l=false:=by simp only[GCode.isData];simp_all
   simp[GCode.encode,h1,h2,this]
  ·have hdt:c.isData l=true:=by simp only[GCode.isData];simp_all;omega
   have hen:c.encode s l=((c.stream s l).1,(c.stream s l).2,0):=by simp[GCode.encode,h1,h2,hdt]
   have hlw:∀w,w∈l->c.isWord w=true:=by simp only[GCode.isData,Bool.and_eq_true,List.all_eq_true] at hdt;exact hdt.2
   have hl24:l.length<=24:=by simp[GCode.isData] at hdt;exact hdt.1
   rw[hen]
   refine B4 (α:=Int×Int×Bool×(List Int)) (l0:=?l1) (m0:=?m1) (fun x=>[(31,.d (.int .i64 x.1)),(1,.d (.int .i64 x.2.1))]) (fun x=>[(40,.row UJ 1 x.2.2.1 (BU x.2.2.2))]) (fun x=>0<=x.1/\x.1<=l.length/\c.isState x.2.1=true/\x.2.2.1=x.2.2.2.isEmpty/\x.2.2.2.length=c.out.toNat * x.1.toNat/\c.stream s l=(x.2.2.2++(c.stream x.2.1 (l.drop x.1.toNat)).1,(c.stream x.2.1 (l.drop x.1.toNat)).2)) (fun x=>(l.length-x.1).toNat) (?a1_0,?a1_1,?a1_2,[]) ?h01 ?he1 ?he21 ?hI1 ?step1
   case h01=>(simp -implicitDefEqProofs only[go_sem,AR,AQ];rfl)
   case he1=>rfl
   case he21=>rfl
   case' step1=>(rintro⟨i,t,nl',acc⟩ hI;try dsimp only at hI)
   case' hI1=>try dsimp only
   ·simp[h2]
   ·have hcb:∀w,w∈l->Cc E0 GV [Fo c,.int .i64 t,.int .i64 w] (.list false (BU (B8 c.out.toNat (c.wrd t w)))):=fun w hw=>Fh c t w h1 hI.2.2.1 (hlw w hw)
    by_cases hi:i<l.length
    ·have hm:l[i.toNat]?.getD 0∈l:=FV (by omega)
     have hcb:=hcb _ hm
     have hst:=hI.2.2.1
     simp only[GCode.isState,DE,decide_eq_true_eq] at hst
     have hn:=GCode.ok_next h1 t.toNat (by omega)
     have h12:=Jt (b:=c.bits) (by omega)
     have hwd:=hlw _ hm
     simp only[GCode.isWord,DE,decide_eq_true_eq] at hwd
     have hbl:=Fp c.out.toNat (c.wrd t (l[i.toNat]?.getD 0))
     have hbig:c.out.toNat * i.toNat<=5*24:=Nat.mul_le_mul (by omega) (by omega)
     refine' HR @Ax @DF;repeat' first|(refine' CQ;(first|refine AG hcb ?_)<;>refine' HR @Ax @DF)|refine' CP|done
     all_goals try exact Ca
     ·exact GCode.nxt_state h1 hI.2.2.1 (hlw _ hm)
     ·rw[hI.2.2.2.1];cases acc<;>simp
     ·rw[List.length_append,hI.2.2.2.2.1,hbl,show (i+1).toNat=i.toNat+1 by omega,Nat.mul_succ]
     ·have hdrop:l.drop i.toNat=(l[i.toNat]?.getD 0)::l.drop (i+1).toNat:=by
       rw[show (i+1).toNat=i.toNat+1 by omega,List.drop_eq_getElem_cons (by omega),List.getElem?_eq_getElem (by omega),Option.getD_some]
      rw[hI.2.2.2.2.2,hdrop,GCode.stream]
      simp[c.nxt_eq,List.append_assoc]
    ·refine' HO
     all_goals try exact Ca
     have h0:l.drop i.toNat=[]:=List.drop_eq_nil_of_le (by omega)
     rw[hI.2.2.2.2.2,h0,GCode.stream,hI.2.2.2.1]
     simp
 ·have hk:c.encode s l=([],0,if !c.ok then 40 else 41):=by
   simp only[GCode.encode];cases hok1:c.ok<;>cases hst:c.isState s<;>simp_all
  rw[hk]
  refine' HO
  all_goals (cases hok1:c.ok<;>cases hst:c.isState s<;>simp_all)
theorem Nc (n1 n2:Bool) (xs ys:List Int) (hx:Bf xs=true) (hy:Bf ys=true) (hl:xs.length<=ys.length) (h128:xs.length<=1000000) :
  Cc E0 Jh [.list n1 (BU xs),.list n2 (BU ys)] (.int .i64 (Lh xs ys)):=by
 refine AN NU Ay (by simp) fun hwf=>?_
 rw[AP];unfold IP
 simp -implicitDefEqProofs only[go_sem]
 refine Bh (α:=Int×Int) (fun x=>[(9,.d (.int .i64 x.1)),(4,.d (.int .i64 x.2))]) (fun x=>[]) (fun x=>0<=x.1/\x.1<=xs.length/\0<=x.2/\x.2<=x.1/\x.2+Lh (xs.drop x.1.toNat) (ys.drop x.1.toNat)=Lh xs ys) (fun x=>(xs.length-x.1).toNat) (?a2_0,?a2_1) ?hI2 ?step2
 case' step2=>(rintro⟨i,n⟩ hI;try dsimp only at hI)
 case' hI2=>try dsimp only
 ·simp
 ·by_cases hi:i<xs.length
  ·obtain⟨e,he⟩:∃e:Int,(if xs[i.toNat]?.getD 0=ys[i.toNat]?.getD 0 then 0 else 1)=e:=⟨_,rfl⟩
   have hxor:=ZP (Lr hx (i:=i.toNat) (by omega)) (Lr hy (i:=i.toNat) (by omega))
   have hd:Lh (xs.drop i.toNat) (ys.drop i.toNat)=e+Lh (xs.drop (i+1).toNat) (ys.drop (i+1).toNat):=by
    rw[JW (xs:=xs) (i:=i.toNat) (by omega),JW (xs:=ys) (i:=i.toNat) (by omega),Lh,he,show (i+1).toNat=i.toNat+1 by omega]
   rw[he] at hxor
   have he1:e=0\/e=1:=by rw[←he];split<;>simp
   refine' HO
   all_goals (try simp only[hxor])
   all_goals (try rw[Bd _ (by omega)])
   all_goals omega
  ·refine' HO
   all_goals try exact Ca
   have h0:xs.drop i.toNat=[]:=List.drop_eq_nil_of_le (by omega)
   have h1:Lh [] (ys.drop i.toNat)=0:=by simp[Lh]
   rw[h0,h1] at hI
   rw[←hI.2.2.2.2];simp
def Lf (mark bits:List Int) (e:Int):Nat->Int->List Int
 |0,_=>[]
 |n+1,i=>if Lh mark (bits.drop i.toNat)<=e then i::Lf mark bits e n (i+1) else Lf mark bits e n (i+1)
def DY (mark:List Int):Bool:=DE mark.length 1 16 && Bf mark
def Ld (mark bits:List Int) (e:Int):List Int×Int :=
 if !(DY mark && decide (bits.length<=128) && Bf bits && DE e 0 16) then ([],1)
 else (Lf mark bits e (bits.length+1-mark.length) 0,0)
theorem Ox {xs:List Int}(h:Bf xs=true) (n:Nat):Bf (xs.drop n)=true:=by
 simp only[Bf,List.all_eq_true] at *
 exact fun x hx=>h x (List.mem_of_mem_drop hx)
theorem SV (n1 n2:Bool) (mark bits:List Int) (e:Int):Cc E0 PA [.list n1 (BU mark),.list n2 (BU bits),.int .i64 e]
  (.tup [.list (Ld mark bits e).1.isEmpty (BU (Ld mark bits e).1),.int .i64 (Ld mark bits e).2]):=by
 refine AN SO Ay (by simp) fun hwf=>?_
 simp only[FL,Ea,EZ,EM,Fd,Fc,HI,Fb,CI,CX,CY,Eb,C9,List.length_map,CR,true_and,and_true] at hwf
 have bad:(DY mark && decide (bits.length<=128) && Bf bits && DE e 0 16)=false->Ld mark bits e=([],1):=fun h=>by simp only[Ld,h];rfl
 have bad2:¬bits.length<=128->Ld mark bits e=([],1):=fun h=>bad (by
      have:decide (bits.length<=128)=false:=by simpa using h
      simp[this])
 rw[AP];unfold Mr
 refine' H9;repeat' first|(refine' CQ;(first|refine AG (P_ _ _) ?_|refine AG (E' _ _) ?_|refine AG (DS _ _ _) ?_)<;>refine' H9)|refine' CP|done
 all_goals first|(
     have hx:¬bits.length<=128:=by omega
     rw[bad2 hx];rfl)|skip
 all_goals first|(
     have hx:(DY mark && decide (bits.length<=128) && Bf bits && DE e 0 16)=false:=by(simp_all[DY];done)
     rw[bad hx];rfl)|skip
 have hm:DY mark=true:=by assumption
 have hb:Bf bits=true:=by assumption
 have h128:bits.length<=128:=by omega
 have hgood:Ld mark bits e=(Lf mark bits e (bits.length+1-mark.length) 0,0):=by simp only[Ld];simp_all
 have hmb:Bf mark=true:=by simp only[DY,Bool.and_eq_true] at hm;exact hm.2
 have hm1:1<=mark.length/\mark.length<=16:=by simp[DY,DE] at hm;omega
 rw[hgood]
 refine Bh (α:=Int×Bool×(List Int)) (fun x=>[(35,.d (.int .i64 x.1))]) (fun x=>[(48,.row UJ 1 x.2.1 (BU x.2.2))]) (fun x=>0<=x.1/\x.1<=max 0 (bits.length-mark.length+1:Int)/\x.2.2.length<=x.1/\x.2.1=x.2.2.isEmpty/\x.2.2++Lf mark bits e (bits.length+1-mark.length-x.1.toNat) x.1=Lf mark bits e (bits.length+1-mark.length) 0) (fun x=>(max 0 (bits.length-mark.length+1:Int)-x.1).toNat) (?a3_0,?a3_1,[]) ?hI3 ?step3
 case' step3=>(rintro⟨i,nl,acc⟩ hI;try dsimp only at hI)
 case' hI3=>try dsimp only
 ·simp;omega
 ·by_cases hi:i<max 0 (bits.length-mark.length+1:Int)
  ·have hstep:Lf mark bits e (bits.length+1-mark.length-i.toNat) i=if Lh mark (bits.drop i.toNat)<=e then i::Lf mark bits e (bits.length+1-mark.length-(i+1).toNat) (i+1) else Lf mark bits e (bits.length+1-mark.length-(i+1).toNat) (i+1):=by
    rw[show bits.length+1-mark.length-i.toNat=(bits.length+1-mark.length-(i+1).toNat)+1 by omega,Lf]
   have cd:=fun n1 n2=>Nc n1 n2 mark (bits.drop i.toNat) hmb (Ox hb _) (by simp;omega) (by omega)
   refine' H9;repeat' first|(refine' CQ;(first|refine AG (cd _ _) ?_)<;>refine' H9)|refine' CP|done
   all_goals try exact Ca
   ·rw[←hI.2.2.2.2,hstep,if_pos (by assumption)];simp
   ·exact hI.2.2.2.1
   ·rw[←hI.2.2.2.2,hstep,if_neg (by assumption)]
  ·refine' HO
   all_goals try exact Ca
   have h0:bits.length+1-mark.length-i.toNat=0:=by omega
   have h1:=hI.2.2.2.2
   rw[h0,Lf,List.append_nil] at h1
   rw[←h1,hI.2.2.2.1]
end
end Go.Pw
