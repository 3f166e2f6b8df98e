/- Part. -/
import Derived.Test.YtmdklgapccickaaGreatDoorMvPC
import Derived.Test.YtmdklgapccickaaGreatDoorPwVC
import Derived.Test.YtmdklgapccickaaGreatDoorCodesSpec
set_option linter.all false
open Bool renaming and_eq_true->aa
open List renaming length_map->ax,getElem_of_mem->ay,all_eq_true->az,getElem?_eq_getElem->ck,getElem_mem->cp,findIdx?_eq_some_iff_getElem->cw,findIdx?_eq_none_iff->c8,append_nil->ea,drop_eq_nil_of_le->eb
open Go Go.Pw Go.Proofs
namespace Go.Pw
set_option maxRecDepth 100000
set_option maxHeartbeats 800000
section
attribute [local irreducible] IntKind.wrap Ah Option.getD and or
theorem C8(n lo hi:Int):BU E0 OK [.int .i64 n,.int .i64 lo,.int .i64 hi] (.bool (Cw n lo hi)):=by
 refine AL S7 AR (by simp) fun e=>?_
 rw[AN];unfold MR Cw;refine' FP
 all_goals first|omega|(simp_all[Cw];done)|(simp_all[Cw];omega)|grind
theorem Dg(n lo hi:Int):BU E0 OB [.int .i64 n,.int .i64 lo,.int .i64 hi] (.bool (Cw n lo hi)):=by
 refine AL Sx AR (by simp) fun e=>?_
 rw[AN];unfold MG Cw;refine' FP
 all_goals first|omega|(simp_all[Cw];done)|(simp_all[Cw];omega)|grind
theorem Fj(c:GCode)(h:0<=c.bits/\c.bits<=2):BU E0 JY [Hz c] (.int .i64 (2^c.bits.toNat)):=by
 refine AL Ns AR (by simp) fun e=>?_
 rw[AN];unfold IM;simp -implicitDefEqProofs only[go_sem,An,Ak];exact⟨h.1,by simp (disch:=omega)only[Jb]⟩
theorem Hy(c:GCode)(n:Int):BU E0 JZ [Hz c,.int .i64 n] (.bool (c.isState n)):=by
 refine AL Nt AR (by simp) fun e=>?_
 simp only[Eo,Dv,Du,Da,FE,FD,HI,FC,Bj,B0,B1,Dw,CO,ax,Bq,true_and,and_true,An,Ak,BB]at e;rw[AN];unfold IP;simp -implicitDefEqProofs only[go_sem,An,Ak,BB];simp (disch:=omega)only[Jb];refine IA (C8 _ _ _) rfl ?_;simp -implicitDefEqProofs only[go_sem,GCode.isState]
theorem O9(nl:Bool)(xs:List Int)(f:FuncId)(cs:List D)(p:Int->Bool)(hb:BA E0.P f=true)(o:Ax AV.toD1 (cs.map .d)=some cs)(h:∀x,x∈xs->BU E0 f (.int .i64 x::cs) (.bool (p x))) :
  BU E0 Dr [.list nl (Ad xs),.fn f cs] (.int .i64 (match xs.findIdx? p with|some i=>i|none=>-1)):=by
 refine AL E5 AR (by simp) fun n=>?_
 simp only[Eo,Dv,Du,Da,FE,FD,HI,FC,Bj,B0,B1,Dw,CO,ax,Bq,true_and,and_true]at n;rw[AN];unfold Db;simp -implicitDefEqProofs only[go_sem];refine AZ (α:=Int) (fun x=>[(8,.d (.int .i64 x))]) (fun x=>[]) (fun x=>0<=x/\x<=xs.length/\∀(j:Nat) (e:j<xs.length),(j:Int)<x->p xs[j]=false) (fun x=>(xs.length-x).toNat) ?a1_0 ?hI1 ?step1
 case' step1=>(rintro i l;try dsimp only at l)
 case' hI1=>try dsimp only
 ·simp;omega
 ·refine' FP
  all_goals try exact BL
  ·have hx:xs[i.toNat]?.getD 0=xs[i.toNat]'(by omega):=by rw[ck (by omega),Option.getD_some]
   rw[hx];refine Zg (h _ (cp _)) (J8 rfl o) (fun hp=>?_) (fun hp=>?_)
   ·simp -implicitDefEqProofs only[go_sem];have:xs.findIdx? p=some i.toNat:=by rw[cw];exact⟨by omega,hp,fun j e=>by simp[l.2.2 j (by omega) (by omega)]⟩
    rw[this];simp;omega
   ·refine' FP
    all_goals try exact BL
    rename_i j e q
    by_cases m:j=i.toNat
    ·subst m;exact hp
    ·exact l.2.2 j e (by omega)
  ·have:xs.findIdx? p=none:=by
    rw[c8];intro x hx;obtain⟨j,e,rfl⟩:=ay hx;exact l.2.2 j e (by omega)
   rw[this]
theorem Ct(nl:Bool)(xs:List Int)(f:FuncId)(cs:List D)(p:Int->Bool)(hb:BA E0.P f=true)(e:Ax AV.toD1 (cs.map .d)=some cs)(h:∀x,x∈xs->BU E0 f (.int .i64 x::cs) (.bool (p x))) :
  BU E0 CM [.list nl (Ad xs),.fn f cs] (.bool (xs.any p)):=by
 refine AL EO AR (by simp) fun j=>?_
 rw[AN];unfold C6;simp -implicitDefEqProofs only[go_sem];refine IA (O9 nl xs f cs p hb e h) rfl ?_;simp -implicitDefEqProofs only[go_sem]
 have key:(0:Int)<=(match xs.findIdx? p with|some i=>(i:Int)|none=>-1)↔xs.any p=true:=by
  cases hf:xs.findIdx? p with
  |none=>rw[c8]at hf;simp;intro x hx;simp[hf x hx]
  |some i=>rw[cw]at hf;simp;exact⟨_,cp hf.1,hf.2.1⟩
 grind
theorem UQ(n:Int):BU E0 KR [.int .i64 n] (.bool (!Cw n 0 1)):=by
 refine AL UM AR (by simp) fun e=>?_
 rw[AN];unfold NS Cw;refine' FP
 all_goals first|omega|(simp_all[Cw];done)|(simp_all[Cw];omega)|grind
theorem WO{α:Type}(xs:List α)(p:α->Bool):xs.any (fun x=>!p x)=!xs.all p:=by
 induction xs with
 |nil=>rfl
 |cons x xs ih=>simp only[List.any_cons,List.all_cons,ih,Bool.not_and]
theorem KP(nl:Bool)(xs:List Int):BU E0 Tx [.list nl (Ad xs)] (.bool (Ap xs)):=by
 refine AL W7 AR (by simp) fun e=>?_
 rw[AN];unfold Qw;simp -implicitDefEqProofs only[go_sem];refine IA (Ct nl xs KR [] (fun n=>!Cw n 0 1) (by kernel_rfl) rfl fun x _=>UQ x) rfl ?_;simp -implicitDefEqProofs only[go_sem,WO,Bool.not_not,Ap]
theorem TD(nl:Bool)(xs:List Int):BU E0 OL [.list nl (Ad xs)] (.bool (Cw xs.length 1 16 && Ap xs)):=by
 refine AL S8 AR (by simp) fun e=>?_
 rw[AN];unfold MS;refine' Fp;repeat' first|(refine' BJ;(first|refine AF (C8 _ _ _) ?_|refine AF (KP nl xs) ?_)<;>refine' Fp)|refine' BI|done
 all_goals first|omega|(simp_all[Cw];done)|(simp_all[Cw];omega)|grind
theorem Rz(c:GCode)(n:Int)(h:1<=c.out/\c.out<=5):BU E0 IE [.int .i64 n,.ptr (PP c)] (.bool (!Cw n 0 (2^c.out.toNat-1))):=by
 refine AL Rl AR (by simp) fun e=>?_
 rw[AN];unfold Kv;simp -implicitDefEqProofs only[go_sem,Ak];have h1:=VQ (k:=c.out.toNat) (by omega);have h2:=VP c.out.toNat;refine⟨by omega,?_⟩;simp (disch:=omega)only[Jb];refine IA (C8 _ _ _) rfl ?_;simp -implicitDefEqProofs only[go_sem]
theorem Ry(c:GCode)(n:Int):BU E0 IC [.int .i64 n,.ptr (PP c)] (.bool (!c.isState n)):=by
 refine AL Rk AR (by simp) fun e=>?_
 rw[AN];unfold Ku;simp -implicitDefEqProofs only[go_sem,Ak];refine IA (Hy c n) rfl ?_;simp -implicitDefEqProofs only[go_sem]
theorem QM(c:GCode)(n:Int)(h:1<=c.bits/\c.bits<=2):BU E0 He [.int .i64 n,.ptr (PP c)] (.bool (!c.isWord n)):=by
 refine AL QE AR (by simp) fun e=>?_
 rw[AN];unfold J1;simp -implicitDefEqProofs only[go_sem,Ak];refine IA (Fj c (by omega)) rfl ?_;simp -implicitDefEqProofs only[go_sem];have:=P1 h;simp (disch:=omega)only[Jb];refine IA (C8 _ _ _) rfl ?_;simp -implicitDefEqProofs only[go_sem,GCode.isWord]
theorem IT(c:GCode)(s w:Int)(h:c.ok=true)(hs:c.isState s=true)(l:c.isWord w=true) :
  BU E0 HA [Hz c,.int .i64 s,.int .i64 w] (.list false (Ad (CJ c.out.toNat (c.wrd s w)))):=by
 refine AL O5 AR (by simp) fun m=>?_
 have hd:=GCode.ok_head h;simp only[GCode.isState,GCode.isWord,Cw,decide_eq_true_eq]at hs l;have j:=GCode.ok_words h s.toNat (by omega);have n:=P1 (b:=c.bits) (by omega);rw[AN];unfold I4;simp -implicitDefEqProofs only[go_sem,An,Ak,BB];simp (disch:=omega)only[Jb];refine BN (α:=Int×Bool×(List Int)) (l0:=?l2) (m0:=?m2) (fun x=>[(8,.d (.int .i64 x.1))]) (fun x=>[(31,.row YL 1 x.2.1 (Ad x.2.2))]) (fun x=>-1<=x.1/\x.1<c.out/\x.2.2.length+x.1=c.out-1/\x.2.1=x.2.2.isEmpty/\x.2.2++CJ (x.1+1).toNat (c.wrd s w)=CJ c.out.toNat (c.wrd s w)) (fun x=>(x.1+1).toNat) (?a2_0,?a2_1,[]) ?h02 ?he2 ?he22 ?hI2 ?step2
 case h02=>(simp -implicitDefEqProofs only[go_sem,An,Ak,BB];rfl)
 case he2=>rfl
 case he22=>rfl
 case' step2=>(rintro⟨i,nl,acc⟩ e;try dsimp only at e)
 case' hI2=>try dsimp only
 ·simp;(try omega)
 ·refine' MX @BB @ES
  all_goals try exact BL
  ·rw[←e.2.2.2.2,show(i-1+1).toNat=i.toNat by omega,show(i+1).toNat=i.toNat+1 by omega,CJ,c.wrd_eq];simp
  ·have h0:(i+1).toNat=0:=by omega
   have h1:acc=CJ c.out.toNat (c.wrd s w):=by rw[←e.2.2.2.2,h0,CJ,ea]
   have h2:acc≠[]:=by rintro rfl;simp at e;omega
   rw[←h1,e.2.2.2.1];cases acc with
   |nil=>exact absurd rfl h2
   |cons _ _=>rfl
end
section
attribute [local irreducible] IntKind.wrap Ah Option.getD and or
def GCode.rowsOk(c:GCode)(j:Nat):Bool:=VK (2^c.bits.toNat) (2^c.out.toNat-1) (c.words[j]?.getD default) && VK (2^c.bits.toNat) (c.words.length-1) (c.next[j]?.getD default)
theorem SZ(c:GCode)(j:Nat):c.rowsOk j=(decide (((c.words[j]?.getD default).2.length:Int)=2^c.bits.toNat) && ((c.words[j]?.getD default).2.all fun n=>Cw n 0 (2^c.out.toNat-1)) &&
  (decide (((c.next[j]?.getD default).2.length:Int)=2^c.bits.toNat) && (c.next[j]?.getD default).2.all c.isState)):=by
 have h:∀(n k:Nat),decide (n=2^k)=decide ((n:Int)=2^k):=fun n k=>by
  have:((2^k:Nat):Int)=(2:Int)^k:=by simp
  rw[←this,decide_eq_decide];omega
 simp only[GCode.rowsOk,VK,h];rfl
theorem ok_iff(c:GCode)(hh:c.head=true):c.ok=true↔∀(j:Nat),j<c.words.length->c.rowsOk j=true:=by
 have hl:c.next.length=c.words.length:=by simp[GCode.head]at hh;exact hh.2
 simp only[GCode.ok,GCode.rowsOk,hh,Bool.true_and,aa,az];constructor
 ·intro h j h1;exact⟨h.1 _ (Nf h1),h.2 _ (Nf (by omega))⟩
 ·intro h;constructor
  ·intro x hx;obtain⟨j,e,rfl⟩:=ay hx;have:=(h j e).1;simpa[e]using this
  ·intro x hx;obtain⟨j,e,rfl⟩:=ay hx;have:=(h j (by omega)).2;simpa[e]using this
theorem pC(c:GCode)(hh:c.head=true)(j:Nat)(e:j<c.words.length)(hb:c.rowsOk j=false):c.ok=false:=by
 cases h:c.ok with
 |false=>rfl
 |true=>have:=(ok_iff c hh).1 h j e;rw[this]at hb;cases hb
theorem H'(c:GCode):BU E0 Pj [Hz c] (.int .i64 (KG c.ok 40)):=by
 refine AL UN AR (by simp) fun m=>?_
 simp only[Eo,Dv,Du,Da,FE,FD,HI,FC,Bj,B0,B1,Dw,CO,ax,Bq,true_and,and_true,An,Ak,BB]at m;have noHead:c.head=false->KG c.ok 40=40:=fun h=>by simp[KG,GCode.ok,h]
 rw[AN];unfold NT;refine' FA @An @Ak @BB;repeat' first|(refine' BJ;(first|refine AF (C8 _ _ _) ?_)<;>refine' FA @An @Ak @BB)|refine' BI|done
 all_goals first|(rw[noHead (by cases hh:c.head;rfl;exfalso;simp only[GCode.head,Cw,aa,decide_eq_true_eq,decide_eq_false_iff_not]at *;omega)];done)|skip
 have hh:c.head=true:=by simp only[GCode.head,Cw,aa,decide_eq_true_eq,decide_eq_false_iff_not]at *;omega
 have ho:1<=c.out/\c.out<=5:=by simp_all[Cw]
 have hb:1<=c.bits/\c.bits<=2:=by simp_all[Cw]
 have hl:c.next.length=c.words.length:=by omega
 have p:=P1 hb;have c1:=fun nl xs=>Ct nl xs IE [.ptr (PP c)] (fun n=>!Cw n 0 (2^c.out.toNat-1)) (by kernel_rfl) rfl (fun x _=>Rz c x ho)
 have c2:=fun nl xs=>Ct nl xs IC [.ptr (PP c)] (fun n=>!c.isState n) (by kernel_rfl) rfl (fun x _=>Ry c x)
 simp only[WO]at c1 c2;have bad:∀j,j<c.words.length->c.rowsOk j=false->KG c.ok 40=40:=fun j e h=>by rw[KG,pC c hh j e h];rfl
 refine BN (α:=Int) (l0:=?l1) (m0:=?m1) (fun x=>[(63,.d (.int .i64 x))]) (fun x=>[]) (fun x=>0<=x/\x<=c.words.length/\∀(j:Nat),(j:Int)<x->c.rowsOk j=true) (fun x=>(c.words.length-x).toNat) ?a1_0 ?h01 ?he1 ?he21 ?hI1 ?step1
 case h01=>(simp -implicitDefEqProofs only[go_sem,An,Ak,BB];rfl)
 case he1=>rfl
 case he21=>rfl
 case' step1=>(rintro i l;try dsimp only at l)
 case' hI1=>try dsimp only
 ·simp;omega
 ·refine' FS @BB @ES;repeat' first|(refine' BJ;(first|refine AF (Fj c (by omega)) ?_|refine AF (c1 _ _) ?_|refine AF (c2 _ _) ?_)<;>refine' FS @BB @ES)|refine' BI|done
  all_goals try exact BL
  all_goals try(refine congrArg (D.int .i64) (bad i.toNat (by omega) ?_).symm;rw[SZ];generalize ((c.words[i.toNat]?.getD default).2.all fun n=>Cw n 0 (2^c.out.toNat-1))=A at *;generalize (c.next[i.toNat]?.getD default).2.all c.isState=B at *;cases A<;>cases B<;>simp_all;done)
  ·rename_i j e
   by_cases o:j=i.toNat
   ·subst o;rw[SZ];generalize ((c.words[i.toNat]?.getD default).2.all fun n=>Cw n 0 (2^c.out.toNat-1))=A at *;generalize (c.next[i.toNat]?.getD default).2.all c.isState=B at *;cases A<;>cases B<;>simp_all
   ·exact l.2.2 j (by omega)
  ·have:c.ok=true:=(ok_iff c hh).2 fun j e=>l.2.2 j (by omega)
   rw[KG,this];rfl
theorem V6(c:GCode)(s:Int):BU E0 SJ [Hz c,.int .i64 s] (.tup [Hz c,.int .i64 (if !c.ok then 40 else if !c.isState s then 41 else 0)]):=by
 refine AL Vy AR (by simp) fun e=>?_
 rw[AN];unfold PI;refine' FS @An @Ak;repeat' first|(refine' BJ;(first|refine AF (H' c) ?_|refine AF (Hy c s) ?_)<;>refine' FS @An @Ak)|refine' BI|done
 all_goals(cases hok:c.ok<;>cases hst:c.isState s<;>simp_all[KG,An,Ak])
end
section
attribute [local irreducible] IntKind.wrap Ah Option.getD and or
theorem TE(c:GCode)(s:Int)(nl:Bool)(l:List Int):BU E0 OM [Hz c,.int .i64 s,.list nl (Ad l)] (.tup [.list (c.encode s l).1.isEmpty (Ad (c.encode s l).1),.int .i64 (c.encode s l).2.1,.int .i64 (c.encode s l).2.2]):=by
 refine AL S9 AR (by simp) fun G=>?_
 rw[AN];unfold MT;simp -implicitDefEqProofs only[go_sem,An,Ak];refine IA (V6 c s) rfl ?_;simp -implicitDefEqProofs only[go_sem,An,Ak]
 by_cases hok:c.ok=true/\c.isState s=true
 ·obtain⟨h1,h2⟩:=hok;have hd:=GCode.ok_head h1;have c1:=fun nl xs=>Ct nl xs He [.ptr (PP c)] (fun n=>!c.isWord n) (by kernel_rfl) rfl (fun x _=>QM c x (by omega))
  simp only[WO]at c1;simp only[h1,h2,Bool.not_true,Bool.false_eq_true,if_false];refine' Fp;repeat' first|(refine' BJ;(first|refine AF (c1 _ _) ?_)<;>refine' Fp)|refine' BI|done
  ·have:c.isData l=false:=by simp[GCode.isData];omega
   simp[GCode.encode,h1,h2,this]
  ·have:c.isData l=false:=by simp only[GCode.isData];simp_all
   simp[GCode.encode,h1,h2,this]
  ·have e:c.isData l=true:=by simp only[GCode.isData];simp_all;omega
   have r:c.encode s l=((c.stream s l).1,(c.stream s l).2,0):=by simp[GCode.encode,h1,h2,e]
   have j:∀w,w∈l->c.isWord w=true:=by simp only[GCode.isData,aa,az]at e;exact e.2
   have z:l.length<=24:=by simp[GCode.isData]at e;exact e.1
   rw[r];refine BN (α:=Int×Int×Bool×(List Int)) (l0:=?l1) (m0:=?m1) (fun x=>[(31,.d (.int .i64 x.1)),(1,.d (.int .i64 x.2.1))]) (fun x=>[(40,.row YL 1 x.2.2.1 (Ad x.2.2.2))]) (fun x=>0<=x.1/\x.1<=l.length/\c.isState x.2.1=true/\x.2.2.1=x.2.2.2.isEmpty/\x.2.2.2.length=c.out.toNat * x.1.toNat/\c.stream s l=(x.2.2.2++(c.stream x.2.1 (l.drop x.1.toNat)).1,(c.stream x.2.1 (l.drop x.1.toNat)).2)) (fun x=>(l.length-x.1).toNat) (?a1_0,?a1_1,?a1_2,[]) ?h01 ?he1 ?he21 ?hI1 ?step1
   case h01=>(simp -implicitDefEqProofs only[go_sem,An,Ak];rfl)
   case he1=>rfl
   case he21=>rfl
   case' step1=>(rintro⟨i,t,nl',acc⟩ h;try dsimp only at h)
   case' hI1=>try dsimp only
   ·simp[h2]
   ·have p:∀w,w∈l->BU E0 HA [Hz c,.int .i64 t,.int .i64 w] (.list false (Ad (CJ c.out.toNat (c.wrd t w)))):=fun w B=>IT c t w h1 h.2.2.1 (j w B)
    by_cases hi:i<l.length
    ·have hm:l[i.toNat]?.getD 0∈l:=D6 (by omega);have p:=p _ hm;have m:=h.2.2.1;simp only[GCode.isState,Cw,decide_eq_true_eq]at m;have hn:=GCode.ok_next h1 t.toNat (by omega);have J:=P1 (b:=c.bits) (by omega);have u:=j _ hm;simp only[GCode.isWord,Cw,decide_eq_true_eq]at u;have y:=Hm c.out.toNat (c.wrd t (l[i.toNat]?.getD 0));have A:c.out.toNat * i.toNat<=5*24:=Nat.mul_le_mul (by omega) (by omega);refine' FS @BB @ES;repeat' first|(refine' BJ;(first|refine AF p ?_)<;>refine' FS @BB @ES)|refine' BI|done
     all_goals try exact BL
     ·exact GCode.nxt_state h1 h.2.2.1 (j _ hm)
     ·rw[h.2.2.2.1];cases acc<;>simp
     ·rw[List.length_append,h.2.2.2.2.1,y,show(i+1).toNat=i.toNat+1 by omega,Nat.mul_succ]
     ·have o:l.drop i.toNat=(l[i.toNat]?.getD 0)::l.drop (i+1).toNat:=by
       rw[show(i+1).toNat=i.toNat+1 by omega,List.drop_eq_getElem_cons (by omega),ck (by omega),Option.getD_some]
      rw[h.2.2.2.2.2,o,GCode.stream];simp[c.nxt_eq,List.append_assoc]
    ·refine' FP
     all_goals try exact BL
     have h0:l.drop i.toNat=[]:=eb (by omega);rw[h.2.2.2.2.2,h0,GCode.stream,h.2.2.2.1];simp
 ·have hk:c.encode s l=([],0,if !c.ok then 40 else 41):=by
   simp only[GCode.encode];cases q:c.ok<;>cases m:c.isState s<;>simp_all
  rw[hk];refine' FP
  all_goals(cases q:c.ok<;>cases m:c.isState s<;>simp_all)
theorem QL(n1 n2:Bool)(xs ys:List Int)(hx:Ap xs=true)(p:Ap ys=true)(hl:xs.length<=ys.length)(m:xs.length<=1000000) :
  BU E0 LS [.list n1 (Ad xs),.list n2 (Ad ys)] (.int .i64 (FI xs ys)):=by
 refine AL QC AR (by simp) fun q=>?_
 rw[AN];unfold Jz;simp -implicitDefEqProofs only[go_sem];refine AZ (α:=Int×Int) (fun x=>[(9,.d (.int .i64 x.1)),(4,.d (.int .i64 x.2))]) (fun x=>[]) (fun x=>0<=x.1/\x.1<=xs.length/\0<=x.2/\x.2<=x.1/\x.2+FI (xs.drop x.1.toNat) (ys.drop x.1.toNat)=FI xs ys) (fun x=>(xs.length-x.1).toNat) (?a2_0,?a2_1) ?hI2 ?step2
 case' step2=>(rintro⟨i,n⟩ j;try dsimp only at j)
 case' hI2=>try dsimp only
 ·simp
 ·by_cases hi:i<xs.length
  ·obtain⟨e,l⟩:∃e:Int,(if xs[i.toNat]?.getD 0=ys[i.toNat]?.getD 0 then 0 else 1)=e:=⟨_,rfl⟩
   have h:=UV (Fk hx (i:=i.toNat) (by omega)) (Fk p (i:=i.toNat) (by omega))
   have hd:FI (xs.drop i.toNat) (ys.drop i.toNat)=e+FI (xs.drop (i+1).toNat) (ys.drop (i+1).toNat):=by
    rw[Hw (xs:=xs) (i:=i.toNat) (by omega),Hw (xs:=ys) (i:=i.toNat) (by omega),FI,l,show(i+1).toNat=i.toNat+1 by omega]
   rw[l]at h;have o:e=0\/e=1:=by rw[←l];split<;>simp
   refine' FP
   all_goals(try simp only[h])
   all_goals(try rw[Am _ (by omega)])
   all_goals omega
  ·refine' FP
   all_goals try exact BL
   have h0:xs.drop i.toNat=[]:=eb (by omega);have h1:FI [] (ys.drop i.toNat)=0:=by simp[FI]
   rw[h0,h1]at j;rw[←j.2.2.2.2];simp
def Nk(mark bits:List Int)(e:Int):Nat->Int->List Int
 |0,_=>[]
 |n+1,i=>if FI mark (bits.drop i.toNat)<=e then i::Nk mark bits e n (i+1)else Nk mark bits e n (i+1)
def DP(mark:List Int):Bool:=Cw mark.length 1 16 && Ap mark
def Ni(mark bits:List Int)(e:Int):List Int×Int :=
 if !(DP mark && decide (bits.length<=128) && Ap bits && Cw e 0 16)then([],1)
 else(Nk mark bits e (bits.length+1-mark.length) 0,0)
theorem L2{xs:List Int}(h:Ap xs=true)(n:Nat):Ap (xs.drop n)=true:=by
 simp only[Ap,az]at *;exact fun x hx=>h x (List.mem_of_mem_drop hx)
theorem V7(n1 n2:Bool)(mark bits:List Int)(e:Int):BU E0 SK [.list n1 (Ad mark),.list n2 (Ad bits),.int .i64 e]
  (.tup [.list (Ni mark bits e).1.isEmpty (Ad (Ni mark bits e).1),.int .i64 (Ni mark bits e).2]):=by
 refine AL Vz AR (by simp) fun o=>?_
 simp only[Eo,Dv,Du,Da,FE,FD,HI,FC,Bj,B0,B1,Dw,CO,ax,Bq,true_and,and_true]at o;have bad:(DP mark && decide (bits.length<=128) && Ap bits && Cw e 0 16)=false->Ni mark bits e=([],1):=fun h=>by simp only[Ni,h];rfl
 have bad2:¬bits.length<=128->Ni mark bits e=([],1):=fun h=>bad (by
      have:decide (bits.length<=128)=false:=by simpa using h
      simp[this])
 rw[AN];unfold PJ;refine' Fp;repeat' first|(refine' BJ;(first|refine AF (TD _ _) ?_|refine AF (KP _ _) ?_|refine AF (C8 _ _ _) ?_)<;>refine' Fp)|refine' BI|done
 all_goals first|(
     have hx:¬bits.length<=128:=by omega
     rw[bad2 hx];rfl)|skip
 all_goals first|(
     have hx:(DP mark && decide (bits.length<=128) && Ap bits && Cw e 0 16)=false:=by(simp_all[DP];done)
     rw[bad hx];rfl)|skip
 have hm:DP mark=true:=by assumption
 have hb:Ap bits=true:=by assumption
 have p:bits.length<=128:=by omega
 have l:Ni mark bits e=(Nk mark bits e (bits.length+1-mark.length) 0,0):=by simp only[Ni];simp_all
 have n:Ap mark=true:=by simp only[DP,aa]at hm;exact hm.2
 have q:1<=mark.length/\mark.length<=16:=by simp[DP,Cw]at hm;omega
 rw[l];refine AZ (α:=Int×Bool×(List Int)) (fun x=>[(35,.d (.int .i64 x.1))]) (fun x=>[(48,.row YL 1 x.2.1 (Ad x.2.2))]) (fun x=>0<=x.1/\x.1<=max 0 (bits.length-mark.length+1:Int)/\x.2.2.length<=x.1/\x.2.1=x.2.2.isEmpty/\x.2.2++Nk mark bits e (bits.length+1-mark.length-x.1.toNat) x.1=Nk mark bits e (bits.length+1-mark.length) 0) (fun x=>(max 0 (bits.length-mark.length+1:Int)-x.1).toNat) (?a3_0,?a3_1,[]) ?hI3 ?step3
 case' step3=>(rintro⟨i,nl,acc⟩ m;try dsimp only at m)
 case' hI3=>try dsimp only
 ·simp;omega
 ·by_cases hi:i<max 0 (bits.length-mark.length+1:Int)
  ·have j:Nk mark bits e (bits.length+1-mark.length-i.toNat) i=if FI mark (bits.drop i.toNat)<=e then i::Nk mark bits e (bits.length+1-mark.length-(i+1).toNat) (i+1)else Nk mark bits e (bits.length+1-mark.length-(i+1).toNat) (i+1):=by
    rw[show bits.length+1-mark.length-i.toNat=(bits.length+1-mark.length-(i+1).toNat)+1 by omega,Nk]
   have cd:=fun n1 n2=>QL n1 n2 mark (bits.drop i.toNat) n (L2 hb _) (by simp;omega) (by omega)
   refine' Fp;repeat' first|(refine' BJ;(first|refine AF (cd _ _) ?_)<;>refine' Fp)|refine' BI|done
   all_goals try exact BL
   ·rw[←m.2.2.2.2,j,if_pos (by assumption)];simp
   ·exact m.2.2.2.1
   ·rw[←m.2.2.2.2,j,if_neg (by assumption)]
  ·refine' FP
   all_goals try exact BL
   have h0:bits.length+1-mark.length-i.toNat=0:=by omega
   have h1:=m.2.2.2.2;rw[h0,Nk,ea]at h1;rw[←h1,m.2.2.2.1]
end
end Go.Pw
