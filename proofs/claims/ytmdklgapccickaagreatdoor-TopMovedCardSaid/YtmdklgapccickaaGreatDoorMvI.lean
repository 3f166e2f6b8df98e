/- Part. -/
import Derived.Test.YtmdklgapccickaaGreatDoorMvF
import Derived.Test.YtmdklgapccickaaGreatDoorPgMvH
import Derived.Test.YtmdklgapccickaaGreatDoorPgZonesSpec2
set_option linter.all false
open List renaming findIdx?_eq_some_iff_getElem->aa,findIdx?_eq_none_iff->ax
open Go Go.Pw Go.Proofs
namespace Go.Pw
set_option maxRecDepth 100000
set_option maxHeartbeats 6400000
theorem Gd:BA E0.P E6=true:=by kernel_rfl
theorem H1:BA E0.P GH=true:=by kernel_rfl
def uM(z:Int)(x:BK):Bool:=(decide (0<=x.id) && decide (x.id<=99)) && ((decide (0<=x.st) && decide (x.st<=9999)) && (decide (0<=x.sec) && decide (x.sec<z)))
attribute [local irreducible] IntKind.wrap Ah Option.getD and or
theorem YA(l:List BK)(hl:l.length<=1000):BU E0 Gg [.agg [.map TP (Z8 l),.map xo (Nz l)]] (.bool false):=by
 refine AL Ji AR (by simp) fun e=>?_
 rw[AN];unfold F7;have h:¬(l.length:Int)<(l.length:Int):=by omega
 refine' LV @Y' @R1 h
 all_goals first|omega|rfl
theorem XD(nl:Bool)(l:List Int)(lo hi:Int)(hl:l.length<=1000):BU E0 G6 [.list nl (Ad l),.int .i64 lo,.int .i64 hi] (.bool (US l lo hi)):=by
 refine AL KJ AR (by simp) fun L=>?_
 rw[AN];unfold GT;refine' FP
 all_goals try exact BL
 refine AZ (α:=Nat) (fun x=>[(11,.d (.int .i64 (x:Int)))]) (fun x=>[]) (fun x=>x<=l.length/\∀j,j<x->R9 l lo hi j=true) (fun x=>l.length-x) 0 ?hI1 ?step1
 case' step1=>(rintro i z;try dsimp only at z)
 case' hI1=>try dsimp only
 ·exact⟨by omega,fun j h=>absurd h (Nat.not_lt_zero j)⟩
 ·obtain⟨h1,h2⟩:=z
  by_cases o:i<l.length
  ·have n:(i:Int)<(l.length:Int):=by omega
   have A:=HE (i:=i) (by omega)
   have m:R9 l lo hi i=true->∀j,j<i+1->R9 l lo hi j=true:=fun hh j J=>by
    by_cases t:j=i
    ·subst t;exact hh
    ·exact h2 j (by omega)
   have p:=Zl (lo:=lo) (hi:=hi) o;have e:R9 l lo hi i=((decide (lo<=l[i]?.getD 0) && decide (l[i]?.getD 0<=hi)) && (decide (i=0) || decide (l[i-1]?.getD 0<l[i]?.getD 0))):=rfl;obtain⟨v,hv⟩:∃v,l[i]?.getD 0=v:=⟨_,rfl⟩
   rw[hv]at e
   by_cases k1:v<lo
   ·rw[p (by rw[e,decide_eq_false (by omega)];simp)];refine' Ta n o hv k1
    all_goals first|omega|rfl
   by_cases k2:hi<v
   ·rw[p (by rw[e,decide_eq_true (by omega),decide_eq_false (show ¬v<=hi by omega)];simp)];refine' bq n o hv k1 k2
    all_goals first|omega|rfl
   rw[decide_eq_true (show lo<=v by omega),decide_eq_true (show v<=hi by omega),Bool.and_self,Bool.true_and]at e
   by_cases y:i=0
   ·subst y;have m:=m (by rw[e];simp);refine' mA6 n o hv k1 k2 A
    all_goals first|omega|rfl|exact m|exact m _ (by assumption)
   ·have q:0<(i:Int):=by omega
    have G:IntKind.i64.wrap ((i:Int)-1)=((i-1:Nat):Int):=by rw[Am _ (by omega)];omega
    have hm:i-1<l.length:=by omega
    have r:((i-1:Nat):Int)<(l.length:Int):=by omega
    obtain⟨u,hu⟩:∃u,l[i-1]?.getD 0=u:=⟨_,rfl⟩
    rw[hu,decide_eq_false y,Bool.false_or]at e
    by_cases B:v<=u
    ·rw[p (by rw[e,decide_eq_false (by omega)])];refine' P4 n o hv k1 k2 q G (aI hm (aI r (aI hu B)))
     all_goals first|omega|rfl
    ·have m:=m (by rw[e,decide_eq_true (by omega)]);refine' P4 n o hv k1 k2 q G (aI hm (aI r (aI hu (aI B A))))
     all_goals first|omega|rfl|exact m|exact m _ (by assumption)
  ·have n:¬(i:Int)<(l.length:Int):=by omega
   rw[jJ (fun j J=>h2 j (by omega))];refine' HM n
   all_goals first|omega|rfl
theorem fz(z:Int)(x:BK):BU E0 E6 [EJ x,.ptr [.int .i64 z]] (.bool (uM z x)):=by
 refine AL RZ AR (by simp) fun e=>?_
 rw[AN];unfold Kj uM;refine' MX @Dx @Dy
 all_goals first|omega|(simp_all;done)|(simp_all;omega)
theorem fy(z:Int)(x:BK):BU E0 GH [EJ x,.ptr [.fn E6 [.ptr [.int .i64 z]]]] (.bool (!uM z x)):=by
 have c1:=fz z x;refine AL RY AR (by simp) fun e=>?_
 rw[AN];unfold Ki;rw[Dx,Dy]at c1;obtain⟨b,hb⟩:∃b,uM z x=b:=⟨_,rfl⟩
 rw[hb]at c1 ⊢
 cases b<;>refine' FA @Dx @Dy @Gd;repeat' first|(refine' BJ;(first|refine AF c1 ?_)<;>refine' FA @Dx @Dy @Gd)|refine' BI|done
 all_goals first|omega|rfl|(simp_all;done)
theorem gw(nl:Bool)(xs:List BK)(f:FuncId)(cs:List D)(p:BK->Bool)(hb:BA E0.P f=true)(o:Ax AV.toD1 (cs.map .d)=some cs)(h:∀x,x∈xs->BU E0 f (EJ x::cs) (.bool (p x))) :
  BU E0 C3 [.list nl (BO xs),.fn f cs] (.int .i64 (match xs.findIdx? p with|some i=>i|none=>-1)):=by
 refine AL Ev AR (by simp) fun n=>?_
 simp only[Eo,Dv,Du,Da,FE,FD,HI,FC,Bj,B0,B1,Dw,CO,List.length_map,Bq,true_and,and_true,A_]at n;rw[AN];unfold Cv;simp -implicitDefEqProofs only[go_sem,A_];refine BN (α:=Int) (l0:=?l2) (m0:=?m2) (fun x=>[(8,.d (.int .i64 x))]) (fun x=>[]) (fun x=>0<=x/\x<=xs.length/\∀(j:Nat) (e:j<xs.length),(j:Int)<x->p xs[j]=false) (fun x=>(xs.length-x).toNat) ?a2_0 ?h02 ?he2 ?he22 ?hI2 ?step2
 case h02=>(simp -implicitDefEqProofs only[go_sem,A_];rfl)
 case he2=>rfl
 case he22=>rfl
 case' step2=>(rintro i l;try dsimp only at l)
 case' hI2=>try dsimp only
 ·simp;omega
 ·refine' bq @A_ @EI @El @Dx @Dy
  all_goals try exact BL
  ·have hx:xs[i.toNat]?.getD default=xs[i.toNat]'(by omega):=by rw[List.getElem?_eq_getElem (by omega),Option.getD_some]
   rw[hx];refine Zg (h _ (List.getElem_mem _)) (J8 rfl o) (fun hp=>?_) (fun hp=>?_)
   ·simp -implicitDefEqProofs only[go_sem];have:xs.findIdx? p=some i.toNat:=by rw[aa];exact⟨by omega,hp,fun j e=>by simp[l.2.2 j (by omega) (by omega)]⟩
    rw[this];simp;omega
   ·refine' HM @A_
    all_goals try exact BL
    rename_i j e q
    by_cases m:j=i.toNat
    ·subst m;exact hp
    ·exact l.2.2 j e (by omega)
  ·have:xs.findIdx? p=none:=by
    rw[ax];intro x hx;obtain⟨j,e,rfl⟩:=List.getElem_of_mem hx;exact l.2.2 j e (by omega)
   rw[this]
theorem XF(nl:Bool)(xs:List BK)(f:FuncId)(cs:List D)(p:BK->Bool)(hb:BA E0.P f=true)(e:Ax AV.toD1 (cs.map .d)=some cs)(h:∀x,x∈xs->BU E0 f (EJ x::cs) (.bool (p x))) :
  BU E0 Co [.list nl (BO xs),.fn f cs] (.bool (xs.any p)):=by
 refine AL ER AR (by simp) fun j=>?_
 rw[AN];unfold Cg;simp -implicitDefEqProofs only[go_sem];refine IA (gw nl xs f cs p hb e h) rfl ?_;simp -implicitDefEqProofs only[go_sem]
 have key:(0:Int)<=(match xs.findIdx? p with|some i=>(i:Int)|none=>-1)↔xs.any p=true:=by
  cases hf:xs.findIdx? p with
  |none=>rw[ax]at hf;simp;intro x hx;simp[hf x hx]
  |some i=>rw[aa]at hf;simp;exact⟨_,List.getElem_mem hf.1,hf.2.1⟩
 grind
theorem qR(f:B9)(h:f.Base):BU E0 Pg [HX f] (.int .i64 (if f.gr.any (fun x=>!E1 f x)then 30 else 0)):=by
 refine AL UK AR (by simp) fun o=>?_
 have q:=FQ h.d;have m:=Pq q;have n:=h.sp;have r:=h.pl;have p:=h.gl;have c1:=Uu f.d;unfold AQ.check at c1;rw[h.d,if_pos rfl,if_pos rfl]at c1;have c2:=XD f.np f.pr 0 (f.d.size-1) (by omega);rw[h.pr]at c2;have l:=XF f.ng f.gr GH [.ptr [.fn E6 [.ptr [.int .i64 f.d.size]]]] (fun x=>!E1 f x) H1 rfl (fun x _=>fy f.d.size x);have e:IntKind.i64.wrap (f.d.size-1)=f.d.size-1:=Am _ (by omega);have k1:¬f.sp<0:=by omega
 have k2:¬20<f.sp:=by omega
 have j:¬(60:Int)<(f.pr.length:Int):=by omega
 have i:¬(30:Int)<(f.gr.length:Int):=by omega
 obtain⟨b,hb⟩:∃b,f.gr.any (fun x=>!E1 f x)=b:=⟨_,rfl⟩
 rw[hb]at l ⊢;rw[Aw,AX]at c1;rw[AN];unfold NQ
 cases b
 ·refine' EP @Aj @Ao @Aw @AX @A_ e k1 (aI k2 (aI j (aI i (aI @Gd @H1))));repeat' first|(refine' BJ;(first|refine AF c1 ?_|refine AF c2 ?_|refine AF l ?_)<;>refine' EP @Aj @Ao @Aw @AX @A_ e k1 (aI k2 (aI j (aI i (aI @Gd @H1)))))|refine' BI|done
  all_goals first|omega|rfl
 ·refine' EP @Aj @Ao @Aw @AX @A_ e k1 (aI k2 (aI j (aI i (aI @Gd @H1))));repeat' first|(refine' BJ;(first|refine AF c1 ?_|refine AF c2 ?_|refine AF l ?_)<;>refine' EP @Aj @Ao @Aw @AX @A_ e k1 (aI k2 (aI j (aI i (aI @Gd @H1)))))|refine' BI|done
  all_goals first|omega|rfl
theorem EZ(f:B9)(h:f.Base)(hd:f.gr.Pairwise fun a b=>a.id≠b.id):BU E0 OI [HX f] (.int .i64 (if f.gr.any (fun x=>!E1 f x)then 30 else 0)):=by
 refine AL S5 AR (by simp) fun j=>?_
 have l:=h.gl;have c1:=qR f h;have e:flat [(f.ng,f.gr)]=f.gr:=by simp[flat]
 have c2:=Nx false [(f.ng,f.gr)] (by simp) (by rw[e];omega) (by rw[e];exact hd);rw[e]at c2;have i:=YA f.gr (by omega);change BU E0 _ [.list false [.list f.ng (BO f.gr)]] _ at c2;obtain⟨b,hb⟩:∃b,f.gr.any (fun x=>!E1 f x)=b:=⟨_,rfl⟩
 rw[hb]at c1 ⊢;rw[Aj,Ao]at c1;rw[AN];unfold MP
 cases b
 ·rw[if_neg (by simp)]at c1 ⊢;refine' FS @Aj @Ao;repeat' first|(refine' BJ;(first|refine AF c1 ?_|refine AF c2 ?_|refine AF i ?_)<;>refine' FS @Aj @Ao)|refine' BI|done
  all_goals first|omega|rfl
 ·rw[if_pos rfl]at c1 ⊢;refine' FS @Aj @Ao;repeat' first|(refine' BJ;(first|refine AF c1 ?_|refine AF c2 ?_|refine AF i ?_)<;>refine' FS @Aj @Ao)|refine' BI|done
  all_goals first|omega|rfl
end Go.Pw
